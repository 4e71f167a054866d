/-
 Part of the proof of TapeMarks. No condition beyond those in each theorem.
-/
import Derived.Test.YtegiepfebnaebaaGreatDoorSB
import Derived.Test.YtegiepfebnaebaaGreatDoorPvH
import Derived.Stop.LaidErr
section
open Go PvL Go.Proofs
set_option linter.unusedSimpArgs false
set_option linter.unusedVariables false
namespace Go.Proofs.YtegiepfebnaebaaGreatDoor.C
theorem zjk {l:List UInt8} (hl:2<=l.length /\ l.length<=18) {M:Mem} (hE:ES M):CallOk Tryz.prog 61 [.str (strL l)] M (fun w M'=>∃ e,w=.tup [I (atI l),e] /\ Grow M M'):=by
 refine zh k61 rfl ?_
 dsimp only [x61,zipE,Nat.reduceAdd]
 have ca:=zhs l hl
 (repeat' (first|(with_reducible intro _)|refine sv ?_|(refine sc ?_ ?_<;>(intro h;try first|exact h.elim|exact absurd rfl h|(exfalso;omega)))|((with_reducible first|apply z0u|apply z2b|apply z1s);exact gd;exact rfl;exact rfl;(first|exact ca M))|(refine sg ?_ ?_<;>(intro h;(fail_if_success (have:True:=h));try first|exact h.elim|exact absurd rfl h|(exfalso;omega)))|assumption|exact xm|exact rfl))
 rename_i w M1 hq
 obtain ⟨h1|⟨h1,h0⟩,hg⟩:=hq
 ·subst h1
  (repeat' (first|(with_reducible intro _)|refine sv ?_|(refine sc ?_ ?_<;>(intro h;try first|exact h.elim|exact absurd rfl h|(exfalso;omega)))|(refine sg ?_ ?_<;>(intro h;(fail_if_success (have:True:=h));try first|exact h.elim|exact absurd rfl h|(exfalso;omega)))|assumption|exact xm|exact rfl))
  refine zl (v:=.bool false) (by exact gd) rfl ?_
  (repeat' (first|(with_reducible intro _)|refine sv ?_|(refine sc ?_ ?_<;>(intro h;try first|exact h.elim|exact absurd rfl h|(exfalso;omega)))|(refine sg ?_ ?_<;>(intro h;(fail_if_success (have:True:=h));try first|exact h.elim|exact absurd rfl h|(exfalso;omega)))|assumption|exact xm|exact rfl))
  ((with_reducible first|apply zi|apply zc);exact rx)
  exact ⟨_,rfl,hg⟩
 ·subst h1
  (repeat' (first|(with_reducible intro _)|refine sv ?_|(refine sc ?_ ?_<;>(intro h;try first|exact h.elim|exact absurd rfl h|(exfalso;omega)))|(refine sg ?_ ?_<;>(intro h;(fail_if_success (have:True:=h));try first|exact h.elim|exact absurd rfl h|(exfalso;omega)))|assumption|exact xm|exact rfl))
  refine zl (v:=.bool true) (by exact gd) rfl ?_
  (repeat' (first|(with_reducible intro _)|refine sv ?_|(refine sc ?_ ?_<;>(intro h;try first|exact h.elim|exact absurd rfl h|(exfalso;omega)))|(refine sg ?_ ?_<;>(intro h;(fail_if_success (have:True:=h));try first|exact h.elim|exact absurd rfl h|(exfalso;omega)))|assumption|exact xm|exact rfl))
  have ct:=zi1 (s:=[65,116,111,105]) (l:=l) ⟨by omega,by omega⟩ (hE.grow hg)
  refine z0u (by exact gd) rfl rfl (show AppOk Tryz.prog _ _ M1 _ from ct) ?_
  intro w M2 hg2
  (repeat' (first|(with_reducible intro _)|refine sv ?_|(refine sc ?_ ?_<;>(intro h;try first|exact h.elim|exact absurd rfl h|(exfalso;omega)))|(refine sg ?_ ?_<;>(intro h;(fail_if_success (have:True:=h));try first|exact h.elim|exact absurd rfl h|(exfalso;omega)))|assumption|exact xm|exact rfl))
  ((with_reducible first|apply zi|apply zc);exact rx)
  exact ⟨w,by rw [h0];rfl,hg.trans hg2⟩
theorem z30 (x:List UInt8) (a b:Nat) (h:b<=x.length):(sub8 x a b).length=b - a:=by
 unfold sub8
 rw [List.length_take,List.length_drop];omega
theorem zhy {x:List UInt8} (hx:x.length=29) (a b:Nat) (hab:a+2<=b /\ b<=a+18 /\ b<=29) {M:Mem} (hE:ES M) {p:Nat} (hr:Rd1 M p 0 (.str (strL x))):CallOk Tryz.prog 60 [I a,I b,.ptr (some (p,0))] M (fun w M'=>w=I (atI (sub8 x a b)) /\ Grow M M'):=by
 refine zh k60 rfl ?_
 dsimp only [x60,zipE,Nat.reduceAdd]
 have ca:=zjk (l:=sub8 x a b) (by rw [z30 x a b (by omega)];omega) hE
 (have hrd0:=hr;repeat' (first|(with_reducible intro _)|refine sv ?_|(refine sc ?_ ?_<;>(intro h;try first|exact h.elim|exact absurd rfl h|(exfalso;omega)))|(refine sg ?_ ?_<;>(intro h;(fail_if_success (have:True:=h));try first|exact h.elim|exact absurd rfl h|(exfalso;omega)))|assumption|exact xm|exact rfl))
 refine zl (by exact gd) (z1t (f:=a) (p:=b) rfl rfl rfl (by omega) (by rw [zf];omega)) ?_
 rw [z6d]
 (repeat' (first|(with_reducible intro _)|refine sv ?_|(refine sc ?_ ?_<;>(intro h;try first|exact h.elim|exact absurd rfl h|(exfalso;omega)))|((with_reducible first|apply z0u|apply z2b|apply z1s);exact gd;exact rfl;exact rfl;(first|exact ca))|(refine sg ?_ ?_<;>(intro h;(fail_if_success (have:True:=h));try first|exact h.elim|exact absurd rfl h|(exfalso;omega)))|assumption|exact xm|exact rfl))
 rename_i w M1 hq
 obtain ⟨e,rfl,hg⟩:=hq
 (repeat' (first|(with_reducible intro _)|refine sv ?_|(refine sc ?_ ?_<;>(intro h;try first|exact h.elim|exact absurd rfl h|(exfalso;omega)))|(refine sg ?_ ?_<;>(intro h;(fail_if_success (have:True:=h));try first|exact h.elim|exact absurd rfl h|(exfalso;omega)))|assumption|exact xm|exact rfl))
 ((with_reducible first|apply zi|apply zc);exact rx)
 exact ⟨rfl,hg⟩
theorem zjy {x:List UInt8} (hx:x.length=29) {M:Mem} (hE:ES M):CallOk Tryz.prog 23 [.str (strL x)] M (fun w M'=>w=.agg (mkc (mkP x)) /\ Grow M M'):=by
 refine zh k23 rfl ?_
 dsimp only [x23,zipE,Nat.reduceAdd]
 (repeat' (first|(with_reducible intro _)|refine sv ?_|(refine sc ?_ ?_<;>(intro h;try first|exact h.elim|exact absurd rfl h|(exfalso;omega)))|(refine sg ?_ ?_<;>(intro h;(fail_if_success (have:True:=h));try first|exact h.elim|exact absurd rfl h|(exfalso;omega)))|assumption|exact xm|exact rfl))
 rename_i n1 M1 y1 y2 y3 n2 M2 y4 y5 y6
 have a2:At M2 n1 (.cells true [.str (strL x)] 9):=(At.new_same y1).grow y4.grow
 have b2:=At.new_same y4
 have g2:Grow M M2:=y1.grow.trans y4.grow
 have hn12:n2 ≠ n1:=by omega
 have hn1:M.next<=n1:=by omega
 have hn2:M.next<=n2:=by omega
 have hl2:=g2.le
 clear y1 y2 y3 y4 y5 y6
 have cm:=fun a b hab M' (hg:Grow M2 M')=>zhy (x:=x) hx a b hab (hE.grow (g2.trans hg)) (Rd1.of_at (a2.grow hg) rfl)
 refine z0u (by exact gd) rfl rfl (show AppOk Tryz.prog _ _ M2 _ from cm 0 5 (by omega) _ (Grow.refl _)) ?_
 rintro w M3 ⟨rfl,h3⟩
 (repeat' (first|(with_reducible intro _)|refine sv ?_|(refine sc ?_ ?_<;>(intro h;try first|exact h.elim|exact absurd rfl h|(exfalso;omega)))|(refine sg ?_ ?_<;>(intro h;(fail_if_success (have:True:=h));try first|exact h.elim|exact absurd rfl h|(exfalso;omega)))|assumption|exact xm|exact rfl))
 refine z0u (by exact gd) rfl rfl (show AppOk Tryz.prog _ _ M3 _ from cm 6 12 (by omega) _ h3) ?_
 rintro w M4 ⟨rfl,h4⟩
 (repeat' (first|(with_reducible intro _)|refine sv ?_|(refine sc ?_ ?_<;>(intro h;try first|exact h.elim|exact absurd rfl h|(exfalso;omega)))|(refine sg ?_ ?_<;>(intro h;(fail_if_success (have:True:=h));try first|exact h.elim|exact absurd rfl h|(exfalso;omega)))|assumption|exact xm|exact rfl))
 refine z0u (by exact gd) rfl rfl (show AppOk Tryz.prog _ _ M4 _ from cm 13 19 (by omega) _ (h3.trans h4)) ?_
 rintro w M5 ⟨rfl,h5⟩
 (repeat' (first|(with_reducible intro _)|refine sv ?_|(refine sc ?_ ?_<;>(intro h;try first|exact h.elim|exact absurd rfl h|(exfalso;omega)))|(refine sg ?_ ?_<;>(intro h;(fail_if_success (have:True:=h));try first|exact h.elim|exact absurd rfl h|(exfalso;omega)))|assumption|exact xm|exact rfl))
 refine z0u (by exact gd) rfl rfl (show AppOk Tryz.prog _ _ M5 _ from cm 20 25 (by omega) _ ((h3.trans h4).trans h5)) ?_
 rintro w M6 ⟨rfl,h6⟩
 have b6:=b2.grow (((h3.trans h4).trans h5).trans h6)
 have g6:=g2.trans (((h3.trans h4).trans h5).trans h6)
 clear cm h3 h4 h5 h6
 (repeat' (first|(with_reducible intro _)|refine sv ?_|(refine sc ?_ ?_<;>(intro h;try first|exact h.elim|exact absurd rfl h|(exfalso;omega)))|(refine sg ?_ ?_<;>(intro h;(fail_if_success (have:True:=h));try first|exact h.elim|exact absurd rfl h|(exfalso;omega)))|assumption|exact xm|exact rfl))
 ((with_reducible first|apply zi|apply zc);exact rx)
 rename_i M7 u _ _
 exact ⟨rfl,g6.upd u hn2⟩
theorem z5s (l:List UInt8):(strL l == strL l)=true:=z79 _
theorem zf5 {l l':List UInt8} (h:(strL l == strL l')=true):l=l':=by
 have h2:strL l=strL l':=z96 h
 unfold strL at h2
 injection h2 with h2
 injection h2 with h2
theorem zh8 (l:List Mk):∀ x ∈ l,(mkc x).length=4:=fun _ _=>rfl
theorem zdl (s:List UInt8) (k:Nat):sub8 s (29*k) (29*k+29)=ck s k:=by
 unfold sub8 ck
 rw [Nat.add_sub_cancel_left]
theorem zh2 {s:List UInt8} {k:Nat} (h:29*k+29<=s.length):(ck s k).length=29:=by rw [<-zdl,z30 _ _ _ h];omega
theorem zbw {M M':Mem} {n:Nat} {ty:TypeId} {m:Mk} (h:New M n (.cells true (mkc m) ty) M'):firstL 4 1 (.slice (some (n,0)) 1 true 4) M'=some ([m].flatMap mkc):=by
 have ha:=At.new_same h
 show loadN M' n 0 (1*4)=_
 exact (Rd.of_at (l:=mkc m) ha rfl).1
set_option maxHeartbeats 8000000 in
theorem z5b (s:List UInt8) (hs:s.length<=1000000000000000) {M:Mem} (hE:ES M) (hP:P10 M) (hD:D64 M):CallOk Tryz.prog 10 [.str (strL s)] M (fun w M'=>(∃ a f e,w=.tup [.slice a (pmF mkP s).1.length f e,I (pmF mkP s).2] /\ SlM M' a (pmF mkP s).1) /\ Grow M M'):=by
 refine zh k10 rfl ?_
 dsimp only [x10,zipE,Nat.reduceAdd]
 have hsz:=zf s
 by_cases h1:s.length > 65536
 ·have e:pmF mkP s=([],3):=by unfold pmF;rw [if_pos h1]
  rw [e]
  (repeat' (first|(with_reducible intro _)|refine sv ?_|(refine sc ?_ ?_<;>(intro h;try first|exact h.elim|exact absurd rfl h|(exfalso;omega)))|(refine sg ?_ ?_<;>(intro h;(fail_if_success (have:True:=h));try first|exact h.elim|exact absurd rfl h|(exfalso;omega)))|assumption|exact xm|exact rfl))
  all_goals try (exfalso;omega)
  ((with_reducible first|apply zi|apply zc);exact rx)
  exact ⟨⟨_,_,_,rfl,.inl rfl⟩,Grow.refl _⟩
 have e:pmF mkP s=if mksB (prs mkP s (s.length / 29))=true /\ mxL (prs mkP s (s.length / 29))=s then (prs mkP s (s.length / 29),0) else ([],5):=by unfold pmF;rw [if_neg h1]
 rw [e]
 clear e
 (repeat' (first|(with_reducible intro _)|refine sv ?_|(refine sc ?_ ?_<;>(intro h;try first|exact h.elim|exact absurd rfl h|(exfalso;omega)))|(refine sg ?_ ?_<;>(intro h;(fail_if_success (have:True:=h));try first|exact h.elim|exact absurd rfl h|(exfalso;omega)))|assumption|exact xm|exact rfl))
 all_goals try (exfalso;omega)
 have hv0:Vec M.next 4 36 mkc M (.slice none 0 true 0) (prs mkP s 0):=Vec.nil
 generalize hb0:M.next=b0 at *
 refine zr (fun m E ms M'=>∃ (k:Nat) (v:LV),m=s.length / 29 - k /\ k<=s.length / 29 /\ ms=[] /\ Has E [(0,.str (strL s)),(4,v),(5,I (29*k:Nat))] /\ Grow M M' /\ Vec b0 4 36 mkc M' v (prs mkP s k))
  ?_ (s.length / 29) _ _ _ ⟨0,_,by omega,by omega,rfl,.cons rfl (.cons rfl (.cons rfl .nil)),Grow.refl _,hv0⟩
 rintro m E ms M1 ⟨k,v,rfl,hk,rfl,hE1,hg1,hv1⟩
 refine z2r hE1 ?_
 by_cases hlast:k=s.length / 29
 case neg =>
  have hlt:29*k+29<=s.length:=by omega
  have cm:=zjy (x:=ck s k) (zh2 hlt) (hE.grow hg1)
  (repeat' (first|(with_reducible intro _)|refine sv ?_|(refine sc ?_ ?_<;>(intro h;try first|exact h.elim|exact absurd rfl h|(exfalso;omega)))|(refine sg ?_ ?_<;>(intro h;(fail_if_success (have:True:=h));try first|exact h.elim|exact absurd rfl h|(exfalso;omega)))|assumption|exact xm|exact rfl))
  all_goals try (exfalso;omega)
  refine zl (by exact gd) (z1t (f:=29*k) (p:=29*k+29) rfl rfl rfl (by omega) (by omega)) ?_
  rw [z6d,zdl]
  (repeat' (first|(with_reducible intro _)|refine sv ?_|(refine sc ?_ ?_<;>(intro h;try first|exact h.elim|exact absurd rfl h|(exfalso;omega)))|((with_reducible first|apply zt|apply zq|apply zj);exact gd;exact rfl;exact rfl;(first|exact cm))|(refine sg ?_ ?_<;>(intro h;(fail_if_success (have:True:=h));try first|exact h.elim|exact absurd rfl h|(exfalso;omega)))|assumption|exact xm|exact rfl))
  rename_i M2 hg2 hl2 n3 M3 z1 z2 z3
  have hv3:=(hv1.grow hg2).grow z1.grow
  have hpl:=z2p mkP s k
  have hl1:=hg1.le
  refine zfc (by exact gd) (l':=[mkP (ck s k)]) hv3 rfl rfl rfl (by simp) (by rw [List.length_singleton,hpl];omega) rfl (zbw z1) (fun _=>rfl) (fun _=>rfl) (by omega) ?_
  intro v4 M4 hv4 hn4 hk4
  rw [<-zkp] at hv4
  (repeat' (first|(with_reducible intro _)|refine sv ?_|(refine sc ?_ ?_<;>(intro h;try first|exact h.elim|exact absurd rfl h|(exfalso;omega)))|(refine sg ?_ ?_<;>(intro h;(fail_if_success (have:True:=h));try first|exact h.elim|exact absurd rfl h|(exfalso;omega)))|assumption|exact xm|exact rfl))
  exact z10 (s.length / 29 - (k+1)) (by omega) ⟨k+1,v4,rfl,by omega,rfl,.cons rfl (.cons rfl (.cons (by rw [Nat.mul_succ];rfl) .nil)),Keep.to_grow' ((hg1.trans hg2).trans z1.grow) hk4 (fun i hi=>by have:=hi.1;omega),hv4⟩
 rw [<-hlast]
 have hpl:=z2p mkP s k
 obtain ⟨a,f,e,rfl,hr⟩:=hv1.rd (zh8 _)
 have hsl:SlM M1 a (prs mkP s k):=hr
 generalize prs mkP s k=l at *
 clear hv1 hr
 have cc:=fun M' (hg:Grow M1 M')=>z2f (f:=f) (e:=e) (hsl.grow hg) (by omega)
 unfold errMk at cc
 cases hm:mksB l with
 | false =>
  simp only [hm,if_true,if_false,Bool.false_eq_true,false_and] at cc ⊢
  (repeat' (first|(with_reducible intro _)|refine sv ?_|(refine sc ?_ ?_<;>(intro h;try first|exact h.elim|exact absurd rfl h|(exfalso;omega)))|((with_reducible first|apply zt|apply zq|apply zj);exact gd;exact rfl;exact rfl;(first|exact cc _ (xg)))|(refine sg ?_ ?_<;>(intro h;(fail_if_success (have:True:=h));try first|exact h.elim|exact absurd rfl h|(exfalso;omega)))|assumption|exact xm|exact rfl))
  all_goals try (exfalso;omega)
  ((with_reducible first|apply zi|apply zc);exact rx)
  exact ⟨⟨_,_,_,rfl,.inl rfl⟩,xg⟩
 | true =>
  simp only [hm,if_true,if_false,Bool.false_eq_true,true_and] at cc ⊢
  have ct:=fun M' (hg:Grow M1 M')=>zh1 (f:=f) (e:=e) (hsl.grow hg) hm (hP.grow (hg1.trans hg)) (hD.grow (hg1.trans hg))
  (repeat' (first|(with_reducible intro _)|refine sv ?_|(refine sc ?_ ?_<;>(intro h;try first|exact h.elim|exact absurd rfl h|(exfalso;omega)))|((with_reducible first|apply zt|apply zq|apply zj);exact gd;exact rfl;exact rfl;(first|exact cc _ (xg)|exact ct _ (xg)))|(refine sg ?_ ?_<;>(intro h;(fail_if_success (have:True:=h));try first|exact h.elim|exact absurd rfl h|(exfalso;omega)))|assumption|exact xm|exact rfl))
  all_goals try (exfalso;omega)
  ·rename_i h
   have hne:mxL l ≠ s:=fun h2=>by rw [h2,z5s] at h;cases h
   rw [if_neg hne]
   ((with_reducible first|apply zi|apply zc);exact rx)
   exact ⟨⟨_,_,_,rfl,.inl rfl⟩,xg⟩
  ·rename_i h
   have heq:mxL l=s:=zf5 h
   rw [if_pos heq]
   have hse:=hsl
   ((with_reducible first|apply zi|apply zc);exact rx)
   exact ⟨⟨_,_,_,rfl,hsl.grow (xg)⟩,xg⟩
theorem z89 (n:Nat) (hn:n<=99999) (M:Mem):CallOk Tryz.prog 57 [I n] M (fun w M'=>w=.str (strL (fvL n)) /\ Grow M M'):=by
 refine zh k57 rfl ?_
 dsimp only [x57,zipE,Nat.reduceAdd]
 have hd:=zi8 hn
 (repeat' (first|(with_reducible intro _)|refine sv ?_|(refine sc ?_ ?_<;>(intro h;try first|exact h.elim|exact absurd rfl h|(exfalso;omega)))|((with_reducible first|apply zt|apply zq|apply zj);exact gd;exact rfl;exact rfl;(first|exact zft n hn _))|(refine sg ?_ ?_<;>(intro h;(fail_if_success (have:True:=h));try first|exact h.elim|exact absurd rfl h|(exfalso;omega)))|assumption|exact xm|exact rfl))
 rename_i M1 hg1 _
 refine zr (fun z E ms M'=>∃ l:List UInt8,z=5 - l.length /\ l.length<=5 /\ ms=[] /\ Has E [(3,.str (strL l))] /\ M'=M1 /\ List.replicate (5 - l.length) 48 ++ l=fvL n)
  ?_ (5 - (dcL n).length) _ _ _ ⟨dcL n,rfl,hd.2.1,rfl,.cons rfl .nil,rfl,hd.2.2⟩
 rintro _ E ms M2 ⟨l,rfl,hl,rfl,hE,rfl,heq⟩
 refine z2r hE ?_
 have hsz:=zf l
 by_cases h5:l.length=5
 ·rw [h5] at heq
  have heq:l=fvL n:=heq
  (repeat' (first|(with_reducible intro _)|refine sv ?_|(refine sc ?_ ?_<;>(intro h;try first|exact h.elim|exact absurd rfl h|(exfalso;omega)))|(refine sg ?_ ?_<;>(intro h;(fail_if_success (have:True:=h));try first|exact h.elim|exact absurd rfl h|(exfalso;omega)))|assumption|exact xm|exact rfl))
  all_goals try (exfalso;omega)
  ((with_reducible first|apply zi|apply zc);exact rx)
  exact ⟨by rw [heq];rfl,hg1⟩
 ·(repeat' (first|(with_reducible intro _)|refine sv ?_|(refine sc ?_ ?_<;>(intro h;try first|exact h.elim|exact absurd rfl h|(exfalso;omega)))|(refine sg ?_ ?_<;>(intro h;(fail_if_success (have:True:=h));try first|exact h.elim|exact absurd rfl h|(exfalso;omega)))|assumption|exact xm|exact rfl))
  all_goals try (exfalso;omega)
  refine zl (by exact gd) (z05 rfl rfl (by rw [hsz];show 1+_<=_;omega)) ?_
  rw [show (⟨#[48]⟩:ByteArray)=strL [48] from rfl,zz]
  (repeat' (first|(with_reducible intro _)|refine sv ?_|(refine sc ?_ ?_<;>(intro h;try first|exact h.elim|exact absurd rfl h|(exfalso;omega)))|(refine sg ?_ ?_<;>(intro h;(fail_if_success (have:True:=h));try first|exact h.elim|exact absurd rfl h|(exfalso;omega)))|assumption|exact xm|exact rfl))
  exact z10 (5 - (l.length+1)) (by omega) ⟨[48] ++ l,by rw [List.length_append,List.length_singleton];omega,by rw [List.length_append,List.length_singleton];omega,rfl,.cons rfl .nil,rfl,by
   rw [<-heq,<- List.append_assoc,List.length_append,List.length_singleton,show 5 - l.length=(5 - (1+l.length))+1 by omega,List.replicate_succ']⟩
theorem z9b (n:Int) (hn:-99999<=n /\ n<=99999) (M:Mem):CallOk Tryz.prog 58 [I n] M (fun w M'=>w=.str (strL (sgL n)) /\ Grow M M'):=by
 refine zh k58 rfl ?_
 dsimp only [x58,zipE,Nat.reduceAdd]
 by_cases h0:n < 0
 ·have cf:=z89 n.natAbs (by omega)
  have e:-n=(n.natAbs:Int):=by omega
  rw [<-e] at cf
  (repeat' (first|(with_reducible intro _)|refine sv ?_|(refine sc ?_ ?_<;>(intro h;try first|exact h.elim|exact absurd rfl h|(exfalso;omega)))|((with_reducible first|apply zt|apply zq|apply zj);exact gd;exact rfl;exact rfl;(first|exact cf _))|(refine sg ?_ ?_<;>(intro h;(fail_if_success (have:True:=h));try first|exact h.elim|exact absurd rfl h|(exfalso;omega)))|assumption|exact xm|exact rfl))
  all_goals try (exfalso;omega)
  refine zl (by exact gd) (z05 rfl rfl (by rw [zf];show 1+5<=_;omega)) ?_
  rw [show (⟨#[45]⟩:ByteArray)=strL [45] from rfl,zz,show [(45:UInt8)] ++ fvL n.natAbs=sgL n by unfold sgL;rw [if_pos h0];rfl]
  (repeat' (first|(with_reducible intro _)|refine sv ?_|(refine sc ?_ ?_<;>(intro h;try first|exact h.elim|exact absurd rfl h|(exfalso;omega)))|(refine sg ?_ ?_<;>(intro h;(fail_if_success (have:True:=h));try first|exact h.elim|exact absurd rfl h|(exfalso;omega)))|assumption|exact xm|exact rfl))
  ((with_reducible first|apply zi|apply zc);exact rx)
  exact ⟨rfl,xg⟩
 ·have cf:=z89 n.natAbs (by omega)
  have e:n=(n.natAbs:Int):=by omega
  rw [<-e] at cf
  (repeat' (first|(with_reducible intro _)|refine sv ?_|(refine sc ?_ ?_<;>(intro h;try first|exact h.elim|exact absurd rfl h|(exfalso;omega)))|((with_reducible first|apply zt|apply zq|apply zj);exact gd;exact rfl;exact rfl;(first|exact cf _))|(refine sg ?_ ?_<;>(intro h;(fail_if_success (have:True:=h));try first|exact h.elim|exact absurd rfl h|(exfalso;omega)))|assumption|exact xm|exact rfl))
  all_goals try (exfalso;omega)
  refine zl (by exact gd) (z05 rfl rfl (by rw [zf];show 1+5<=_;omega)) ?_
  rw [show (⟨#[43]⟩:ByteArray)=strL [43] from rfl,zz,show [(43:UInt8)] ++ fvL n.natAbs=sgL n by unfold sgL;rw [if_neg h0];rfl]
  (repeat' (first|(with_reducible intro _)|refine sv ?_|(refine sc ?_ ?_<;>(intro h;try first|exact h.elim|exact absurd rfl h|(exfalso;omega)))|(refine sg ?_ ?_<;>(intro h;(fail_if_success (have:True:=h));try first|exact h.elim|exact absurd rfl h|(exfalso;omega)))|assumption|exact xm|exact rfl))
  ((with_reducible first|apply zi|apply zc);exact rx)
  exact ⟨rfl,xg⟩
theorem zk9:∀ n,n < 16->sub8 [48,49,50,51,52,53,54,55,56,57,97,98,99,100,101,102] n (n+1)=[hxB n]:=by decide
theorem zh0 (n:Nat) (hn:n < 16) (M:Mem):CallOk Tryz.prog 59 [I n] M (fun w M'=>w=.str (strL [hxB n]) /\ M'=M):=by
 refine zh k59 rfl ?_
 dsimp only [x59,zipE,Nat.reduceAdd]
 (repeat' (first|(with_reducible intro _)|refine sv ?_|(refine sc ?_ ?_<;>(intro h;try first|exact h.elim|exact absurd rfl h|(exfalso;omega)))|(refine sg ?_ ?_<;>(intro h;(fail_if_success (have:True:=h));try first|exact h.elim|exact absurd rfl h|(exfalso;omega)))|assumption|exact xm|exact rfl))
 refine zl (by exact gd) (z1t (f:=n) (p:=n+1) rfl rfl rfl (by omega) (by show n+1<=16;omega)) ?_
 rw [show (⟨#[48,49,50,51,52,53,54,55,56,57,97,98,99,100,101,102]⟩:ByteArray)=strL [48,49,50,51,52,53,54,55,56,57,97,98,99,100,101,102] from rfl,z6d,zk9 n hn]
 (repeat' (first|(with_reducible intro _)|refine sv ?_|(refine sc ?_ ?_<;>(intro h;try first|exact h.elim|exact absurd rfl h|(exfalso;omega)))|(refine sg ?_ ?_<;>(intro h;(fail_if_success (have:True:=h));try first|exact h.elim|exact absurd rfl h|(exfalso;omega)))|assumption|exact xm|exact rfl))
 ((with_reducible first|apply zi|apply zc);exact rx)
 exact ⟨rfl,rfl⟩
set_option maxHeartbeats 4000000 in
theorem zhw {m:Mk} (hm:mkB m=true) (M:Mem):CallOk Tryz.prog 22 [.agg (mkc m)] M (fun w M'=>w=.str (strL (lnL m)) /\ Grow M M'):=by
 have hmb:=zh7 hm
 clear hm
 obtain ⟨s,x,y,t⟩:=m
 dsimp only at hmb
 obtain ⟨sn,rfl⟩:∃ sn:Nat,s=sn:=⟨s.toNat,by omega⟩
 obtain ⟨tn,rfl⟩:∃ tn:Nat,t=tn:=⟨t.toNat,by omega⟩
 refine zh k22 rfl ?_
 dsimp only [x22,zipE,Nat.reduceAdd]
 have c1:=z89 sn (by omega)
 have c2:=z9b x (by omega)
 have c3:=z9b y (by omega)
 have c4:=z89 tn (by omega)
 have hb:lbL ((sn:Int),x,y,(tn:Int))=fvL sn ++ [32] ++ sgL x ++ [32] ++ sgL y ++ [32] ++ fvL tn ++ [32]:=by
  unfold lbL
  simp only [Int.toNat_natCast,List.append_assoc]
 have z32:(⟨#[32]⟩:ByteArray)=strL [32]:=rfl
 (repeat' (first|(with_reducible intro _)|refine sv ?_|(refine sc ?_ ?_<;>(intro h;try first|exact h.elim|exact absurd rfl h|(exfalso;omega)))|((with_reducible first|apply zt|apply zq|apply zj);exact gd;exact rfl;exact rfl;(first|exact c1 _|exact c2 _|exact c3 _|exact c4 _))|(refine sg ?_ ?_<;>(intro h;(fail_if_success (have:True:=h));try first|exact h.elim|exact absurd rfl h|(exfalso;omega)))|assumption|exact xm|exact rfl))
 refine z1h (by exact gd) (z05 rfl rfl (by rw [zf];show 5+1<=_;omega)) ?_
 rw [z32,zz]
 (repeat' (first|(with_reducible intro _)|refine sv ?_|(refine sc ?_ ?_<;>(intro h;try first|exact h.elim|exact absurd rfl h|(exfalso;omega)))|((with_reducible first|apply zt|apply zq|apply zj);exact gd;exact rfl;exact rfl;(first|exact c1 _|exact c2 _|exact c3 _|exact c4 _))|(refine sg ?_ ?_<;>(intro h;(fail_if_success (have:True:=h));try first|exact h.elim|exact absurd rfl h|(exfalso;omega)))|assumption|exact xm|exact rfl))
 refine z1h (by exact gd) (z05 rfl rfl (by simp only [zf,List.length_append,List.length_singleton,z4x,z55];omega)) ?_
 rw [zz]
 (repeat' (first|(with_reducible intro _)|refine sv ?_|(refine sc ?_ ?_<;>(intro h;try first|exact h.elim|exact absurd rfl h|(exfalso;omega)))|(refine sg ?_ ?_<;>(intro h;(fail_if_success (have:True:=h));try first|exact h.elim|exact absurd rfl h|(exfalso;omega)))|assumption|exact xm|exact rfl))
 refine z1h (by exact gd) (z05 rfl rfl (by simp only [zf,List.length_append,List.length_singleton,z4x,z55];omega)) ?_
 rw [zz]
 (repeat' (first|(with_reducible intro _)|refine sv ?_|(refine sc ?_ ?_<;>(intro h;try first|exact h.elim|exact absurd rfl h|(exfalso;omega)))|((with_reducible first|apply zt|apply zq|apply zj);exact gd;exact rfl;exact rfl;(first|exact c1 _|exact c2 _|exact c3 _|exact c4 _))|(refine sg ?_ ?_<;>(intro h;(fail_if_success (have:True:=h));try first|exact h.elim|exact absurd rfl h|(exfalso;omega)))|assumption|exact xm|exact rfl))
 refine z1h (by exact gd) (z05 rfl rfl (by simp only [zf,List.length_append,List.length_singleton,z4x,z55];omega)) ?_
 rw [zz]
 (repeat' (first|(with_reducible intro _)|refine sv ?_|(refine sc ?_ ?_<;>(intro h;try first|exact h.elim|exact absurd rfl h|(exfalso;omega)))|(refine sg ?_ ?_<;>(intro h;(fail_if_success (have:True:=h));try first|exact h.elim|exact absurd rfl h|(exfalso;omega)))|assumption|exact xm|exact rfl))
 refine z1h (by exact gd) (z05 rfl rfl (by simp only [zf,List.length_append,List.length_singleton,z4x,z55];omega)) ?_
 rw [zz]
 (repeat' (first|(with_reducible intro _)|refine sv ?_|(refine sc ?_ ?_<;>(intro h;try first|exact h.elim|exact absurd rfl h|(exfalso;omega)))|((with_reducible first|apply zt|apply zq|apply zj);exact gd;exact rfl;exact rfl;(first|exact c1 _|exact c2 _|exact c3 _|exact c4 _))|(refine sg ?_ ?_<;>(intro h;(fail_if_success (have:True:=h));try first|exact h.elim|exact absurd rfl h|(exfalso;omega)))|assumption|exact xm|exact rfl))
 refine z1h (by exact gd) (z05 rfl rfl (by simp only [zf,List.length_append,List.length_singleton,z4x,z55];omega)) ?_
 rw [zz]
 (repeat' (first|(with_reducible intro _)|refine sv ?_|(refine sc ?_ ?_<;>(intro h;try first|exact h.elim|exact absurd rfl h|(exfalso;omega)))|(refine sg ?_ ?_<;>(intro h;(fail_if_success (have:True:=h));try first|exact h.elim|exact absurd rfl h|(exfalso;omega)))|assumption|exact xm|exact rfl))
 refine z1h (by exact gd) (z05 rfl rfl (by simp only [zf,List.length_append,List.length_singleton,z4x,z55];omega)) ?_
 rw [zz,<- hb]
 have hlb:=zid ((sn:Int),x,y,(tn:Int))
 have hln:lnL ((sn:Int),x,y,(tn:Int))=lbL ((sn:Int),x,y,(tn:Int)) ++ [hxB (sumN (lbL ((sn:Int),x,y,(tn:Int))) % 256 / 16),hxB (sumN (lbL ((sn:Int),x,y,(tn:Int))) % 256 % 16),10]:=rfl
 generalize lnL ((sn:Int),x,y,(tn:Int))=Lr at *
 generalize lbL ((sn:Int),x,y,(tn:Int))=S at *
 clear hb c1 c2 c3 c4
 have hsz:=zf S
 (repeat' (first|(with_reducible intro _)|refine sv ?_|(refine sc ?_ ?_<;>(intro h;try first|exact h.elim|exact absurd rfl h|(exfalso;omega)))|(refine sg ?_ ?_<;>(intro h;(fail_if_success (have:True:=h));try first|exact h.elim|exact absurd rfl h|(exfalso;omega)))|assumption|exact xm|exact rfl))
 rename_i n1 M1 u1 u2 u3 M2 u4 u5 M3 u6 u7 M4 u8 u9 M5 u10 u11
 have hg5:Grow M M5:=xg
 clear u1 u2 u3 u4 u5 u6 u7 u8 u9 u10 u11
 refine zr (fun m E ms M'=>∃ i:Nat,m=S.length - i /\ i<=S.length /\ ms=[] /\ Has E [(3,.str (strL S)),(4,I (smK8 S i)),(5,I i)] /\ M'=M5)
  ?_ S.length _ _ _ ⟨0,by omega,by omega,rfl,.cons rfl (.cons rfl (.cons rfl .nil)),rfl⟩
 rintro m E ms M6 ⟨i,rfl,hi,rfl,hE,rfl⟩
 refine z2r hE ?_
 by_cases hlast2:i=S.length
 case neg =>
  have hlt:i < S.length:=by omega
  have hss:=zhf hlt
  have hsb:=z8r S i
  have hb:=z5x (strL S) i
  (repeat' (first|(with_reducible intro _)|refine sv ?_|(refine sc ?_ ?_<;>(intro h;try first|exact h.elim|exact absurd rfl h|(exfalso;omega)))|(refine sg ?_ ?_<;>(intro h;(fail_if_success (have:True:=h));try first|exact h.elim|exact absurd rfl h|(exfalso;omega)))|assumption|exact xm|exact rfl))
  all_goals try (exfalso;omega)
  exact z10 (S.length - (i+1)) (by omega) ⟨i+1,rfl,by omega,rfl,.cons rfl (.cons (by rw [hss];rfl) (.cons rfl .nil)),rfl⟩
 rw [hlast2]
 have he2:smK8 S S.length=sumN S:=by unfold smK8;rw [List.take_length]
 have hsb:=z8r S S.length
 rw [he2] at hsb ⊢
 have ch1:=zh0 (sumN S % 256 / 16) (by omega)
 have ch2:=zh0 (sumN S % 256 % 16) (by omega)
 have er:((sumN S:Int) % 256)=((sumN S % 256:Nat):Int):=by omega
 have e1:((sumN S:Int) % 256 / 16)=((sumN S % 256 / 16:Nat):Int):=by omega
 have e2:((sumN S:Int) % 256 % 16)=((sumN S % 256 % 16:Nat):Int):=by omega
 rw [<-e1] at ch1
 rw [<-e2] at ch2
 (repeat' (first|(with_reducible intro _)|refine sv ?_|(refine sc ?_ ?_<;>(intro h;try first|exact h.elim|exact absurd rfl h|(exfalso;omega)))|((with_reducible first|apply zx|apply zw|apply zn);exact gd;exact rfl;exact rfl;(first|exact ch1 _|exact ch2 _))|(refine sg ?_ ?_<;>(intro h;(fail_if_success (have:True:=h));try first|exact h.elim|exact absurd rfl h|(exfalso;omega)))|assumption|exact xm|exact rfl))
 all_goals try (exfalso;omega)
 refine zl (by exact gd) (z05 rfl rfl (by rw [zf,zf];show _+1<=_;omega)) ?_
 rw [zz]
 (repeat' (first|(with_reducible intro _)|refine sv ?_|(refine sc ?_ ?_<;>(intro h;try first|exact h.elim|exact absurd rfl h|(exfalso;omega)))|((with_reducible first|apply zx|apply zw|apply zn);exact gd;exact rfl;exact rfl;(first|exact ch1 _|exact ch2 _))|(refine sg ?_ ?_<;>(intro h;(fail_if_success (have:True:=h));try first|exact h.elim|exact absurd rfl h|(exfalso;omega)))|assumption|exact xm|exact rfl))
 all_goals try (exfalso;omega)
 refine zl (by exact gd) (z05 rfl rfl (by rw [zf,zf,List.length_append];show _+1+1<=_;omega)) ?_
 rw [zz]
 (repeat' (first|(with_reducible intro _)|refine sv ?_|(refine sc ?_ ?_<;>(intro h;try first|exact h.elim|exact absurd rfl h|(exfalso;omega)))|(refine sg ?_ ?_<;>(intro h;(fail_if_success (have:True:=h));try first|exact h.elim|exact absurd rfl h|(exfalso;omega)))|assumption|exact xm|exact rfl))
 refine zl (by exact gd) (z05 rfl rfl (by rw [zf,List.length_append,List.length_append];show _+1+1+1<=_;omega)) ?_
 rw [show (⟨#[10]⟩:ByteArray)=strL [10] from rfl,zz,List.append_assoc,List.append_assoc,show [hxB (sumN S % 256 / 16)] ++ ([hxB (sumN S % 256 % 16)] ++ [10])=[hxB (sumN S % 256 / 16),hxB (sumN S % 256 % 16),10] from rfl,<- hln]
 (repeat' (first|(with_reducible intro _)|refine sv ?_|(refine sc ?_ ?_<;>(intro h;try first|exact h.elim|exact absurd rfl h|(exfalso;omega)))|(refine sg ?_ ?_<;>(intro h;(fail_if_success (have:True:=h));try first|exact h.elim|exact absurd rfl h|(exfalso;omega)))|assumption|exact xm|exact rfl))
 ((with_reducible first|apply zi|apply zc);exact rx)
 exact ⟨rfl,hg5⟩
theorem zhq {l:List UInt8} {k:Nat} (h:k < l.length):byteAt (strL l) k=l[k].toNat:=by
 unfold byteAt strL
 rw [List.getD_eq_getElem?_getD,List.getElem?_eq_getElem h];rfl
set_option maxHeartbeats 4000000 in
theorem z8a (l:List UInt8) (hl:l.length<=18) (M:Mem):CallOk Tryz.prog 24 [.str (strL l)] M (fun w M'=>w=I (nuF l) /\ M'=M):=by
 refine zh k24 rfl ?_
 dsimp only [x24,zipE,Nat.reduceAdd]
 have hsz:=zf l
 (repeat' (first|(with_reducible intro _)|refine sv ?_|(refine sc ?_ ?_<;>(intro h;try first|exact h.elim|exact absurd rfl h|(exfalso;omega)))|(refine sg ?_ ?_<;>(intro h;(fail_if_success (have:True:=h));try first|exact h.elim|exact absurd rfl h|(exfalso;omega)))|assumption|exact xm|exact rfl))
 refine zr (fun m E ms M'=>∃ k:Nat,m=l.length - k /\ k<=l.length /\ ms=[] /\ Has E [(0,.str (strL l)),(3,I (vlK l k)),(4,I k)] /\ M'=M /\ dg8K l k=true)
  ?_ l.length _ _ _ ⟨0,by omega,by omega,rfl,.cons rfl (.cons rfl (.cons rfl .nil)),rfl,rfl⟩
 rintro m E ms M2 ⟨k,rfl,hk,rfl,hE,rfl,hall⟩
 refine z2r hE ?_
 have hpw:10 ^ k<=10 ^ 18:=Nat.pow_le_pow_right (by omega) (by omega)
 have hvk:=Nat.lt_of_lt_of_le (z81 hk hall) hpw
 by_cases hlast:k=l.length
 ·rw [hlast,z8e] at hall
  rw [hlast,zba] at hvk ⊢
  have hn:nuF l=vlN l:=by unfold nuF;rw [hall,if_pos rfl]
  rw [hn]
  (repeat' (first|(with_reducible intro _)|refine sv ?_|(refine sc ?_ ?_<;>(intro h;try first|exact h.elim|exact absurd rfl h|(exfalso;omega)))|(refine sg ?_ ?_<;>(intro h;(fail_if_success (have:True:=h));try first|exact h.elim|exact absurd rfl h|(exfalso;omega)))|assumption|exact xm|exact rfl))
  all_goals try (exfalso;omega)
  ((with_reducible first|apply zi|apply zc);exact rx)
  exact ⟨rfl,rfl⟩
 have hlt:k < l.length:=by omega
 have hvk:=Nat.lt_of_lt_of_le (z81 hk hall) (Nat.pow_le_pow_right (show 0 < 10 by omega) (show k<=17 by omega))
 have hvs:=zit hlt
 have hds:=zdt hlt
 have hbt:=zhq hlt
 have hno:dg8 l[k]=false->nuF l=0:=fun h=>by
  unfold nuF
  rw [if_neg]
  intro h2
  have:=List.all_eq_true.1 h2 _ (List.getElem_mem hlt)
  rw [h] at this;cases this
 have hdd:dg8 l[k]=(decide (48<=l[k].toNat) && decide (l[k].toNat<=57)):=rfl
 have hb:=z5x (strL l) k
 rw [<-hbt] at hvs hdd
 rw [hall,Bool.true_and] at hds
 generalize dg8 l[k]=d at *
 clear hbt
 (repeat' (first|(with_reducible intro _)|refine sv ?_|(refine sc ?_ ?_<;>(intro h;try first|exact h.elim|exact absurd rfl h|(exfalso;omega)))|(refine sg ?_ ?_<;>(intro h;(fail_if_success (have:True:=h));try first|exact h.elim|exact absurd rfl h|(exfalso;omega)))|assumption|exact xm|exact rfl))
 all_goals try (exfalso;omega)
 ·rename_i hlo _
  ((with_reducible first|apply zi|apply zc);exact rx)
  exact ⟨by rw [hno (by rw [hdd,decide_eq_false (by omega:¬ 48<=byteAt (strL l) k)];rfl)];rfl,rfl⟩
 ·rename_i hlo hhi
  ((with_reducible first|apply zi|apply zc);exact rx)
  exact ⟨by rw [hno (by rw [hdd,decide_eq_false (by omega:¬ byteAt (strL l) k<=57),Bool.and_false])];rfl,rfl⟩
 ·rename_i hlo hhi
  have hdt:d=true:=by rw [hdd,decide_eq_true (by omega:48<=byteAt (strL l) k),decide_eq_true (by omega:byteAt (strL l) k<=57)];rfl
  rw [hdt] at hds
  exact z10 (l.length - (k+1)) (by omega) ⟨k+1,rfl,by omega,rfl,.cons rfl (.cons (by
   rw [hvs]
   show some (LV.int .i64 (IntKind.wrap .i64 (10*(vlK l k:Int)+IntKind.wrap .i64 (IntKind.wrap .u8 ((byteAt (strL l) k:Int) - 48)))))=_
   rw [wrap8 (by omega),z1g (n:=(byteAt (strL l) k:Int) - 48) ⟨by omega,by omega⟩,z1g ⟨by omega,by omega⟩]
   exact congrArg some (congrArg (LV.int .i64) (by omega))) (.cons rfl .nil)),rfl,hds⟩
theorem zbl (l:List UInt8) (hl:1<=l.length /\ l.length<=18) (M:Mem):CallOk Tryz.prog 25 [.str (strL l)] M (fun w M'=>w=I (plF l) /\ M'=M):=by
 refine zh k25 rfl ?_
 dsimp only [x25,zipE,Nat.reduceAdd]
 have hsz:=zf l
 have htl:sub8 l 1 l.length=l.tail:=by
  unfold sub8
  rw [List.take_of_length_le (by rw [List.length_drop];exact Nat.le_refl _)]
  exact List.drop_one
 have hlt:l.tail.length=l.length - 1:=List.length_tail
 have cn:=z8a l.tail (by omega)
 have hvl:nuF l.tail=0 ∨ nuF l.tail=vlN l.tail /\ l.tail.all dg8=true:=by
  unfold nuF
  by_cases h:l.tail.all dg8=true
  ·rw [if_pos h];exact .inr ⟨rfl,h⟩
  ·rw [if_neg h];exact .inl rfl
 have hbd:0<=nuF l.tail /\ nuF l.tail<=10 ^ 18:=by
  rcases hvl with h|⟨h,h2⟩
  ·rw [h];omega
  ·rw [h]
   rw [<-zba,<- z8e] at *
   have h3:=z81 (Nat.le_refl _) h2
   have h4:10 ^ l.tail.length<=10 ^ 18:=Nat.pow_le_pow_right (by omega) (by omega)
   omega
 have hp:plF l=if (l.headD 0).toNat=45 then -nuF l.tail else nuF l.tail:=rfl
 rw [<-zk8] at hp
 clear hvl
 have i0:∀ (E:Env) (M:Mem) (x:XO),xval E x=some (.str (strL l))->xstep Tryz.prog (.idxS x (.c (.int .i64 0))) E M=some (.val (.int .u8 (byteAt (strL l) 0:Int)) M):=fun E M x hx=>z0d (k:=0) hx rfl (by rw [hsz];omega)
 generalize nuF l.tail=v at *
 generalize byteAt (strL l) 0=b0 at *
 (repeat' (first|(with_reducible intro _)|refine sv ?_|(refine sc ?_ ?_<;>(intro h;try first|exact h.elim|exact absurd rfl h|(exfalso;omega)))|(refine sg ?_ ?_<;>(intro h;(fail_if_success (have:True:=h));try first|exact h.elim|exact absurd rfl h|(exfalso;omega)))|assumption|exact xm|exact rfl))
 refine zl (by exact gd) (z8y (q:=1) rfl rfl (by omega)) ?_
 rw [z6d,hsz,htl]
 (repeat' (first|(with_reducible intro _)|refine sv ?_|(refine sc ?_ ?_<;>(intro h;try first|exact h.elim|exact absurd rfl h|(exfalso;omega)))|((with_reducible first|apply zx|apply zw|apply zn);exact gd;exact rfl;exact rfl;(first|exact cn _))|(refine sg ?_ ?_<;>(intro h;(fail_if_success (have:True:=h));try first|exact h.elim|exact absurd rfl h|(exfalso;omega)))|assumption|exact xm|exact rfl))
 refine zl (by exact gd) (i0 _ _ _ rfl) ?_
 (repeat' (first|(with_reducible intro _)|refine sv ?_|(refine sc ?_ ?_<;>(intro h;try first|exact h.elim|exact absurd rfl h|(exfalso;omega)))|(refine sg ?_ ?_<;>(intro h;(fail_if_success (have:True:=h));try first|exact h.elim|exact absurd rfl h|(exfalso;omega)))|assumption|exact xm|exact rfl))
 all_goals try (exfalso;omega)
 ·rw [if_pos (by omega)] at hp
  ((with_reducible first|apply zi|apply zc);exact rx)
  exact ⟨by rw [hp];rfl,rfl⟩
 ·rw [if_neg (by omega)] at hp
  ((with_reducible first|apply zi|apply zc);exact rx)
  exact ⟨by rw [hp];rfl,rfl⟩
theorem zhz (x y:Int) (M:Mem):CallOk Tryz.prog 51 [.agg [I x,I y]] M (fun w M'=>w=.bool (ptB x y) /\ Grow M M'):=by
 refine zh k51 rfl ?_
 dsimp only [x51,zipE,Nat.reduceAdd]
 have h1:=fun M=>zfv x (-32768) 32768 M
 have h2:=fun M=>zfv y (-32768) 32768 M
 unfold ptB
 cases hb:btB x (-32768) 32768 with
 | false =>
  rw [hb] at h1
  (repeat' (first|(with_reducible intro _)|refine sv ?_|(refine sc ?_ ?_<;>(intro h;try first|exact h.elim|exact absurd rfl h|(exfalso;omega)))|((with_reducible first|apply zx|apply zw|apply zn);exact gd;exact rfl;exact rfl;(first|exact h1 _))|(refine sg ?_ ?_<;>(intro h;(fail_if_success (have:True:=h));try first|exact h.elim|exact absurd rfl h|(exfalso;omega)))|assumption|exact xm|exact rfl))
  ((with_reducible first|apply zi|apply zc);exact rx)
  exact ⟨rfl,xg⟩
 | true =>
  rw [hb] at h1
  (repeat' (first|(with_reducible intro _)|refine sv ?_|(refine sc ?_ ?_<;>(intro h;try first|exact h.elim|exact absurd rfl h|(exfalso;omega)))|((with_reducible first|apply zx|apply zw|apply zn);exact gd;exact rfl;exact rfl;(first|exact h1 _|exact h2 _))|(refine sg ?_ ?_<;>(intro h;(fail_if_success (have:True:=h));try first|exact h.elim|exact absurd rfl h|(exfalso;omega)))|assumption|exact xm|exact rfl))
  ((with_reducible first|apply zi|apply zc);exact rx)
  exact ⟨rfl,xg⟩
theorem z85 (x y:Int) (M:Mem):CallOk Tryz.prog 20 [.agg [I x,I y]] M (fun w M'=>w=I (if ptB x y then 0 else 10) /\ Grow M M'):=by
 refine zh k20 rfl ?_
 dsimp only [x20,zipE,Nat.reduceAdd]
 have cp:=zhz x y
 cases hb:ptB x y with
 | false =>
  rw [hb] at cp
  (repeat' (first|(with_reducible intro _)|refine sv ?_|(refine sc ?_ ?_<;>(intro h;try first|exact h.elim|exact absurd rfl h|(exfalso;omega)))|((with_reducible first|apply zt|apply zq|apply zj);exact gd;exact rfl;exact rfl;(first|exact cp _))|(refine sg ?_ ?_<;>(intro h;(fail_if_success (have:True:=h));try first|exact h.elim|exact absurd rfl h|(exfalso;omega)))|assumption|exact xm|exact rfl))
  ((with_reducible first|apply zi|apply zc);exact rx)
  exact ⟨rfl,xg⟩
 | true =>
  rw [hb] at cp
  (repeat' (first|(with_reducible intro _)|refine sv ?_|(refine sc ?_ ?_<;>(intro h;try first|exact h.elim|exact absurd rfl h|(exfalso;omega)))|((with_reducible first|apply zt|apply zq|apply zj);exact gd;exact rfl;exact rfl;(first|exact cp _))|(refine sg ?_ ?_<;>(intro h;(fail_if_success (have:True:=h));try first|exact h.elim|exact absurd rfl h|(exfalso;omega)))|assumption|exact xm|exact rfl))
  ((with_reducible first|apply zi|apply zc);exact rx)
  exact ⟨rfl,xg⟩
set_option maxHeartbeats 4000000 in
theorem z3w {M:Mem} {a:Option (Nat × Nat)} {l:List Mk} {f:Bool} {e:Nat} (hs:SlM M a l) (hl:l.length<=1000000000000000) :
  CallOk Tryz.prog 7 [.slice a l.length f e] M (fun w M'=>w=I (errMk l) /\ Grow M M'):=by
 refine zh k7 rfl ?_
 dsimp only [x7,zipE,Nat.reduceAdd]
 by_cases hlen:l.length<=512
 case neg =>
  have he:errMk l=82:=by unfold errMk mksB;rw [decide_eq_false hlen];rfl
  rw [he]
  (repeat' (first|(with_reducible intro _)|refine sv ?_|(refine sc ?_ ?_<;>(intro h;try first|exact h.elim|exact absurd rfl h|(exfalso;omega)))|(refine sg ?_ ?_<;>(intro h;(fail_if_success (have:True:=h));try first|exact h.elim|exact absurd rfl h|(exfalso;omega)))|assumption|exact xm|exact rfl))
  all_goals try (exfalso;omega)
  ((with_reducible first|apply zi|apply zc);exact rx)
  exact ⟨rfl,Grow.refl _⟩
 have he:errMk l=if mkK l l.length then 0 else 82:=by unfold errMk mksB;rw [decide_eq_true hlen];rfl
 rw [he]
 (repeat' (first|(with_reducible intro _)|refine sv ?_|(refine sc ?_ ?_<;>(intro h;try first|exact h.elim|exact absurd rfl h|(exfalso;omega)))|(refine sg ?_ ?_<;>(intro h;(fail_if_success (have:True:=h));try first|exact h.elim|exact absurd rfl h|(exfalso;omega)))|assumption|exact xm|exact rfl))
 all_goals try (exfalso;omega)
 refine zr (fun m E ms M'=>∃ k:Nat,m=l.length - k /\ k<=l.length /\ ms=[] /\ Has E [(0,.slice a l.length f e),(3,I k)] /\ Grow M M' /\ mkK l k=true)
  ?_ l.length _ _ _ ⟨0,by omega,by omega,rfl,.cons rfl (.cons rfl .nil),Grow.refl _,rfl⟩
 rintro m E ms M1 ⟨k,rfl,hk,rfl,hE,hg1,hall⟩
 refine z2r hE ?_
 by_cases hlast:k=l.length
 ·rw [hlast] at hall ⊢
  (repeat' (first|(with_reducible intro _)|refine sv ?_|(refine sc ?_ ?_<;>(intro h;try first|exact h.elim|exact absurd rfl h|(exfalso;omega)))|(refine sg ?_ ?_<;>(intro h;(fail_if_success (have:True:=h));try first|exact h.elim|exact absurd rfl h|(exfalso;omega)))|assumption|exact xm|exact rfl))
  all_goals try (exfalso;omega)
  ((with_reducible first|apply zi|apply zc);exact rx)
  rw [hall]
  exact ⟨rfl,hg1⟩
 have hlt:k < l.length:=by omega
 obtain ⟨i,o,rfl,hr⟩:=(hs.grow hg1).rd hlt
 have hrk:=hr k hlt
 have hks:=zkf l k
 have hno:mkA l k=false->(if mkK l l.length then (0:Int) else 82)=82:=fun h=>by
  rw [if_neg]
  intro h2
  have:=zeh h2 hlt
  rw [h] at this;cases this
 have hA:mkA l k=(mkB (me l k) && (decide (k=0) || (decide ((me l (k - 1)).1 < (me l k).1) && decide ((me l (k - 1)).2.2.2<=(me l k).2.2.2)))):=rfl
 have hkt:0 < k->Int.toNat ((k:Int) - 1)=k - 1:=fun h0=>by omega
 have hrp:0 < k->Rd1 M1 i (o+Int.toNat ((k:Int) - 1)*4+0) (I (me l (k - 1)).1) /\ Rd1 M1 i (o+Int.toNat ((k:Int) - 1)*4+3) (I (me l (k - 1)).2.2.2):=fun h0=>by
  rw [hkt h0]
  exact ⟨Rd.nth (j:=0) (hr (k - 1) (by omega)) rfl,Rd.nth (j:=3) (hr (k - 1) (by omega)) rfl⟩
 generalize me l (k - 1)=p at *
 generalize hm:me l k=m at *
 obtain ⟨s,x,y,t⟩:=m
 unfold mkB at hA
 dsimp only at hA hrp
 have hrk:Rd M1 i (o+k*4) 4 [I s,I x,I y,I t]:=hrk
 have hl1:=hg1.le
 have w1:=fun M=>zfv s 0 60000 M
 have w2:=fun M=>zfv t 0 99999 M
 have w3:=fun M=>z85 x y M
 cases hb1:btB s 0 60000 with
 | false =>
  rw [hb1] at hA w1
  have hno:=hno hA
  (have hrd0:=hrk;repeat' (first|(with_reducible intro _)|refine sv ?_|(refine sc ?_ ?_<;>(intro h;try first|exact h.elim|exact absurd rfl h|(exfalso;omega)))|((with_reducible first|apply zx|apply zw|apply zn);exact gd;exact rfl;exact rfl;(first|exact w1 _))|(refine sg ?_ ?_<;>(intro h;(fail_if_success (have:True:=h));try first|exact h.elim|exact absurd rfl h|(exfalso;omega)))|assumption|exact xm|exact rfl))
  all_goals try (exfalso;omega)
  ((with_reducible first|apply zi|apply zc);exact rx)
  rw [hno]
  exact ⟨rfl,xg⟩
 | true =>
 rw [hb1] at hA w1
 cases hb2:ptB x y with
 | false =>
  rw [hb2] at hA w3
  have hno:=hno hA
  (have hrd0:=hrk;repeat' (first|(with_reducible intro _)|refine sv ?_|(refine sc ?_ ?_<;>(intro h;try first|exact h.elim|exact absurd rfl h|(exfalso;omega)))|((with_reducible first|apply zx|apply zw|apply zn);exact gd;exact rfl;exact rfl;(first|exact w1 _))|((with_reducible first|apply zt|apply zq|apply zj);exact gd;exact rfl;exact rfl;(first|exact w3 _))|(refine sg ?_ ?_<;>(intro h;(fail_if_success (have:True:=h));try first|exact h.elim|exact absurd rfl h|(exfalso;omega)))|assumption|exact xm|exact rfl))
  all_goals try (exfalso;omega)
  ((with_reducible first|apply zi|apply zc);exact rx)
  rw [hno]
  exact ⟨rfl,xg⟩
 | true =>
 rw [hb2] at hA w3
 cases hb3:btB t 0 99999 with
 | false =>
  rw [hb3] at hA w2
  have hno:=hno hA
  (have hrd0:=hrk;repeat' (first|(with_reducible intro _)|refine sv ?_|(refine sc ?_ ?_<;>(intro h;try first|exact h.elim|exact absurd rfl h|(exfalso;omega)))|((with_reducible first|apply zx|apply zw|apply zn);exact gd;exact rfl;exact rfl;(first|exact w1 _|exact w2 _))|((with_reducible first|apply zt|apply zq|apply zj);exact gd;exact rfl;exact rfl;(first|exact w3 _))|(refine sg ?_ ?_<;>(intro h;(fail_if_success (have:True:=h));try first|exact h.elim|exact absurd rfl h|(exfalso;omega)))|assumption|exact xm|exact rfl))
  all_goals try (exfalso;omega)
  ((with_reducible first|apply zi|apply zc);exact rx)
  rw [hno]
  exact ⟨rfl,xg⟩
 | true =>
 rw [hb3] at hA w2
 by_cases hk0:k=0
 ·subst hk0
  have hA:mkA l 0=true:=hA
  rw [hall,hA] at hks
  (have hrd0:=hrk;repeat' (first|(with_reducible intro _)|refine sv ?_|(refine sc ?_ ?_<;>(intro h;try first|exact h.elim|exact absurd rfl h|(exfalso;omega)))|((with_reducible first|apply zx|apply zw|apply zn);exact gd;exact rfl;exact rfl;(first|exact w1 _|exact w2 _))|((with_reducible first|apply zt|apply zq|apply zj);exact gd;exact rfl;exact rfl;(first|exact w3 _))|(refine sg ?_ ?_<;>(intro h;(fail_if_success (have:True:=h));try first|exact h.elim|exact absurd rfl h|(exfalso;omega)))|assumption|exact xm|exact rfl))
  all_goals try (exfalso;omega)
  exact z10 (l.length - (0+1)) (by omega) ⟨1,rfl,by omega,rfl,.cons rfl (.cons rfl .nil),hg1.trans (xg),hks⟩
 obtain ⟨hr0,hr3⟩:=hrp (by omega)
 obtain ⟨p1,p2,p3,p4⟩:=p
 dsimp only at hA hr0 hr3
 rw [decide_eq_false hk0,Bool.false_or] at hA
 (have hrd0:=hrk;repeat' (first|(with_reducible intro _)|refine sv ?_|(refine sc ?_ ?_<;>(intro h;try first|exact h.elim|exact absurd rfl h|(exfalso;omega)))|((with_reducible first|apply zx|apply zw|apply zn);exact gd;exact rfl;exact rfl;(first|exact w1 _|exact w2 _))|((with_reducible first|apply zt|apply zq|apply zj);exact gd;exact rfl;exact rfl;(first|exact w3 _))|(refine sg ?_ ?_<;>(intro h;(fail_if_success (have:True:=h));try first|exact h.elim|exact absurd rfl h|(exfalso;omega)))|assumption|exact xm|exact rfl))
 all_goals try (exfalso;omega)
 rename_i n5 M5 z1 z2 z3 M6 z4 z5 z6 M9 z7 z8 z9
 have g9:Grow M1 M9:=xg
 have hr0:=hr0.grow g9
 have hr3:=hr3.grow g9
 have a9:=At.grow z7 z6
 have hg9:=hg1.trans g9
 clear z1 z4 z7 z6 g9 hg1
 (have hrd0:=hr0;have hrd1:=hr3;repeat' (first|(with_reducible intro _)|refine sv ?_|(refine sc ?_ ?_<;>(intro h;try first|exact h.elim|exact absurd rfl h|(exfalso;omega)))|(refine sg ?_ ?_<;>(intro h;(fail_if_success (have:True:=h));try first|exact h.elim|exact absurd rfl h|(exfalso;omega)))|assumption|exact xm|exact rfl))
 all_goals try (exfalso;omega)
 ·rename_i h1 _
  rw [decide_eq_false (by omega:¬ p1 < s)] at hA
  ((with_reducible first|apply zi|apply zc);exact rx)
  rw [hno hA]
  exact ⟨rfl,hg9⟩
 ·rename_i h1 h2
  rw [decide_eq_false (by omega:¬ p4<=t),Bool.and_false] at hA
  ((with_reducible first|apply zi|apply zc);exact rx)
  rw [hno hA]
  exact ⟨rfl,hg9⟩
 ·rename_i h1 h2
  rw [decide_eq_true (by omega:p1 < s),decide_eq_true (by omega:p4<=t)] at hA
  rw [hall,hA] at hks
  exact z10 (l.length - (k+1)) (by omega) ⟨k+1,rfl,by omega,rfl,.cons rfl (.cons rfl .nil),hg9,hks⟩
set_option maxHeartbeats 4000000 in
theorem z3x {M:Mem} {a:Option (Nat × Nat)} {l:List Mk} {f:Bool} {e:Nat} (hs:SlM M a l) (hl:l.length<=1000000000000000) :
  CallOk Tryz.prog 9 [.slice a l.length f e] M (fun w M'=>w=.tup [.str (strL (mpF l).1),I (mpF l).2] /\ Grow M M'):=by
 refine zh k9 rfl ?_
 dsimp only [x9,zipE,Nat.reduceAdd]
 have cc:=fun M' (hg:Grow M M')=>z3w (f:=f) (e:=e) (hs.grow hg) hl
 unfold mpF errMk at *
 cases hm:mksB l with
 | false =>
  simp only [hm,if_true,if_false,Bool.false_eq_true] at cc ⊢
  (repeat' (first|(with_reducible intro _)|refine sv ?_|(refine sc ?_ ?_<;>(intro h;try first|exact h.elim|exact absurd rfl h|(exfalso;omega)))|((with_reducible first|apply zt|apply zq|apply zj);exact gd;exact rfl;exact rfl;(first|exact cc _ (xg)))|(refine sg ?_ ?_<;>(intro h;(fail_if_success (have:True:=h));try first|exact h.elim|exact absurd rfl h|(exfalso;omega)))|assumption|exact xm|exact rfl))
  all_goals try (exfalso;omega)
  ((with_reducible first|apply zi|apply zc);exact rx)
  exact ⟨rfl,xg⟩
 | true =>
  simp only [hm,if_true,if_false,Bool.false_eq_true] at cc ⊢
  have hl5:=z6n hm
  have hmk:=z8k hm
  (repeat' (first|(with_reducible intro _)|refine sv ?_|(refine sc ?_ ?_<;>(intro h;try first|exact h.elim|exact absurd rfl h|(exfalso;omega)))|((with_reducible first|apply zt|apply zq|apply zj);exact gd;exact rfl;exact rfl;(first|exact cc _ (xg)))|(refine sg ?_ ?_<;>(intro h;(fail_if_success (have:True:=h));try first|exact h.elim|exact absurd rfl h|(exfalso;omega)))|assumption|exact xm|exact rfl))
  all_goals try (exfalso;omega)
  rename_i M1 hg1 hn1
  clear cc
  refine zr (fun m E ms M'=>∃ k:Nat,m=l.length - k /\ k<=l.length /\ ms=[] /\ Has E [(0,.slice a l.length f e),(5,.str (strL (mxK l k))),(6,I k)] /\ Grow M M')
   ?_ l.length _ _ _ ⟨0,by omega,by omega,rfl,.cons rfl (.cons rfl (.cons rfl .nil)),hg1⟩
  rintro m E ms M2 ⟨k,rfl,hk,rfl,hE,hg2⟩
  refine z2r hE ?_
  by_cases hlast:k=l.length
  ·rw [hlast,zej]
   (repeat' (first|(with_reducible intro _)|refine sv ?_|(refine sc ?_ ?_<;>(intro h;try first|exact h.elim|exact absurd rfl h|(exfalso;omega)))|(refine sg ?_ ?_<;>(intro h;(fail_if_success (have:True:=h));try first|exact h.elim|exact absurd rfl h|(exfalso;omega)))|assumption|exact xm|exact rfl))
   all_goals try (exfalso;omega)
   ((with_reducible first|apply zi|apply zc);exact rx)
   exact ⟨rfl,hg2⟩
  have hlt:k < l.length:=by omega
  obtain ⟨i,o,rfl,hr⟩:=(hs.grow hg2).rd hlt
  have hrk:=hr k hlt
  have hks:=zkh hlt
  have hkl:=zek hk
  have hmb:=hmk _ (List.getElem_mem hlt)
  rw [<-zcu hlt] at hmb
  have cl:=zhw hmb
  generalize hK1:mxK l (k+1)=K1 at *
  generalize me l k=m at *
  generalize mxK l k=K0 at *
  have hln:=z4y m
  (have hrd0:=hrk;repeat' (first|(with_reducible intro _)|refine sv ?_|(refine sc ?_ ?_<;>(intro h;try first|exact h.elim|exact absurd rfl h|(exfalso;omega)))|((with_reducible first|apply zt|apply zq|apply zj);exact gd;exact rfl;exact rfl;(first|exact cl _))|(refine sg ?_ ?_<;>(intro h;(fail_if_success (have:True:=h));try first|exact h.elim|exact absurd rfl h|(exfalso;omega)))|assumption|exact xm|exact rfl))
  all_goals try (exfalso;omega)
  rename_i M3 hg3 _
  refine zl (by exact gd) (z05 rfl rfl (by rw [zf,zf];omega)) ?_
  rw [zz,<- hks]
  (repeat' (first|(with_reducible intro _)|refine sv ?_|(refine sc ?_ ?_<;>(intro h;try first|exact h.elim|exact absurd rfl h|(exfalso;omega)))|(refine sg ?_ ?_<;>(intro h;(fail_if_success (have:True:=h));try first|exact h.elim|exact absurd rfl h|(exfalso;omega)))|assumption|exact xm|exact rfl))
  exact z10 (l.length - (k+1)) (by omega) ⟨k+1,rfl,by omega,rfl,.cons rfl (.cons (by rw [hK1];rfl) (.cons rfl .nil)),hg2.trans hg3⟩
set_option maxHeartbeats 4000000 in
theorem z61 {M:Mem} {a a':Option (Nat × Nat)} {l:List Mk} {f f':Bool} {e e':Nat} (hs:SlM M a l) (hs':SlM M a' l) (hl:l.length<=1000000000000000) :
  CallOk Tryz.prog 12 [.slice a l.length f e,.slice a' l.length f' e'] M (fun w M'=>w=.bool true /\ Grow M M'):=by
 refine zh k12 rfl ?_
 dsimp only [x12,zipE,Nat.reduceAdd]
 (repeat' (first|(with_reducible intro _)|refine sv ?_|(refine sc ?_ ?_<;>(intro h;try first|exact h.elim|exact absurd rfl h|(exfalso;omega)))|(refine sg ?_ ?_<;>(intro h;(fail_if_success (have:True:=h));try first|exact h.elim|exact absurd rfl h|(exfalso;omega)))|assumption|exact xm|exact rfl))
 all_goals try (exfalso;omega)
 refine zr (fun m E ms M'=>∃ k:Nat,m=l.length - k /\ k<=l.length /\ ms=[] /\ Has E [(0,.slice a l.length f e),(1,.slice a' l.length f' e'),(5,I k)] /\ M'=M)
  ?_ l.length _ _ _ ⟨0,by omega,by omega,rfl,.cons rfl (.cons rfl (.cons rfl .nil)),rfl⟩
 rintro m E ms M2 ⟨k,rfl,hk,rfl,hE,rfl⟩
 refine z2r hE ?_
 by_cases hlast:k=l.length
 ·rw [hlast]
  (repeat' (first|(with_reducible intro _)|refine sv ?_|(refine sc ?_ ?_<;>(intro h;try first|exact h.elim|exact absurd rfl h|(exfalso;omega)))|(refine sg ?_ ?_<;>(intro h;(fail_if_success (have:True:=h));try first|exact h.elim|exact absurd rfl h|(exfalso;omega)))|assumption|exact xm|exact rfl))
  all_goals try (exfalso;omega)
  ((with_reducible first|apply zi|apply zc);exact rx)
  exact ⟨rfl,Grow.refl _⟩
 have hlt:k < l.length:=by omega
 obtain ⟨i,o,rfl,hr⟩:=hs.rd hlt
 obtain ⟨i',o',rfl,hr'⟩:=hs'.rd hlt
 have hrk:=hr k hlt
 have hrk':=hr' k hlt
 generalize me l k=m at *
 (have hrd0:=hrk;have hrd1:=hrk';repeat' (first|(with_reducible intro _)|refine sv ?_|(refine sc ?_ ?_<;>(intro h;try first|exact h.elim|exact absurd rfl h|(exfalso;omega)))|(refine sg ?_ ?_<;>(intro h;(fail_if_success (have:True:=h));try first|exact h.elim|exact absurd rfl h|(exfalso;omega)))|assumption|exact xm|exact rfl))
 all_goals try (exfalso;omega)
 exact z10 (l.length - (k+1)) (by omega) ⟨k+1,rfl,by omega,rfl,.cons rfl (.cons rfl (.cons rfl .nil)),rfl⟩
set_option maxHeartbeats 8000000 in
theorem z86 (s:List UInt8) (hs:s.length<=1000000000000000) {M:Mem}:CallOk Tryz.prog 11 [.str (strL s)] M (fun w M'=>(∃ a f e,w=.tup [.slice a (pmF mkR s).1.length f e,I (pmF mkR s).2] /\ SlM M' a (pmF mkR s).1) /\ Grow M M'):=by
 refine zh k11 rfl ?_
 dsimp only [x11,zipE,Nat.reduceAdd]
 have hsz:=zf s
 by_cases h1:s.length > 65536
 ·have e:pmF mkR s=([],3):=by unfold pmF;rw [if_pos h1]
  rw [e]
  (repeat' (first|(with_reducible intro _)|refine sv ?_|(refine sc ?_ ?_<;>(intro h;try first|exact h.elim|exact absurd rfl h|(exfalso;omega)))|(refine sg ?_ ?_<;>(intro h;(fail_if_success (have:True:=h));try first|exact h.elim|exact absurd rfl h|(exfalso;omega)))|assumption|exact xm|exact rfl))
  all_goals try (exfalso;omega)
  ((with_reducible first|apply zi|apply zc);exact rx)
  exact ⟨⟨_,_,_,rfl,.inl rfl⟩,Grow.refl _⟩
 have e:pmF mkR s=if mksB (prs mkR s (s.length / 29))=true /\ mxL (prs mkR s (s.length / 29))=s then (prs mkR s (s.length / 29),0) else ([],5):=by unfold pmF;rw [if_neg h1]
 rw [e]
 clear e
 by_cases h29:s.length % 29=0
 case neg =>
  have hno:¬ (mksB (prs mkR s (s.length / 29))=true /\ mxL (prs mkR s (s.length / 29))=s):=fun h=>by
   have h2:=z4z (prs mkR s (s.length / 29))
   rw [h.2,z2p] at h2
   omega
  rw [if_neg hno]
  (repeat' (first|(with_reducible intro _)|refine sv ?_|(refine sc ?_ ?_<;>(intro h;try first|exact h.elim|exact absurd rfl h|(exfalso;omega)))|(refine sg ?_ ?_<;>(intro h;(fail_if_success (have:True:=h));try first|exact h.elim|exact absurd rfl h|(exfalso;omega)))|assumption|exact xm|exact rfl))
  all_goals try (exfalso;omega)
  ((with_reducible first|apply zi|apply zc);exact rx)
  exact ⟨⟨_,_,_,rfl,.inl rfl⟩,Grow.refl _⟩
 (repeat' (first|(with_reducible intro _)|refine sv ?_|(refine sc ?_ ?_<;>(intro h;try first|exact h.elim|exact absurd rfl h|(exfalso;omega)))|(refine sg ?_ ?_<;>(intro h;(fail_if_success (have:True:=h));try first|exact h.elim|exact absurd rfl h|(exfalso;omega)))|assumption|exact xm|exact rfl))
 all_goals try (exfalso;omega)
 have hv0:Vec M.next 4 36 mkc M (.slice none 0 true 0) (prs mkR s 0):=Vec.nil
 generalize hb0:M.next=b0 at *
 refine zr (fun m E ms M'=>∃ (k:Nat) (v:LV),m=s.length / 29 - k /\ k<=s.length / 29 /\ ms=[] /\ Has E [(0,.str (strL s)),(4,v),(5,I (29*k:Nat))] /\ Grow M M' /\ Vec b0 4 36 mkc M' v (prs mkR s k))
  ?_ (s.length / 29) _ _ _ ⟨0,_,by omega,by omega,rfl,.cons rfl (.cons rfl (.cons rfl .nil)),Grow.refl _,hv0⟩
 rintro m E ms M1 ⟨k,v,rfl,hk,rfl,hE1,hg1,hv1⟩
 refine z2r hE1 ?_
 by_cases hlast:k=s.length / 29
 case neg =>
  have hlt:29*k+29<=s.length:=by omega
  have hcl:=zh2 hlt
  have hmk:mkR (ck s k)=(nuF (sub8 (ck s k) 0 5),plF (sub8 (ck s k) 6 12),plF (sub8 (ck s k) 13 19),nuF (sub8 (ck s k) 20 25)):=rfl
  have hl1:=hg1.le
  have hps:=zkp mkR s k
  (repeat' (first|(with_reducible intro _)|refine sv ?_|(refine sc ?_ ?_<;>(intro h;try first|exact h.elim|exact absurd rfl h|(exfalso;omega)))|(refine sg ?_ ?_<;>(intro h;(fail_if_success (have:True:=h));try first|exact h.elim|exact absurd rfl h|(exfalso;omega)))|assumption|exact xm|exact rfl))
  all_goals try (exfalso;omega)
  refine zl (by exact gd) (z1t (f:=29*k) (p:=29*k+29) rfl rfl rfl (by omega) (by omega)) ?_
  rw [z6d,zdl]
  generalize ck s k=x at *
  have c1:=z8a (sub8 x 0 5) (by rw [z30 x 0 5 (by omega)];omega)
  have c2:=zbl (sub8 x 6 12) (by rw [z30 x 6 12 (by omega)];omega)
  have c3:=zbl (sub8 x 13 19) (by rw [z30 x 13 19 (by omega)];omega)
  have c4:=z8a (sub8 x 20 25) (by rw [z30 x 20 25 (by omega)];omega)
  have hxz:=zf x
  (repeat' (first|(with_reducible intro _)|refine sv ?_|(refine sc ?_ ?_<;>(intro h;try first|exact h.elim|exact absurd rfl h|(exfalso;omega)))|(refine sg ?_ ?_<;>(intro h;(fail_if_success (have:True:=h));try first|exact h.elim|exact absurd rfl h|(exfalso;omega)))|assumption|exact xm|exact rfl))
  refine z1h (by exact gd) (z1t (f:=0) (p:=5) rfl rfl rfl (by omega) (by omega)) ?_
  rw [z6d]
  (repeat' (first|(with_reducible intro _)|refine sv ?_|(refine sc ?_ ?_<;>(intro h;try first|exact h.elim|exact absurd rfl h|(exfalso;omega)))|((with_reducible first|apply zx|apply zw|apply zn);exact gd;exact rfl;exact rfl;(first|exact c1 _|exact c2 _|exact c3 _|exact c4 _))|(refine sg ?_ ?_<;>(intro h;(fail_if_success (have:True:=h));try first|exact h.elim|exact absurd rfl h|(exfalso;omega)))|assumption|exact xm|exact rfl))
  refine z1h (by exact gd) (z1t (f:=6) (p:=12) rfl rfl rfl (by omega) (by omega)) ?_
  rw [z6d]
  (repeat' (first|(with_reducible intro _)|refine sv ?_|(refine sc ?_ ?_<;>(intro h;try first|exact h.elim|exact absurd rfl h|(exfalso;omega)))|((with_reducible first|apply zx|apply zw|apply zn);exact gd;exact rfl;exact rfl;(first|exact c1 _|exact c2 _|exact c3 _|exact c4 _))|(refine sg ?_ ?_<;>(intro h;(fail_if_success (have:True:=h));try first|exact h.elim|exact absurd rfl h|(exfalso;omega)))|assumption|exact xm|exact rfl))
  refine z1h (by exact gd) (z1t (f:=13) (p:=19) rfl rfl rfl (by omega) (by omega)) ?_
  rw [z6d]
  (repeat' (first|(with_reducible intro _)|refine sv ?_|(refine sc ?_ ?_<;>(intro h;try first|exact h.elim|exact absurd rfl h|(exfalso;omega)))|((with_reducible first|apply zx|apply zw|apply zn);exact gd;exact rfl;exact rfl;(first|exact c1 _|exact c2 _|exact c3 _|exact c4 _))|(refine sg ?_ ?_<;>(intro h;(fail_if_success (have:True:=h));try first|exact h.elim|exact absurd rfl h|(exfalso;omega)))|assumption|exact xm|exact rfl))
  refine z1h (by exact gd) (z1t (f:=20) (p:=25) rfl rfl rfl (by omega) (by omega)) ?_
  rw [z6d]
  (repeat' (first|(with_reducible intro _)|refine sv ?_|(refine sc ?_ ?_<;>(intro h;try first|exact h.elim|exact absurd rfl h|(exfalso;omega)))|((with_reducible first|apply zx|apply zw|apply zn);exact gd;exact rfl;exact rfl;(first|exact c1 _|exact c2 _|exact c3 _|exact c4 _))|(refine sg ?_ ?_<;>(intro h;(fail_if_success (have:True:=h));try first|exact h.elim|exact absurd rfl h|(exfalso;omega)))|assumption|exact xm|exact rfl))
  rename_i n3 M3 z1 z2 z3
  have hv3:=hv1.grow z1.grow
  have hpl:=z2p mkR s k
  refine zdq (by exact gd) (l':=[mkR x]) hv3 rfl rfl rfl (by simp) (by rw [List.length_singleton,hpl];omega) rfl (zbw z1) (fun _=>rfl) (fun _=>rfl) (by omega) ?_
  intro v4 M4 hv4 hn4 hk4
  rw [<-hps] at hv4
  (repeat' (first|(with_reducible intro _)|refine sv ?_|(refine sc ?_ ?_<;>(intro h;try first|exact h.elim|exact absurd rfl h|(exfalso;omega)))|(refine sg ?_ ?_<;>(intro h;(fail_if_success (have:True:=h));try first|exact h.elim|exact absurd rfl h|(exfalso;omega)))|assumption|exact xm|exact rfl))
  exact z10 (s.length / 29 - (k+1)) (by omega) ⟨k+1,v4,rfl,by omega,rfl,.cons rfl (.cons rfl (.cons (by rw [Nat.mul_succ];rfl) .nil)),Keep.to_grow' (hg1.trans z1.grow) hk4 (fun i hi=>by have:=hi.1;omega),hv4⟩
 rw [<-hlast]
 have hpl:=z2p mkR s k
 obtain ⟨a,f,e,rfl,hr⟩:=hv1.rd (zh8 _)
 have hsl:SlM M1 a (prs mkR s k):=hr
 generalize prs mkR s k=l at *
 clear hv1 hr
 have cc:=fun M' (hg:Grow M1 M')=>z3x (f:=f) (e:=e) (hsl.grow hg) (by omega)
 unfold mpF at cc
 cases hm:mksB l with
 | false =>
  simp only [hm,if_true,if_false,Bool.false_eq_true,false_and] at cc ⊢
  (repeat' (first|(with_reducible intro _)|refine sv ?_|(refine sc ?_ ?_<;>(intro h;try first|exact h.elim|exact absurd rfl h|(exfalso;omega)))|((with_reducible first|apply zt|apply zq|apply zj);exact gd;exact rfl;exact rfl;(first|exact cc _ (xg)))|(refine sg ?_ ?_<;>(intro h;(fail_if_success (have:True:=h));try first|exact h.elim|exact absurd rfl h|(exfalso;omega)))|assumption|exact xm|exact rfl))
  all_goals try (exfalso;omega)
  ((with_reducible first|apply zi|apply zc);exact rx)
  exact ⟨⟨_,_,_,rfl,.inl rfl⟩,xg⟩
 | true =>
  simp only [hm,if_true,if_false,Bool.false_eq_true,true_and] at cc ⊢
  (repeat' (first|(with_reducible intro _)|refine sv ?_|(refine sc ?_ ?_<;>(intro h;try first|exact h.elim|exact absurd rfl h|(exfalso;omega)))|((with_reducible first|apply zt|apply zq|apply zj);exact gd;exact rfl;exact rfl;(first|exact cc _ (xg)))|(refine sg ?_ ?_<;>(intro h;(fail_if_success (have:True:=h));try first|exact h.elim|exact absurd rfl h|(exfalso;omega)))|assumption|exact xm|exact rfl))
  all_goals try (exfalso;omega)
  ·rename_i h
   have hne:mxL l ≠ s:=fun h2=>by rw [h2,z5s] at h;cases h
   rw [if_neg hne]
   ((with_reducible first|apply zi|apply zc);exact rx)
   exact ⟨⟨_,_,_,rfl,.inl rfl⟩,xg⟩
  ·rename_i h
   have heq:mxL l=s:=zf5 h
   rw [if_pos heq]
   ((with_reducible first|apply zi|apply zc);exact rx)
   exact ⟨⟨_,_,_,rfl,hsl.grow (xg)⟩,xg⟩
set_option maxHeartbeats 8000000 in
theorem zaf {M:Mem} {a:Option (Nat × Nat)} {l:List Mk} {f:Bool} {e:Nat} {s:List UInt8} (hs:SlM M a l) (hl:l.length<=1000000000000000) (hss:s.length<=1000000000000000) (hE:ES M) (hP:P10 M) (hD:D64 M) (hB:Base M) (hp:preOk M tabs=true) :
  CallOk Tryz.prog 3 [.slice a l.length f e,.str (strL s)] M (fun q _=>q=.bool true):=by
 refine zh k3 rfl ?_
 dsimp only [x3,zipE,Nat.reduceAdd]
 have hpM:∀ M',Grow M M'->preOk M' tabs=true:=fun M' hg=>z4b (Ext.of_grow hg hB) hp
 have c1:=fun M' (hg:Grow M M')=>z2f (f:=f) (e:=e) (hs.grow hg) hl
 have c2:=fun M' (hg:Grow M M')=>z3w (f:=f) (e:=e) (hs.grow hg) hl
 have c3:=fun M' (hg:Grow M M')=>z1k (f:=f) (e:=e) (hs.grow hg) hl (hP.grow hg) (hD.grow hg)
 have c4:=fun M' (hg:Grow M M')=>z3x (f:=f) (e:=e) (hs.grow hg) hl
 have c5:=fun M' (hg:Grow M M')=>z5b s hss (hE.grow hg) (hP.grow hg) (hD.grow hg)
 have c6:=fun M'=>z86 s hss (M:=M')
 rw [<-zmb] at c6
 have hpl:(pmF mkP s).1.length<=1000000000000000:=by
  unfold pmF
  split
  ·exact Nat.zero_le _
  split
  ·rw [z2p];omega
  ·exact Nat.zero_le _
 generalize pmF mkP s=R at *
 generalize mpF l=T at *
 generalize errMk l=w at *
 (repeat' (first|(with_reducible intro _)|refine sv ?_|(refine sc ?_ ?_<;>(intro h;try first|exact h.elim|exact absurd rfl h|(exfalso;omega)))|((with_reducible first|apply zt|apply zq|apply zj);exact gd;exact rfl;exact rfl;(first|exact c1 _ (xg)|exact c2 _ (xg)|exact c3 _ (xg)|exact c4 _ (xg)))|(refine sg ?_ ?_<;>(intro h;(fail_if_success (have:True:=h));try first|exact h.elim|exact absurd rfl h|(exfalso;omega)))|assumption|exact xm|exact rfl))
 all_goals try (exfalso;omega)
 ·have hq:(strL T.fst == strL T.fst)=false:=by assumption
  rw [z5s] at hq
  cases hq
 rename_i M1 u1 _ M2 u2 _ _ M3 u3 _ M4 u4 _ _
 have g4:Grow M M4:=((u1.trans u2).trans u3).trans u4
 clear u1 u2 u3 u4 c1 c2 c3 c4
 have c5:=c5 _ g4
 have c6:=fun M'=>c6 M'
 (repeat' (first|(with_reducible intro _)|refine sv ?_|(refine sc ?_ ?_<;>(intro h;try first|exact h.elim|exact absurd rfl h|(exfalso;omega)))|((with_reducible first|apply z0u|apply z2b|apply z1s);exact gd;exact rfl;exact rfl;(first|exact c5))|(refine sg ?_ ?_<;>(intro h;(fail_if_success (have:True:=h));try first|exact h.elim|exact absurd rfl h|(exfalso;omega)))|assumption|exact xm|exact rfl))
 rename_i w5 M5 hq
 obtain ⟨⟨a5,f5,e5,rfl,hs5⟩,hg5⟩:=hq
 (repeat' (first|(with_reducible intro _)|refine sv ?_|(refine sc ?_ ?_<;>(intro h;try first|exact h.elim|exact absurd rfl h|(exfalso;omega)))|((with_reducible first|apply z0u|apply z2b|apply z1s);exact gd;exact rfl;exact rfl;(first|exact c6 _))|(refine sg ?_ ?_<;>(intro h;(fail_if_success (have:True:=h));try first|exact h.elim|exact absurd rfl h|(exfalso;omega)))|assumption|exact xm|exact rfl))
 rename_i w6 M6 hq
 obtain ⟨⟨a6,f6,e6,rfl,hs6⟩,hg6⟩:=hq
 have cs:=z61 (f:=f5) (e:=e5) (f':=f6) (e':=e6) (hs5.grow hg6) hs6 hpl
 have g6:=(g4.trans hg5).trans hg6
 (repeat' (first|(with_reducible intro _)|refine sv ?_|(refine sc ?_ ?_<;>(intro h;try first|exact h.elim|exact absurd rfl h|(exfalso;omega)))|((with_reducible first|apply zt|apply zq|apply zj);exact gd;exact rfl;exact rfl;(first|exact cs))|(refine sg ?_ ?_<;>(intro h;(fail_if_success (have:True:=h));try first|exact h.elim|exact absurd rfl h|(exfalso;omega)))|assumption|exact xm|exact rfl))
 all_goals try (exfalso;omega)
 rename_i M7 hg7 _
 (repeat' (first|(with_reducible intro _)|refine sv ?_|(refine sc ?_ ?_<;>(intro h;try first|exact h.elim|exact absurd rfl h|(exfalso;omega)))|((with_reducible first|apply zx|apply zw|apply zn);exact gd;exact rfl;exact rfl;(first|exact z63 (hpM _ (g6.trans hg7))))|(refine sg ?_ ?_<;>(intro h;(fail_if_success (have:True:=h));try first|exact h.elim|exact absurd rfl h|(exfalso;omega)))|assumption|exact xm|exact rfl))
 ((with_reducible first|apply zi|apply zc);exact rx)
 rfl
theorem zgy {s:List UInt8} (h:(strL s == strL s)=false):False:=by rw [z5s] at h;cases h
theorem zkl {f:List UInt8->Mk} {s:List UInt8} (h:(pmF f s).2 ≠ 0):(pmF f s).1=[]:=by
 unfold pmF at *
 split at h
 ·rename_i h1;rw [if_pos h1]
 ·rename_i h1
  rw [if_neg h1]
  split at h
  ·exact absurd rfl h
  ·rename_i h2;rw [if_neg h2]
theorem zhd (f:List UInt8->Mk) (s:List UInt8) (hss:s.length<=1000000000000000):(pmF f s).1.length<=1000000000000000:=by
 unfold pmF
 split
 ·exact Nat.zero_le _
 split
 ·rw [z2p];omega
 ·exact Nat.zero_le _
set_option maxHeartbeats 8000000 in
theorem z62 {M:Mem} {a:Option (Nat × Nat)} {l:List Mk} {f:Bool} {e:Nat} {s:List UInt8} (hs:SlM M a l) (hl:l.length<=1000000000000000) (hss:s.length<=1000000000000000) (hE:ES M) (hP:P10 M) (hD:D64 M) (hB:Base M) (hp:preOk M tabs=true) :
  CallOk Tryz.prog 4 [.slice a l.length f e,.str (strL s)] M (fun q _=>q=.bool true):=by
 refine zh k4 rfl ?_
 dsimp only [x4,zipE,Nat.reduceAdd]
 have hpM:∀ M',Grow M M'->preOk M' tabs=true:=fun M' hg=>z4b (Ext.of_grow hg hB) hp
 have c3:=fun M' (hg:Grow M M')=>z1k (f:=f) (e:=e) (hs.grow hg) hl (hP.grow hg) (hD.grow hg)
 have c5:=fun (x:List UInt8) (hx:x.length<=1000000000000000) M' (hg:Grow M M')=>z5b x hx (hE.grow hg) (hP.grow hg) (hD.grow hg)
 have tail:∀ M1,Grow M M1->∀ (R:List Mk × Int),(R.2 ≠ 0->R.1=[])->R.1.length<=1000000000000000->(R.2=0->mksB R.1=true /\ mxL R.1=s)->pmF mkP s=R->True:=fun _ _ _ _ _ _ _=>trivial
 clear tail
 cases hm:mksB l with
 | false =>
  have ht:mpF l=([],82):=by unfold mpF;rw [hm];rfl
  rw [ht] at c3
  dsimp only at c3
  (repeat' (first|(with_reducible intro _)|refine sv ?_|(refine sc ?_ ?_<;>(intro h;try first|exact h.elim|exact absurd rfl h|(exfalso;omega)))|((with_reducible first|apply zt|apply zq|apply zj);exact gd;exact rfl;exact rfl;(first|exact c3 _ (xg)))|(refine sg ?_ ?_<;>(intro h;(fail_if_success (have:True:=h));try first|exact h.elim|exact absurd rfl h|(exfalso;omega)))|assumption|exact xm|exact rfl))
  all_goals try (exfalso;omega)
  ·have hq:(strL [] == (⟨#[]⟩:ByteArray))=false:=by assumption
   have hq2:(strL [] == (⟨#[]⟩:ByteArray))=true:=rfl
   rw [hq2] at hq;cases hq
  rename_i Mx gx _ _
  have cz:=c5 s hss Mx gx
  have hpl:=zhd mkP s hss
  have hno:=zkl (f:=mkP) (s:=s)
  have hin:=zbz (f:=mkP) (s:=s)
  clear c5 c3
  generalize pmF mkP s=R at *
  obtain ⟨R1,R2⟩:=R
  dsimp only at cz hpl hno hin
  (repeat' (first|(with_reducible intro _)|refine sv ?_|(refine sc ?_ ?_<;>(intro h;try first|exact h.elim|exact absurd rfl h|(exfalso;omega)))|((with_reducible first|apply z0u|apply z2b|apply z1s);exact gd;exact rfl;exact rfl;(first|exact cz))|(refine sg ?_ ?_<;>(intro h;(fail_if_success (have:True:=h));try first|exact h.elim|exact absurd rfl h|(exfalso;omega)))|assumption|exact xm|exact rfl))
  rename_i w3 M3 hq
  obtain ⟨⟨a3,f3,e3,rfl,hs3⟩,hg3⟩:=hq
  have g3:=gx.trans hg3
  by_cases hz:R2=0
  ·obtain ⟨i1,i2⟩:=hin hz
   have hr:mpF R1=(s,0):=by unfold mpF;rw [i1,if_pos rfl,i2]
   have cp:=z1k (f:=f3) (e:=e3) hs3 hpl (hP.grow g3) (hD.grow g3)
   rw [hr] at cp
   dsimp only at cp
   (repeat' (first|(with_reducible intro _)|refine sv ?_|(refine sc ?_ ?_<;>(intro h;try first|exact h.elim|exact absurd rfl h|(exfalso;omega)))|((with_reducible first|apply zt|apply zq|apply zj);exact gd;exact rfl;exact rfl;(first|exact cp))|(refine sg ?_ ?_<;>(intro h;(fail_if_success (have:True:=h));try first|exact h.elim|exact absurd rfl h|(exfalso;omega)))|assumption|exact xm|exact rfl))
   all_goals try (exfalso;omega)
   all_goals try (exfalso;exact zgy (s:=s) (by assumption))
   rename_i M4 hg4 _
   (repeat' (first|(with_reducible intro _)|refine sv ?_|(refine sc ?_ ?_<;>(intro h;try first|exact h.elim|exact absurd rfl h|(exfalso;omega)))|((with_reducible first|apply zx|apply zw|apply zn);exact gd;exact rfl;exact rfl;(first|exact z63 (hpM _ (g3.trans hg4))))|(refine sg ?_ ?_<;>(intro h;(fail_if_success (have:True:=h));try first|exact h.elim|exact absurd rfl h|(exfalso;omega)))|assumption|exact xm|exact rfl))
   ((with_reducible first|apply zi|apply zc);exact rx)
   rfl
  ·have h1:=hno hz
   subst h1
   (repeat' (first|(with_reducible intro _)|refine sv ?_|(refine sc ?_ ?_<;>(intro h;try first|exact h.elim|exact absurd rfl h|(exfalso;omega)))|((with_reducible first|apply zx|apply zw|apply zn);exact gd;exact rfl;exact rfl;(first|exact z63 (hpM _ g3)))|(refine sg ?_ ?_<;>(intro h;(fail_if_success (have:True:=h));try first|exact h.elim|exact absurd rfl h|(exfalso;omega)))|assumption|exact xm|exact rfl))
   all_goals try (exfalso;omega)
   ((with_reducible first|apply zi|apply zc);exact rx)
   rfl
 | true =>
  have hl5:=z6n hm
  have ht:mpF l=(mxL l,0):=by unfold mpF;rw [hm];rfl
  have hml:=z4z l
  rw [ht] at c3
  dsimp only at c3
  (repeat' (first|(with_reducible intro _)|refine sv ?_|(refine sc ?_ ?_<;>(intro h;try first|exact h.elim|exact absurd rfl h|(exfalso;omega)))|((with_reducible first|apply zt|apply zq|apply zj);exact gd;exact rfl;exact rfl;(first|exact c3 _ (xg)))|(refine sg ?_ ?_<;>(intro h;(fail_if_success (have:True:=h));try first|exact h.elim|exact absurd rfl h|(exfalso;omega)))|assumption|exact xm|exact rfl))
  all_goals try (exfalso;omega)
  rename_i M1 hg1 _
  have hpo:=zgg zkt hm hl5
  have cx:=c5 (mxL l) (by omega) M1 hg1
  rw [hpo] at cx
  (repeat' (first|(with_reducible intro _)|refine sv ?_|(refine sc ?_ ?_<;>(intro h;try first|exact h.elim|exact absurd rfl h|(exfalso;omega)))|((with_reducible first|apply z0u|apply z2b|apply z1s);exact gd;exact rfl;exact rfl;(first|exact cx))|(refine sg ?_ ?_<;>(intro h;(fail_if_success (have:True:=h));try first|exact h.elim|exact absurd rfl h|(exfalso;omega)))|assumption|exact xm|exact rfl))
  rename_i w2 M2 hq
  obtain ⟨⟨a2,f2,e2,rfl,hs2⟩,hg2⟩:=hq
  have cs:=z61 (f:=f2) (e:=e2) (f':=f) (e':=e) hs2 (hs.grow (hg1.trans hg2)) hl
  have hsz:=zf (mxL l)
  (repeat' (first|(with_reducible intro _)|refine sv ?_|(refine sc ?_ ?_<;>(intro h;try first|exact h.elim|exact absurd rfl h|(exfalso;omega)))|((with_reducible first|apply zt|apply zq|apply zj);exact gd;exact rfl;exact rfl;(first|exact cs))|(refine sg ?_ ?_<;>(intro h;(fail_if_success (have:True:=h));try first|exact h.elim|exact absurd rfl h|(exfalso;omega)))|assumption|exact xm|exact rfl))
  all_goals try (exfalso;omega)
  rename_i Mx hgx _
  have gx:=(hg1.trans hg2).trans hgx
  clear cx cs hpo
  have cz:=c5 s hss Mx gx
  have hpl:=zhd mkP s hss
  have hno:=zkl (f:=mkP) (s:=s)
  have hin:=zbz (f:=mkP) (s:=s)
  clear c5 c3
  generalize pmF mkP s=R at *
  obtain ⟨R1,R2⟩:=R
  dsimp only at cz hpl hno hin
  (repeat' (first|(with_reducible intro _)|refine sv ?_|(refine sc ?_ ?_<;>(intro h;try first|exact h.elim|exact absurd rfl h|(exfalso;omega)))|((with_reducible first|apply z0u|apply z2b|apply z1s);exact gd;exact rfl;exact rfl;(first|exact cz))|(refine sg ?_ ?_<;>(intro h;(fail_if_success (have:True:=h));try first|exact h.elim|exact absurd rfl h|(exfalso;omega)))|assumption|exact xm|exact rfl))
  rename_i w3 M3 hq
  obtain ⟨⟨a3,f3,e3,rfl,hs3⟩,hg3⟩:=hq
  have g3:=gx.trans hg3
  by_cases hz:R2=0
  ·obtain ⟨i1,i2⟩:=hin hz
   have hr:mpF R1=(s,0):=by unfold mpF;rw [i1,if_pos rfl,i2]
   have cp:=z1k (f:=f3) (e:=e3) hs3 hpl (hP.grow g3) (hD.grow g3)
   rw [hr] at cp
   dsimp only at cp
   (repeat' (first|(with_reducible intro _)|refine sv ?_|(refine sc ?_ ?_<;>(intro h;try first|exact h.elim|exact absurd rfl h|(exfalso;omega)))|((with_reducible first|apply zt|apply zq|apply zj);exact gd;exact rfl;exact rfl;(first|exact cp))|(refine sg ?_ ?_<;>(intro h;(fail_if_success (have:True:=h));try first|exact h.elim|exact absurd rfl h|(exfalso;omega)))|assumption|exact xm|exact rfl))
   all_goals try (exfalso;omega)
   all_goals try (exfalso;exact zgy (s:=s) (by assumption))
   rename_i M4 hg4 _
   (repeat' (first|(with_reducible intro _)|refine sv ?_|(refine sc ?_ ?_<;>(intro h;try first|exact h.elim|exact absurd rfl h|(exfalso;omega)))|((with_reducible first|apply zx|apply zw|apply zn);exact gd;exact rfl;exact rfl;(first|exact z63 (hpM _ (g3.trans hg4))))|(refine sg ?_ ?_<;>(intro h;(fail_if_success (have:True:=h));try first|exact h.elim|exact absurd rfl h|(exfalso;omega)))|assumption|exact xm|exact rfl))
   ((with_reducible first|apply zi|apply zc);exact rx)
   rfl
  ·have h1:=hno hz
   subst h1
   (repeat' (first|(with_reducible intro _)|refine sv ?_|(refine sc ?_ ?_<;>(intro h;try first|exact h.elim|exact absurd rfl h|(exfalso;omega)))|((with_reducible first|apply zx|apply zw|apply zn);exact gd;exact rfl;exact rfl;(first|exact z63 (hpM _ g3)))|(refine sg ?_ ?_<;>(intro h;(fail_if_success (have:True:=h));try first|exact h.elim|exact absurd rfl h|(exfalso;omega)))|assumption|exact xm|exact rfl))
   all_goals try (exfalso;omega)
   ((with_reducible first|apply zi|apply zc);exact rx)
   rfl
abbrev mkSh:Sh:=.pair (.int .i64) (.pair (.pair (.int .i64) (.int .i64)) (.int .i64))
def toMk (x:mkSh.T):Mk:=(x.1,x.2.1.1,x.2.1.2,x.2.2)
theorem zdv {m:Mem} {l:List mkSh.T} {cs:List LV} (h:Enc m (.sl mkSh 32) l cs):∃ a f,cs=[.slice a (l.map toMk).length f 4] /\ SlM m a (l.map toMk) /\ (l.map toMk).length<=reachBytes:=by
 obtain ⟨a,f,h1,h2,h3⟩:=h
 rw [List.length_map]
 by_cases hl:l=[]
 ·subst hl
  exact ⟨a,f,h1,.inl rfl,h2.1⟩
 ·obtain ⟨i,o,g1,g2,_,g3⟩:=h3 hl
  refine ⟨a,f,h1,.inr ⟨i,o,g1,fun k hk=>?_⟩,h2.1⟩
  rw [List.length_map] at hk
  obtain ⟨c,g4,c1,c2,rfl,⟨rfl,_⟩,c3,c4,rfl,⟨c5,c6,rfl,⟨rfl,_⟩,⟨rfl,_⟩⟩,⟨rfl,_⟩⟩:=g3 k hk
  rw [List.getElem_map]
  exact ⟨g4,g2⟩
theorem z7z {W:World} {name:String} {g:Nat} {t ty:TypeId} {v:Value} {l:Tab} (h:W.var? Tryz.prog name=some #[.iface t v]) (hg:Tryz.prog.globalNamed name=some g) (hl:TabW l W):TabW ((g,[.iface t .unk],ty) :: l) W:=fun x hx=>by
 rcases List.mem_cons.1 hx with rfl|hx
 ·unfold World.var? at h
  rw [hg] at h
  have h:(match W.heap[g]? with|some (.cells cs _ _)=>some cs|_=>none)=some #[.iface t v]:=h
  split at h
  ·rename_i cs t' fr hh
   cases h
   refine ⟨_,t',fr,hh,fun i u hi=>?_⟩
   match i,hi with
   | 0,hi =>
    cases hi
    exact ⟨_,rfl,.iface (.unk v)⟩
  ·cases h
 ·exact hl x hx
theorem zk4 {M:Mem} (hB:Base M) (hp:preOk M tabs=true):ES M:=by
 obtain ⟨own,h⟩:=z1y tabs hp (0,[.iface 215 .unk],0) (by unfold tabs;simp only [List.mem_cons,true_or,or_true])
 exact ⟨own,h,hB _ _ h⟩
theorem zh3 {M:Mem} (hB:Base M) (hp:preOk M tabs=true):D64 M:=by
 obtain ⟨own,h⟩:=z1y tabs hp (5,intsL .u8 zs5,0) (by unfold tabs;simp only [List.mem_cons,true_or,or_true])
 exact ⟨own,h,hB _ _ h⟩
theorem s_of (s:ByteArray):s=strL s.data.toList:=rfl
theorem zkc {m:Mem} {a:Option (Nat × Nat)} {l:List Mk} {f:Bool} {s:ByteArray} (hs:SlM m a l) (hl:l.length<=reachBytes) (hss:s.size<=reachBytes) (hB:Base m) (hp:preOk m tabs=true):CallOk Tryz.prog 3 [.slice a l.length f 4,.str s] m (fun q _=>q=.bool true):=by
 rw [s_of s]
 exact zaf hs (Nat.le_trans hl (by decide)) (Nat.le_trans (by rw [Array.length_toList];exact hss) (by decide)) (zk4 hB hp) (zhc hB hp) (zh3 hB hp) hB hp
theorem zkd {m:Mem} {a:Option (Nat × Nat)} {l:List Mk} {f:Bool} {s:ByteArray} (hs:SlM m a l) (hl:l.length<=reachBytes) (hss:s.size<=reachBytes) (hB:Base m) (hp:preOk m tabs=true):CallOk Tryz.prog 4 [.slice a l.length f 4,.str s] m (fun q _=>q=.bool true):=by
 rw [s_of s]
 exact z62 hs (Nat.le_trans hl (by decide)) (Nat.le_trans (by rw [Array.length_toList];exact hss) (by decide)) (zk4 hB hp) (zhc hB hp) (zh3 hB hp) hB hp
end Go.Proofs.YtegiepfebnaebaaGreatDoor.C
end
