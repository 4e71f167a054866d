/-
 Part of the proof of TapePlaces. No condition beyond those in each theorem.
-/
import Derived.Test.YtegiepfebnaebaaGreatDoorSB
import Derived.Test.YtegiepfebnaebaaGreatDoorSA
import Derived.Test.YtegiepfebnaebaaGreatDoorPvH
import Derived.Stop.LaidErr
import Derived.Test.YtegiepfebnaebaaGreatDoorPvG
section
open Go PvL Go.Proofs
set_option linter.unusedSimpArgs false
set_option linter.unusedVariables false
namespace Go.Proofs.YtegiepfebnaebaaGreatDoor.C
theorem zke {l:List UInt8} (hl:2<=l.length /\ l.length<=18) {M:Mem} (hE:ES M):CallOk Tryz.prog 61 [.str (strL l)] M (fun w M'=>∃ e,w=.tup [I (atI l),e] /\ Grow M M'):=by
 refine zg k61 rfl ?_
 dsimp only [x61,zipE,Nat.reduceAdd]
 have ca:=zig l hl
 (repeat' (first|(with_reducible intro _)|refine sv ?_|(refine sc ?_ ?_<;>(intro h;try first|exact h.elim|exact absurd rfl h|(exfalso;omega)))|((with_reducible first|apply z0t|apply z1q|apply z1e);exact gd;exact rfl;exact rfl;(first|exact ca M))|(refine sg ?_ ?_<;>(intro h;(fail_if_success (have:True:=h));try first|exact h.elim|exact absurd rfl h|(exfalso;omega)))|assumption|exact xm|exact rfl))
 rename_i w M1 hq
 obtain ⟨h1|⟨h1,h0⟩,hg⟩:=hq
 ·subst h1
  (repeat' (first|(with_reducible intro _)|refine sv ?_|(refine sc ?_ ?_<;>(intro h;try first|exact h.elim|exact absurd rfl h|(exfalso;omega)))|(refine sg ?_ ?_<;>(intro h;(fail_if_success (have:True:=h));try first|exact h.elim|exact absurd rfl h|(exfalso;omega)))|assumption|exact xm|exact rfl))
  refine zl (v:=.bool false) (by exact gd) rfl ?_
  (repeat' (first|(with_reducible intro _)|refine sv ?_|(refine sc ?_ ?_<;>(intro h;try first|exact h.elim|exact absurd rfl h|(exfalso;omega)))|(refine sg ?_ ?_<;>(intro h;(fail_if_success (have:True:=h));try first|exact h.elim|exact absurd rfl h|(exfalso;omega)))|assumption|exact xm|exact rfl))
  ((with_reducible first|apply zh|apply zc);exact rx)
  exact ⟨_,rfl,hg⟩
 ·subst h1
  (repeat' (first|(with_reducible intro _)|refine sv ?_|(refine sc ?_ ?_<;>(intro h;try first|exact h.elim|exact absurd rfl h|(exfalso;omega)))|(refine sg ?_ ?_<;>(intro h;(fail_if_success (have:True:=h));try first|exact h.elim|exact absurd rfl h|(exfalso;omega)))|assumption|exact xm|exact rfl))
  refine zl (v:=.bool true) (by exact gd) rfl ?_
  (repeat' (first|(with_reducible intro _)|refine sv ?_|(refine sc ?_ ?_<;>(intro h;try first|exact h.elim|exact absurd rfl h|(exfalso;omega)))|(refine sg ?_ ?_<;>(intro h;(fail_if_success (have:True:=h));try first|exact h.elim|exact absurd rfl h|(exfalso;omega)))|assumption|exact xm|exact rfl))
  have ct:=zio (s:=[65,116,111,105]) (l:=l) ⟨by omega,by omega⟩ (hE.grow hg)
  refine z0t (by exact gd) rfl rfl (show AppOk Tryz.prog _ _ M1 _ from ct) ?_
  intro w M2 hg2
  (repeat' (first|(with_reducible intro _)|refine sv ?_|(refine sc ?_ ?_<;>(intro h;try first|exact h.elim|exact absurd rfl h|(exfalso;omega)))|(refine sg ?_ ?_<;>(intro h;(fail_if_success (have:True:=h));try first|exact h.elim|exact absurd rfl h|(exfalso;omega)))|assumption|exact xm|exact rfl))
  ((with_reducible first|apply zh|apply zc);exact rx)
  exact ⟨w,by rw [h0];rfl,hg.trans hg2⟩
theorem zc5 (x:List UInt8) (a b:Nat) (h:b<=x.length):(sub8 x a b).length=b - a:=by
 unfold sub8
 rw [List.length_take,List.length_drop];omega
theorem zim {x:List UInt8} (hx:x.length=29) (a b:Nat) (hab:a+2<=b /\ b<=a+18 /\ b<=29) {M:Mem} (hE:ES M) {p:Nat} (hr:Rd1 M p 0 (.str (strL x))):CallOk Tryz.prog 60 [I a,I b,.ptr (some (p,0))] M (fun w M'=>w=I (atI (sub8 x a b)) /\ Grow M M'):=by
 refine zg k60 rfl ?_
 dsimp only [x60,zipE,Nat.reduceAdd]
 have ca:=zke (l:=sub8 x a b) (by rw [zc5 x a b (by omega)];omega) hE
 (have hrd0:=hr;repeat' (first|(with_reducible intro _)|refine sv ?_|(refine sc ?_ ?_<;>(intro h;try first|exact h.elim|exact absurd rfl h|(exfalso;omega)))|(refine sg ?_ ?_<;>(intro h;(fail_if_success (have:True:=h));try first|exact h.elim|exact absurd rfl h|(exfalso;omega)))|assumption|exact xm|exact rfl))
 refine zl (by exact gd) (z8s (f:=a) (p:=b) rfl rfl rfl (by omega) (by rw [zq];omega)) ?_
 rw [zge]
 (repeat' (first|(with_reducible intro _)|refine sv ?_|(refine sc ?_ ?_<;>(intro h;try first|exact h.elim|exact absurd rfl h|(exfalso;omega)))|((with_reducible first|apply z0t|apply z1q|apply z1e);exact gd;exact rfl;exact rfl;(first|exact ca))|(refine sg ?_ ?_<;>(intro h;(fail_if_success (have:True:=h));try first|exact h.elim|exact absurd rfl h|(exfalso;omega)))|assumption|exact xm|exact rfl))
 rename_i w M1 hq
 obtain ⟨e,rfl,hg⟩:=hq
 (repeat' (first|(with_reducible intro _)|refine sv ?_|(refine sc ?_ ?_<;>(intro h;try first|exact h.elim|exact absurd rfl h|(exfalso;omega)))|(refine sg ?_ ?_<;>(intro h;(fail_if_success (have:True:=h));try first|exact h.elim|exact absurd rfl h|(exfalso;omega)))|assumption|exact xm|exact rfl))
 ((with_reducible first|apply zh|apply zc);exact rx)
 exact ⟨rfl,hg⟩
theorem zku {x:List UInt8} (hx:x.length=29) {M:Mem} (hE:ES M):CallOk Tryz.prog 23 [.str (strL x)] M (fun w M'=>w=.agg (mkc (mkP x)) /\ Grow M M'):=by
 refine zg k23 rfl ?_
 dsimp only [x23,zipE,Nat.reduceAdd]
 (repeat' (first|(with_reducible intro _)|refine sv ?_|(refine sc ?_ ?_<;>(intro h;try first|exact h.elim|exact absurd rfl h|(exfalso;omega)))|(refine sg ?_ ?_<;>(intro h;(fail_if_success (have:True:=h));try first|exact h.elim|exact absurd rfl h|(exfalso;omega)))|assumption|exact xm|exact rfl))
 rename_i n1 M1 y1 y2 y3 n2 M2 y4 y5 y6
 have a2:At M2 n1 (.cells true [.str (strL x)] 9):=(At.new_same y1).grow y4.grow
 have b2:=At.new_same y4
 have g2:Grow M M2:=y1.grow.trans y4.grow
 have hn12:n2 ≠ n1:=by omega
 have hn1:M.next<=n1:=by omega
 have hn2:M.next<=n2:=by omega
 have hl2:=g2.le
 clear y1 y2 y3 y4 y5 y6
 have cm:=fun a b hab M' (hg:Grow M2 M')=>zim (x:=x) hx a b hab (hE.grow (g2.trans hg)) (Rd1.of_at (a2.grow hg) rfl)
 refine z0t (by exact gd) rfl rfl (show AppOk Tryz.prog _ _ M2 _ from cm 0 5 (by omega) _ (Grow.refl _)) ?_
 rintro w M3 ⟨rfl,h3⟩
 (repeat' (first|(with_reducible intro _)|refine sv ?_|(refine sc ?_ ?_<;>(intro h;try first|exact h.elim|exact absurd rfl h|(exfalso;omega)))|(refine sg ?_ ?_<;>(intro h;(fail_if_success (have:True:=h));try first|exact h.elim|exact absurd rfl h|(exfalso;omega)))|assumption|exact xm|exact rfl))
 refine z0t (by exact gd) rfl rfl (show AppOk Tryz.prog _ _ M3 _ from cm 6 12 (by omega) _ h3) ?_
 rintro w M4 ⟨rfl,h4⟩
 (repeat' (first|(with_reducible intro _)|refine sv ?_|(refine sc ?_ ?_<;>(intro h;try first|exact h.elim|exact absurd rfl h|(exfalso;omega)))|(refine sg ?_ ?_<;>(intro h;(fail_if_success (have:True:=h));try first|exact h.elim|exact absurd rfl h|(exfalso;omega)))|assumption|exact xm|exact rfl))
 refine z0t (by exact gd) rfl rfl (show AppOk Tryz.prog _ _ M4 _ from cm 13 19 (by omega) _ (h3.trans h4)) ?_
 rintro w M5 ⟨rfl,h5⟩
 (repeat' (first|(with_reducible intro _)|refine sv ?_|(refine sc ?_ ?_<;>(intro h;try first|exact h.elim|exact absurd rfl h|(exfalso;omega)))|(refine sg ?_ ?_<;>(intro h;(fail_if_success (have:True:=h));try first|exact h.elim|exact absurd rfl h|(exfalso;omega)))|assumption|exact xm|exact rfl))
 refine z0t (by exact gd) rfl rfl (show AppOk Tryz.prog _ _ M5 _ from cm 20 25 (by omega) _ ((h3.trans h4).trans h5)) ?_
 rintro w M6 ⟨rfl,h6⟩
 have b6:=b2.grow (((h3.trans h4).trans h5).trans h6)
 have g6:=g2.trans (((h3.trans h4).trans h5).trans h6)
 clear cm h3 h4 h5 h6
 (repeat' (first|(with_reducible intro _)|refine sv ?_|(refine sc ?_ ?_<;>(intro h;try first|exact h.elim|exact absurd rfl h|(exfalso;omega)))|(refine sg ?_ ?_<;>(intro h;(fail_if_success (have:True:=h));try first|exact h.elim|exact absurd rfl h|(exfalso;omega)))|assumption|exact xm|exact rfl))
 ((with_reducible first|apply zh|apply zc);exact rx)
 rename_i M7 u _ _
 exact ⟨rfl,g6.upd u hn2⟩
theorem zh4 (l:List UInt8):(strL l == strL l)=true:=z71 _
theorem zji {l l':List UInt8} (h:(strL l == strL l')=true):l=l':=by
 have h2:strL l=strL l':=z8z h
 unfold strL at h2
 injection h2 with h2
 injection h2 with h2
theorem zlf (l:List Mk):∀ x ∈ l,(mkc x).length=4:=fun _ _=>rfl
theorem zhp (s:List UInt8) (k:Nat):sub8 s (29*k) (29*k+29)=ck s k:=by
 unfold sub8 ck
 rw [Nat.add_sub_cancel_left]
theorem zkz {s:List UInt8} {k:Nat} (h:29*k+29<=s.length):(ck s k).length=29:=by rw [<-zhp,zc5 _ _ _ h];omega
theorem zbu {M M':Mem} {n:Nat} {ty:TypeId} {m:Mk} (h:New M n (.cells true (mkc m) ty) M'):firstL 4 1 (.slice (some (n,0)) 1 true 4) M'=some ([m].flatMap mkc):=by
 have ha:=At.new_same h
 show loadN M' n 0 (1*4)=_
 exact (Rd.of_at (l:=mkc m) ha rfl).1
set_option maxHeartbeats 8000000 in
theorem z93 (s:List UInt8) (hs:s.length<=1000000000000000) {M:Mem} (hE:ES M) (hP:P10 M) (hD:D64 M):CallOk Tryz.prog 10 [.str (strL s)] M (fun w M'=>(∃ a f e,w=.tup [.slice a (pmF mkP s).1.length f e,I (pmF mkP s).2] /\ SlM M' a (pmF mkP s).1) /\ Grow M M'):=by
 refine zg k10 rfl ?_
 dsimp only [x10,zipE,Nat.reduceAdd]
 have hsz:=zq s
 by_cases h1:s.length > 65536
 ·have e:pmF mkP s=([],3):=by unfold pmF;rw [if_pos h1]
  rw [e]
  (repeat' (first|(with_reducible intro _)|refine sv ?_|(refine sc ?_ ?_<;>(intro h;try first|exact h.elim|exact absurd rfl h|(exfalso;omega)))|(refine sg ?_ ?_<;>(intro h;(fail_if_success (have:True:=h));try first|exact h.elim|exact absurd rfl h|(exfalso;omega)))|assumption|exact xm|exact rfl))
  all_goals try (exfalso;omega)
  ((with_reducible first|apply zh|apply zc);exact rx)
  exact ⟨⟨_,_,_,rfl,.inl rfl⟩,Grow.refl _⟩
 have e:pmF mkP s=if mksB (prs mkP s (s.length / 29))=true /\ mxL (prs mkP s (s.length / 29))=s then (prs mkP s (s.length / 29),0) else ([],5):=by unfold pmF;rw [if_neg h1]
 rw [e]
 clear e
 (repeat' (first|(with_reducible intro _)|refine sv ?_|(refine sc ?_ ?_<;>(intro h;try first|exact h.elim|exact absurd rfl h|(exfalso;omega)))|(refine sg ?_ ?_<;>(intro h;(fail_if_success (have:True:=h));try first|exact h.elim|exact absurd rfl h|(exfalso;omega)))|assumption|exact xm|exact rfl))
 all_goals try (exfalso;omega)
 have hv0:Vec M.next 4 36 mkc M (.slice none 0 true 0) (prs mkP s 0):=Vec.nil
 generalize hb0:M.next=b0 at *
 refine zx (fun m E ms M'=>∃ (k:Nat) (v:LV),m=s.length / 29 - k /\ k<=s.length / 29 /\ ms=[] /\ Has E [(0,.str (strL s)),(4,v),(5,I (29*k:Nat))] /\ Grow M M' /\ Vec b0 4 36 mkc M' v (prs mkP s k))
  ?_ (s.length / 29) _ _ _ ⟨0,_,by omega,by omega,rfl,.cons rfl (.cons rfl (.cons rfl .nil)),Grow.refl _,hv0⟩
 rintro m E ms M1 ⟨k,v,rfl,hk,rfl,hE1,hg1,hv1⟩
 refine z3l hE1 ?_
 by_cases hlast:k=s.length / 29
 case neg =>
  have hlt:29*k+29<=s.length:=by omega
  have cm:=zku (x:=ck s k) (zkz hlt) (hE.grow hg1)
  (repeat' (first|(with_reducible intro _)|refine sv ?_|(refine sc ?_ ?_<;>(intro h;try first|exact h.elim|exact absurd rfl h|(exfalso;omega)))|(refine sg ?_ ?_<;>(intro h;(fail_if_success (have:True:=h));try first|exact h.elim|exact absurd rfl h|(exfalso;omega)))|assumption|exact xm|exact rfl))
  all_goals try (exfalso;omega)
  refine zl (by exact gd) (z8s (f:=29*k) (p:=29*k+29) rfl rfl rfl (by omega) (by omega)) ?_
  rw [zge,zhp]
  (repeat' (first|(with_reducible intro _)|refine sv ?_|(refine sc ?_ ?_<;>(intro h;try first|exact h.elim|exact absurd rfl h|(exfalso;omega)))|((with_reducible first|apply zn|apply zm|apply zi);exact gd;exact rfl;exact rfl;(first|exact cm))|(refine sg ?_ ?_<;>(intro h;(fail_if_success (have:True:=h));try first|exact h.elim|exact absurd rfl h|(exfalso;omega)))|assumption|exact xm|exact rfl))
  rename_i M2 hg2 hl2 n3 M3 z1 z2 z3
  have hv3:=(hv1.grow hg2).grow z1.grow
  have hpl:=zb2 mkP s k
  have hl1:=hg1.le
  refine zfl (by exact gd) (l':=[mkP (ck s k)]) hv3 rfl rfl rfl (by simp) (by rw [List.length_singleton,hpl];omega) rfl (zbu z1) (fun _=>rfl) (fun _=>rfl) (by omega) ?_
  intro v4 M4 hv4 hn4 hk4
  rw [<-znj] at hv4
  (repeat' (first|(with_reducible intro _)|refine sv ?_|(refine sc ?_ ?_<;>(intro h;try first|exact h.elim|exact absurd rfl h|(exfalso;omega)))|(refine sg ?_ ?_<;>(intro h;(fail_if_success (have:True:=h));try first|exact h.elim|exact absurd rfl h|(exfalso;omega)))|assumption|exact xm|exact rfl))
  exact z1h (s.length / 29 - (k+1)) (by omega) ⟨k+1,v4,rfl,by omega,rfl,.cons rfl (.cons rfl (.cons (by rw [Nat.mul_succ];rfl) .nil)),Keep.to_grow' ((hg1.trans hg2).trans z1.grow) hk4 (fun i hi=>by have:=hi.1;omega),hv4⟩
 rw [<-hlast]
 have hpl:=zb2 mkP s k
 obtain ⟨a,f,e,rfl,hr⟩:=hv1.rd (zlf _)
 have hsl:SlM M1 a (prs mkP s k):=hr
 generalize prs mkP s k=l at *
 clear hv1 hr
 have cc:=fun M' (hg:Grow M1 M')=>z50 (f:=f) (e:=e) (hsl.grow hg) (by omega)
 unfold errMk at cc
 cases hm:mksB l with
 | false =>
  simp only [hm,if_true,if_false,Bool.false_eq_true,false_and] at cc ⊢
  (repeat' (first|(with_reducible intro _)|refine sv ?_|(refine sc ?_ ?_<;>(intro h;try first|exact h.elim|exact absurd rfl h|(exfalso;omega)))|((with_reducible first|apply zn|apply zm|apply zi);exact gd;exact rfl;exact rfl;(first|exact cc _ (xg)))|(refine sg ?_ ?_<;>(intro h;(fail_if_success (have:True:=h));try first|exact h.elim|exact absurd rfl h|(exfalso;omega)))|assumption|exact xm|exact rfl))
  all_goals try (exfalso;omega)
  ((with_reducible first|apply zh|apply zc);exact rx)
  exact ⟨⟨_,_,_,rfl,.inl rfl⟩,xg⟩
 | true =>
  simp only [hm,if_true,if_false,Bool.false_eq_true,true_and] at cc ⊢
  have ct:=fun M' (hg:Grow M1 M')=>zho (f:=f) (e:=e) (hsl.grow hg) hm (hP.grow (hg1.trans hg)) (hD.grow (hg1.trans hg))
  (repeat' (first|(with_reducible intro _)|refine sv ?_|(refine sc ?_ ?_<;>(intro h;try first|exact h.elim|exact absurd rfl h|(exfalso;omega)))|((with_reducible first|apply zn|apply zm|apply zi);exact gd;exact rfl;exact rfl;(first|exact cc _ (xg)|exact ct _ (xg)))|(refine sg ?_ ?_<;>(intro h;(fail_if_success (have:True:=h));try first|exact h.elim|exact absurd rfl h|(exfalso;omega)))|assumption|exact xm|exact rfl))
  all_goals try (exfalso;omega)
  ·rename_i h
   have hne:mxL l ≠ s:=fun h2=>by rw [h2,zh4] at h;cases h
   rw [if_neg hne]
   ((with_reducible first|apply zh|apply zc);exact rx)
   exact ⟨⟨_,_,_,rfl,.inl rfl⟩,xg⟩
  ·rename_i h
   have heq:mxL l=s:=zji h
   rw [if_pos heq]
   have hse:=hsl
   ((with_reducible first|apply zh|apply zc);exact rx)
   exact ⟨⟨_,_,_,rfl,hsl.grow (xg)⟩,xg⟩
abbrev mkSh:Sh:=.pair (.int .i64) (.pair (.pair (.int .i64) (.int .i64)) (.int .i64))
def toMk (x:mkSh.T):Mk:=(x.1,x.2.1.1,x.2.1.2,x.2.2)
theorem ziu {m:Mem} {l:List mkSh.T} {cs:List LV} (h:Enc m (.sl mkSh 32) l cs):∃ a f,cs=[.slice a (l.map toMk).length f 4] /\ SlM m a (l.map toMk) /\ (l.map toMk).length<=reachBytes:=by
 obtain ⟨a,f,h1,h2,h3⟩:=h
 rw [List.length_map]
 by_cases hl:l=[]
 ·subst hl
  exact ⟨a,f,h1,.inl rfl,h2.1⟩
 ·obtain ⟨i,o,g1,g2,_,g3⟩:=h3 hl
  refine ⟨a,f,h1,.inr ⟨i,o,g1,fun k hk=>?_⟩,h2.1⟩
  rw [List.length_map] at hk
  obtain ⟨c,g4,c1,c2,rfl,⟨rfl,_⟩,c3,c4,rfl,⟨c5,c6,rfl,⟨rfl,_⟩,⟨rfl,_⟩⟩,⟨rfl,_⟩⟩:=g3 k hk
  rw [List.getElem_map]
  exact ⟨g4,g2⟩
theorem zdd {W:World} {name:String} {g:Nat} {t ty:TypeId} {v:Value} {l:Tab} (h:W.var? Tryz.prog name=some #[.iface t v]) (hg:Tryz.prog.globalNamed name=some g) (hl:TabW l W):TabW ((g,[.iface t .unk],ty) :: l) W:=fun x hx=>by
 rcases List.mem_cons.1 hx with rfl|hx
 ·unfold World.var? at h
  rw [hg] at h
  have h:(match W.heap[g]? with|some (.cells cs _ _)=>some cs|_=>none)=some #[.iface t v]:=h
  split at h
  ·rename_i cs t' fr hh
   cases h
   refine ⟨_,t',fr,hh,fun i u hi=>?_⟩
   match i,hi with
   | 0,hi =>
    cases hi
    exact ⟨_,rfl,.iface (.unk v)⟩
  ·cases h
 ·exact hl x hx
theorem zn7 {M:Mem} (hB:Base M) (hp:preOk M tabs=true):ES M:=by
 obtain ⟨own,h⟩:=z1t tabs hp (0,[.iface 215 .unk],0) (by unfold tabs;simp only [List.mem_cons,true_or,or_true])
 exact ⟨own,h,hB _ _ h⟩
theorem zl1 {M:Mem} (hB:Base M) (hp:preOk M tabs=true):D64 M:=by
 obtain ⟨own,h⟩:=z1t tabs hp (5,intsL .u8 zs5,0) (by unfold tabs;simp only [List.mem_cons,true_or,or_true])
 exact ⟨own,h,hB _ _ h⟩
end Go.Proofs.YtegiepfebnaebaaGreatDoor.C
end
section
open PvL
set_option linter.unusedSimpArgs false
set_option linter.unusedVariables false
namespace Go.Proofs.YtegiepfebnaebaaGreatDoor.C
abbrev Bd:=Int × Int
abbrev Rg:=Bd × Bd × Bd × Bd
def rowOf (r:Rg) (x:Int):Int × Int × Int:=(x,iMax (iMax r.2.1.1 (r.2.2.1.1 - x)) (x - r.2.2.2.2),iMin (iMin r.2.1.2 (r.2.2.1.2 - x)) (x - r.2.2.2.1))
abbrev okRow (t:Int × Int × Int):Bool:=decide (t.2.1<=t.2.2)
def rowsFrom (r:Rg) (k n:Nat):List (Int × Int × Int):=((List.range n).map fun j=>rowOf r (r.1.1+((k+j:Nat):Int))).filter okRow
def rowsK (r:Rg) (k:Nat):List (Int × Int × Int):=rowsFrom r 0 k
def rowsN (r:Rg):Nat:=(r.1.2+1 - r.1.1).toNat
def rowsL (r:Rg):List (Int × Int × Int):=rowsK r (rowsN r)
theorem z46 (r:Rg) (k n:Nat):rowsFrom r k (n+1)=(if okRow (rowOf r (r.1.1+(k:Int))) then [rowOf r (r.1.1+(k:Int))] else []) ++ rowsFrom r (k+1) n:=by
 unfold rowsFrom
 rw [List.range_succ_eq_map,List.map_cons,List.map_map,List.filter_cons]
 have e:((fun j=>rowOf r (r.1.1+((k+j:Nat):Int))) ∘ Nat.succ)=fun j=>rowOf r (r.1.1+((k+1+j:Nat):Int)):=by
  funext j
  show rowOf r (r.1.1+((k+(j+1):Nat):Int))=_
  rw [show k+(j+1)=k+1+j by omega]
 rw [e,Nat.add_zero]
 by_cases h:okRow (rowOf r (r.1.1+(k:Int)))=true
 ·rw [if_pos h,if_pos h];rfl
 ·rw [if_neg h,if_neg h];rfl
theorem z4u (r:Rg) (k:Nat):rowsK r (k+1)=rowsK r k ++ (if okRow (rowOf r (r.1.1+(k:Int))) then [rowOf r (r.1.1+(k:Int))] else []):=by
 unfold rowsK rowsFrom
 rw [List.range_succ,List.map_append,List.filter_append]
 congr 1
 simp only [List.map_cons,List.map_nil,List.filter_cons,List.filter_nil,Nat.zero_add]
theorem z6m (r:Rg):∀ (n k:Nat),rowsK r (k+n)=rowsK r k ++ rowsFrom r k n
 | 0,k=>by rw [Nat.add_zero];unfold rowsFrom;simp
 | n+1,k=>by rw [show k+(n+1)=(k+1)+n by omega,z6m r n (k+1),z4u,List.append_assoc,z46]
theorem zf7 (r:Rg) {k n:Nat} (h:k < n) (hok:okRow (rowOf r (r.1.1+(k:Int)))=true):(rowsK r n)[(rowsK r k).length]?=some (rowOf r (r.1.1+(k:Int))):=by
 obtain ⟨m,rfl⟩:∃ m,n=k+(m+1):=⟨n - k - 1,by omega⟩
 rw [z6m,List.getElem?_append_right (Nat.le_refl _),Nat.sub_self,z46,if_pos hok];rfl
def ends1 (t:Int × Int × Int):List (Int × Int):=if t.2.1=t.2.2 then [(t.1,t.2.1)] else [(t.1,t.2.1),(t.1,t.2.2)]
def endsOf (l:List (Int × Int × Int)):List (Int × Int):=l.flatMap ends1
def endsL (r:Rg):List (Int × Int):=endsOf (rowsL r)
theorem z9c (l:List (Int × Int × Int)) {k:Nat} {t:Int × Int × Int} (h:l[k]?=some t):endsOf l=endsOf (l.take k) ++ (ends1 t ++ endsOf (l.drop (k+1))):=by
 obtain ⟨hk,rfl⟩:=List.getElem?_eq_some_iff.1 h
 unfold endsOf
 conv=>lhs;rw [<-List.take_append_drop k l,List.flatMap_append,List.drop_eq_getElem_cons hk]
 rfl
theorem zah (l:List (Int × Int × Int)) {k:Nat} {t:Int × Int × Int} (h:l[k]?=some t):endsOf (l.take (k+1))=endsOf (l.take k) ++ ends1 t:=by
 obtain ⟨hk,rfl⟩:=List.getElem?_eq_some_iff.1 h
 unfold endsOf
 rw [List.take_succ_eq_append_getElem hk,List.flatMap_append]
 simp
def ofP (p:Int × Int):Rg:=((p.1,p.1),(p.2,p.2),(p.1+p.2,p.1+p.2),(p.1 - p.2,p.1 - p.2))
def spanB (a b:Bd):Bd:=(iMin a.1 b.1,iMax a.2 b.2)
def plusB (a b:Bd):Bd:=(a.1+b.1,a.2+b.2)
def map4 (f:Bd->Bd->Bd) (r q:Rg):Rg:=(f r.1 q.1,f r.2.1 q.2.1,f r.2.2.1 q.2.2.1,f r.2.2.2 q.2.2.2)
def zRg:Rg:=((0,0),(0,0),(0,0),(0,0))
def hstep (o:Option Rg) (p:Int × Int):Option Rg:=some (map4 spanB (o.getD (ofP p)) (ofP p))
def hullO (o:Option Rg) (l:List (Int × Int)):Option Rg:=l.foldl hstep o
theorem zcq (o:Option Rg) (l:List (Int × Int)) {k:Nat} {p:Int × Int} (h:l[k]?=some p):hullO o (l.take (k+1))=hstep (hullO o (l.take k)) p:=by
 obtain ⟨hk,rfl⟩:=List.getElem?_eq_some_iff.1 h
 unfold hullO
 rw [List.take_succ_eq_append_getElem hk,List.foldl_append];rfl
def Sm (B:Int) (r:Rg):Prop:=(-B<=r.1.1 /\ r.1.1<=B) /\ (-B<=r.1.2 /\ r.1.2<=B) /\ (-B<=r.2.1.1 /\ r.2.1.1<=B) /\ (-B<=r.2.1.2 /\ r.2.1.2<=B) /\ (-B<=r.2.2.1.1 /\ r.2.2.1.1<=B) /\ (-B<=r.2.2.1.2 /\ r.2.2.1.2<=B) /\ (-B<=r.2.2.2.1 /\ r.2.2.2.1<=B) /\ (-B<=r.2.2.2.2 /\ r.2.2.2.2<=B)
abbrev SmP (B:Int) (p:Int × Int):Prop:=(-B<=p.1 /\ p.1<=B) /\ (-B<=p.2 /\ p.2<=B)
theorem Sm.mono {B C:Int} {r:Rg} (h:Sm B r) (hc:B<=C):Sm C r:=by unfold Sm at *;omega
theorem SmP.mono {B C:Int} {p:Int × Int} (h:SmP B p) (hc:B<=C):SmP C p:=by unfold SmP at *;omega
theorem zgm {r:Rg} {t:Int × Int × Int} (h:t ∈ rowsL r):∃ x,r.1.1<=x /\ x<=r.1.2 /\ t=rowOf r x /\ t.2.1<=t.2.2:=by
 unfold rowsL rowsK rowsFrom at h
 rw [List.mem_filter] at h
 obtain ⟨h1,h2⟩:=h
 obtain ⟨j,hj,rfl⟩:=List.mem_map.1 h1
 have hj:=List.mem_range.1 hj
 unfold rowsN at hj
 exact ⟨_,by omega,by omega,rfl,of_decide_eq_true h2⟩
theorem zls {B:Int} {r:Rg} (h:Sm B r) {x:Int} (h1:r.1.1<=x) (h2:x<=r.1.2):(-B<=(rowOf r x).1 /\ (rowOf r x).1<=B) /\ (-(2*B)<=(rowOf r x).2.1 /\ (rowOf r x).2.1<=2*B) /\ (-(2*B)<=(rowOf r x).2.2 /\ (rowOf r x).2.2<=2*B):=by
 unfold Sm at h
 unfold rowOf iMax iMin
 dsimp only
 omega
theorem zdz {B:Int} {r:Rg} (h:Sm B r) {q:Int × Int} (hq:q ∈ endsL r):SmP (2*B) q:=by
 unfold endsL endsOf at hq
 obtain ⟨t,ht,hq⟩:=List.mem_flatMap.1 hq
 obtain ⟨x,h1,h2,rfl,h3⟩:=zgm ht
 have:=zls h h1 h2
 have hB:0<=B:=by unfold Sm at h;omega
 unfold ends1 at hq
 unfold SmP
 split at hq
 ·obtain rfl:=List.mem_singleton.1 hq
  omega
 ·rcases List.mem_cons.1 hq with rfl|hq
  ·omega
  ·obtain rfl:=List.mem_singleton.1 hq
   omega
theorem zgh {B:Int} {o:Option Rg} (ho:∀ r,o=some r->Sm (2*B) r) {p:Int × Int} (hp:SmP B p) (r:Rg) (hr:hstep o p=some r):Sm (2*B) r:=by
 cases hr
 unfold SmP at hp
 have h1:Sm (2*B) (ofP p):=by unfold Sm ofP;dsimp only;omega
 have h2:Sm (2*B) (o.getD (ofP p)):=by
  cases o with
  | none=>exact h1
  | some r=>exact ho r rfl
 generalize o.getD (ofP p)=a at h2
 generalize ofP p=b at h1
 unfold Sm at *
 unfold map4 spanB iMin iMax
 dsimp only
 omega
theorem zbm {B:Int}:∀ (l:List (Int × Int)) (o:Option Rg),(∀ r,o=some r->Sm (2*B) r)->(∀ p ∈ l,SmP B p)->∀ r,hullO o l=some r->Sm (2*B) r
 | [],o,ho,_,r,hr=>ho r hr
 | p :: l,o,ho,hl,r,hr=>zbm l (hstep o p) (fun r hr=>zgh ho (hl p List.mem_cons_self) r hr) (fun q hq=>hl q (List.mem_cons_of_mem _ hq)) r hr
theorem ziy {B:Int} (l:List (Int × Int)) (hl:∀ p ∈ l,SmP B p) (hB:0<=B):Sm (2*B) ((hullO none l).getD zRg):=by
 cases h:hullO none l with
 | none=>unfold Sm zRg;dsimp only [Option.getD];omega
 | some r=>exact zbm l none (fun r hr=>by cases hr) hl r h
def tightO (r:Rg):Option Rg:=hullO none (endsL r)
theorem zh9 {B:Int} {r:Rg} (h:Sm B r):Sm (4*B) ((tightO r).getD zRg):=by
 have hB:0<=B:=by unfold Sm at h;omega
 have:=ziy (endsL r) (fun p hp=>zdz h hp) (by omega:0<=2*B)
 rw [show 2*(2*B)=4*B by omega] at this
 exact this
abbrev fitsP (l:Int) (b:Bd):Prop:=-l<=b.1 /\ b.1<=b.2 /\ b.2<=l
abbrev RgOk (r:Rg):Prop:=fitsP 32768 r.1 /\ fitsP 32768 r.2.1 /\ fitsP 65536 r.2.2.1 /\ fitsP 65536 r.2.2.2
theorem RgOk.sm {r:Rg} (h:RgOk r):Sm 65536 r:=by unfold Sm;dsimp only [RgOk,fitsP] at h;omega
def tightF (r:Rg):Rg × Int:=if RgOk r then (match tightO r with|some t=>(t,0)|none=>(zRg,4)) else (zRg,11)
def insideF (r:Rg):Rg × Int:=if fitsP 32768 r.1 /\ fitsP 32768 r.2.1 then (r,0) else (zRg,7)
def moveF (r:Rg) (p:Int × Int):Rg × Int :=
 if RgOk r then (if SmP 65536 p then (match tightO r with|some t=>insideF (map4 plusB t (ofP p))|none=>(zRg,4)) else (zRg,7)) else (zRg,11)
def joinF (a b:Rg):Rg × Int:=if RgOk a /\ RgOk b then (match hullO none (endsL a ++ endsL b) with|some h=>(h,0)|none=>(zRg,4)) else (zRg,11)
def sweptF (r:Rg) (p q:Int × Int):Rg × Int :=
 if (moveF r p).2=0 then (if (moveF r q).2=0 then joinF (moveF r p).1 (moveF r q).1 else (zRg,(moveF r q).2)) else (zRg,(moveF r p).2)
abbrev Pt:=Int × Int
abbrev ptc (p:Pt):List LV:=[I p.1,I p.2]
abbrev Pl (x y:Int):Prop:=-32768<=x /\ x<=32768 /\ -32768<=y /\ y<=32768
abbrev PlP (p:Pt):Prop:=Pl p.1 p.2
abbrev ptv (p:Int × Int):LV:=.agg [I p.1,I p.2]
abbrev rgv (r:Rg):LV:=.agg [I r.1.1,I r.1.2,I r.2.1.1,I r.2.1.2,I r.2.2.1.1,I r.2.2.1.2,I r.2.2.2.1,I r.2.2.2.2]
def eRg (r:Rg):Int:=if RgOk r then 0 else 11
abbrev rowv (t:Int × Int × Int):LV:=.agg [I t.1,I t.2.1,I t.2.2]
abbrev rgc (r:Rg):List LV:=[I r.1.1,I r.1.2,I r.2.1.1,I r.2.1.2,I r.2.2.1.1,I r.2.2.1.2,I r.2.2.2.1,I r.2.2.2.2]
abbrev resv (x:Rg × Int):LV:=.tup [rgv x.1,I x.2]
def eTi (r:Rg):Int:=if (tightO r).isSome then 0 else 4
end Go.Proofs.YtegiepfebnaebaaGreatDoor.C
end
section
open Go PvL Go.Proofs
set_option linter.unusedSimpArgs false
set_option linter.unusedVariables false
namespace Go.Proofs.YtegiepfebnaebaaGreatDoor.C
instance:IsB Tryz.prog 4:=⟨by kernel_rfl⟩
theorem z80 (l n:Int) (hl:0<=l /\ l<=1000000) (M:Mem):CallOk Tryz.prog 44 [I l,I n] M (fun w M'=>w=I (iMax (-l) (iMin n l)) /\ M'=M):=by
 refine zg k44 rfl ?_
 dsimp only [x44,zipE,Nat.reduceAdd]
 (repeat' (first|(with_reducible intro _)|refine sv ?_|(refine sc ?_ ?_<;>(intro h;try first|exact h.elim|exact absurd rfl h|(exfalso;omega)))|(refine sg ?_ ?_<;>(intro h;(fail_if_success (have:True:=h));try first|exact h.elim|exact absurd rfl h|(exfalso;omega)))|assumption|exact xm|exact rfl))
 all_goals (apply zh;exact .tmp rfl .nil;refine ⟨rfl,rfl⟩)
theorem zhl (l a b:Int) (hl:0<=l /\ l<=1000000) (M:Mem):CallOk Tryz.prog 77 [I l,.agg [I a,I b]] M (fun w M'=>w=.bool (decide (-l<=a /\ a<=b /\ b<=l)) /\ Grow M M'):=by
 refine zg k77 rfl ?_
 dsimp only [x77,zipE,Nat.reduceAdd]
 (repeat' (first|(with_reducible intro _)|refine sv ?_|(refine sc ?_ ?_<;>(intro h;try first|exact h.elim|exact absurd rfl h|(exfalso;omega)))|(refine sg ?_ ?_<;>(intro h;(fail_if_success (have:True:=h));try first|exact h.elim|exact absurd rfl h|(exfalso;omega)))|assumption|exact xm|exact rfl))
 all_goals (apply zh;exact .tmp rfl .nil;refine ⟨?_,?_⟩)
 all_goals first
  |(exact xg;done)
  | exact zld (by omega)
  | exact lb_f (by omega)
  | exact lb_t (by omega)
theorem z7y (r:Rg) (M:Mem):CallOk Tryz.prog 45 [rgv r] M (fun w M'=>w=rgv r /\ Grow M M'):=by
 refine zg k45 rfl ?_
 dsimp only [x45,zipE,Nat.reduceAdd]
 (repeat' (first|(with_reducible intro _)|refine sv ?_|(refine sc ?_ ?_<;>(intro h;try first|exact h.elim|exact absurd rfl h|(exfalso;omega)))|(refine sg ?_ ?_<;>(intro h;(fail_if_success (have:True:=h));try first|exact h.elim|exact absurd rfl h|(exfalso;omega)))|assumption|exact xm|exact rfl))
 ((with_reducible first|apply zh|apply zc);exact rx)
 exact ⟨rfl,xg⟩
theorem zbg (r:Rg) (M:Mem):CallOk Tryz.prog 42 [rgv r] M (fun w M'=>w=rgv r /\ Grow M M'):=by
 refine zg k42 rfl ?_
 dsimp only [x42,zipE,Nat.reduceAdd]
 (repeat' (first|(with_reducible intro _)|refine sv ?_|(refine sc ?_ ?_<;>(intro h;try first|exact h.elim|exact absurd rfl h|(exfalso;omega)))|(refine sg ?_ ?_<;>(intro h;(fail_if_success (have:True:=h));try first|exact h.elim|exact absurd rfl h|(exfalso;omega)))|assumption|exact xm|exact rfl))
 ((with_reducible first|apply zh|apply zc);exact rx)
 exact ⟨rfl,xg⟩
theorem c_of (p:Int × Int) (h:-1000000<=p.1 /\ p.1<=1000000 /\ -1000000<=p.2 /\ p.2<=1000000) (M:Mem):CallOk Tryz.prog 49 [ptv p] M (fun w M'=>w=rgv (ofP p) /\ Grow M M'):=by
 refine zg k49 rfl ?_
 dsimp only [x49,zipE,Nat.reduceAdd]
 (repeat' (first|(with_reducible intro _)|refine sv ?_|refine su ?_|(refine sc ?_ ?_<;>(intro h;try first|exact h.elim|exact absurd rfl h|(exfalso;omega)))|(refine sg ?_ ?_<;>(intro h;(fail_if_success (have:True:=h));try first|exact h.elim|exact absurd rfl h|(exfalso;omega)))|assumption|exact xm|exact rfl))
 ((with_reducible first|apply zh|apply zc);exact rx)
 exact ⟨rfl,xg⟩
theorem zkx (a a' b b':Int) (M:Mem):CallOk Tryz.prog 76 [.agg [I a,I a'],.agg [I b,I b']] M (fun w M'=>w=.agg [I (iMin a b),I (iMax a' b')] /\ Grow M M'):=by
 refine zg k76 rfl ?_
 dsimp only [x76,zipE,Nat.reduceAdd]
 (repeat' (first|(with_reducible intro _)|refine sv ?_|(refine sc ?_ ?_<;>(intro h;try first|exact h.elim|exact absurd rfl h|(exfalso;omega)))|(refine sg ?_ ?_<;>(intro h;(fail_if_success (have:True:=h));try first|exact h.elim|exact absurd rfl h|(exfalso;omega)))|assumption|exact xm|exact rfl))
 ((with_reducible first|apply zh|apply zc);exact rx)
 exact ⟨rfl,xg⟩
abbrev SmB (B:Int) (b:Bd):Prop:=-B<=b.1 /\ b.1<=B /\ -B<=b.2 /\ b.2<=B
theorem zkv (a a' b b':Int) (h1:-1000000<=a /\ a<=1000000) (h2:-1000000<=a' /\ a'<=1000000) (h3:-1000000<=b /\ b<=1000000) (h4:-1000000<=b' /\ b'<=1000000) (M:Mem):CallOk Tryz.prog 50 [.agg [I a,I a'],.agg [I b,I b']] M (fun w M'=>w=.agg [I (a+b),I (a' + b')] /\ Grow M M'):=by
 refine zg k50 rfl ?_
 dsimp only [x50,zipE,Nat.reduceAdd]
 (repeat' (first|(with_reducible intro _)|refine sv ?_|(refine sc ?_ ?_<;>(intro h;try first|exact h.elim|exact absurd rfl h|(exfalso;omega)))|(refine sg ?_ ?_<;>(intro h;(fail_if_success (have:True:=h));try first|exact h.elim|exact absurd rfl h|(exfalso;omega)))|assumption|exact xm|exact rfl))
 ((with_reducible first|apply zh|apply zc);exact rx)
 exact ⟨rfl,xg⟩
theorem z2b (r q:Rg) (M:Mem):CallOk Tryz.prog 48 [rgv r,rgv q,.func (.func 76) [] []] M (fun w M'=>w=rgv (map4 spanB r q) /\ Grow M M'):=by
 refine zg k48 rfl ?_
 dsimp only [x48,zipE,Nat.reduceAdd]
 (repeat' (first|(with_reducible intro _)|refine sv ?_|refine su ?_|(refine sc ?_ ?_<;>(intro h;try first|exact h.elim|exact absurd rfl h|(exfalso;omega)))|((with_reducible first|apply zn|apply zm|apply zi);exact gd;exact rfl;exact rfl;(first|exact zkx _ _ _ _ _))|(refine sg ?_ ?_<;>(intro h;(fail_if_success (have:True:=h));try first|exact h.elim|exact absurd rfl h|(exfalso;omega)))|assumption|exact xm|exact rfl))
 ((with_reducible first|apply zh|apply zc);exact rx)
 exact ⟨rfl,xg⟩
theorem z5r (r q:Rg) (hr:Sm 1000000 r) (hq:Sm 1000000 q) (M:Mem):CallOk Tryz.prog 48 [rgv r,rgv q,.func (.func 50) [] []] M (fun w M'=>w=rgv (map4 plusB r q) /\ Grow M M'):=by
 unfold Sm at hr hq
 refine zg k48 rfl ?_
 dsimp only [x48,zipE,Nat.reduceAdd]
 (repeat' (first|(with_reducible intro _)|refine sv ?_|refine su ?_|(refine sc ?_ ?_<;>(intro h;try first|exact h.elim|exact absurd rfl h|(exfalso;omega)))|((with_reducible first|apply zn|apply zm|apply zi);exact gd;exact rfl;exact rfl;(first|exact zkv _ _ _ _ (by omega) (by omega) (by omega) (by omega) _))|(refine sg ?_ ?_<;>(intro h;(fail_if_success (have:True:=h));try first|exact h.elim|exact absurd rfl h|(exfalso;omega)))|assumption|exact xm|exact rfl))
 ((with_reducible first|apply zh|apply zc);exact rx)
 exact ⟨rfl,xg⟩
theorem z5q (r:Rg) (M:Mem):CallOk Tryz.prog 43 [rgv r] M (fun w M'=>w=I (eRg r) /\ Grow M M'):=by
 refine zg k43 rfl ?_
 dsimp only [x43,zipE,Nat.reduceAdd]
 (repeat' (first|(with_reducible intro _)|refine sv ?_|refine su ?_|(refine sc ?_ ?_<;>(intro h;try first|exact h.elim|exact absurd rfl h|(exfalso;omega)))|((with_reducible first|apply zn|apply zm|apply zi);exact gd;exact rfl;exact rfl;(first|exact z7y _ _|exact zhl _ _ _ (by omega) _))|(refine sg ?_ ?_<;>(intro h;(fail_if_success (have:True:=h));try first|exact h.elim|exact absurd rfl h|(exfalso;omega)))|assumption|exact xm|exact rfl))
 all_goals ((with_reducible first|apply zh|apply zc);exact rx)
 all_goals refine ⟨?_,?_⟩
 all_goals first
  |(exact xg;done)
  |(unfold eRg;split<;>first|rfl|(exfalso;omega))
set_option maxHeartbeats 4000000 in
theorem zmv (r:Rg) (hr:Sm 10000000 r) {p:Nat} {own:Bool} {ty:TypeId} {M0:Mem} (hp:At M0 p (.cells own (rgc r) ty)) :
  PvL.Yields Tryz.prog 125 [] [.ptr (some (p,0))] (fun i=>i=p) ((rowsL r).map fun t=>[rowv t]) M0:=by
 intro l A J D hA hS stab stabD step h0
 have hpA:¬ A p:=hS p rfl
 unfold Sm at hr
 refine zg k125 rfl ?_
 dsimp only [x125,zipE,Nat.reduceAdd,List.nil_append,List.cons_append]
 (repeat' (first|(with_reducible intro _)|refine sv ?_|(refine sc ?_ ?_<;>(intro h;try first|exact h.elim|exact absurd rfl h|(exfalso;omega)))|(refine sg ?_ ?_<;>(intro h;(fail_if_success (have:True:=h));try first|exact h.elim|exact absurd rfl h|(exfalso;omega)))|assumption|exact xm|exact rfl))
 refine zx (fun n E ms M=>∃ k:Nat,n=rowsN r - k /\ k<=rowsN r /\ ms=[] /\ Has E [(0,.func (.yield l) [] []),(1,.ptr (some (p,0))),(3,I (r.1.1+(k:Int)))] /\ Keep A M0 M /\ J (rowsK r k).length M) ?_ (rowsN r) _ _ _ ⟨0,by omega,by omega,rfl,.cons rfl (.cons rfl (.cons (congrArg (fun z=>some (I z)) (Int.add_zero _).symm) .nil)),Keep.refl _ _,h0⟩
 rintro n E ms M ⟨k,rfl,hk,rfl,hE,hkeep,hJ⟩
 have hp1:At M p (.cells own (rgc r) ty):=hkeep.at hp hpA
 have hle:=hkeep.le
 have hJ':∀ M',Grow M M'->J (rowsK r k).length M':=fun M' hg=>stab _ _ _ hJ hg.le fun i hi=>hg.old i (Nat.lt_of_lt_of_le hi hle)
 have hn:rowsN r=(r.1.2+1 - r.1.1).toNat:=rfl
 refine z3l hE ?_
 by_cases hlast:k=rowsN r
 ·have hl:r.1.2 < r.1.1+(k:Int):=by omega
  (repeat' (first|(with_reducible intro _)|refine sv ?_|(refine sc ?_ ?_<;>(intro h;try first|exact h.elim|exact absurd rfl h|(exfalso;omega)))|(refine sg ?_ ?_<;>(intro h;(fail_if_success (have:True:=h));try first|exact h.elim|exact absurd rfl h|(exfalso;omega)))|assumption|exact xm|exact rfl))
  ((with_reducible first|apply zh|apply zc);exact rx)
  exact ⟨hkeep,.inl (by rw [List.length_map];unfold rowsL;rw [<-hlast];exact hJ)⟩
 ·have hl:r.1.1+(k:Int)<=r.1.2:=by omega
  have hE':∀ E':Env,PvL.look E' 0=some (.func (.yield l) [] [])->PvL.look E' 1=some (.ptr (some (p,0)))->PvL.look E' 3=some (I (r.1.1+(k:Int)+1))->Has E' [(0,.func (.yield l) [] []),(1,.ptr (some (p,0))),(3,I (r.1.1+((k+1:Nat):Int)))]:=fun E' h0 h1 h3 =>
   .cons h0 (.cons h1 (.cons (by rw [h3,Int.natCast_add,Int.add_assoc];rfl) .nil))
  by_cases hok:okRow (rowOf r (r.1.1+(k:Int)))=true
  ·have hx:((rowsL r).map fun t=>[rowv t])[(rowsK r k).length]?=some [rowv (rowOf r (r.1.1+(k:Int)))]:=by
    rw [List.getElem?_map];unfold rowsL;rw [zf7 r (by omega) hok];rfl
   have hs:(rowsK r (k+1)).length=(rowsK r k).length+1:=by rw [z4u,if_pos hok,List.length_append];rfl
   have hok':iMax (iMax r.2.1.1 (r.2.2.1.1 - (r.1.1+(k:Int)))) (r.1.1+(k:Int) - r.2.2.2.2)<=iMin (iMin r.2.1.2 (r.2.2.1.2 - (r.1.1+(k:Int)))) (r.1.1+(k:Int) - r.2.2.2.1):=of_decide_eq_true hok
   (repeat' (first|(with_reducible intro _)|refine sv ?_|(refine sc ?_ ?_<;>(intro h;try first|exact h.elim|exact absurd rfl h|(exfalso;omega)))|((with_reducible first|apply z0t|apply z1q|apply z1e);exact gd;exact rfl;exact rfl;(first|exact step _ _ hx _ (by omega) (hJ' _ (xg))))|(refine sg ?_ ?_<;>(intro h;(fail_if_success (have:True:=h));try first|exact h.elim|exact absurd rfl h|(exfalso;omega)))|assumption|exact xm|exact rfl))
   obtain ⟨hk2,⟨rfl,hJ2⟩|⟨rfl,hD⟩⟩:=‹Keep A _ _ /\ _›
   ·have:=hk2.le
    (repeat' (first|(with_reducible intro _)|refine sv ?_|(refine sc ?_ ?_<;>(intro h;try first|exact h.elim|exact absurd rfl h|(exfalso;omega)))|(refine sg ?_ ?_<;>(intro h;(fail_if_success (have:True:=h));try first|exact h.elim|exact absurd rfl h|(exfalso;omega)))|assumption|exact xm|exact rfl))
    refine z1h (rowsN r - (k+1)) (by omega) ⟨k+1,rfl,by omega,rfl,hE' _ rfl rfl rfl,Keep.trans (xk) hk2 (fun i hi=>.inl hi),by rw [hs];exact hJ2⟩
   ·have:=hk2.le
    (repeat' (first|(with_reducible intro _)|refine sv ?_|(refine sc ?_ ?_<;>(intro h;try first|exact h.elim|exact absurd rfl h|(exfalso;omega)))|(refine sg ?_ ?_<;>(intro h;(fail_if_success (have:True:=h));try first|exact h.elim|exact absurd rfl h|(exfalso;omega)))|assumption|exact xm|exact rfl))
    ((with_reducible first|apply zh|apply zc);exact rx)
    exact ⟨Keep.trans (xk) hk2 (fun i hi=>.inl hi),.inr hD⟩
  ·have hs:rowsK r (k+1)=rowsK r k:=by rw [z4u,if_neg hok,List.append_nil]
   have hok':iMin (iMin r.2.1.2 (r.2.2.1.2 - (r.1.1+(k:Int)))) (r.1.1+(k:Int) - r.2.2.2.1) < iMax (iMax r.2.1.1 (r.2.2.1.1 - (r.1.1+(k:Int)))) (r.1.1+(k:Int) - r.2.2.2.2):=by
    have:¬ _:=fun h=>hok (decide_eq_true h)
    exact Int.not_le.1 this
   (repeat' (first|(with_reducible intro _)|refine sv ?_|(refine sc ?_ ?_<;>(intro h;try first|exact h.elim|exact absurd rfl h|(exfalso;omega)))|(refine sg ?_ ?_<;>(intro h;(fail_if_success (have:True:=h));try first|exact h.elim|exact absurd rfl h|(exfalso;omega)))|assumption|exact xm|exact rfl))
   refine z1h (rowsN r - (k+1)) (by omega) ⟨k+1,rfl,by omega,rfl,hE' _ rfl rfl rfl,xk,by rw [hs];exact hJ' _ (xg)⟩
abbrev rowsV (p:Nat):LV:=.func (.func 125) [] [.ptr (some (p,0))]
abbrev endsV (p:Nat):LV:=.func (.func 99) [] [.ptr (some (p,0))]
theorem zkw (r:Rg) (M:Mem):CallOk Tryz.prog 100 [rgv r] M (MkAt rowsV (.cells true (rgc r) 80) M):=by
 refine zg k100 rfl ?_
 dsimp only [x100,zipE,Nat.reduceAdd]
 (repeat' (first|(with_reducible intro _)|refine sv ?_|(refine sc ?_ ?_<;>(intro h;try first|exact h.elim|exact absurd rfl h|(exfalso;omega)))|(refine sg ?_ ?_<;>(intro h;(fail_if_success (have:True:=h));try first|exact h.elim|exact absurd rfl h|(exfalso;omega)))|assumption|exact xm|exact rfl))
 ((with_reducible first|apply zh|apply zc);exact rx)
 exact ⟨_,rfl,xm,by omega,by omega,xg⟩
theorem zko (r:Rg) (M:Mem):CallOk Tryz.prog 78 [rgv r] M (MkAt endsV (.cells true (rgc r) 80) M):=by
 refine zg k78 rfl ?_
 dsimp only [x78,zipE,Nat.reduceAdd]
 (repeat' (first|(with_reducible intro _)|refine sv ?_|(refine sc ?_ ?_<;>(intro h;try first|exact h.elim|exact absurd rfl h|(exfalso;omega)))|(refine sg ?_ ?_<;>(intro h;(fail_if_success (have:True:=h));try first|exact h.elim|exact absurd rfl h|(exfalso;omega)))|assumption|exact xm|exact rfl))
 ((with_reducible first|apply zh|apply zc);exact rx)
 exact ⟨_,rfl,xm,by omega,by omega,xg⟩
set_option maxHeartbeats 4000000 in
theorem zmu (r:Rg) (hr:Sm 10000000 r) {p:Nat} {own:Bool} {ty:TypeId} {M0:Mem} (hp:At M0 p (.cells own (rgc r) ty)) :
  PvL.Yields Tryz.prog 99 [] [.ptr (some (p,0))] (fun i=>i=p) ((endsL r).map fun q=>[ptv q]) M0:=by
 intro l A J D hA hS stab stabD step h0
 have hpA:¬ A p:=hS p rfl
 refine zg k99 rfl ?_
 dsimp only [x99,zipE,Nat.reduceAdd,List.nil_append,List.cons_append]
 (repeat' (first|(with_reducible intro _)|refine sv ?_|(refine sc ?_ ?_<;>(intro h;try first|exact h.elim|exact absurd rfl h|(exfalso;omega)))|((with_reducible first|apply zi4|apply zhq);exact gd;exact rfl;exact rfl;(first|exact zkw r _))|(refine sg ?_ ?_<;>(intro h;(fail_if_success (have:True:=h));try first|exact h.elim|exact absurd rfl h|(exfalso;omega)))|assumption|exact xm|exact rfl))
 rename_i n1 Ma hn1 e1 e2 p2 Mb hp2 e3 e3' hg2 hgl
 apply zi3
 exact rfl
 intro lb d l2 M1 M2 hlb hd e4 e5 hl e6 e7
 have ed:At M2 d .defr:=At.new_old hl (At.new_same hd)
 have el:At M2 l2 (lb .ready none):=At.new_same hl
 have hp2':At M2 p2 (.cells true (rgc r) 80):=At.new_old hl (At.new_old hd hp2)
 have hy:At M2 n1 (.cells true [.func (.yield l) [] []] _):=At.new_old hl (At.new_old hd (At.grow hg2 (At.new_same hn1)))
 have hJ0:J 0 M2:=stab _ _ _ h0 (by omega) fun i hi=>by
  rw [hl.grow.old i (by omega),hd.grow.old i (by omega),hg2.old i (by omega),hn1.grow.old i (by omega)]
 refine (zmv r hr hp2' l2 (fun i=>A i ∨ i=l2 ∨ i=n1 ∨ i=d)
  (fun k M=>J (endsOf ((rowsL r).take k)).length M /\ At M l2 (lb .ready none) /\ At M n1 (.cells true [.func (.yield l) [] []] _) /\ At M d .defr)
  (fun M=>D M /\ At M l2 (lb .done (some .ret)) /\ At M d .defr) ?_ ?_ ?_ ?_ ?_ ⟨hJ0,el,hy,ed⟩).mono ?_
 ·rintro i (hi|rfl|rfl|rfl)
  ·have:=hA i hi;omega
  all_goals omega
 ·rintro i rfl (hi|hi|hi|hi)
  ·have:=hA _ hi;omega
  all_goals omega
 ·rintro k M M' ⟨h1,h2,h3,h4⟩ hle hA'
  exact ⟨stab _ _ _ h1 hle fun i hi=>hA' i (by omega),h2.same hle (hA' _ (by omega)),h3.same hle (hA' _ (by omega)),h4.same hle (hA' _ (by omega))⟩
 ·rintro M M' ⟨h1,h2,h3⟩ hle hA'
  exact ⟨stabD _ _ h1 hle fun i hi=>hA' i (by omega),h2.same hle (hA' _ (by omega)),h3.same hle (hA' _ (by omega))⟩
 ·rintro k x hx M hle ⟨h1,h2,h3,h4⟩
  rw [List.getElem?_map] at hx
  obtain ⟨t,ht,rfl⟩:=Option.map_eq_some_iff.1 hx
  refine zc0 hlb h2 rfl ?_
  dsimp only [zipP]
  have hgA:∀ M',Keep (fun i=>i=l2) M M'->∀ i,i < M0.next->M'.get i=M.get i:=fun M' hg i hi=>hg.old i (by omega) (by intro e;omega)
  have hJ':∀ M',Keep (fun i=>i=l2) M M'->J (endsOf ((rowsL r).take k)).length M':=fun M' hg=>stab _ _ _ h1 hg.le (hgA M' hg)
  have hsp:=z9c (rowsL r) ht
  have hsu:=zah (rowsL r) ht
  have hx1:((endsL r).map fun q=>[ptv q])[(endsOf ((rowsL r).take k)).length]?=some [ptv (t.1,t.2.1)]:=by
   rw [List.getElem?_map];unfold endsL;rw [hsp,List.getElem?_append_right (Nat.le_refl _),Nat.sub_self]
   unfold ends1
   split<;>rfl
  (repeat' (first|(with_reducible intro _)|refine sv ?_|(refine sc ?_ ?_<;>(intro h;try first|exact h.elim|exact absurd rfl h|(exfalso;omega)))|((with_reducible first|apply z0t|apply z1q|apply z1e);exact gd;exact rfl;exact rfl;(first|exact step _ _ hx1 _ (by omega) (hJ' _ (xk))))|(refine sg ?_ ?_<;>(intro h;(fail_if_success (have:True:=h));try first|exact h.elim|exact absurd rfl h|(exfalso;omega)))|assumption|exact xm|exact rfl))
  rename_i w4 M4 hq4
  obtain ⟨hk4,hq4⟩:=hq4
  have hKM4:Keep (fun i=>A i ∨ i=l2 ∨ i=n1 ∨ i=d) M M4:=Keep.trans (xk) hk4 (fun i hi=>.inl (.inl hi))
  have hle4:=hk4.le
  have hkw:=hk4.weaken hA
  clear hk4
  rcases hq4 with ⟨rfl,hJ4⟩|⟨rfl,hD4⟩
  ·have hJ4':∀ M',Keep (fun i=>i=l2) M4 M'->J ((endsOf ((rowsL r).take k)).length+1) M':=fun M' hg=>stab _ _ _ hJ4 hg.le fun i hi=>hg.old i (by omega) (by intro e;omega)
   by_cases hte:t.2.1=t.2.2
   ·have he:ends1 t=[(t.1,t.2.1)]:=if_pos hte
    have hlen:(endsOf ((rowsL r).take (k+1))).length=(endsOf ((rowsL r).take k)).length+1:=by rw [hsu,List.length_append,he];rfl
    (repeat' (first|(with_reducible intro _)|refine sv ?_|(refine sc ?_ ?_<;>(intro h;try first|exact h.elim|exact absurd rfl h|(exfalso;omega)))|(refine sg ?_ ?_<;>(intro h;(fail_if_success (have:True:=h));try first|exact h.elim|exact absurd rfl h|(exfalso;omega)))|assumption|exact xm|exact rfl))
    exact ⟨xk,.inl ⟨rfl,by rw [hlen];exact hJ4' _ (xk),xm,xm,xm⟩⟩
   ·have he:ends1 t=[(t.1,t.2.1),(t.1,t.2.2)]:=if_neg hte
    have hlen:(endsOf ((rowsL r).take (k+1))).length=(endsOf ((rowsL r).take k)).length+1+1:=by rw [hsu,List.length_append,he];rfl
    have hx2:((endsL r).map fun q=>[ptv q])[(endsOf ((rowsL r).take k)).length+1]?=some [ptv (t.1,t.2.2)]:=by
     rw [List.getElem?_map];unfold endsL;rw [hsp,List.getElem?_append_right (by omega),Nat.add_sub_cancel_left,he];rfl
    (repeat' (first|(with_reducible intro _)|refine sv ?_|(refine sc ?_ ?_<;>(intro h;try first|exact h.elim|exact absurd rfl h|(exfalso;omega)))|((with_reducible first|apply z0t|apply z1q|apply z1e);exact gd;exact rfl;exact rfl;(first|exact step _ _ hx2 _ (by omega) hJ4))|(refine sg ?_ ?_<;>(intro h;(fail_if_success (have:True:=h));try first|exact h.elim|exact absurd rfl h|(exfalso;omega)))|assumption|exact xm|exact rfl))
    rename_i w5 M5 hq5
    obtain ⟨hk5,hq5⟩:=hq5
    have hKM5:Keep (fun i=>A i ∨ i=l2 ∨ i=n1 ∨ i=d) M M5:=Keep.trans (xk) hk5 (fun i hi=>.inl (.inl hi))
    have hle5:=hk5.le
    have hkw5:=hk5.weaken hA
    clear hk5
    rcases hq5 with ⟨rfl,hJ5⟩|⟨rfl,hD5⟩
    ·have hJ5':∀ M',Keep (fun i=>i=l2) M5 M'->J ((endsOf ((rowsL r).take k)).length+1+1) M':=fun M' hg=>stab _ _ _ hJ5 hg.le fun i hi=>hg.old i (by omega) (by intro e;omega)
     (repeat' (first|(with_reducible intro _)|refine sv ?_|(refine sc ?_ ?_<;>(intro h;try first|exact h.elim|exact absurd rfl h|(exfalso;omega)))|(refine sg ?_ ?_<;>(intro h;(fail_if_success (have:True:=h));try first|exact h.elim|exact absurd rfl h|(exfalso;omega)))|assumption|exact xm|exact rfl))
     exact ⟨xk,.inl ⟨rfl,by rw [hlen];exact hJ5' _ (xk),xm,xm,xm⟩⟩
    ·have hD5':∀ M',Keep (fun i=>i=l2) M5 M'->D M':=fun M' hg=>stabD _ _ hD5 hg.le fun i hi=>hg.old i (by omega) (by intro e;omega)
     (repeat' (first|(with_reducible intro _)|refine sv ?_|(refine sc ?_ ?_<;>(intro h;try first|exact h.elim|exact absurd rfl h|(exfalso;omega)))|(refine sg ?_ ?_<;>(intro h;(fail_if_success (have:True:=h));try first|exact h.elim|exact absurd rfl h|(exfalso;omega)))|assumption|exact xm|exact rfl))
     exact ⟨xk,.inr ⟨rfl,hD5' _ (xk),xm,xm⟩⟩
  ·have hD4':∀ M',Keep (fun i=>i=l2) M4 M'->D M':=fun M' hg=>stabD _ _ hD4 hg.le fun i hi=>hg.old i (by omega) (by intro e;omega)
   (repeat' (first|(with_reducible intro _)|refine sv ?_|(refine sc ?_ ?_<;>(intro h;try first|exact h.elim|exact absurd rfl h|(exfalso;omega)))|(refine sg ?_ ?_<;>(intro h;(fail_if_success (have:True:=h));try first|exact h.elim|exact absurd rfl h|(exfalso;omega)))|assumption|exact xm|exact rfl))
   exact ⟨xk,.inr ⟨rfl,hD4' _ (xk),xm,xm⟩⟩
 ·rintro v M3 ⟨hk,hq⟩
  have hK3:Keep A M0 M3:=Keep.trans (xk) hk (by rintro i (hi|rfl|rfl|rfl)<;>first|exact .inl hi|exact .inr (by omega))
  have hle3:=hk.le
  clear hk
  have hst:∀ M',Keep (fun i=>i=l2 ∨ i=d) M3 M'->∀ i,i < M0.next->M'.get i=M3.get i:=fun M' hg i hi=>hg.old i (by omega) (by rintro (e|e)<;>omega)
  rcases hq with ⟨h1,h2,h3,h4⟩|⟨h1,h2,h4⟩
  ·refine zhv h2 (by simp) fun M4 hu e8 a8=>?_
   (repeat' (first|(with_reducible intro _)|refine sv ?_|(refine sc ?_ ?_<;>(intro h;try first|exact h.elim|exact absurd rfl h|(exfalso;omega)))|(refine sg ?_ ?_<;>(intro h;(fail_if_success (have:True:=h));try first|exact h.elim|exact absurd rfl h|(exfalso;omega)))|assumption|exact xm|exact rfl))
   refine z65 (.inl rfl) (by simp) (by intro q hq;obtain rfl:=List.mem_singleton.1 hq;exact xm) fun M5 hm=>⟨_,.nil,?_⟩
   have hK5:Keep A M0 M5:=Keep.unmark (xk) hm (by intro q hq;obtain rfl:=List.mem_singleton.1 hq;right;omega)
   refine ⟨hK5,.inl ?_⟩
   rw [List.length_map]
   rw [show (endsL r).length=(endsOf ((rowsL r).take ((rowsL r).map fun t=>[rowv t]).length)).length by rw [List.length_map,List.take_length];rfl]
   exact stab _ _ _ h1 (by rw [hm.next];omega) (hst _ (Keep.unmark (xk) hm (by intro q hq;obtain rfl:=List.mem_singleton.1 hq;exact .inl (.inr rfl))))
  ·refine zct h2 (by simp) fun M4 hu e8 a8=>?_
   (repeat' (first|(with_reducible intro _)|refine sv ?_|(refine sc ?_ ?_<;>(intro h;try first|exact h.elim|exact absurd rfl h|(exfalso;omega)))|(refine sg ?_ ?_<;>(intro h;(fail_if_success (have:True:=h));try first|exact h.elim|exact absurd rfl h|(exfalso;omega)))|assumption|exact xm|exact rfl))
   refine z65 (.inr rfl) (by simp) (by intro q hq;obtain rfl:=List.mem_singleton.1 hq;exact xm) fun M5 hm=>⟨_,.nil,?_⟩
   have hK5:Keep A M0 M5:=Keep.unmark (xk) hm (by intro q hq;obtain rfl:=List.mem_singleton.1 hq;right;omega)
   refine ⟨hK5,.inr ?_⟩
   exact stabD _ _ h1 (by rw [hm.next];omega) (hst _ (Keep.unmark (xk) hm (by intro q hq;obtain rfl:=List.mem_singleton.1 hq;exact .inl (.inr rfl))))
structure Gv where
 gf:FuncId
 ca:List LV
 S:Nat->Prop
 pts:List (Int × Int)
abbrev Gv.lv (g:Gv):LV:=.func (.func g.gf) [] g.ca
theorem z85:∀ ds:List Nat,dnat (ds.map .mark)=ds
 | []=>rfl
 | d :: ds=>by show d :: dnat (ds.map .mark)=_;rw [z85 ds]
theorem zev:∀ ds:List Nat,onlyMarks (ds.map .mark)=true
 | []=>rfl
 | d :: ds=>zev ds
set_option maxHeartbeats 4000000 in
theorem zhm (gs:List Gv) {s o:Nat} {f:Bool} {e:Nat} {M0:Mem} (hs:∀ k (hk:k < gs.length),Rd1 M0 s (o+k*1) gs[k].lv) (hsz:gs.length<=1000000)
  (hy:∀ g ∈ gs,∀ M',Grow M0 M'->PvL.Yields Tryz.prog g.gf [] g.ca g.S (g.pts.map fun p=>[ptv p]) M') (hS:∀ g ∈ gs,∀ i,g.S i->i < M0.next) (hp:∀ g ∈ gs,∀ p ∈ g.pts,SmP 1000000 p) :
  CallOk Tryz.prog 40 [.slice (some (s,o)) gs.length f e] M0 (fun w M'=>w=.tup [rgv ((hullO none (gs.flatMap (·.pts))).getD zRg),.bool (hullO none (gs.flatMap (·.pts))).isSome] /\ Grow M0 M'):=by
 refine zg k40 rfl ?_
 dsimp only [x40,zipE,Nat.reduceAdd]
 (repeat' (first|(with_reducible intro _)|refine sv ?_|(refine sc ?_ ?_<;>(intro h;try first|exact h.elim|exact absurd rfl h|(exfalso;omega)))|(refine sg ?_ ?_<;>(intro h;(fail_if_success (have:True:=h));try first|exact h.elim|exact absurd rfl h|(exfalso;omega)))|assumption|exact xm|exact rfl))
 rename_i n2 M1 hn2 e1 e2 n3 M2 hn3 e3 e4
 refine zx (fun n E ms M=>∃ (k:Nat) (ds:List Nat),n=gs.length - k /\ k<=gs.length /\ ms=ds.map .mark /\ ds.Nodup /\ (∀ d ∈ ds,At M d .defr /\ M2.next<=d) /\
   Has E [(2,.ptr (some (n2,0))),(3,.ptr (some (n3,0))),(7,.slice (some (s,o)) gs.length f e),(8,I gs.length),(9,I k)] /\ Grow M0 M /\ M2.next<=M.next /\
   At M n2 (.cells true (rgc ((hullO none ((gs.take k).flatMap (·.pts))).getD zRg)) 80) /\ At M n3 (.cells true [.bool (hullO none ((gs.take k).flatMap (·.pts))).isSome] 4))
  ?_ gs.length _ _ _ ⟨0,[],by omega,by omega,rfl,List.nodup_nil,fun d hd=>(by cases hd),.cons rfl (.cons rfl (.cons rfl (.cons rfl (.cons rfl .nil)))),xg,by omega,xm,xm⟩
 rintro n E _ M ⟨k,ds,rfl,hk,rfl,hnd,hms,hE,hg,hle,hA2,hA3⟩
 refine z3l hE ?_
 by_cases hlast:k=gs.length
 ·subst hlast
  (repeat' (first|(with_reducible intro _)|refine sv ?_|(refine sc ?_ ?_<;>(intro h;try first|exact h.elim|exact absurd rfl h|(exfalso;omega)))|(refine sg ?_ ?_<;>(intro h;(fail_if_success (have:True:=h));try first|exact h.elim|exact absurd rfl h|(exfalso;omega)))|assumption|exact xm|exact rfl))
  rename_i M5 _ _ _ M6 _ _ _
  refine z65 (.inr rfl) (by rw [z85];exact hnd) (by rw [z85];intro d hd;obtain ⟨h1,h2⟩:=hms d hd;exact xm) (fun M7 hm=>?_) (zev ds)
  rw [z85] at hm
  have hn2':n2 ∉ ds:=fun h=>by have:=(hms _ h).2;omega
  have hn3':n3 ∉ ds:=fun h=>by have:=(hms _ h).2;omega
  have a2:At M6 n2 (.cells true (rgc ((hullO none ((gs.take gs.length).flatMap (·.pts))).getD zRg)) 80):=xm
  have a3:At M6 n3 (.cells true [.bool (hullO none ((gs.take gs.length).flatMap (·.pts))).isSome] 4):=xm
  refine ⟨_,.cellN rfl (Rd.of_at (a2.unmark hm hn2') rfl).1 (.cell1 rfl (Rd1.of_at (a3.unmark hm hn3') rfl).1 .nil),?_,Grow.unmark (xg) hm (fun d hd=>by have:=(hms d hd).2;omega)⟩
  rw [List.take_length];rfl
 ·have hlt:k < gs.length:=by omega
  have hmem:gs[k] ∈ gs:=List.getElem_mem hlt
  have htake:(gs.take (k+1)).flatMap (·.pts)=(gs.take k).flatMap (·.pts) ++ gs[k].pts:=by rw [List.take_succ_eq_append_getElem hlt,List.flatMap_append];simp
  (have hrd0:=hs k hlt;repeat' (first|(with_reducible intro _)|refine sv ?_|(refine sc ?_ ?_<;>(intro h;try first|exact h.elim|exact absurd rfl h|(exfalso;omega)))|(refine sg ?_ ?_<;>(intro h;(fail_if_success (have:True:=h));try first|exact h.elim|exact absurd rfl h|(exfalso;omega)))|assumption|exact xm|exact rfl))
  apply zi3
  exact rfl
  intro lb d l M3 M4 hlb hd e5 e6 hl e7 e8
  have hdef:∀ d' ∈ d :: ds,At M4 d' .defr /\ M2.next<=d' /\ d' < l:=fun d' hd'=>by
   rcases List.mem_cons.1 hd' with rfl|hd'
   ·exact ⟨At.new_old hl (At.new_same hd),by omega,by omega⟩
   ·obtain ⟨h1,h2⟩:=hms d' hd'
    have:=h1.lt
    exact ⟨At.new_old hl (At.new_old hd h1),h2,by omega⟩
  have hnd':(d :: ds).Nodup:=List.nodup_cons.2 ⟨fun h=>by have:=(hms d h).1.lt;omega,hnd⟩
  refine (hy gs[k] hmem M4 (xg) l (fun i=>M0.next<=i /\ i < M4.next)
   (fun q M=>At M n2 (.cells true (rgc ((hullO (hullO none ((gs.take k).flatMap (·.pts))) (gs[k].pts.take q)).getD zRg)) 80) /\ At M n3 (.cells true [.bool (hullO (hullO none ((gs.take k).flatMap (·.pts))) (gs[k].pts.take q)).isSome] 4) /\ At M l (lb .ready none) /\ ∀ d' ∈ d :: ds,At M d' .defr)
   (fun _=>False) ?_ ?_ ?_ ?_ ?_ ⟨xm,xm,xm,fun d' hd'=>(hdef d' hd').1⟩).mono ?_
  ·rintro i ⟨h1,h2⟩;exact h2
  ·intro i hi h
   have:=hS gs[k] hmem i hi
   omega
  ·rintro q M M' ⟨h1,h2,h3,h4⟩ hle' hA'
   exact ⟨h1.same hle' (hA' _ (by omega)),h2.same hle' (hA' _ (by omega)),h3.same hle' (hA' _ (by omega)),fun d' hd'=>(h4 d' hd').same hle' (hA' _ (by have:=(hdef d' hd').2.2;omega))⟩
  ·intro M M' h;exact h.elim
  ·rintro q x hx M' hle' ⟨h1,h2,h3,h4⟩
   rw [List.getElem?_map] at hx
   obtain ⟨p,hpq,rfl⟩:=Option.map_eq_some_iff.1 hx
   have hsm:SmP 1000000 p:=hp gs[k] hmem p (List.mem_of_getElem? hpq)
   have hsu:=zcq (hullO none ((gs.take k).flatMap (·.pts))) gs[k].pts hpq
   rw [hsu]
   generalize hullO (hullO none ((gs.take k).flatMap (·.pts))) (gs[k].pts.take q)=oq at *
   unfold SmP at hsm
   refine zc0 hlb h3 rfl ?_
   dsimp only [zipP]
   cases oq with
   | none =>
    (repeat' (first|(with_reducible intro _)|refine sv ?_|(refine sc ?_ ?_<;>(intro h;try first|exact h.elim|exact absurd rfl h|(exfalso;omega)))|((with_reducible first|apply zn|apply zm|apply zi);exact gd;exact rfl;exact rfl;(first|exact c_of p (by omega) _|exact z2b (ofP p) (ofP p) _))|(refine sg ?_ ?_<;>(intro h;(fail_if_success (have:True:=h));try first|exact h.elim|exact absurd rfl h|(exfalso;omega)))|assumption|exact xm|exact rfl))
    exact ⟨xk,.inl ⟨rfl,xm,xm,xm,fun d' hd'=>by have hq:=h4 d' hd';obtain ⟨_,q1,q2⟩:=hdef d' hd';exact xm⟩⟩
   | some r =>
    (repeat' (first|(with_reducible intro _)|refine sv ?_|(refine sc ?_ ?_<;>(intro h;try first|exact h.elim|exact absurd rfl h|(exfalso;omega)))|((with_reducible first|apply zn|apply zm|apply zi);exact gd;exact rfl;exact rfl;(first|exact c_of p (by omega) _|exact z2b r (ofP p) _))|(refine sg ?_ ?_<;>(intro h;(fail_if_success (have:True:=h));try first|exact h.elim|exact absurd rfl h|(exfalso;omega)))|assumption|exact xm|exact rfl))
    exact ⟨xk,.inl ⟨rfl,xm,xm,xm,fun d' hd'=>by have hq:=h4 d' hd';obtain ⟨_,q1,q2⟩:=hdef d' hd';exact xm⟩⟩
  ·rintro v M5 ⟨hk5,⟨h1,h2,h3,h4⟩|h⟩
   ·have hg5:Grow M0 M5:=(Grow.to_keep (xg) (fun _=>False) |>.trans hk5 (fun i hi=>.inr hi.1)).to_grow (fun i hi=>hi.elim)
    have hle5:=hk5.le
    have hfold:hullO none ((gs.take (k+1)).flatMap (·.pts))=hullO (hullO none ((gs.take k).flatMap (·.pts))) (gs[k].pts.take (gs[k].pts.map fun p=>[ptv p]).length):=by
     rw [htake,List.length_map,List.take_length];unfold hullO;rw [List.foldl_append]
    clear hk5
    refine zhv h3 (by simp) fun M6 hu e9 a9=>?_
    (repeat' (first|(with_reducible intro _)|refine sv ?_|(refine sc ?_ ?_<;>(intro h;try first|exact h.elim|exact absurd rfl h|(exfalso;omega)))|(refine sg ?_ ?_<;>(intro h;(fail_if_success (have:True:=h));try first|exact h.elim|exact absurd rfl h|(exfalso;omega)))|assumption|exact xm|exact rfl))
    refine z1h (gs.length - (k+1)) (by omega) ⟨k+1,d :: ds,rfl,by omega,rfl,hnd',fun d' hd'=>⟨by have hq:=h4 d' hd';obtain ⟨_,q1,q2⟩:=hdef d' hd';exact xm,(hdef d' hd').2.1⟩,.cons rfl (.cons rfl (.cons rfl (.cons rfl (.cons rfl .nil)))),xg,by omega,?_,?_⟩
    ·rw [hfold];exact xm
    ·rw [hfold];exact xm
   ·exact h.elim
theorem zik (r:Rg) (hr:Sm 500000 r) {p:Nat} {own:Bool} {ty:TypeId} {s:Nat} {f:Bool} {e:Nat} {M0:Mem} (hp:At M0 p (.cells own (rgc r) ty)) (hs:Rd1 M0 s 0 (endsV p)) :
  CallOk Tryz.prog 40 [.slice (some (s,0)) 1 f e] M0 (fun w M'=>w=.tup [rgv ((tightO r).getD zRg),.bool (tightO r).isSome] /\ Grow M0 M'):=by
 have h:=zhm [⟨99,[.ptr (some (p,0))],(fun i=>i=p),endsL r⟩] (s:=s) (o:=0) (f:=f) (e:=e) (M0:=M0)
  (fun k hk=>by obtain rfl:k=0:=by simpa using hk
                exact hs) (by simp)
  (fun g hg M' hM=>by obtain rfl:=List.mem_singleton.1 hg;exact zmu r (hr.mono (by omega)) (At.grow hM hp))
  (fun g hg i hi=>by obtain rfl:=List.mem_singleton.1 hg;obtain rfl:i=p:=hi;exact hp.2)
  (fun g hg q hq=>by obtain rfl:=List.mem_singleton.1 hg;exact (zdz hr hq).mono (by omega))
 rw [show List.flatMap (fun x:Gv=>x.pts) [⟨99,[.ptr (some (p,0))],(fun i=>i=p),endsL r⟩]=endsL r by simp] at h
 exact h
theorem zdq (r:Rg) (hr:Sm 500000 r) (M:Mem):CallOk Tryz.prog 46 [rgv r] M (fun w M'=>w=.tup [rgv ((tightO r).getD zRg),I (eTi r)] /\ Grow M M'):=by
 refine zg k46 rfl ?_
 dsimp only [x46,zipE,Nat.reduceAdd]
 (repeat' (first|(with_reducible intro _)|refine sv ?_|(refine sc ?_ ?_<;>(intro h;try first|exact h.elim|exact absurd rfl h|(exfalso;omega)))|((with_reducible first|apply zn|apply zm|apply zi);exact gd;exact rfl;exact rfl;(first|exact zik r hr (xm) (Rd1.of_at (At.new_same (by assumption)) rfl)))|((with_reducible first|apply zi4|apply zhq);exact gd;exact rfl;exact rfl;(first|exact zko r _))|(refine sg ?_ ?_<;>(intro h;(fail_if_success (have:True:=h));try first|exact h.elim|exact absurd rfl h|(exfalso;omega)))|assumption|exact xm|exact rfl))
 all_goals ((with_reducible first|apply zh|apply zc);exact rx)
 all_goals refine ⟨?_,xg⟩
 all_goals (unfold eTi;cases ht:tightO r<;>first|rfl|(simp [ht] at *;done))
theorem zg4 (r:Rg) (M:Mem):CallOk Tryz.prog 47 [rgv r] M (fun w M'=>w=resv (insideF r) /\ Grow M M'):=by
 refine zg k47 rfl ?_
 dsimp only [x47,zipE,Nat.reduceAdd]
 (repeat' (first|(with_reducible intro _)|refine sv ?_|(refine sc ?_ ?_<;>(intro h;try first|exact h.elim|exact absurd rfl h|(exfalso;omega)))|((with_reducible first|apply zn|apply zm|apply zi);exact gd;exact rfl;exact rfl;(first|exact zbg r _|exact zhl _ _ _ (by omega) _))|(refine sg ?_ ?_<;>(intro h;(fail_if_success (have:True:=h));try first|exact h.elim|exact absurd rfl h|(exfalso;omega)))|assumption|exact xm|exact rfl))
 all_goals ((with_reducible first|apply zh|apply zc);exact rx)
 all_goals refine ⟨?_,xg⟩
 all_goals (unfold insideF;first|(rw [if_neg (by omega)];rfl)|(rw [if_pos (by omega)];rfl))
end Go.Proofs.YtegiepfebnaebaaGreatDoor.C
end
section
open Go PvL Go.Proofs
set_option linter.unusedSimpArgs false
set_option linter.unusedVariables false
set_option maxHeartbeats 4000000
namespace Go.Proofs.YtegiepfebnaebaaGreatDoor.C
theorem zam {l n:Int} (h:-l<=n /\ n<=l):iMax (-l) (iMin n l)=n:=by unfold iMax iMin;omega
theorem zbo {l n:Int} (hl:0<=l) (h:¬ (-l<=n /\ n<=l)):iMax (-l) (iMin n l) ≠ n:=by unfold iMax iMin;omega
theorem zki (r:Rg) (p:Int × Int) (M:Mem):CallOk Tryz.prog 16 [rgv r,ptv p] M (fun w M'=>w=resv (moveF r p) /\ Grow M M'):=by
 refine zg k16 rfl ?_
 dsimp only [x16,zipE,Nat.reduceAdd]
 by_cases hok:RgOk r
 ·have hc:eRg r=0:=if_pos hok
  by_cases hp:SmP 65536 p
  ·have hsof:Sm 1000000 (ofP p):=by unfold Sm ofP;dsimp only;omega
   have h1:=zam hp.1
   have h2:=zam hp.2
   cases ht:tightO r with
   | none =>
    have he:eTi r=4:=by unfold eTi;rw [ht];rfl
    (repeat' (first|(with_reducible intro _)|refine sv ?_|(refine sc ?_ ?_<;>(intro h;try first|exact h.elim|exact absurd rfl h|(exfalso;omega)))|((with_reducible first|apply z05|apply z04|apply zt);exact gd;exact rfl;exact rfl;(first|exact z80 _ _ (by omega) _))|((with_reducible first|apply zn|apply zm|apply zi);exact gd;exact rfl;exact rfl;(first|exact z5q r _|exact z7y r _|exact zdq r (hok.sm.mono (by omega)) _))|(refine sg ?_ ?_<;>(intro h;(fail_if_success (have:True:=h));try first|exact h.elim|exact absurd rfl h|(exfalso;omega)))|assumption|exact xm|exact rfl))
    all_goals ((with_reducible first|apply zh|apply zc);exact rx)
    all_goals refine ⟨?_,xg⟩
    all_goals (unfold moveF;rw [if_pos hok,if_pos hp,ht,he];rfl)
   | some t =>
    have he:eTi r=0:=by unfold eTi;rw [ht];rfl
    have hs:=zh9 hok.sm
    (repeat' (first|(with_reducible intro _)|refine sv ?_|(refine sc ?_ ?_<;>(intro h;try first|exact h.elim|exact absurd rfl h|(exfalso;omega)))|((with_reducible first|apply z05|apply z04|apply zt);exact gd;exact rfl;exact rfl;(first|exact z80 _ _ (by omega) _))|((with_reducible first|apply zn|apply zm|apply zi);exact gd;exact rfl;exact rfl;(first|exact z5q r _|exact z7y r _|exact zdq r (hok.sm.mono (by omega)) _|exact c_of p (by omega) _|exact z5r ((tightO r).getD zRg) (ofP p) (hs.mono (by omega)) hsof _|exact zg4 (map4 plusB ((tightO r).getD zRg) (ofP p)) _))|(refine sg ?_ ?_<;>(intro h;(fail_if_success (have:True:=h));try first|exact h.elim|exact absurd rfl h|(exfalso;omega)))|assumption|exact xm|exact rfl))
    all_goals ((with_reducible first|apply zh|apply zc);exact rx)
    all_goals refine ⟨?_,xg⟩
    all_goals (unfold moveF;rw [if_pos hok,if_pos hp,ht];rfl)
  ·have hz:moveF r p=(zRg,7):=by unfold moveF;rw [if_pos hok,if_neg hp]
   by_cases hx:-65536<=p.1 /\ p.1<=65536
   ·have h1:=zam hx
    have h2:=zbo (l:=65536) (n:=p.2) (by omega) (fun h=>hp ⟨hx,h⟩)
    (repeat' (first|(with_reducible intro _)|refine sv ?_|(refine sc ?_ ?_<;>(intro h;try first|exact h.elim|exact absurd rfl h|(exfalso;omega)))|((with_reducible first|apply z05|apply z04|apply zt);exact gd;exact rfl;exact rfl;(first|exact z80 _ _ (by omega) _))|((with_reducible first|apply zn|apply zm|apply zi);exact gd;exact rfl;exact rfl;(first|exact z5q r _))|(refine sg ?_ ?_<;>(intro h;(fail_if_success (have:True:=h));try first|exact h.elim|exact absurd rfl h|(exfalso;omega)))|assumption|exact xm|exact rfl))
    all_goals ((with_reducible first|apply zh|apply zc);exact rx)
    all_goals refine ⟨?_,xg⟩
    all_goals (rw [hz];rfl)
   ·have h1:=zbo (l:=65536) (n:=p.1) (by omega) hx
    (repeat' (first|(with_reducible intro _)|refine sv ?_|(refine sc ?_ ?_<;>(intro h;try first|exact h.elim|exact absurd rfl h|(exfalso;omega)))|((with_reducible first|apply z05|apply z04|apply zt);exact gd;exact rfl;exact rfl;(first|exact z80 _ _ (by omega) _))|((with_reducible first|apply zn|apply zm|apply zi);exact gd;exact rfl;exact rfl;(first|exact z5q r _))|(refine sg ?_ ?_<;>(intro h;(fail_if_success (have:True:=h));try first|exact h.elim|exact absurd rfl h|(exfalso;omega)))|assumption|exact xm|exact rfl))
    all_goals ((with_reducible first|apply zh|apply zc);exact rx)
    all_goals refine ⟨?_,xg⟩
    all_goals (rw [hz];rfl)
 ·have hc:eRg r=11:=if_neg hok
  (repeat' (first|(with_reducible intro _)|refine sv ?_|(refine sc ?_ ?_<;>(intro h;try first|exact h.elim|exact absurd rfl h|(exfalso;omega)))|((with_reducible first|apply zn|apply zm|apply zi);exact gd;exact rfl;exact rfl;(first|exact z5q r _))|(refine sg ?_ ?_<;>(intro h;(fail_if_success (have:True:=h));try first|exact h.elim|exact absurd rfl h|(exfalso;omega)))|assumption|exact xm|exact rfl))
  all_goals ((with_reducible first|apply zh|apply zc);exact rx)
  all_goals refine ⟨?_,xg⟩
  all_goals (unfold moveF;rw [if_neg hok,hc];rfl)
end Go.Proofs.YtegiepfebnaebaaGreatDoor.C
end
section
open Go PvL Go.Proofs
set_option linter.unusedSimpArgs false
set_option linter.unusedVariables false
namespace Go.Proofs.YtegiepfebnaebaaGreatDoor.C
def SlQ (M:Mem) (a:Option (Nat × Nat)) (l:List Pt):Prop:=l=[] ∨ ∃ i o,a=some (i,o) /\ ∀ k (hk:k < l.length),Rd M i (o+k*2) 2 (ptc l[k])
theorem SlQ.grow {M M':Mem} {a:Option (Nat × Nat)} {l:List Pt} (h:SlQ M a l) (hg:Grow M M'):SlQ M' a l :=
 h.imp id fun ⟨i,o,h1,h2⟩=>⟨i,o,h1,fun k hk=>(h2 k hk).grow hg⟩
theorem SlQ.rd {M:Mem} {a:Option (Nat × Nat)} {l:List Pt} (h:SlQ M a l) {k:Nat} (hk:k < l.length):∃ i o,a=some (i,o) /\ Rd M i (o+k*2) 2 (ptc l[k]):=by
 rcases h with rfl|⟨i,o,h1,h2⟩
 ·exact absurd hk (Nat.not_lt_zero _)
 ·exact ⟨i,o,h1,h2 k hk⟩
def badP (p:Pt):Bool:=!ptB p.1 p.2
theorem zmx (p:Pt) (M:Mem):CallOk Tryz.prog 39 [ptv p] M (fun w M'=>w=.bool (badP p) /\ Grow M M'):=by
 refine zg k39 rfl ?_
 dsimp only [x39,zipE,Nat.reduceAdd]
 have cp:=z51 p.1 p.2
 unfold badP
 cases hb:ptB p.1 p.2 with
 | false =>
  rw [hb] at cp
  (repeat' (first|(with_reducible intro _)|refine sv ?_|(refine sc ?_ ?_<;>(intro h;try first|exact h.elim|exact absurd rfl h|(exfalso;omega)))|((with_reducible first|apply zn|apply zm|apply zi);exact gd;exact rfl;exact rfl;(first|exact cp _))|(refine sg ?_ ?_<;>(intro h;(fail_if_success (have:True:=h));try first|exact h.elim|exact absurd rfl h|(exfalso;omega)))|assumption|exact xm|exact rfl))
  ((with_reducible first|apply zh|apply zc);exact rx)
  exact ⟨rfl,xg⟩
 | true =>
  rw [hb] at cp
  (repeat' (first|(with_reducible intro _)|refine sv ?_|(refine sc ?_ ?_<;>(intro h;try first|exact h.elim|exact absurd rfl h|(exfalso;omega)))|((with_reducible first|apply zn|apply zm|apply zi);exact gd;exact rfl;exact rfl;(first|exact cp _))|(refine sg ?_ ?_<;>(intro h;(fail_if_success (have:True:=h));try first|exact h.elim|exact absurd rfl h|(exfalso;omega)))|assumption|exact xm|exact rfl))
  ((with_reducible first|apply zh|apply zc);exact rx)
  exact ⟨rfl,xg⟩
theorem zg2 {a:Option (Nat × Nat)} {l:List Pt} {f:Bool} {e:Nat} {M:Mem} (hs:SlQ M a l) (hl:l.length<=1000000000000000) :
  CallOk Tryz.prog 75 [.slice a l.length f e,.func (.func 39) [] []] M (fun w M'=>(∃ r:Int,w=I r /\ (0<=r ↔ l.any badP=true) /\ -1<=r /\ r<=l.length) /\ Grow M M'):=by
 refine zg k75 rfl ?_
 dsimp only [x75,zipE,Nat.reduceAdd]
 (repeat' (first|(with_reducible intro _)|refine sv ?_|(refine sc ?_ ?_<;>(intro h;try first|exact h.elim|exact absurd rfl h|(exfalso;omega)))|(refine sg ?_ ?_<;>(intro h;(fail_if_success (have:True:=h));try first|exact h.elim|exact absurd rfl h|(exfalso;omega)))|assumption|exact xm|exact rfl))
 refine zx (fun m E ms M'=>∃ k:Nat,m=l.length - k /\ k<=l.length /\ ms=[] /\ Has E [(0,.slice a l.length f e),(1,.func (.func 39) [] []),(7,I l.length),(8,I k)] /\ Grow M M' /\ (l.take k).any badP=false)
  ?_ l.length _ _ _ ⟨0,by omega,by omega,rfl,.cons rfl (.cons rfl (.cons rfl (.cons rfl .nil))),Grow.refl _,rfl⟩
 rintro m E ms M1 ⟨k,rfl,hk,rfl,hE,hg1,hall⟩
 refine z3l hE ?_
 by_cases hlast:k=l.length
 ·rw [hlast,List.take_length] at hall
  rw [hlast]
  (repeat' (first|(with_reducible intro _)|refine sv ?_|(refine sc ?_ ?_<;>(intro h;try first|exact h.elim|exact absurd rfl h|(exfalso;omega)))|(refine sg ?_ ?_<;>(intro h;(fail_if_success (have:True:=h));try first|exact h.elim|exact absurd rfl h|(exfalso;omega)))|assumption|exact xm|exact rfl))
  all_goals try (exfalso;omega)
  ((with_reducible first|apply zh|apply zc);exact rx)
  exact ⟨⟨-1,rfl,by rw [hall];simp,by omega,by omega⟩,hg1⟩
 have hlt:k < l.length:=by omega
 obtain ⟨i,o,rfl,hr⟩:=(hs.grow hg1).rd hlt
 have hsu:(l.take (k+1)).any badP=((l.take k).any badP || badP l[k]):=by
  rw [List.take_succ_eq_append_getElem hlt,List.any_append];simp
 have cb:=zmx l[k]
 cases hb:badP l[k] with
 | true =>
  rw [hb] at cb
  have hany:l.any badP=true:=List.any_eq_true.2 ⟨_,List.getElem_mem hlt,hb⟩
  (have hrd0:=hr;repeat' (first|(with_reducible intro _)|refine sv ?_|(refine sc ?_ ?_<;>(intro h;try first|exact h.elim|exact absurd rfl h|(exfalso;omega)))|((with_reducible first|apply zn|apply zm|apply zi);exact gd;exact rfl;exact rfl;(first|exact cb _))|(refine sg ?_ ?_<;>(intro h;(fail_if_success (have:True:=h));try first|exact h.elim|exact absurd rfl h|(exfalso;omega)))|assumption|exact xm|exact rfl))
  all_goals try (exfalso;omega)
  ((with_reducible first|apply zh|apply zc);exact rx)
  exact ⟨⟨k,rfl,by rw [hany];simp,by omega,by omega⟩,xg⟩
 | false =>
  rw [hb] at cb
  rw [hall,hb] at hsu
  (have hrd0:=hr;repeat' (first|(with_reducible intro _)|refine sv ?_|(refine sc ?_ ?_<;>(intro h;try first|exact h.elim|exact absurd rfl h|(exfalso;omega)))|((with_reducible first|apply zn|apply zm|apply zi);exact gd;exact rfl;exact rfl;(first|exact cb _))|(refine sg ?_ ?_<;>(intro h;(fail_if_success (have:True:=h));try first|exact h.elim|exact absurd rfl h|(exfalso;omega)))|assumption|exact xm|exact rfl))
  all_goals try (exfalso;omega)
  exact z1h (l.length - (k+1)) (by omega) ⟨k+1,rfl,by omega,rfl,.cons rfl (.cons rfl (.cons rfl (.cons rfl .nil))),hg1.trans (xg),hsu⟩
theorem za9 {a:Option (Nat × Nat)} {l:List Pt} {f:Bool} {e:Nat} {M:Mem} (hs:SlQ M a l) (hl:l.length<=1000000000000000) :
  CallOk Tryz.prog 38 [.slice a l.length f e,.func (.func 39) [] []] M (fun w M'=>w=.bool (l.any badP) /\ Grow M M'):=by
 refine zg k38 rfl ?_
 dsimp only [x38,zipE,Nat.reduceAdd]
 have hc:=zg2 (f:=f) (e:=e) hs hl
 (repeat' (first|(with_reducible intro _)|refine sv ?_|(refine sc ?_ ?_<;>(intro h;try first|exact h.elim|exact absurd rfl h|(exfalso;omega)))|((with_reducible first|apply z0t|apply z1q|apply z1e);exact gd;exact rfl;exact rfl;(first|exact hc))|(refine sg ?_ ?_<;>(intro h;(fail_if_success (have:True:=h));try first|exact h.elim|exact absurd rfl h|(exfalso;omega)))|assumption|exact xm|exact rfl))
 rename_i w M1 hq
 obtain ⟨⟨r,rfl,hr,_,_⟩,hg⟩:=hq
 (repeat' (first|(with_reducible intro _)|refine sv ?_|(refine sc ?_ ?_<;>(intro h;try first|exact h.elim|exact absurd rfl h|(exfalso;omega)))|(refine sg ?_ ?_<;>(intro h;(fail_if_success (have:True:=h));try first|exact h.elim|exact absurd rfl h|(exfalso;omega)))|assumption|exact xm|exact rfl))
 ((with_reducible first|apply zh|apply zc);exact rx)
 exact ⟨congrArg LV.bool (by rw [Bool.eq_iff_iff,decide_eq_true_iff];exact hr),hg⟩
set_option maxHeartbeats 4000000 in
theorem y_of {l:List Pt} {p i o:Nat} {f:Bool} {e:Nat} {own:Bool} {ty:TypeId} {M0:Mem} (hp:At M0 p (.cells own [.slice (some (i,o)) l.length f e] ty)) (hs:∀ k (hk:k < l.length),Rd M0 i (o+k*2) 2 (ptc l[k])) (hl:l.length<=1000000) :
  PvL.Yields Tryz.prog 41 [] [.ptr (some (p,0))] (fun j=>j=p ∨ j=i) (l.map fun q=>[ptv q]) M0:=by
 intro y A J D hA hS stab stabD step h0
 have hpA:¬ A p:=hS p (.inl rfl)
 have hiA:¬ A i:=hS i (.inr rfl)
 refine zg k41 rfl ?_
 dsimp only [x41,zipE,Nat.reduceAdd,List.nil_append,List.cons_append]
 have r0:Rd1 M0 p 0 (.slice (some (i,o)) l.length f e):=Rd1.of_at hp rfl
 (have hrd0:=r0;repeat' (first|(with_reducible intro _)|refine sv ?_|(refine sc ?_ ?_<;>(intro h;try first|exact h.elim|exact absurd rfl h|(exfalso;omega)))|(refine sg ?_ ?_<;>(intro h;(fail_if_success (have:True:=h));try first|exact h.elim|exact absurd rfl h|(exfalso;omega)))|assumption|exact xm|exact rfl))
 refine zx (fun n E ms M=>∃ k:Nat,n=l.length - k /\ k<=l.length /\ ms=[] /\ Has E [(0,.func (.yield y) [] []),(5,.slice (some (i,o)) l.length f e),(6,I l.length),(7,I k)] /\ Keep A M0 M /\ J k M) ?_ l.length _ _ _ ⟨0,by omega,by omega,rfl,.cons rfl (.cons rfl (.cons rfl (.cons rfl .nil))),Keep.refl _ _,h0⟩
 rintro n E ms M ⟨k,rfl,hk,rfl,hE,hkeep,hJ⟩
 have hle:=hkeep.le
 have hJ':∀ M',Grow M M'->J k M':=fun M' hg=>stab _ _ _ hJ hg.le fun i hi=>hg.old i (Nat.lt_of_lt_of_le hi hle)
 refine z3l hE ?_
 by_cases hlast:k=l.length
 ·rw [hlast] at hJ ⊢
  (repeat' (first|(with_reducible intro _)|refine sv ?_|(refine sc ?_ ?_<;>(intro h;try first|exact h.elim|exact absurd rfl h|(exfalso;omega)))|(refine sg ?_ ?_<;>(intro h;(fail_if_success (have:True:=h));try first|exact h.elim|exact absurd rfl h|(exfalso;omega)))|assumption|exact xm|exact rfl))
  all_goals try (exfalso;omega)
  ((with_reducible first|apply zh|apply zc);exact rx)
  exact ⟨hkeep,.inl (by rw [List.length_map];exact hJ)⟩
 have hlt:k < l.length:=by omega
 have hr:Rd M i (o+k*2) 2 (ptc l[k]):=(hs k hlt).keep hkeep hiA
 have hx:(l.map fun q=>[ptv q])[k]?=some [ptv l[k]]:=by rw [List.getElem?_map,List.getElem?_eq_getElem hlt];rfl
 generalize l[k]=q at *
 (have hrd0:=hr;repeat' (first|(with_reducible intro _)|refine sv ?_|(refine sc ?_ ?_<;>(intro h;try first|exact h.elim|exact absurd rfl h|(exfalso;omega)))|((with_reducible first|apply z0t|apply z1q|apply z1e);exact gd;exact rfl;exact rfl;(first|exact step _ _ hx _ (by omega) (hJ' _ (xg))))|(refine sg ?_ ?_<;>(intro h;(fail_if_success (have:True:=h));try first|exact h.elim|exact absurd rfl h|(exfalso;omega)))|assumption|exact xm|exact rfl))
 all_goals try (exfalso;omega)
 rename_i n1 M1 z1 z2 z3 M2 z4 z5 z6 w M3 hq
 have g2:Grow M M2:=xg
 obtain ⟨hk2,⟨rfl,hJ2⟩|⟨rfl,hD⟩⟩:=hq
 ·have hl3:=hk2.le
  (repeat' (first|(with_reducible intro _)|refine sv ?_|(refine sc ?_ ?_<;>(intro h;try first|exact h.elim|exact absurd rfl h|(exfalso;omega)))|(refine sg ?_ ?_<;>(intro h;(fail_if_success (have:True:=h));try first|exact h.elim|exact absurd rfl h|(exfalso;omega)))|assumption|exact xm|exact rfl))
  all_goals try (exfalso;omega)
  refine z1h (l.length - (k+1)) (by omega) ⟨k+1,rfl,by omega,rfl,.cons rfl (.cons rfl (.cons rfl (.cons rfl .nil))),Keep.trans (Keep.trans hkeep (g2.to_keep A) (fun i hi=>.inl hi)) hk2 (fun i hi=>.inl hi),hJ2⟩
 ·have hl3:=hk2.le
  (repeat' (first|(with_reducible intro _)|refine sv ?_|(refine sc ?_ ?_<;>(intro h;try first|exact h.elim|exact absurd rfl h|(exfalso;omega)))|(refine sg ?_ ?_<;>(intro h;(fail_if_success (have:True:=h));try first|exact h.elim|exact absurd rfl h|(exfalso;omega)))|assumption|exact xm|exact rfl))
  all_goals try (exfalso;omega)
  ((with_reducible first|apply zh|apply zc);exact rx)
  exact ⟨Keep.trans (Keep.trans hkeep (g2.to_keep A) (fun i hi=>.inl hi)) hk2 (fun i hi=>.inl hi),.inr hD⟩
def ofF (l:List Pt):Rg × Int:=if l=[] then (zRg,4) else if 256 < l.length then (zRg,3) else if l.any badP then (zRg,10) else ((hullO none l).getD zRg,0)
set_option maxHeartbeats 4000000 in
theorem c_Of {M:Mem} {a:Option (Nat × Nat)} {l:List Pt} {f:Bool} {e:Nat} (hs:SlQ M a l) (hl:l.length<=1000000000000000) :
  CallOk Tryz.prog 15 [.slice a l.length f e] M (fun w M'=>w=resv (ofF l) /\ Grow M M'):=by
 refine zg k15 rfl ?_
 dsimp only [x15,zipE,Nat.reduceAdd]
 have cc:=fun M' (hg:Grow M M')=>za9 (f:=f) (e:=e) (hs.grow hg) hl
 unfold ofF
 by_cases h0:l=[]
 ·subst h0
  rw [if_pos rfl]
  (repeat' (first|(with_reducible intro _)|refine sv ?_|(refine sc ?_ ?_<;>(intro h;try first|exact h.elim|exact absurd rfl h|(exfalso;omega)))|(refine sg ?_ ?_<;>(intro h;(fail_if_success (have:True:=h));try first|exact h.elim|exact absurd rfl h|(exfalso;omega)))|assumption|exact xm|exact rfl))
  all_goals try (exfalso;simp at *;done)
  all_goals ((with_reducible first|apply zh|apply zc);exact rx)
  all_goals exact ⟨rfl,xg⟩
 rw [if_neg h0]
 have hp:0 < l.length:=Nat.pos_of_ne_zero fun h=>h0 (List.eq_nil_of_length_eq_zero h)
 by_cases h2:256 < l.length
 ·rw [if_pos h2]
  (repeat' (first|(with_reducible intro _)|refine sv ?_|(refine sc ?_ ?_<;>(intro h;try first|exact h.elim|exact absurd rfl h|(exfalso;omega)))|(refine sg ?_ ?_<;>(intro h;(fail_if_success (have:True:=h));try first|exact h.elim|exact absurd rfl h|(exfalso;omega)))|assumption|exact xm|exact rfl))
  all_goals try (exfalso;omega)
  ((with_reducible first|apply zh|apply zc);exact rx)
  exact ⟨rfl,xg⟩
 rw [if_neg h2]
 cases hb:l.any badP with
 | true =>
  rw [hb] at cc
  rw [if_pos rfl]
  (repeat' (first|(with_reducible intro _)|refine sv ?_|(refine sc ?_ ?_<;>(intro h;try first|exact h.elim|exact absurd rfl h|(exfalso;omega)))|((with_reducible first|apply zn|apply zm|apply zi);exact gd;exact rfl;exact rfl;(first|exact cc _ (xg)))|(refine sg ?_ ?_<;>(intro h;(fail_if_success (have:True:=h));try first|exact h.elim|exact absurd rfl h|(exfalso;omega)))|assumption|exact xm|exact rfl))
  all_goals try (exfalso;omega)
  ((with_reducible first|apply zh|apply zc);exact rx)
  exact ⟨rfl,xg⟩
 | false =>
  rw [hb] at cc
  rw [if_neg (by simp)]
  (repeat' (first|(with_reducible intro _)|refine sv ?_|(refine sc ?_ ?_<;>(intro h;try first|exact h.elim|exact absurd rfl h|(exfalso;omega)))|((with_reducible first|apply zn|apply zm|apply zi);exact gd;exact rfl;exact rfl;(first|exact cc _ (xg)))|(refine sg ?_ ?_<;>(intro h;(fail_if_success (have:True:=h));try first|exact h.elim|exact absurd rfl h|(exfalso;omega)))|assumption|exact xm|exact rfl))
  all_goals try (exfalso;omega)
  rename_i n1 M1 u1 u2 u3 n2 M2 u4 u5 u6 _ _ M3 u7 u8 n4 M4 u9 u10 u11
  obtain ⟨i,o,rfl,hr⟩:∃ i o,a=some (i,o) /\ ∀ k (hk:k < l.length),Rd M i (o+k*2) 2 (ptc l[k]):=hs.resolve_left h0
  have a1:At M1 n1 (.cells true [.slice (some (i,o)) l.length f e] _):=At.new_same u1
  have a4:=(a1.grow u4.grow).grow (u7.trans u9.grow)
  have b2:=(At.new_same u4).grow (u7.trans u9.grow)
  have g4:Grow M M4:=(u1.grow.trans u4.grow).trans (u7.trans u9.grow)
  have c4:=At.new_same u9
  have hn2:M.next<=n2:=by omega
  have hl4:=g4.le
  clear u1 u4 u7 u9 u8
  have hsm:∀ p ∈ l,SmP 1000000 p:=fun p hp2=>by
   have h3:badP p=false:=by
    cases h4:badP p with
    | false=>rfl
    | true=>have h5:l.any badP=true:=List.any_eq_true.2 ⟨p,hp2,h4⟩
            rw [h5] at hb;cases hb
   unfold badP ptB btB at h3
   simp only [Bool.not_eq_false',Bool.and_eq_true,decide_eq_true_eq] at h3
   unfold SmP;omega
  have ch:=zhm [⟨41,[.ptr (some (n1,0))],(fun j=>j=n1 ∨ j=i),l⟩] (s:=n4) (o:=0) (f:=true) (e:=1) (M0:=M4)
   (fun k hk=>by
    obtain rfl:k=0:=by simpa using hk
    exact Rd1.of_at c4 rfl) (by simp)
   (fun g hg M' hM=>by
    obtain rfl:=List.mem_singleton.1 hg
    exact y_of (a4.grow hM) (fun k hk=>(hr k hk).grow (g4.trans hM)) (by show l.length<=_;omega))
   (fun g hg j hj=>by
    obtain rfl:=List.mem_singleton.1 hg
    rcases hj with rfl|rfl
    ·exact a4.2
    ·have:=(hr 0 hp).2;omega)
   (fun g hg q hq=>by
    obtain rfl:=List.mem_singleton.1 hg
    exact hsm q hq)
  rw [show List.flatMap (fun x:Gv=>x.pts) [⟨41,[.ptr (some (n1,0))],(fun j=>j=n1 ∨ j=i),l⟩]=l by simp] at ch
  (repeat' (first|(with_reducible intro _)|refine sv ?_|(refine sc ?_ ?_<;>(intro h;try first|exact h.elim|exact absurd rfl h|(exfalso;omega)))|((with_reducible first|apply zn|apply zm|apply zi);exact gd;exact rfl;exact rfl;(first|exact ch))|(refine sg ?_ ?_<;>(intro h;(fail_if_success (have:True:=h));try first|exact h.elim|exact absurd rfl h|(exfalso;omega)))|assumption|exact xm|exact rfl))
  rename_i M5 hg5 _ n6 M6 v1 v2 v3 M7 v4 v5 v6
  have b7:=At.upd_ne v4 (show n2 ≠ n6 by have:=b2.2;have:=hg5.le;omega) (At.grow (hg5.trans v1.grow) b2)
  have g7:Grow M M7:=(g4.trans (hg5.trans v1.grow)).upd v4 (by have:=hg5.le;omega)
  clear v1 v4 ch cc b2
  (repeat' (first|(with_reducible intro _)|refine sv ?_|(refine sc ?_ ?_<;>(intro h;try first|exact h.elim|exact absurd rfl h|(exfalso;omega)))|((with_reducible first|apply zn|apply zm|apply zi);exact gd;exact rfl;exact rfl;(first|exact zbg _ _))|(refine sg ?_ ?_<;>(intro h;(fail_if_success (have:True:=h));try first|exact h.elim|exact absurd rfl h|(exfalso;omega)))|assumption|exact xm|exact rfl))
  rename_i M8 w1 _ M9 w2 _ _
  have g9:=(g7.trans w1).upd w2 hn2
  ((with_reducible first|apply zh|apply zc);exact rx)
  exact ⟨rfl,g9⟩
end Go.Proofs.YtegiepfebnaebaaGreatDoor.C
end
section
open Go PvL
set_option linter.unusedSimpArgs false
set_option linter.unusedVariables false
namespace Go.Proofs.YtegiepfebnaebaaGreatDoor.C
def inR (r:Rg) (p:Pt):Prop:=(r.1.1<=p.1 /\ p.1<=r.1.2) /\ (r.2.1.1<=p.2 /\ p.2<=r.2.1.2) /\ (r.2.2.1.1<=p.1+p.2 /\ p.1+p.2<=r.2.2.1.2) /\ (r.2.2.2.1<=p.1 - p.2 /\ p.1 - p.2<=r.2.2.2.2)
def subR (r q:Rg):Prop:=(q.1.1<=r.1.1 /\ r.1.2<=q.1.2) /\ (q.2.1.1<=r.2.1.1 /\ r.2.1.2<=q.2.1.2) /\ (q.2.2.1.1<=r.2.2.1.1 /\ r.2.2.1.2<=q.2.2.1.2) /\ (q.2.2.2.1<=r.2.2.2.1 /\ r.2.2.2.2<=q.2.2.2.2)
theorem zh5 {r q:Rg} (h1:subR r q) (h2:subR q r):r=q:=by
 obtain ⟨⟨a,b⟩,⟨c,d⟩,⟨e,f⟩,⟨g,h⟩⟩:=r
 obtain ⟨⟨a',b'⟩,⟨c',d'⟩,⟨e',f'⟩,⟨g',h'⟩⟩:=q
 unfold subR at h1 h2
 dsimp only at h1 h2
 obtain rfl:a=a':=by omega
 obtain rfl:b=b':=by omega
 obtain rfl:c=c':=by omega
 obtain rfl:d=d':=by omega
 obtain rfl:e=e':=by omega
 obtain rfl:f=f':=by omega
 obtain rfl:g=g':=by omega
 obtain rfl:h=h':=by omega
 rfl
theorem zh6 (r:Rg):subR r r:=by unfold subR;omega
theorem z9i:∀ (l:List Pt) (r0:Rg),∃ r,hullO (some r0) l=some r /\ subR r0 r /\ (∀ p ∈ l,inR r p) /\ ∀ q,subR r0 q->(∀ p ∈ l,inR q p)->subR r q
 | [],r0=>⟨r0,rfl,zh6 r0,fun p hp=>(by cases hp),fun q hq _=>hq⟩
 | p :: l,r0=>by
  obtain ⟨r,h1,h2,h3,h4⟩:=z9i l (map4 spanB r0 (ofP p))
  have e1:subR r0 (map4 spanB r0 (ofP p)) /\ inR (map4 spanB r0 (ofP p)) p /\ ∀ q,subR r0 q->inR q p->subR (map4 spanB r0 (ofP p)) q:=by
   unfold subR inR map4 spanB ofP iMin iMax
   dsimp only
   refine ⟨by omega,by omega,fun q h1 h2=>by omega⟩
  obtain ⟨e1,e2,e3⟩:=e1
  have hz:hullO (some r0) (p :: l)=some r:=h1
  clear h1
  generalize map4 spanB r0 (ofP p)=r1 at *
  refine ⟨r,hz,?_,?_,?_⟩
  ·unfold subR at *;omega
  ·intro x hx
   rcases List.mem_cons.1 hx with rfl|hx
   ·unfold subR inR at *;omega
   ·exact h3 x hx
  ·intro q hq hall
   exact h4 q (e3 q hq (hall p List.mem_cons_self)) (fun x hx=>hall x (List.mem_cons_of_mem _ hx))
theorem z88 {l:List Pt} (h:l ≠ []):∃ r,hullO none l=some r /\ (∀ p ∈ l,inR r p) /\ ∀ q,(∀ p ∈ l,inR q p)->subR r q:=by
 cases l with
 | nil=>exact absurd rfl h
 | cons p l =>
  obtain ⟨r,h1,h2,h3,h4⟩:=z9i l (map4 spanB (ofP p) (ofP p))
  have e1:inR (map4 spanB (ofP p) (ofP p)) p /\ ∀ q,inR q p->subR (map4 spanB (ofP p) (ofP p)) q:=by
   unfold subR inR map4 spanB ofP iMin iMax
   dsimp only
   refine ⟨by omega,fun q h2=>by omega⟩
  obtain ⟨e2,e3⟩:=e1
  refine ⟨r,h1,?_,?_⟩
  ·generalize map4 spanB (ofP p) (ofP p)=r1 at *
   intro x hx
   rcases List.mem_cons.1 hx with rfl|hx
   ·unfold subR inR at *;omega
   ·exact h3 x hx
  ·intro q hall
   exact h4 q (e3 q (hall p List.mem_cons_self)) (fun x hx=>hall x (List.mem_cons_of_mem _ hx))
theorem zc1 {r:Rg} {t:Int × Int × Int}:t ∈ rowsL r ↔ ∃ x,r.1.1<=x /\ x<=r.1.2 /\ t=rowOf r x /\ t.2.1<=t.2.2:=by
 unfold rowsL rowsK rowsFrom
 rw [List.mem_filter,List.mem_map]
 unfold okRow
 rw [decide_eq_true_iff]
 constructor
 ·rintro ⟨⟨j,hj,rfl⟩,h⟩
  have hj:=List.mem_range.1 hj
  unfold rowsN at hj
  exact ⟨_,by omega,by omega,rfl,h⟩
 ·rintro ⟨x,h1,h2,rfl,h⟩
  refine ⟨⟨(x - r.1.1).toNat,List.mem_range.2 (by unfold rowsN;omega),?_⟩,h⟩
  rw [show r.1.1+((0+(x - r.1.1).toNat:Nat):Int)=x by omega]
theorem z8b {r:Rg} {p:Pt}:p ∈ endsL r ↔ ∃ t ∈ rowsL r,p=(t.1,t.2.1) ∨ p=(t.1,t.2.2):=by
 unfold endsL endsOf
 rw [List.mem_flatMap]
 constructor
 ·rintro ⟨t,ht,hp⟩
  refine ⟨t,ht,?_⟩
  unfold ends1 at hp
  split at hp
  ·exact .inl (List.mem_singleton.1 hp)
  ·rcases List.mem_cons.1 hp with rfl|hp
   ·exact .inl rfl
   ·exact .inr (List.mem_singleton.1 hp)
 ·rintro ⟨t,ht,hp⟩
  refine ⟨t,ht,?_⟩
  unfold ends1
  by_cases h:t.2.1=t.2.2
  ·rw [if_pos h]
   rcases hp with rfl|rfl
   ·exact List.mem_singleton.2 rfl
   ·exact List.mem_singleton.2 (by rw [h])
  ·rw [if_neg h]
   rcases hp with rfl|rfl
   ·exact List.mem_cons_self
   ·exact List.mem_cons_of_mem _ (List.mem_singleton.2 rfl)
theorem ziv {r:Rg} {p:Pt} (h:p ∈ endsL r):inR r p:=by
 obtain ⟨t,ht,hp⟩:=z8b.1 h
 obtain ⟨x,h1,h2,rfl,h3⟩:=zc1.1 ht
 unfold rowOf iMax iMin at *
 unfold inR
 dsimp only at *
 rcases hp with rfl|rfl
 ·dsimp only;omega
 ·dsimp only;omega
theorem ze9 {r:Rg} {p:Pt} (h:inR r p):∃ lo hi,(p.1,lo) ∈ endsL r /\ (p.1,hi) ∈ endsL r /\ lo<=p.2 /\ p.2<=hi:=by
 have hb:(rowOf r p.1).2.1<=p.2 /\ p.2<=(rowOf r p.1).2.2:=by
  unfold rowOf iMax iMin
  unfold inR at h
  dsimp only
  omega
 have ht:rowOf r p.1 ∈ rowsL r:=zc1.2 ⟨p.1,h.1.1,h.1.2,rfl,by omega⟩
 exact ⟨_,_,z8b.2 ⟨_,ht,.inl rfl⟩,z8b.2 ⟨_,ht,.inr rfl⟩,hb.1,hb.2⟩
theorem zde {l:List Pt} {r:Rg} (hl:l ≠ []) (h:hullO none l=some r):tightO r=some r:=by
 obtain ⟨r',h1,h2,h3⟩:=z88 hl
 rw [h] at h1
 obtain rfl:=Option.some.inj h1
 have hne:endsL r ≠ []:=by
  cases l with
  | nil=>exact absurd rfl hl
  | cons p l =>
   obtain ⟨lo,hi,h4,_⟩:=ze9 (h2 p List.mem_cons_self)
   intro h5
   rw [h5] at h4;cases h4
 obtain ⟨t,h4,h5,h6⟩:=z88 hne
 have s1:subR t r:=h6 r (fun p hp=>ziv hp)
 have s2:subR r t:=h3 t (fun p hp=>by
  obtain ⟨lo,hi,h7,h8,h9,h10⟩:=ze9 (h2 p hp)
  have h7:=h5 _ h7
  have h8:=h5 _ h8
  unfold inR at *
  dsimp only at *
  omega)
 unfold tightO
 rw [h4,zh5 s1 s2]
def shP (d:Pt) (p:Pt):Pt:=(p.1+d.1,p.2+d.2)
def shR (d:Pt) (r:Rg):Rg:=map4 plusB r (ofP d)
theorem z78 (d:Pt):∀ (l:List Pt) (r:Rg),hullO (some (shR d r)) (l.map (shP d))=(hullO (some r) l).map (shR d)
 | [],r=>rfl
 | p :: l,r=>by
  have e:map4 spanB (shR d r) (ofP (shP d p))=shR d (map4 spanB r (ofP p)):=by
   unfold shR shP map4 spanB plusB ofP iMin iMax
   dsimp only
   simp only [Prod.mk.injEq]
   omega
  show hullO (some (map4 spanB (shR d r) (ofP (shP d p)))) (l.map (shP d))=_
  rw [e]
  exact z78 d l _
theorem zal (d:Pt) {l:List Pt}:hullO none (l.map (shP d))=(hullO none l).map (shR d):=by
 cases l with
 | nil=>rfl
 | cons p l =>
  have e:map4 spanB (ofP (shP d p)) (ofP (shP d p))=shR d (map4 spanB (ofP p) (ofP p)):=by
   unfold shR shP map4 spanB plusB ofP iMin iMax
   dsimp only
   simp only [Prod.mk.injEq]
   omega
  show hullO (some (map4 spanB (ofP (shP d p)) (ofP (shP d p)))) (l.map (shP d))=_
  rw [e]
  exact z78 d l _
theorem zkc {l:List Pt} (h:l.any badP=false):∀ p ∈ l,(-32768<=p.1 /\ p.1<=32768) /\ -32768<=p.2 /\ p.2<=32768:=fun p hp=>by
 have h3:badP p=false:=by
  cases h4:badP p with
  | false=>rfl
  | true =>
   have h5:l.any badP=true:=List.any_eq_true.2 ⟨p,hp,h4⟩
   rw [h5] at h;cases h
 unfold badP ptB btB at h3
 simp only [Bool.not_eq_false',Bool.and_eq_true,decide_eq_true_eq] at h3
 exact h3
theorem ze7 {l:List Pt} {r:Rg} (hl:l ≠ []) (hb:l.any badP=false) (h:hullO none l=some r):RgOk r:=by
 obtain ⟨r',h1,h2,h3⟩:=z88 hl
 rw [h] at h1
 obtain rfl:=Option.some.inj h1
 have hs:=h3 ((-32768,32768),(-32768,32768),(-65536,65536),(-65536,65536)) (fun p hp=>by
  have:=zkc hb p hp
  unfold inR
  dsimp only
  omega)
 cases l with
 | nil=>exact absurd rfl hl
 | cons p l =>
  have:=h2 p List.mem_cons_self
  unfold inR at this
  unfold subR at hs
  dsimp only [RgOk,fitsP] at *
  omega
theorem zeo {l:List Pt} {d:Pt} (hl:l ≠ []) (hb:l.any badP=false) (hb2:(l.map (shP d)).any badP=false) (hd:SmP 65536 d):moveF ((hullO none l).getD zRg) d=((hullO none (l.map (shP d))).getD zRg,0):=by
 obtain ⟨r,h1,_,_⟩:=z88 hl
 have hs:=zal d (l:=l)
 rw [h1] at hs
 rw [hs,h1]
 have ok2:=ze7 (l:=l.map (shP d)) (by simpa using hl) hb2 hs
 show moveF r d=(shR d r,0)
 unfold moveF
 rw [if_pos (ze7 hl hb h1),if_pos hd,zde hl h1]
 show insideF (shR d r)=_
 unfold insideF
 rw [if_pos ⟨ok2.1,ok2.2.1⟩]
end Go.Proofs.YtegiepfebnaebaaGreatDoor.C
end
section
open Go PvL Go.Proofs
set_option linter.unusedSimpArgs false
set_option linter.unusedVariables false
namespace Go.Proofs.YtegiepfebnaebaaGreatDoor.C
theorem zjh {i o len n h:Nat} {f:Bool} (hh:h<=len):∃ o' f',(0 < len->o'=o) /\ sliceSl n (some (i,o)) len f n none (some (.int .i64 (h:Int))) none=some (.slice (some (i,o')) h f' n):=by
 have e1:sliceSl n (some (i,o)) len f n none (some (.int .i64 (h:Int))) none=guard' (Nat.ble h len) (guard' (Nat.beq n n) (ifb (false || (f || (Nat.ble (0+1) len || true))) (fN (ifb (Nat.beq len 0 && (f || false)) o (o+0*n)) fun off'=>fN (h - 0) fun len'=>some (LV.slice (some (i,off')) len' (ifb false (Nat.beq h len) (f && Nat.beq h len)) n)) (some (LV.slice (some (i,o)) 0 false 0)))):=by
  show guard' true (guard' (Nat.ble h len) (guard' (Nat.ble 0 h) _))=_
  rw [zd,Nat.ble_eq_true_of_le (Nat.zero_le h),zd]
  rfl
 rw [e1,z0m,z0m,Nat.ble_eq_true_of_le hh,zd,show Nat.beq n n=true by simp,zd]
 rw [show (false || (f || (Nat.ble (0+1) len || true)))=true by simp,zy]
 refine ⟨_,_,fun h0=>?_,rfl⟩
 have h1:Nat.beq len 0=false:=by cases hb:Nat.beq len 0 with|false=>rfl|true=>have:=Nat.eq_of_beq_eq_true hb;omega
 rw [h1,Bool.false_and,ze,Nat.zero_mul,Nat.add_zero]
theorem zk6 {n:Nat} {a:Option (Nat × Nat)} {len h:Nat} {f:Bool} {v:LV} {E:Env} {M:Mem} {x hi:XO} (hs:sliceSl n a len f n none (some (.int .i64 (h:Int))) none=some v) (hx:xval E x=some (.slice a len f n)) (hh:xval E hi=some (I (h:Int))):xstep Tryz.prog (.slc n x none (some hi) none) E M=some (.val v M):=by
 show ob (xval E x) _=_
 rw [hx,z0]
 show ob (ob (xval E hi) _) _=_
 rw [hh,z0]
 show ob (sliceSl n a len f n none (some (.int .i64 (h:Int))) none) (rv M)=_
 rw [hs];rfl
def rstM (n m:Int):Int:=if Int.tmod n m < 0 then Int.tmod n m+m else Int.tmod n m
theorem zf8 (n:Int):0<=rstM n 2001 /\ rstM n 2001<=2000:=by
 have h1:=Int.tmod_lt_of_pos n (show (0:Int) < 2001 by omega)
 have h2:=Int.lt_tmod_of_pos n (show (0:Int) < 2001 by omega)
 unfold rstM
 split<;>omega
theorem zdo (n m:Int) (hn:I64 n) (hm:1<=m /\ m<=1000000000) (M:Mem):CallOk Tryz.prog 14 [I n,I m] M (fun w M'=>w=I (rstM n m) /\ M'=M):=by
 refine zg k14 rfl ?_
 dsimp only [x14,zipE,Nat.reduceAdd]
 obtain ⟨hn1,hn2⟩:=hn
 have h1:=Int.tmod_lt_of_pos n (show 0 < m by omega)
 have h2:=Int.lt_tmod_of_pos n (show 0 < m by omega)
 have hr:rstM n m=if Int.tmod n m < 0 then Int.tmod n m+m else Int.tmod n m:=rfl
 (repeat' (first|(with_reducible intro _)|refine sv ?_|(refine sc ?_ ?_<;>(intro h;try first|exact h.elim|exact absurd rfl h|(exfalso;omega)))|(refine sg ?_ ?_<;>(intro h;(fail_if_success (have:True:=h));try first|exact h.elim|exact absurd rfl h|(exfalso;omega)))|assumption|exact xm|exact rfl))
 ·((with_reducible first|apply zh|apply zc);exact rx)
  rw [if_pos h] at hr
  exact ⟨by rw [hr];rfl,rfl⟩
 ·((with_reducible first|apply zh|apply zc);exact rx)
  rw [if_neg (by omega)] at hr
  exact ⟨by rw [hr];rfl,rfl⟩
theorem zh2 {M:Mem} {a:Option (Nat × Nat)} {L:List Mk} {f:Bool} {h:Nat} (hp:SlM M a L) (hh:h<=L.length):∃ a' f' e',sliceSl 4 a L.length f 4 none (some (.int .i64 (h:Int))) none=some (.slice a' h f' e') /\ SlM M a' (L.take h):=by
 have hl:(L.take h).length=h:=by rw [List.length_take];omega
 rcases a with _|⟨i,o⟩
 ·rcases hp with rfl|⟨i,o,h1,_⟩
  ·obtain rfl:h=0:=by simpa using hh
   exact ⟨_,_,_,rfl,.inl rfl⟩
  ·cases h1
 ·obtain ⟨o',f',h1,h2⟩:=zjh (i:=i) (o:=o) (n:=4) (f:=f) hh
  refine ⟨_,_,_,h2,?_⟩
  rcases hp with rfl|⟨i',o2,h3,h4⟩
  ·exact .inl (by simp)
  ·obtain ⟨rfl,rfl⟩:i=i' /\ o=o2:=by injection h3 with q;injection q with q1 q2;exact ⟨q1,q2⟩
   refine .inr ⟨i,o',rfl,fun k hk=>?_⟩
   rw [hl] at hk
   rw [h1 (by omega),List.getElem_take]
   exact h4 k (by omega)
def wr (x r:Int):Int:=IntKind.wrap .i64 (IntKind.wrap .i64 (x+r) - 1000)
theorem zm5 {x r:Int} (hx:I64 x) (hr:0<=r /\ r<=2000) (h:-32768<=wr x r /\ wr x r<=32768):wr x r=x+(r - 1000):=by
 unfold wr IntKind.wrap at *
 unfold I64 at hx
 simp only [IntKind.signed,IntKind.bits,Bool.true_and,decide_eq_true_eq] at *
 split at h<;>split at h<;>omega
def plc (m:Mk):Pt:=(m.2.1,m.2.2.1)
def mvM (rx ry:Int) (m:Mk):Mk:=(m.1,wr m.2.1 rx,wr m.2.2.1 ry,m.2.2.2)
end Go.Proofs.YtegiepfebnaebaaGreatDoor.C
end
