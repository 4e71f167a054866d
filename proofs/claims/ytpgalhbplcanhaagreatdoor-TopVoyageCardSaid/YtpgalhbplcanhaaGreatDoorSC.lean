/-
 Part of the proof of TopVoyage. No condition beyond those in each theorem.
-/
import Derived.Test.YtpgalhbplcanhaaGreatDoorSB
import Derived.Test.YtpgalhbplcanhaaGreatDoorPvG
section
open Go PvL Go.Proofs
set_option linter.unusedSimpArgs false
set_option linter.unusedVariables false
namespace Go.Proofs.YtpgalhbplcanhaaGreatDoor.C
theorem zrb{l:List UInt8}(hl:2<=l.length /\ l.length<=18){M:Mem}(hE:ES M):ze Tryz.prog 123 [.str (strL l)] M (fun w M'=>∃ e,w=.tup [I (atI l),e] /\ Grow M M'):=by
 refine zf k123 rfl ?_
 delta x123;refine un ?_
 have ca:=zot l hl
 repeat' first|with_reducible intro _|refine sv ?_|((with_reducible first|apply zz|apply z0w|apply x_call0);exact gd;exact rfl;exact rfl;(first|exact ca M))|refine ss ?_ ?_<;>(intro h;first|exact sz h|refine sy h ?_)|exact sq|fail
 rename_i w M1 hq
 obtain⟨h1|⟨h1,h0⟩,hg⟩:=hq
 ·subst h1
  repeat' first|with_reducible intro _|refine sv ?_|refine ss ?_ ?_<;>(intro h;first|exact sz h|refine sy h ?_)|exact sq|fail
  refine z01 (v:=.bool false) (by exact gd) rfl ?_
  repeat' first|with_reducible intro _|refine sv ?_|refine ss ?_ ?_<;>(intro h;first|exact sz h|refine sy h ?_)|exact sq|fail
  refine kf ?_
  exact⟨_,rfl,hg⟩
 ·subst h1
  repeat' first|with_reducible intro _|refine sv ?_|refine ss ?_ ?_<;>(intro h;first|exact sz h|refine sy h ?_)|exact sq|fail
  refine z01 (v:=.bool true) (by exact gd) rfl ?_
  repeat' first|with_reducible intro _|refine sv ?_|refine ss ?_ ?_<;>(intro h;first|exact sz h|refine sy h ?_)|exact sq|fail
  have ct:=zpa (s:=[65,116,111,105]) (l:=l) ⟨by omega,by omega⟩ (hE.grow hg)
  refine zz (by exact gd) rfl rfl (show AppOk Tryz.prog _ _ M1 _ from ct) ?_
  intro w M2 hg2
  repeat' first|with_reducible intro _|refine sv ?_|refine ss ?_ ?_<;>(intro h;first|exact sz h|refine sy h ?_)|exact sq|fail
  refine kf ?_
  exact⟨w,by rw[h0];rfl,hg.trans hg2⟩
theorem zgn(x:List UInt8)(a b:Nat)(h:b<=x.length):(sub8 x a b).length=b - a:=by
 unfold sub8
 rw[List.length_take,List.length_drop];omega
theorem zp5{x:List UInt8}(hx:x.length=29)(a b:Nat)(hab:a+2<=b /\ b<=a+18 /\ b<=29){M:Mem}(hE:ES M){p:Nat}(hr:Rd1 M p 0 (.str (strL x))):ze Tryz.prog 122 [I a,I b,.ptr (some (p,0))] M (fun w M'=>w=I (atI (sub8 x a b)) /\ Grow M M'):=by
 refine zf k122 rfl ?_
 delta x122;refine un ?_
 have ca:=zrb (l:=sub8 x a b) (by rw[zgn x a b (by omega)];omega) hE
 (have hrd0:=hr;repeat' (first|(with_reducible intro _)|refine sv ?_|refine ss ?_ ?_<;>(intro h;first|exact sz h|refine sy h ?_)|exact sq|fail))
 refine z01 (by exact gd) (zbx (f:=a) (p:=b) rfl rfl rfl (by omega) (by rw[z09];omega)) ?_
 rw[zm9]
 repeat' first|with_reducible intro _|refine sv ?_|((with_reducible first|apply zz|apply z0w|apply x_call0);exact gd;exact rfl;exact rfl;(first|exact ca))|refine ss ?_ ?_<;>(intro h;first|exact sz h|refine sy h ?_)|exact sq|fail
 rename_i w M1 hq
 obtain⟨e,rfl,hg⟩:=hq
 repeat' first|with_reducible intro _|refine sv ?_|refine ss ?_ ?_<;>(intro h;first|exact sz h|refine sy h ?_)|exact sq|fail
 refine kf ?_
 exact⟨rfl,hg⟩
theorem zry{x:List UInt8}(hx:x.length=29){M:Mem}(hE:ES M):ze Tryz.prog 52 [.str (strL x)] M (fun w M'=>w=.agg (mkc (mkP x)) /\ Grow M M'):=by
 refine zf k52 rfl ?_
 delta x52;refine un ?_
 repeat' first|with_reducible intro _|refine sv ?_|refine ss ?_ ?_<;>(intro h;first|exact sz h|refine sy h ?_)|exact sq|fail
 rename_i n1 M1 y1 y2 y3 n2 M2 y4 y5 y6
 have a2:At M2 n1 (.cells true [.str (strL x)] 9):=(At.new_same y1).grow y4.grow
 have b2:=At.new_same y4
 have g2:Grow M M2:=y1.grow.trans y4.grow
 have hn12:n2 ≠ n1:=by omega
 have hn1:M.next<=n1:=by omega
 have hn2:M.next<=n2:=by omega
 have hl2:=g2.le
 clear y1 y2 y3 y4 y5 y6
 have cm:=fun a b hab M' (hg:Grow M2 M')=>zp5 (x:=x) hx a b hab (hE.grow (g2.trans hg)) (Rd1.of_at (a2.grow hg) rfl)
 refine zz (by exact gd) rfl rfl (show AppOk Tryz.prog _ _ M2 _ from cm 0 5 (by omega) _ (Grow.refl _)) ?_
 rintro w M3 ⟨rfl,h3⟩
 repeat' first|with_reducible intro _|refine sv ?_|refine ss ?_ ?_<;>(intro h;first|exact sz h|refine sy h ?_)|exact sq|fail
 refine zz (by exact gd) rfl rfl (show AppOk Tryz.prog _ _ M3 _ from cm 6 12 (by omega) _ h3) ?_
 rintro w M4 ⟨rfl,h4⟩
 repeat' first|with_reducible intro _|refine sv ?_|refine ss ?_ ?_<;>(intro h;first|exact sz h|refine sy h ?_)|exact sq|fail
 refine zz (by exact gd) rfl rfl (show AppOk Tryz.prog _ _ M4 _ from cm 13 19 (by omega) _ (h3.trans h4)) ?_
 rintro w M5 ⟨rfl,h5⟩
 repeat' first|with_reducible intro _|refine sv ?_|refine ss ?_ ?_<;>(intro h;first|exact sz h|refine sy h ?_)|exact sq|fail
 refine zz (by exact gd) rfl rfl (show AppOk Tryz.prog _ _ M5 _ from cm 20 25 (by omega) _ ((h3.trans h4).trans h5)) ?_
 rintro w M6 ⟨rfl,h6⟩
 have b6:=b2.grow (((h3.trans h4).trans h5).trans h6)
 have g6:=g2.trans (((h3.trans h4).trans h5).trans h6)
 clear cm h3 h4 h5 h6
 repeat' first|with_reducible intro _|refine sv ?_|refine ss ?_ ?_<;>(intro h;first|exact sz h|refine sy h ?_)|exact sq|fail
 refine kf ?_
 rename_i M7 u _ _
 exact⟨rfl,g6.upd u hn2⟩
theorem zn6(l:List UInt8):(strL l == strL l)=true:=z9s _
theorem zqc{l l':List UInt8}(h:(strL l == strL l')=true):l=l':=by
 have h2:strL l=strL l':=zc7 h
 unfold strL at h2
 injection h2 with h2
 injection h2 with h2
theorem zsu(l:List Mk):∀ x ∈ l,(mkc x).length=4:=fun _ _=>rfl
theorem zo0(s:List UInt8)(k:Nat):sub8 s (29*k) (29*k+29)=ck s k:=by
 unfold sub8 ck
 rw[Nat.add_sub_cancel_left]
theorem zsb{s:List UInt8}{k:Nat}(h:29*k+29<=s.length):(ck s k).length=29:=by rw[<-zo0,zgn _ _ _ h];omega
theorem zml{M M':Mem}{n:Nat}{ty:TypeId}{m:Mk}(h:New M n (.cells true (mkc m) ty) M'):z08 4 1 (.slice (some (n,0)) 1 true 4) M'=some ([m].flatMap mkc):=by
 have ha:=At.new_same h
 show loadN M' n 0 (1*4)=_
 exact(Rd.of_at (l:=mkc m) ha rfl).1
set_option maxHeartbeats 8000000 in
theorem zcd(s:List UInt8)(hs:s.length<=1000000000000000){M:Mem}(hE:ES M)(hP:P10 M)(hD:D64 M):ze Tryz.prog 13 [.str (strL s)] M (fun w M'=>(∃ a f e,w=.tup [.slice a (pmF mkP s).1.length f e,I (pmF mkP s).2] /\ SlM M' a (pmF mkP s).1) /\ Grow M M'):=by
 refine zf k13 rfl ?_
 delta x13;refine un ?_
 have hsz:=z09 s
 by_cases h1:s.length > 65536
 ·have e:pmF mkP s=([],3):=by unfold pmF;rw[if_pos h1]
  rw[e]
  repeat' first|with_reducible intro _|refine sv ?_|refine ss ?_ ?_<;>(intro h;first|exact sz h|refine sy h ?_)|exact sq|fail
  all_goals try(exfalso;omega)
  refine kf ?_
  exact⟨⟨_,_,_,rfl,.inl rfl⟩,Grow.refl _⟩
 have e:pmF mkP s=if mksB (prs mkP s (s.length / 29))=true /\ mxL (prs mkP s (s.length / 29))=s then(prs mkP s (s.length / 29),0) else([],5):=by unfold pmF;rw[if_neg h1]
 rw[e]
 clear e
 repeat' first|with_reducible intro _|refine sv ?_|refine ss ?_ ?_<;>(intro h;first|exact sz h|refine sy h ?_)|exact sq|fail
 all_goals try(exfalso;omega)
 have hv0:Vec M.next 4 51 mkc M (.slice none 0 true 0) (prs mkP s 0):=Vec.nil
 generalize hb0:M.next=b0 at *
 refine zk (fun m E ms M'=>∃(k:Nat) (v:LV),m=s.length / 29 - k /\ k<=s.length / 29 /\ ms=[] /\ Has E [(0,.str (strL s)),(4,v),(5,I (29*k:Nat))] /\ Grow M M' /\ Vec b0 4 51 mkc M' v (prs mkP s k))
  ?_ (s.length / 29) _ _ _ ⟨0,_,by omega,by omega,rfl,.cons rfl (.cons rfl (.cons rfl .nil)),Grow.refl _,hv0⟩
 rintro m E ms M1 ⟨k,v,rfl,hk,rfl,hE1,hg1,hv1⟩
 refine z1h hE1 ?_
 by_cases hlast:k=s.length / 29
 case neg =>
  have hlt:29*k+29<=s.length:=by omega
  have cm:=zry (x:=ck s k) (zsb hlt) (hE.grow hg1)
  repeat' first|with_reducible intro _|refine sv ?_|refine ss ?_ ?_<;>(intro h;first|exact sz h|refine sy h ?_)|exact sq|fail
  all_goals try(exfalso;omega)
  refine z01 (by exact gd) (zbx (f:=29*k) (p:=29*k+29) rfl rfl rfl (by omega) (by omega)) ?_
  rw[zm9,zo0]
  repeat' first|with_reducible intro _|refine sv ?_|((with_reducible first|apply zj|apply zi|apply d_pure0);exact gd;exact rfl;exact rfl;(first|exact cm))|refine ss ?_ ?_<;>(intro h;first|exact sz h|refine sy h ?_)|exact sq|fail
  rename_i M2 hg2 hl2 n3 M3 z1 z2 z3
  have hv3:=(hv1.grow hg2).grow z1.grow
  have hpl:=zez mkP s k
  have hl1:=hg1.le
  refine zdm (by exact gd) (l':=[mkP (ck s k)]) hv3 rfl rfl rfl (by simp) (by rw[List.length_singleton,hpl];omega) rfl (zml z1) (fun _=>rfl) (fun _=>rfl) (by omega) ?_
  intro v4 M4 hv4 hn4 hk4
  rw[<-zuy] at hv4
  repeat' first|with_reducible intro _|refine sv ?_|refine ss ?_ ?_<;>(intro h;first|exact sz h|refine sy h ?_)|exact sq|fail
  exact z0d (s.length / 29 - (k+1)) (by omega) ⟨k+1,v4,rfl,by omega,rfl,.cons rfl (.cons rfl (.cons (by rw[Nat.mul_succ];rfl) .nil)),Keep.to_grow' ((hg1.trans hg2).trans z1.grow) hk4 (fun i hi=>by have:=hi.1;omega),hv4⟩
 rw[<-hlast]
 have hpl:=zez mkP s k
 obtain⟨a,f,e,rfl,hr⟩:=hv1.rd (zsu _)
 have hsl:SlM M1 a (prs mkP s k):=hr
 generalize prs mkP s k=l at *
 clear hv1 hr
 have cc:=fun M' (hg:Grow M1 M')=>z70 (f:=f) (e:=e) (hsl.grow hg) (by omega)
 unfold errMk at cc
 cases hm:mksB l with
 | false =>
  simp only[hm,if_true,if_false,Bool.false_eq_true,false_and] at cc ⊢
  repeat' first|with_reducible intro _|refine sv ?_|((with_reducible first|apply zj|apply zi|apply d_pure0);exact gd;exact rfl;exact rfl;(first|exact cc _ (xg)))|refine ss ?_ ?_<;>(intro h;first|exact sz h|refine sy h ?_)|exact sq|fail
  all_goals try(exfalso;omega)
  refine kf ?_
  exact⟨⟨_,_,_,rfl,.inl rfl⟩,xg⟩
 | true =>
  simp only[hm,if_true,if_false,Bool.false_eq_true,true_and] at cc ⊢
  have ct:=fun M' (hg:Grow M1 M')=>znz (f:=f) (e:=e) (hsl.grow hg) hm (hP.grow (hg1.trans hg)) (hD.grow (hg1.trans hg))
  repeat' first|with_reducible intro _|refine sv ?_|((with_reducible first|apply zj|apply zi|apply d_pure0);exact gd;exact rfl;exact rfl;(first|exact cc _ (xg)|exact ct _ (xg)))|refine ss ?_ ?_<;>(intro h;first|exact sz h|refine sy h ?_)|exact sq|fail
  all_goals try(exfalso;omega)
  ·rename_i h
   have hne:mxL l ≠ s:=fun h2=>by rw[h2,zn6] at h;cases h
   rw[if_neg hne]
   refine kf ?_
   exact⟨⟨_,_,_,rfl,.inl rfl⟩,xg⟩
  ·rename_i h
   have heq:mxL l=s:=zqc h
   rw[if_pos heq]
   have hse:=hsl
   refine kf ?_
   exact⟨⟨_,_,_,rfl,hsl.grow (xg)⟩,xg⟩
end Go.Proofs.YtpgalhbplcanhaaGreatDoor.C
end
section
open PvL
set_option linter.unusedSimpArgs false
set_option linter.unusedVariables false
namespace Go.Proofs.YtpgalhbplcanhaaGreatDoor.C
abbrev Bd:=Int × Int
abbrev Rg:=Bd × Bd × Bd × Bd
def rowOf(r:Rg)(x:Int):Int × Int × Int:=(x,iMax (iMax r.2.1.1 (r.2.2.1.1 - x)) (x - r.2.2.2.2),iMin (iMin r.2.1.2 (r.2.2.1.2 - x)) (x - r.2.2.2.1))
abbrev okRow(t:Int × Int × Int):Bool:=decide (t.2.1<=t.2.2)
def rowsFrom(r:Rg)(k n:Nat):List (Int × Int × Int):=((List.range n).map fun j=>rowOf r (r.1.1+((k+j:Nat):Int))).filter okRow
def rowsK(r:Rg)(k:Nat):List (Int × Int × Int):=rowsFrom r 0 k
def rowsN(r:Rg):Nat:=(r.1.2+1 - r.1.1).toNat
def rowsL(r:Rg):List (Int × Int × Int):=rowsK r (rowsN r)
theorem z61(r:Rg)(k n:Nat):rowsFrom r k (n+1)=(if okRow (rowOf r (r.1.1+(k:Int))) then [rowOf r (r.1.1+(k:Int))] else []) ++ rowsFrom r (k+1) n:=by
 unfold rowsFrom
 rw[List.range_succ_eq_map,List.map_cons,List.map_map,List.filter_cons]
 have e:((fun j=>rowOf r (r.1.1+((k+j:Nat):Int))) ∘ Nat.succ)=fun j=>rowOf r (r.1.1+((k+1+j:Nat):Int)):=by
  funext j
  show rowOf r (r.1.1+((k+(j+1):Nat):Int))=_
  rw[show k+(j+1)=k+1+j by omega]
 rw[e,Nat.add_zero]
 by_cases h:okRow (rowOf r (r.1.1+(k:Int)))=true
 ·rw[if_pos h,if_pos h];rfl
 ·rw[if_neg h,if_neg h];rfl
theorem z6s(r:Rg)(k:Nat):rowsK r (k+1)=rowsK r k ++(if okRow (rowOf r (r.1.1+(k:Int))) then [rowOf r (r.1.1+(k:Int))] else []):=by
 unfold rowsK rowsFrom
 rw[List.range_succ,List.map_append,List.filter_append]
 congr 1
 simp only[List.map_cons,List.map_nil,List.filter_cons,List.filter_nil,Nat.zero_add]
theorem z96(r:Rg):∀(n k:Nat),rowsK r (k+n)=rowsK r k ++ rowsFrom r k n
 | 0,k=>by rw[Nat.add_zero];unfold rowsFrom;simp
 | n+1,k=>by rw[show k+(n+1)=(k+1)+n by omega,z96 r n (k+1),z6s,List.append_assoc,z61]
theorem zko(r:Rg){k n:Nat}(h:k < n)(hok:okRow (rowOf r (r.1.1+(k:Int)))=true):(rowsK r n)[(rowsK r k).length]?=some (rowOf r (r.1.1+(k:Int))):=by
 obtain⟨m,rfl⟩:∃ m,n=k+(m+1):=⟨n - k - 1,by omega⟩
 rw[z96,List.getElem?_append_right (Nat.le_refl _),Nat.sub_self,z61,if_pos hok];rfl
def ends1(t:Int × Int × Int):List (Int × Int):=if t.2.1=t.2.2 then [(t.1,t.2.1)] else [(t.1,t.2.1),(t.1,t.2.2)]
def endsOf(l:List (Int × Int × Int)):List (Int × Int):=l.flatMap ends1
def endsL(r:Rg):List (Int × Int):=endsOf (rowsL r)
theorem zcn(l:List (Int × Int × Int)){k:Nat}{t:Int × Int × Int}(h:l[k]?=some t):endsOf l=endsOf (l.take k) ++(ends1 t ++ endsOf (l.drop (k+1))):=by
 obtain⟨hk,rfl⟩:=List.getElem?_eq_some_iff.1 h
 unfold endsOf
 conv=>lhs;rw[<-List.take_append_drop k l,List.flatMap_append,List.drop_eq_getElem_cons hk]
 rfl
theorem ze7(l:List (Int × Int × Int)){k:Nat}{t:Int × Int × Int}(h:l[k]?=some t):endsOf (l.take (k+1))=endsOf (l.take k) ++ ends1 t:=by
 obtain⟨hk,rfl⟩:=List.getElem?_eq_some_iff.1 h
 unfold endsOf
 rw[List.take_succ_eq_append_getElem hk,List.flatMap_append]
 simp
def ofP(p:Int × Int):Rg:=((p.1,p.1),(p.2,p.2),(p.1+p.2,p.1+p.2),(p.1 - p.2,p.1 - p.2))
def spanB(a b:Bd):Bd:=(iMin a.1 b.1,iMax a.2 b.2)
def plusB(a b:Bd):Bd:=(a.1+b.1,a.2+b.2)
def map4(f:Bd->Bd->Bd)(r q:Rg):Rg:=(f r.1 q.1,f r.2.1 q.2.1,f r.2.2.1 q.2.2.1,f r.2.2.2 q.2.2.2)
def zRg:Rg:=((0,0),(0,0),(0,0),(0,0))
def hstep(o:Option Rg)(p:Int × Int):Option Rg:=some (map4 spanB (o.getD (ofP p)) (ofP p))
def hullO(o:Option Rg)(l:List (Int × Int)):Option Rg:=l.foldl hstep o
theorem zhc(o:Option Rg)(l:List (Int × Int)){k:Nat}{p:Int × Int}(h:l[k]?=some p):hullO o (l.take (k+1))=hstep (hullO o (l.take k)) p:=by
 obtain⟨hk,rfl⟩:=List.getElem?_eq_some_iff.1 h
 unfold hullO
 rw[List.take_succ_eq_append_getElem hk,List.foldl_append];rfl
def Sm(B:Int)(r:Rg):Prop:=(-B<=r.1.1 /\ r.1.1<=B) /\ (-B<=r.1.2 /\ r.1.2<=B) /\ (-B<=r.2.1.1 /\ r.2.1.1<=B) /\ (-B<=r.2.1.2 /\ r.2.1.2<=B) /\ (-B<=r.2.2.1.1 /\ r.2.2.1.1<=B) /\ (-B<=r.2.2.1.2 /\ r.2.2.1.2<=B) /\ (-B<=r.2.2.2.1 /\ r.2.2.2.1<=B) /\ (-B<=r.2.2.2.2 /\ r.2.2.2.2<=B)
abbrev SmP(B:Int)(p:Int × Int):Prop:=(-B<=p.1 /\ p.1<=B) /\ (-B<=p.2 /\ p.2<=B)
theorem Sm.mono{B C:Int}{r:Rg}(h:Sm B r)(hc:B<=C):Sm C r:=by unfold Sm at *;omega
theorem SmP.mono{B C:Int}{p:Int × Int}(h:SmP B p)(hc:B<=C):SmP C p:=by unfold SmP at *;omega
theorem zg9{r:Rg}{t:Int × Int × Int}(h:t ∈ rowsL r):∃ x,r.1.1<=x /\ x<=r.1.2 /\ t=rowOf r x /\ t.2.1<=t.2.2:=by
 unfold rowsL rowsK rowsFrom at h
 rw[List.mem_filter] at h
 obtain⟨h1,h2⟩:=h
 obtain⟨j,hj,rfl⟩:=List.mem_map.1 h1
 have hj:=List.mem_range.1 hj
 unfold rowsN at hj
 exact⟨_,by omega,by omega,rfl,of_decide_eq_true h2⟩
theorem zt7{B:Int}{r:Rg}(h:Sm B r){x:Int}(h1:r.1.1<=x)(h2:x<=r.1.2):(-B<=(rowOf r x).1 /\ (rowOf r x).1<=B) /\ (-(2*B)<=(rowOf r x).2.1 /\ (rowOf r x).2.1<=2*B) /\ (-(2*B)<=(rowOf r x).2.2 /\ (rowOf r x).2.2<=2*B):=by
 unfold Sm at h
 unfold rowOf iMax iMin
 dsimp only
 omega
theorem zb9{B:Int}{r:Rg}(h:Sm B r){q:Int × Int}(hq:q ∈ endsL r):SmP (2*B) q:=by
 unfold endsL endsOf at hq
 obtain⟨t,ht,hq⟩:=List.mem_flatMap.1 hq
 obtain⟨x,h1,h2,rfl,h3⟩:=zg9 ht
 have:=zt7 h h1 h2
 have hB:0<=B:=by unfold Sm at h;omega
 unfold ends1 at hq
 unfold SmP
 split at hq
 ·obtain rfl:=List.mem_singleton.1 hq
  omega
 ·rcases List.mem_cons.1 hq with rfl|hq
  ·omega
  ·obtain rfl:=List.mem_singleton.1 hq
   omega
theorem zmd{B:Int}{o:Option Rg}(ho:∀ r,o=some r->Sm (2*B) r){p:Int × Int}(hp:SmP B p)(r:Rg)(hr:hstep o p=some r):Sm (2*B) r:=by
 cases hr
 unfold SmP at hp
 have h1:Sm (2*B) (ofP p):=by unfold Sm ofP;dsimp only;omega
 have h2:Sm (2*B) (o.getD (ofP p)):=by
  cases o with
  | none=>exact h1
  | some r=>exact ho r rfl
 generalize o.getD (ofP p)=a at h2
 generalize ofP p=b at h1
 unfold Sm at *
 unfold map4 spanB iMin iMax
 dsimp only
 omega
theorem zg0{B:Int}:∀(l:List (Int × Int)) (o:Option Rg),(∀ r,o=some r->Sm (2*B) r)->(∀ p ∈ l,SmP B p)->∀ r,hullO o l=some r->Sm (2*B) r
 | [],o,ho,_,r,hr=>ho r hr
 | p :: l,o,ho,hl,r,hr=>zg0 l (hstep o p) (fun r hr=>zmd ho (hl p List.mem_cons_self) r hr) (fun q hq=>hl q (List.mem_cons_of_mem _ hq)) r hr
theorem zpl{B:Int}(l:List (Int × Int))(hl:∀ p ∈ l,SmP B p)(hB:0<=B):Sm (2*B) ((hullO none l).getD zRg):=by
 cases h:hullO none l with
 | none=>unfold Sm zRg;dsimp only[Option.getD];omega
 | some r=>exact zg0 l none (fun r hr=>by cases hr) hl r h
def tightO(r:Rg):Option Rg:=hullO none (endsL r)
theorem znc{B:Int}{r:Rg}(h:Sm B r):Sm (4*B) ((tightO r).getD zRg):=by
 have hB:0<=B:=by unfold Sm at h;omega
 have:=zpl (endsL r) (fun p hp=>zb9 h hp) (by omega:0<=2*B)
 rw[show 2*(2*B)=4*B by omega] at this
 exact this
abbrev fitsP(l:Int)(b:Bd):Prop:=-l<=b.1 /\ b.1<=b.2 /\ b.2<=l
abbrev RgOk(r:Rg):Prop:=fitsP 32768 r.1 /\ fitsP 32768 r.2.1 /\ fitsP 65536 r.2.2.1 /\ fitsP 65536 r.2.2.2
theorem RgOk.sm{r:Rg}(h:RgOk r):Sm 65536 r:=by unfold Sm;dsimp only[RgOk,fitsP] at h;omega
def tightF(r:Rg):Rg × Int:=if RgOk r then(match tightO r with|some t=>(t,0)|none=>(zRg,4)) else(zRg,11)
def insideF(r:Rg):Rg × Int:=if fitsP 32768 r.1 /\ fitsP 32768 r.2.1 then(r,0) else(zRg,7)
def moveF(r:Rg)(p:Int × Int):Rg × Int :=
 if RgOk r then(if SmP 65536 p then(match tightO r with|some t=>insideF (map4 plusB t (ofP p))|none=>(zRg,4)) else(zRg,7)) else(zRg,11)
def joinF(a b:Rg):Rg × Int:=if RgOk a /\ RgOk b then(match hullO none (endsL a ++ endsL b) with|some h=>(h,0)|none=>(zRg,4)) else(zRg,11)
def sweptF(r:Rg)(p q:Int × Int):Rg × Int :=
 if (moveF r p).2=0 then(if (moveF r q).2=0 then joinF (moveF r p).1 (moveF r q).1 else(zRg,(moveF r q).2)) else(zRg,(moveF r p).2)
theorem zhg{a b:Rg}(hok:RgOk a /\ RgOk b)(h:(hullO none (endsL a ++ endsL b)).isSome=true):joinF a b=((hullO none (endsL a ++ endsL b)).getD zRg,0):=by
 unfold joinF
 rw[if_pos hok]
 revert h
 cases hullO none (endsL a ++ endsL b) with
 | none=>intro h;cases h
 | some t=>intro _;rfl
theorem zhf{a b:Rg}(hok:RgOk a /\ RgOk b)(h:(hullO none (endsL a ++ endsL b)).isSome=false):joinF a b=(zRg,4):=by
 unfold joinF
 rw[if_pos hok]
 revert h
 cases hullO none (endsL a ++ endsL b) with
 | none=>intro _;rfl
 | some t=>intro h;cases h
abbrev Pt:=Int × Int
abbrev ptc(p:Pt):List LV:=[I p.1,I p.2]
abbrev Pl(x y:Int):Prop:=-32768<=x /\ x<=32768 /\ -32768<=y /\ y<=32768
abbrev PlP(p:Pt):Prop:=Pl p.1 p.2
abbrev ptv(p:Int × Int):LV:=.agg [I p.1,I p.2]
abbrev rgv(r:Rg):LV:=.agg [I r.1.1,I r.1.2,I r.2.1.1,I r.2.1.2,I r.2.2.1.1,I r.2.2.1.2,I r.2.2.2.1,I r.2.2.2.2]
def eRg(r:Rg):Int:=if RgOk r then 0 else 11
abbrev rowv(t:Int × Int × Int):LV:=.agg [I t.1,I t.2.1,I t.2.2]
abbrev rgc(r:Rg):List LV:=[I r.1.1,I r.1.2,I r.2.1.1,I r.2.1.2,I r.2.2.1.1,I r.2.2.1.2,I r.2.2.2.1,I r.2.2.2.2]
abbrev resv(x:Rg × Int):LV:=.tup [rgv x.1,I x.2]
def eTi(r:Rg):Int:=if (tightO r).isSome then 0 else 4
end Go.Proofs.YtpgalhbplcanhaaGreatDoor.C
end
section
open Go PvL Go.Proofs
set_option linter.unusedSimpArgs false
set_option linter.unusedVariables false
namespace Go.Proofs.YtpgalhbplcanhaaGreatDoor.C
instance:IsB Tryz.prog 4:=⟨by kernel_rfl⟩
theorem z85(n lo hi:Int)(M:Mem):ze Tryz.prog 91 [I n,I lo,I hi] M (fun w M'=>w=.bool (decide (lo<=n /\ n<=hi)) /\ M'=M):=by
 refine zf k91 rfl ?_
 delta x91;refine un ?_
 repeat' first|with_reducible intro _|refine sv ?_|refine ss ?_ ?_<;>(intro h;first|exact sz h|refine sy h ?_)|exact sq|fail
 all_goals (apply zhh;exact .tmp rfl .nil;refine⟨?_,rfl⟩)
 all_goals first
  | exact zd0 (by omega)
  | exact lb_f (by omega)
  | exact lb_t (by omega)
theorem z83(l n:Int)(hl:0<=l /\ l<=1000000)(M:Mem):ze Tryz.prog 95 [I l,I n] M (fun w M'=>w=I (iMax (-l) (iMin n l)) /\ M'=M):=by
 refine zf k95 rfl ?_
 delta x95;refine un ?_
 repeat' first|with_reducible intro _|refine sv ?_|refine ss ?_ ?_<;>(intro h;first|exact sz h|refine sy h ?_)|exact sq|fail
 all_goals (apply zhh;exact .tmp rfl .nil;refine⟨rfl,rfl⟩)
theorem z1r(n lo hi:Int)(M:Mem):ze Tryz.prog 116 [I n,I lo,I hi] M (fun w M'=>w=.bool (decide (lo<=n /\ n<=hi)) /\ M'=M):=by
 refine zf k116 rfl ?_
 delta x116;refine un ?_
 repeat' first|with_reducible intro _|refine sv ?_|refine ss ?_ ?_<;>(intro h;first|exact sz h|refine sy h ?_)|exact sq|fail
 all_goals (apply zhh;exact .tmp rfl .nil;refine⟨?_,rfl⟩)
 all_goals first
  | exact zd0 (by omega)
  | exact lb_f (by omega)
  | exact lb_t (by omega)
def ePt(x y:Int):Int:=if Pl x y then 0 else 10
theorem z0j(x y:Int)(M:Mem):ze Tryz.prog 35 [.agg [I x,I y]] M (fun w M'=>w=I (ePt x y) /\ Grow M M'):=by
 refine zf k35 rfl ?_
 delta x35;refine un ?_
 repeat' first|with_reducible intro _|refine sv ?_|refine su ?_|((with_reducible first|apply zu|apply zt|apply zn);exact gd;exact rfl;exact rfl;(first|exact z83 _ _ (by omega) _))|refine ss ?_ ?_<;>(intro h;first|exact sz h|refine sy h ?_)|exact sq|fail
 all_goals (apply zhh;exact .tmp rfl .nil;refine⟨?_,?_⟩)
 all_goals (try unfold iMax iMin at *)
 all_goals first
  |(exact xg;done)
  |(unfold ePt;split<;>first|rfl|(exfalso;omega))
end Go.Proofs.YtpgalhbplcanhaaGreatDoor.C
end
section
open PvL
set_option linter.unusedSimpArgs false
set_option linter.unusedVariables false
namespace Go.Proofs.YtpgalhbplcanhaaGreatDoor.C
def SlA{α:Type}(sz:Nat)(enc:α->List LV)(M:Mem)(a:Option (Nat × Nat))(l:List α):Prop:=l=[] ∨ ∃ i o,a=some (i,o) /\ ∀ k (hk:k < l.length),Rd M i (o+k*sz) sz (enc l[k])
theorem SlA.grow{α:Type}{sz:Nat}{enc:α->List LV}{M M':Mem}{a:Option (Nat × Nat)}{l:List α}(h:SlA sz enc M a l)(hg:Grow M M'):SlA sz enc M' a l :=
 h.imp id fun⟨i,o,h1,h2⟩=>⟨i,o,h1,fun k hk=>(h2 k hk).grow hg⟩
def turnP(a b c:Pt):Int:=(b.1 - a.1)*(c.2 - a.2) - (b.2 - a.2)*(c.1 - a.1)
theorem zbf{i n:Nat}(h:0 < n):(i+1) % n < n:=Nat.mod_lt _ h
def FieldOk(l:List Pt):Prop:=3<=l.length /\ l.length<=8 /\ (∀ p ∈ l,PlP p) /\
 ∀(i j:Nat) (hi:i < l.length) (hj:j < l.length),j ≠ i->j ≠(i+1) % l.length->0 < turnP l[i] (l[(i+1) % l.length]'(zbf (by omega))) l[j]
open Classical in
noncomputable def eFd(l:List Pt):Int:=if FieldOk l then 0 else 12
theorem zqf{a b c:Pt}(ha:PlP a)(hb:PlP b)(hc:PlP c):-17179869184<=(b.1 - a.1)*(c.2 - a.2) /\ (b.1 - a.1)*(c.2 - a.2)<=17179869184 /\ -17179869184<=(b.2 - a.2)*(c.1 - a.1) /\ (b.2 - a.2)*(c.1 - a.1)<=17179869184:=by
 have h1:=z37 (a:=b.1 - a.1) (b:=c.2 - a.2) (A:=65536) (B:=65536) (by dsimp only[PlP,Pl] at *;omega) (by dsimp only[PlP,Pl] at *;omega)
 have h2:=z37 (a:=b.2 - a.2) (b:=c.1 - a.1) (A:=65536) (B:=65536) (by dsimp only[PlP,Pl] at *;omega) (by dsimp only[PlP,Pl] at *;omega)
 omega
def atP(l:List Pt)(k:Nat):Pt:=l.getD k (0,0)
def sidesL(l:List Pt):List (Pt × Pt):=(List.range l.length).map fun k=>(atP l k,atP l ((k+1) % l.length))
theorem zbn(l:List Pt):(sidesL l).length=l.length:=by unfold sidesL;rw[List.length_map,List.length_range]
theorem zi2{l:List Pt}{k:Nat}(h:k < l.length):(sidesL l)[k]?=some (atP l k,atP l ((k+1) % l.length)):=by
 unfold sidesL
 rw[List.getElem?_map,List.getElem?_range h];rfl
theorem zfi{l:List Pt}{k:Nat}(h:k < l.length):atP l k=l[k]:=by unfold atP;rw[List.getD_eq_getElem?_getD,List.getElem?_eq_getElem h];rfl
def sideK(q:Pt × Pt):Int:=q.2.1 - q.1.1
def sideN(x:Int)(q:Pt × Pt):Int:=(q.2.1 - q.1.1)*q.1.2+(q.2.2 - q.1.2)*(x - q.1.1)
def clip1(x:Int)(t:Int × Int)(q:Pt × Pt):Int × Int :=
 if 0 < sideK q then(iMax t.1 (-((-(sideN x q)) / sideK q)),t.2) else if sideK q < 0 then(t.1,iMin t.2 ((-(sideN x q)) / (-(sideK q)))) else if 0 < sideN x q then(t.1,t.1 - 1) else t
def clips(x:Int)(t:Int × Int)(qs:List (Pt × Pt)):Int × Int:=qs.foldl (clip1 x) t
theorem zh2{x:Int}{t:Int × Int}{q:Pt × Pt}(h:t.2 < t.1):(clip1 x t q).2 <(clip1 x t q).1:=by
 unfold clip1 iMax iMin
 split
 ·dsimp only;omega
 ·split
  ·dsimp only;omega
  ·split
   ·dsimp only;omega
   ·exact h
theorem z9w{x:Int}:∀ {qs:List (Pt × Pt)} {t:Int × Int},t.2 < t.1->(clips x t qs).2 <(clips x t qs).1
 | [],_,h=>h
 | q :: qs,_,h=>z9w (qs:=qs) (zh2 (q:=q) h)
theorem zh3{x:Int}{t:Int × Int}{qs:List (Pt × Pt)}{k:Nat}{q:Pt × Pt}(h:qs[k]?=some q):clips x t (qs.take (k+1))=clip1 x (clips x t (qs.take k)) q:=by
 obtain⟨hk,rfl⟩:=List.getElem?_eq_some_iff.1 h
 unfold clips
 rw[List.take_succ_eq_append_getElem hk,List.foldl_append];rfl
theorem ze0{x:Int}{t:Int × Int}{qs:List (Pt × Pt)}{k:Nat}(hk:k<=qs.length):clips x t qs=clips x (clips x t (qs.take k)) (qs.drop k):=by
 unfold clips
 rw[<-List.foldl_append,List.take_append_drop]
def hitRow(l:List Pt)(t:Int × Int × Int):Option Pt:=if (clips t.1 (t.2.1,t.2.2) (sidesL l)).1<=(clips t.1 (t.2.1,t.2.2) (sidesL l)).2 then some (t.1,(clips t.1 (t.2.1,t.2.2) (sidesL l)).1) else none
theorem zec{l:List Pt}{t:Int × Int × Int}{k:Nat}(hk:k<=(sidesL l).length)(h:(clips t.1 (t.2.1,t.2.2) ((sidesL l).take k)).2 <(clips t.1 (t.2.1,t.2.2) ((sidesL l).take k)).1):hitRow l t=none:=by
 unfold hitRow
 rw[if_neg]
 rw[ze0 hk]
 have:=z9w (x:=t.1) (qs:=(sidesL l).drop k) h
 omega
def hitsO(l:List Pt)(r:Rg):Option Pt:=(rowsL r).findSome? (hitRow l)
theorem z2e{α β:Type}{f:α->Option β}:∀ {l:List α},(∀ t ∈ l,f t=none)->l.findSome? f=none
 | [],_=>rfl
 | a :: l,h=>by rw[List.findSome?_cons,h a List.mem_cons_self];exact z2e fun t ht=>h t (List.mem_cons_of_mem _ ht)
theorem z8l{α β:Type}{f:α->Option β}{l:List α}{k:Nat}{a:α}{b:β}(hk:l[k]?=some a)(h:∀ t ∈ l.take k,f t=none)(hb:f a=some b):l.findSome? f=some b:=by
 obtain⟨hlt,rfl⟩:=List.getElem?_eq_some_iff.1 hk
 rw[<-List.take_append_drop k l,List.findSome?_append,z2e h,List.drop_eq_getElem_cons hlt,List.findSome?_cons,hb];rfl
theorem zqb{x:Int}{q:Pt × Pt}(hx:-32768<=x /\ x<=32768)(h1:PlP q.1)(h2:PlP q.2):(-65536<=sideK q /\ sideK q<=65536) /\ (-6442450944<=sideN x q /\ sideN x q<=6442450944) /\
  (-2147483648<=(q.2.1 - q.1.1)*q.1.2 /\ (q.2.1 - q.1.1)*q.1.2<=2147483648) /\ (-4294967296<=(q.2.2 - q.1.2)*(x - q.1.1) /\ (q.2.2 - q.1.2)*(x - q.1.1)<=4294967296):=by
 have e1:=z37 (a:=q.2.1 - q.1.1) (b:=q.1.2) (A:=65536) (B:=32768) (by dsimp only[PlP,Pl] at *;omega) (by dsimp only[PlP,Pl] at *;omega)
 have e2:=z37 (a:=q.2.2 - q.1.2) (b:=x - q.1.1) (A:=65536) (B:=65536) (by dsimp only[PlP,Pl] at *;omega) (by dsimp only[PlP,Pl] at *;omega)
 unfold sideK sideN
 dsimp only[PlP,Pl] at *
 omega
theorem zkp{l:List Pt}(hl:∀ p ∈ l,PlP p){q:Pt × Pt}(hq:q ∈ sidesL l):PlP q.1 /\ PlP q.2:=by
 unfold sidesL at hq
 obtain⟨k,hk,rfl⟩:=List.mem_map.1 hq
 have hk:=List.mem_range.1 hk
 have hm:=zbf (i:=k) (by omega:0 < l.length)
 rw[zfi hk,zfi hm]
 exact⟨hl _ (List.getElem_mem _),hl _ (List.getElem_mem _)⟩
open Classical in
noncomputable def hitsF(l:List Pt)(r:Rg):Pt × Int:=if FieldOk l then(if RgOk r then(match hitsO l r with|some p=>(p,0)|none=>((0,0),4)) else((0,0),11)) else((0,0),12)
def sqN:Nat->Nat
 | 0=>0
 | n+1=>if (sqN n+1)*(sqN n+1)<=n+1 then sqN n+1 else sqN n
theorem zgl:∀ n:Nat,sqN n*sqN n<=n /\ n <(sqN n+1)*(sqN n+1)
 | 0=>by decide
 | n+1=>by
  obtain⟨h1,h2⟩:=zgl n
  unfold sqN
  split
  ·rename_i h
   refine⟨h,?_⟩
   have:(sqN n+1+1)*(sqN n+1+1)=(sqN n+1)*(sqN n+1)+2*(sqN n+1)+1:=by
    simp only[Nat.add_mul,Nat.mul_add];omega
   omega
  ·omega
def sqF(n:Int):Int:=(sqN n.toNat:Nat)
theorem z7q{n:Int}(h:0<=n):0<=sqF n /\ sqF n*sqF n<=n /\ n <(sqF n+1)*(sqF n+1):=by
 obtain⟨m,rfl⟩:=Int.eq_ofNat_of_zero_le h
 obtain⟨h1,h2⟩:=zgl m
 unfold sqF
 rw[Int.toNat_natCast]
 refine⟨by omega,by exact_mod_cast h1,by exact_mod_cast h2⟩
theorem zku{a b:Int}(ha:0<=a)(hab:a<=b):a*a<=b*b:=Int.mul_le_mul hab hab ha (by omega)
theorem zkt{a b:Int}(hb:0<=b)(h:a*a < b*b):a < b:=by
 by_cases h1:b<=a
 ·have:=zku hb h1;omega
 ·omega
theorem zn5{n r:Int}(hr:0<=r)(h1:r*r<=n)(h2:n <(r+1)*(r+1)):r=sqF n:=by
 have hn:0<=n:=by have:=zku (a:=0) (b:=r) (by omega) hr;omega
 obtain⟨g0,g1,g2⟩:=z7q hn
 have a1:=zkt (a:=r) (b:=sqF n+1) (by omega) (by omega)
 have a2:=zkt (a:=sqF n) (b:=r+1) (by omega) (by omega)
 omega
theorem ztb{n B:Int}(hn:0<=n)(hB:0<=B)(h:n <(B+1)*(B+1)):sqF n<=B:=by
 obtain⟨g0,g1,g2⟩:=z7q hn
 have:=zkt (a:=sqF n) (b:=B+1) (by omega) (by omega)
 omega
def sqU(n:Int):Int:=if sqF n*sqF n < n then sqF n+1 else sqF n
theorem zgm{n:Int}(h:0<=n):0<=sqU n /\ n<=sqU n*sqU n /\ (0 < sqU n->(sqU n - 1)*(sqU n - 1) < n):=by
 obtain⟨g0,g1,g2⟩:=z7q h
 unfold sqU
 split
 ·rename_i hc
  refine⟨by omega,by omega,fun _=>?_⟩
  rw[Int.add_sub_cancel];exact hc
 ·refine⟨g0,by omega,fun hp=>?_⟩
  have:(sqF n - 1)*(sqF n - 1) < sqF n*sqF n:=by
   rw[Int.sub_mul,Int.mul_sub];omega
  omega
theorem ztc{n B:Int}(h:0<=n)(hB:0<=B)(hn:n<=B*B):sqU n<=B:=by
 obtain⟨g0,g1,g2⟩:=zgm h
 by_cases hp:0 < sqU n
 ·have:=zkt (a:=sqU n - 1) (b:=B) hB (by have:=g2 hp;omega)
  omega
 ·omega
def distF(a b:Pt):Int:=(b.1 - a.1)*(b.1 - a.1)+(b.2 - a.2)*(b.2 - a.2)
def stepsF(v:Int)(a b:Pt):Int:=(sqU (distF a b)+v - 1) / v
theorem zj7{a b:Pt}(ha:PlP a)(hb:PlP b):(0<=(b.1 - a.1)*(b.1 - a.1) /\ (b.1 - a.1)*(b.1 - a.1)<=4294967296) /\ (0<=(b.2 - a.2)*(b.2 - a.2) /\ (b.2 - a.2)*(b.2 - a.2)<=4294967296):=by
 have sqr:∀ z:Int,-65536<=z /\ z<=65536->0<=z*z /\ z*z<=4294967296:=fun z hz=>by
  have:=z37 (a:=z) (b:=z) (A:=65536) (B:=65536) hz hz
  have h0:0<=z*z:=by rcases Int.le_total 0 z with h|h;exact Int.mul_nonneg h h;exact Int.mul_nonneg_of_nonpos_of_nonpos h h
  omega
 dsimp only[PlP,Pl] at ha hb
 exact⟨sqr _ (by omega),sqr _ (by omega)⟩
theorem zks{n:Int}(h:0<=n /\ n<=8589934592):0<=sqU n /\ sqU n<=92682:=⟨(zgm h.1).1,ztc h.1 (by omega) (by omega)⟩
theorem z7r{v:Int}(hv:1<=v /\ v<=1000){a b:Pt}(ha:PlP a)(hb:PlP b):0<=stepsF v a b /\ stepsF v a b<=92682:=by
 have h1:=zj7 ha hb
 have h2:=zks (n:=distF a b) (by unfold distF;omega)
 unfold stepsF
 refine⟨Int.ediv_nonneg (by omega) (by omega),?_⟩
 refine Int.ediv_le_of_le_mul (by omega) ?_
 have e:92682*v=92682*(v - 1)+92682:=by omega
 omega
structure Cr where
 lines:List (Pt × Pt)
 fields:List (List Pt)
 buoys:List Pt
 spread:Rg
 start:Pt × Int
 speed:Int
 turn:Int
 opn:List (List Bd)
def WinOk(l:List Bd):Prop:=l.length<=4 /\ ∀(k:Nat) (h:k < l.length),0<=l[k].1 /\ l[k].1<=l[k].2 /\ l[k].2<=1048576 /\ (k=0 ∨(l[k - 1]'(by omega)).2 < l[k].1)
def LineOk(l:Pt × Pt):Prop:=PlP l.1 /\ PlP l.2 /\ l.1 ≠ l.2
def PoseOk(p:Pt × Int):Prop:=PlP p.1 /\ 0<=p.2 /\ p.2<=7
def SpreadOk(r:Rg):Prop:=RgOk r /\ (tightO r).isSome=true /\ r.1.2 - r.1.1<=256 /\ r.2.1.2 - r.2.1.1<=256
structure CrOk (s:Cr):Prop where
 n1:1<=s.lines.length
 n5:s.lines.length<=5
 nf:s.fields.length<=4
 nb:s.buoys.length<=4
 no:s.opn.length=s.lines.length
 lines:∀ l ∈ s.lines,LineOk l
 opn:∀ l ∈ s.opn,WinOk l
 fields:∀ l ∈ s.fields,FieldOk l
 buoys:∀ p ∈ s.buoys,PlP p
 spread:SpreadOk s.spread
 start:PoseOk s.start
 speed:1<=s.speed /\ s.speed<=1000
 turn:0<=s.turn /\ s.turn<=1000
noncomputable def clearF(s:Cr)(a b:Pt):Bool:=decide ((sweptF s.spread a b).2=0) && !(s.fields.any fun f=>decide ((hitsF f (sweptF s.spread a b).1).2=0))
abbrev bdc(b:Bd):List LV:=[I b.1,I b.2]
abbrev legc(l:Pt × Pt):List LV:=[I l.1.1,I l.1.2,I l.2.1,I l.2.2]
abbrev winAt(l:List Bd)(k:Nat):Prop:=0<=(l.getD k (0,0)).1 /\ (l.getD k (0,0)).1<=(l.getD k (0,0)).2 /\ (l.getD k (0,0)).2<=1048576 /\ (k=0 ∨(l.getD (k - 1) (0,0)).2 <(l.getD k (0,0)).1)
theorem z00{α:Type}{l:List α}{k:Nat}{d:α}(h:k < l.length):l.getD k d=l[k]:=by rw[List.getD_eq_getElem?_getD,List.getElem?_eq_getElem h];rfl
theorem z9e{l:List Bd}:WinOk l ↔ l.length<=4 /\ ∀ k,k < l.length->winAt l k:=by
 unfold WinOk winAt
 refine and_congr_right fun _=>⟨fun h k hk=>?_,fun h k hk=>?_⟩
 ·have:=h k hk
  rw[z00 hk]
  refine⟨this.1,this.2.1,this.2.2.1,this.2.2.2.imp id fun h=>?_⟩
  rw[z00 (by omega)];exact h
 ·have:=h k hk
  rw[z00 hk] at this
  refine⟨this.1,this.2.1,this.2.2.1,this.2.2.2.imp id fun h=>?_⟩
  rw[z00 (by omega)] at h;exact h
open Classical in
noncomputable def winB(l:List Bd):Bool:=decide (WinOk l)
open Classical in
theorem zog{l:List Bd}(h:WinOk l):winB l=true:=by unfold winB;exact decide_eq_true h
open Classical in
theorem zl9{l:List Bd}(h:¬ WinOk l):winB l=false:=by unfold winB;exact decide_eq_false h
def SlL{α:Type}(sz:Nat)(enc:α->List LV)(M:Mem)(a:Option (Nat × Nat))(ll:List (List α)):Prop :=
 ll=[] ∨ ∃ i o,a=some (i,o) /\ ∀ k (hk:k < ll.length),∃ a' f',Rd1 M i (o+k*1) (.slice a' ll[k].length f' sz) /\ SlA sz enc M a' ll[k] /\ ll[k].length<=1000000000000000
theorem SlL.grow{α:Type}{sz:Nat}{enc:α->List LV}{M M':Mem}{a:Option (Nat × Nat)}{ll:List (List α)}(h:SlL sz enc M a ll)(hg:Grow M M'):SlL sz enc M' a ll :=
 h.imp id fun⟨i,o,h1,h2⟩=>⟨i,o,h1,fun k hk=>let ⟨a',f',g1,g2,g3⟩:=h2 k hk;⟨a',f',g1.grow hg,g2.grow hg,g3⟩⟩
structure CrA where
 aL:Option (Nat × Nat)
 fL:Bool
 aF:Option (Nat × Nat)
 fF:Bool
 aB:Option (Nat × Nat)
 fB:Bool
 aO:Option (Nat × Nat)
 fO:Bool
 eF:Nat
abbrev crc(A:CrA)(s:Cr):List LV:=[.slice A.aL s.lines.length A.fL 4,.slice A.aF s.fields.length A.fF A.eF,.slice A.aB s.buoys.length A.fB 2,I s.spread.1.1,I s.spread.1.2,I s.spread.2.1.1,I s.spread.2.1.2,I s.spread.2.2.1.1,I s.spread.2.2.1.2,I s.spread.2.2.2.1,I s.spread.2.2.2.2,
 I s.start.1.1,I s.start.1.2,I s.start.2,I s.speed,I s.turn,.slice A.aO s.opn.length A.fO 1]
abbrev crv(A:CrA)(s:Cr):LV:=.agg (crc A s)
structure CrM (M:Mem) (A:CrA) (s:Cr):Prop where
 lines:SlA 4 legc M A.aL s.lines
 fields:SlL 2 ptc M A.aF s.fields
 buoys:SlA 2 ptc M A.aB s.buoys
 opn:SlL 2 bdc M A.aO s.opn
 nl:s.lines.length<=1000000000000000
 nf:s.fields.length<=1000000000000000
 nb:s.buoys.length<=1000000000000000
 no:s.opn.length<=1000000000000000
theorem CrM.grow{M M':Mem}{A:CrA}{s:Cr}(h:CrM M A s)(hg:Grow M M'):CrM M' A s:=⟨h.lines.grow hg,h.fields.grow hg,h.buoys.grow hg,h.opn.grow hg,h.nl,h.nf,h.nb,h.no⟩
open Classical in
noncomputable def crB(s:Cr):Bool:=decide (CrOk s)
open Classical in
theorem zse{s:Cr}(h:CrOk s):crB s=true:=by unfold crB;exact decide_eq_true h
open Classical in
theorem zb8{s:Cr}(h:¬ CrOk s):crB s=false:=by unfold crB;exact decide_eq_false h
end Go.Proofs.YtpgalhbplcanhaaGreatDoor.C
end
section
open Go PvL Go.Proofs
set_option linter.unusedSimpArgs false
set_option linter.unusedVariables false
namespace Go.Proofs.YtpgalhbplcanhaaGreatDoor.C
set_option maxHeartbeats 1000000 in
theorem zix{a:Option (Nat × Nat)}{f:Bool}{l:List Bd}{M:Mem}(hl:SlA 2 bdc M a l)(hlen:l.length<=1000000000000000):ze Tryz.prog 260 [.slice a l.length f 2] M (fun w M'=>w=.bool (winB l) /\ Grow M M'):=by
 refine zf k260 rfl ?_
 delta x260;refine un ?_
 repeat' first|with_reducible intro _|refine sv ?_|refine ss ?_ ?_<;>(intro h;first|exact sz h|refine sy h ?_)|exact sq|fail
 refine zk (fun n E ms M'=>∃ k:Nat,n=l.length - k /\ k<=l.length /\ ms=[] /\ Has E [(0,.slice a l.length f 2),(5,.slice a l.length f 2),(6,I l.length),(7,I k)] /\ Grow M M' /\ ∀ j,j < k->winAt l j)
  ?_ l.length _ _ _ ⟨0,by omega,by omega,rfl,.cons rfl (.cons rfl (.cons rfl (.cons rfl .nil))),xg,fun j hj=>absurd hj (Nat.not_lt_zero _)⟩
 rintro n E ms M1 ⟨k,rfl,hk,rfl,hE,hg,hall⟩
 have hle:=hg.le
 refine z1h hE ?_
 by_cases hlast:k=l.length
 ·subst hlast
  repeat' first|with_reducible intro _|refine sv ?_|refine ss ?_ ?_<;>(intro h;first|exact sz h|refine sy h ?_)|exact sq|fail
  refine kf ?_
  refine⟨?_,xg⟩
  by_cases h4:l.length<=4
  ·rw[zog (z9e.2 ⟨h4,hall⟩)]
   exact congrArg LV.bool (decide_eq_true (by omega))
  ·rw[zl9 (fun hh=>h4 (z9e.1 hh).1)]
   exact congrArg LV.bool (decide_eq_false (by omega))
 have hlt:k < l.length:=by omega
 obtain⟨i,o,rfl,hr⟩:=hl.resolve_left (fun h=>by subst h;simp at hlt)
 have hr0:Rd M1 i (o+k*2) 2 (bdc l[k]):=(hr k hlt).grow hg
 have hno:¬ winAt l k->winB l=false:=fun h=>zl9 fun hh=>h ((z9e.1 hh).2 k hlt)
 have hyes:winAt l k->∀ j,j < k+1->winAt l j:=fun h j hj=>by
  by_cases hjk:j=k
  ·subst hjk;exact h
  ·exact hall j (by omega)
 unfold winAt at hno hyes
 rw[z00 hlt] at hno hyes
 have hat:=hr0.2
 by_cases hk0:k=0
 ·subst hk0
  (have hrd0:=hr0;repeat' (first|(with_reducible intro _)|refine sv ?_|((with_reducible first|apply zu|apply zt|apply zn);exact gd;exact rfl;exact rfl;(first|exact z1r _ _ _ _))|refine ss ?_ ?_<;>(intro h;first|exact sz h|refine sy h ?_)|exact sq|fail))
  all_goals first
   |(refine z0d (l.length - (0+1)) (by omega) ⟨0+1,rfl,by omega,rfl,.cons rfl (.cons rfl (.cons rfl (.cons rfl .nil))),xg,hyes (by omega)⟩;done)
   |((refine kf ?_)
     refine⟨?_,xg⟩
     rw[hno (by omega)];rfl)
 ·have hlt1:k - 1 < l.length:=by omega
  have hr1:Rd M1 i (o+(k - 1)*2) 2 (bdc l[k - 1]):=(hr (k - 1) hlt1).grow hg
  have hr1':Rd1 M1 i (o+((k:Int) - 1).toNat*2+1) (I (l[k - 1]'hlt1).2):=by
   rw[show((k:Int) - 1).toNat=k - 1 by omega];exact hr1.nth rfl
  rw[z00 hlt1] at hno hyes
  (have hrd0:=hr0;have hrd1:=hr1';repeat' (first|(with_reducible intro _)|refine sv ?_|((with_reducible first|apply zu|apply zt|apply zn);exact gd;exact rfl;exact rfl;(first|exact z1r _ _ _ _))|refine ss ?_ ?_<;>(intro h;first|exact sz h|refine sy h ?_)|exact sq|fail))
  all_goals first
   |(refine z0d (l.length - (k+1)) (by omega) ⟨k+1,rfl,by omega,rfl,.cons rfl (.cons rfl (.cons rfl (.cons rfl .nil))),xg,hyes (by omega)⟩;done)
   |((refine kf ?_)
     refine⟨?_,xg⟩
     rw[hno (by omega)];rfl)
theorem z2l{n:Nat}{p:Nat->Bool}:(List.range n).any p=true ↔ ∃ k,k < n /\ p k=true:=by
 rw[List.any_eq_true]
 exact⟨fun⟨k,h1,h2⟩=>⟨k,List.mem_range.1 h1,h2⟩,fun⟨k,h1,h2⟩=>⟨k,List.mem_range.2 h1,h2⟩⟩
set_option maxHeartbeats 1000000 in
theorem z80{a:Option (Nat × Nat)}{n:Nat}{f:Bool}{e:Nat}{g:FuncId}{fi ca:List LV}{M:Mem}(elem:Nat->LV)(p:Nat->Bool)(hn:n<=1000000000000000)
  (hread:∀ k,k < n->∃ i o,a=some (i,o) /\ Rd1 M i (o+k*1) (elem k)) (hp:∀ k,k < n->∀ M',Grow M M'->ze Tryz.prog g (fi ++ [elem k] ++ ca) M' (fun w M''=>w=.bool (p k) /\ Grow M' M'')) :
  ze Tryz.prog 268 [.slice a n f e,.func (.func g) fi ca] M (fun w M'=>∃ r:Int,w=I r /\ (0<=r ↔(List.range n).any p=true) /\ Grow M M'):=by
 refine zf k268 rfl ?_
 delta x268;refine un ?_
 repeat' first|with_reducible intro _|refine sv ?_|refine ss ?_ ?_<;>(intro h;first|exact sz h|refine sy h ?_)|exact sq|fail
 refine zk (fun m E ms M'=>∃ k:Nat,m=n - k /\ k<=n /\ ms=[] /\ Has E [(0,.slice a n f e),(1,.func (.func g) fi ca),(7,I n),(8,I k)] /\ Grow M M' /\ ∀ j,j < k->p j=false)
  ?_ n _ _ _ ⟨0,by omega,by omega,rfl,.cons rfl (.cons rfl (.cons rfl (.cons rfl .nil))),xg,fun j hj=>absurd hj (Nat.not_lt_zero _)⟩
 rintro m E ms M1 ⟨k,rfl,hk,rfl,hE,hg,hall⟩
 have hle:=hg.le
 refine z1h hE ?_
 by_cases hlast:k=n
 ·subst hlast
  repeat' first|with_reducible intro _|refine sv ?_|refine ss ?_ ?_<;>(intro h;first|exact sz h|refine sy h ?_)|exact sq|fail
  refine kf ?_
  refine⟨-1,rfl,?_,xg⟩
  rw[z2l]
  exact⟨fun h=>by omega,fun⟨j,h1,h2⟩=>by rw[hall j h1] at h2;cases h2⟩
 have hlt:k < n:=by omega
 obtain⟨i,o,rfl,hr⟩:=hread k hlt
 have hr0:=hr.grow hg
 have hc:=hp k hlt M1 hg
 cases hpk:p k with
 | true =>
  rw[hpk] at hc
  (have hrd0:=hr0;repeat' (first|(with_reducible intro _)|refine sv ?_|((with_reducible first|apply zj|apply zi|apply d_pure0);exact gd;exact rfl;exact rfl;(first|exact hc))|refine ss ?_ ?_<;>(intro h;first|exact sz h|refine sy h ?_)|exact sq|fail))
  refine kf ?_
  refine⟨k,rfl,?_,xg⟩
  rw[z2l]
  exact⟨fun _=>⟨k,hlt,hpk⟩,fun _=>by omega⟩
 | false =>
  rw[hpk] at hc
  (have hrd0:=hr0;repeat' (first|(with_reducible intro _)|refine sv ?_|((with_reducible first|apply zj|apply zi|apply d_pure0);exact gd;exact rfl;exact rfl;(first|exact hc))|refine ss ?_ ?_<;>(intro h;first|exact sz h|refine sy h ?_)|exact sq|fail))
  refine z0d (n - (k+1)) (by omega) ⟨k+1,rfl,by omega,rfl,.cons rfl (.cons rfl (.cons rfl (.cons rfl .nil))),xg,fun j hj=>?_⟩
  by_cases hjk:j=k
  ·subst hjk;exact hpk
  ·exact hall j (by omega)
theorem z2u{a:Option (Nat × Nat)}{n:Nat}{f:Bool}{e:Nat}{g:FuncId}{fi ca:List LV}{M:Mem}(elem:Nat->LV)(p:Nat->Bool)(hn:n<=1000000000000000)
  (hread:∀ k,k < n->∃ i o,a=some (i,o) /\ Rd1 M i (o+k*1) (elem k)) (hp:∀ k,k < n->∀ M',Grow M M'->ze Tryz.prog g (fi ++ [elem k] ++ ca) M' (fun w M''=>w=.bool (p k) /\ Grow M' M'')) :
  ze Tryz.prog 216 [.slice a n f e,.func (.func g) fi ca] M (fun w M'=>w=.bool ((List.range n).any p) /\ Grow M M'):=by
 refine zf k216 rfl ?_
 delta x216;refine un ?_
 have hc:=z80 (f:=f) (e:=e) elem p hn hread hp
 repeat' first|with_reducible intro _|refine sv ?_|((with_reducible first|apply zz|apply z0w|apply x_call0);exact gd;exact rfl;exact rfl;(first|exact hc))|refine ss ?_ ?_<;>(intro h;first|exact sz h|refine sy h ?_)|exact sq|fail
 rename_i hq
 obtain⟨r,rfl,hr,hg⟩:=hq
 repeat' first|with_reducible intro _|refine sv ?_|refine ss ?_ ?_<;>(intro h;first|exact sz h|refine sy h ?_)|exact sq|fail
 refine kf ?_
 refine⟨?_,hg⟩
 exact congrArg LV.bool (by rw[Bool.eq_iff_iff,decide_eq_true_iff];exact hr)
set_option maxHeartbeats 1000000 in
theorem z9i{a:Option (Nat × Nat)}{n:Nat}{f:Bool}{e:Nat}{g:FuncId}{fi ca:List LV}{M:Mem}(elem:Nat->List LV)(p:Nat->Bool)(hn:n<=1000000000000000)
  (hread:∀ k,k < n->∃ i o,a=some (i,o) /\ Rd M i (o+k*2) 2 (elem k)) (hp:∀ k,k < n->∀ M',Grow M M'->ze Tryz.prog g (fi ++ [.agg (elem k)] ++ ca) M' (fun w M''=>w=.bool (p k) /\ Grow M' M'')) :
  ze Tryz.prog 147 [.slice a n f e,.func (.func g) fi ca] M (fun w M'=>∃ r:Int,w=I r /\ (0<=r ↔(List.range n).any p=true) /\ Grow M M'):=by
 refine zf k147 rfl ?_
 delta x147;refine un ?_
 repeat' first|with_reducible intro _|refine sv ?_|refine ss ?_ ?_<;>(intro h;first|exact sz h|refine sy h ?_)|exact sq|fail
 refine zk (fun m E ms M'=>∃ k:Nat,m=n - k /\ k<=n /\ ms=[] /\ Has E [(0,.slice a n f e),(1,.func (.func g) fi ca),(7,I n),(8,I k)] /\ Grow M M' /\ ∀ j,j < k->p j=false)
  ?_ n _ _ _ ⟨0,by omega,by omega,rfl,.cons rfl (.cons rfl (.cons rfl (.cons rfl .nil))),xg,fun j hj=>absurd hj (Nat.not_lt_zero _)⟩
 rintro m E ms M1 ⟨k,rfl,hk,rfl,hE,hg,hall⟩
 have hle:=hg.le
 refine z1h hE ?_
 by_cases hlast:k=n
 ·subst hlast
  repeat' first|with_reducible intro _|refine sv ?_|refine ss ?_ ?_<;>(intro h;first|exact sz h|refine sy h ?_)|exact sq|fail
  refine kf ?_
  refine⟨-1,rfl,?_,xg⟩
  rw[z2l]
  exact⟨fun h=>by omega,fun⟨j,h1,h2⟩=>by rw[hall j h1] at h2;cases h2⟩
 have hlt:k < n:=by omega
 obtain⟨i,o,rfl,hr⟩:=hread k hlt
 have hr0:=hr.grow hg
 have hc:=hp k hlt M1 hg
 cases hpk:p k with
 | true =>
  rw[hpk] at hc
  (have hrd0:=hr0;repeat' (first|(with_reducible intro _)|refine sv ?_|((with_reducible first|apply zj|apply zi|apply d_pure0);exact gd;exact rfl;exact rfl;(first|exact hc))|refine ss ?_ ?_<;>(intro h;first|exact sz h|refine sy h ?_)|exact sq|fail))
  refine kf ?_
  refine⟨k,rfl,?_,xg⟩
  rw[z2l]
  exact⟨fun _=>⟨k,hlt,hpk⟩,fun _=>by omega⟩
 | false =>
  rw[hpk] at hc
  (have hrd0:=hr0;repeat' (first|(with_reducible intro _)|refine sv ?_|((with_reducible first|apply zj|apply zi|apply d_pure0);exact gd;exact rfl;exact rfl;(first|exact hc))|refine ss ?_ ?_<;>(intro h;first|exact sz h|refine sy h ?_)|exact sq|fail))
  refine z0d (n - (k+1)) (by omega) ⟨k+1,rfl,by omega,rfl,.cons rfl (.cons rfl (.cons rfl (.cons rfl .nil))),xg,fun j hj=>?_⟩
  by_cases hjk:j=k
  ·subst hjk;exact hpk
  ·exact hall j (by omega)
theorem z6i{a:Option (Nat × Nat)}{n:Nat}{f:Bool}{e:Nat}{g:FuncId}{fi ca:List LV}{M:Mem}(elem:Nat->List LV)(p:Nat->Bool)(hn:n<=1000000000000000)
  (hread:∀ k,k < n->∃ i o,a=some (i,o) /\ Rd M i (o+k*2) 2 (elem k)) (hp:∀ k,k < n->∀ M',Grow M M'->ze Tryz.prog g (fi ++ [.agg (elem k)] ++ ca) M' (fun w M''=>w=.bool (p k) /\ Grow M' M'')) :
  ze Tryz.prog 85 [.slice a n f e,.func (.func g) fi ca] M (fun w M'=>w=.bool ((List.range n).any p) /\ Grow M M'):=by
 refine zf k85 rfl ?_
 delta x85;refine un ?_
 have hc:=z9i (f:=f) (e:=e) elem p hn hread hp
 repeat' first|with_reducible intro _|refine sv ?_|((with_reducible first|apply zz|apply z0w|apply x_call0);exact gd;exact rfl;exact rfl;(first|exact hc))|refine ss ?_ ?_<;>(intro h;first|exact sz h|refine sy h ?_)|exact sq|fail
 rename_i hq
 obtain⟨r,rfl,hr,hg⟩:=hq
 repeat' first|with_reducible intro _|refine sv ?_|refine ss ?_ ?_<;>(intro h;first|exact sz h|refine sy h ?_)|exact sq|fail
 refine kf ?_
 refine⟨?_,hg⟩
 exact congrArg LV.bool (by rw[Bool.eq_iff_iff,decide_eq_true_iff];exact hr)
theorem znu(l a b:Int)(hl:0<=l /\ l<=1000000)(M:Mem):ze Tryz.prog 151 [I l,.agg [I a,I b]] M (fun w M'=>w=.bool (decide (-l<=a /\ a<=b /\ b<=l)) /\ Grow M M'):=by
 refine zf k151 rfl ?_
 delta x151;refine un ?_
 repeat' first|with_reducible intro _|refine sv ?_|refine ss ?_ ?_<;>(intro h;first|exact sz h|refine sy h ?_)|exact sq|fail
 all_goals (apply zhh;exact .tmp rfl .nil;refine⟨?_,?_⟩)
 all_goals first
  |(exact xg;done)
  | exact zd0 (by omega)
  | exact lb_f (by omega)
  | exact lb_t (by omega)
theorem z3b(r:Rg)(M:Mem):ze Tryz.prog 92 [rgv r] M (fun w M'=>w=rgv r /\ Grow M M'):=by
 refine zf k92 rfl ?_
 delta x92;refine un ?_
 repeat' first|with_reducible intro _|refine sv ?_|refine ss ?_ ?_<;>(intro h;first|exact sz h|refine sy h ?_)|exact sq|fail
 refine kf ?_
 exact⟨rfl,xg⟩
theorem zaz(r:Rg)(M:Mem):ze Tryz.prog 89 [rgv r] M (fun w M'=>w=rgv r /\ Grow M M'):=by
 refine zf k89 rfl ?_
 delta x89;refine un ?_
 repeat' first|with_reducible intro _|refine sv ?_|refine ss ?_ ?_<;>(intro h;first|exact sz h|refine sy h ?_)|exact sq|fail
 refine kf ?_
 exact⟨rfl,xg⟩
theorem c_of(p:Int × Int)(h:-1000000<=p.1 /\ p.1<=1000000 /\ -1000000<=p.2 /\ p.2<=1000000)(M:Mem):ze Tryz.prog 148 [ptv p] M (fun w M'=>w=rgv (ofP p) /\ Grow M M'):=by
 refine zf k148 rfl ?_
 delta x148;refine un ?_
 repeat' first|with_reducible intro _|refine sv ?_|refine su ?_|refine ss ?_ ?_<;>(intro h;first|exact sz h|refine sy h ?_)|exact sq|fail
 refine kf ?_
 exact⟨rfl,xg⟩
theorem zs7(a a' b b':Int)(M:Mem):ze Tryz.prog 150 [.agg [I a,I a'],.agg [I b,I b']] M (fun w M'=>w=.agg [I (iMin a b),I (iMax a' b')] /\ Grow M M'):=by
 refine zf k150 rfl ?_
 delta x150;refine un ?_
 repeat' first|with_reducible intro _|refine sv ?_|refine ss ?_ ?_<;>(intro h;first|exact sz h|refine sy h ?_)|exact sq|fail
 refine kf ?_
 exact⟨rfl,xg⟩
theorem zrz(a a' b b':Int)(h1:-1000000<=a /\ a<=1000000)(h2:-1000000<=a' /\ a'<=1000000)(h3:-1000000<=b /\ b<=1000000)(h4:-1000000<=b' /\ b'<=1000000)(M:Mem):ze Tryz.prog 323 [.agg [I a,I a'],.agg [I b,I b']] M (fun w M'=>w=.agg [I (a+b),I (a' + b')] /\ Grow M M'):=by
 refine zf k323 rfl ?_
 delta x323;refine un ?_
 repeat' first|with_reducible intro _|refine sv ?_|refine ss ?_ ?_<;>(intro h;first|exact sz h|refine sy h ?_)|exact sq|fail
 refine kf ?_
 exact⟨rfl,xg⟩
theorem z3s(r q:Rg)(M:Mem):ze Tryz.prog 149 [rgv r,rgv q,.func (.func 150) [] []] M (fun w M'=>w=rgv (map4 spanB r q) /\ Grow M M'):=by
 refine zf k149 rfl ?_
 delta x149;refine un ?_
 repeat' first|with_reducible intro _|refine sv ?_|refine su ?_|((with_reducible first|apply zj|apply zi|apply d_pure0);exact gd;exact rfl;exact rfl;(first|exact zs7 _ _ _ _ _))|refine ss ?_ ?_<;>(intro h;first|exact sz h|refine sy h ?_)|exact sq|fail
 refine kf ?_
 exact⟨rfl,xg⟩
theorem z82(r q:Rg)(hr:Sm 1000000 r)(hq:Sm 1000000 q)(M:Mem):ze Tryz.prog 149 [rgv r,rgv q,.func (.func 323) [] []] M (fun w M'=>w=rgv (map4 plusB r q) /\ Grow M M'):=by
 unfold Sm at hr hq
 refine zf k149 rfl ?_
 delta x149;refine un ?_
 repeat' first|with_reducible intro _|refine sv ?_|refine su ?_|((with_reducible first|apply zj|apply zi|apply d_pure0);exact gd;exact rfl;exact rfl;(first|exact zrz _ _ _ _ (by omega) (by omega) (by omega) (by omega) _))|refine ss ?_ ?_<;>(intro h;first|exact sz h|refine sy h ?_)|exact sq|fail
 refine kf ?_
 exact⟨rfl,xg⟩
theorem z22(r:Rg)(M:Mem):ze Tryz.prog 90 [rgv r] M (fun w M'=>w=I (eRg r) /\ Grow M M'):=by
 refine zf k90 rfl ?_
 delta x90;refine un ?_
 repeat' first|with_reducible intro _|refine sv ?_|refine su ?_|((with_reducible first|apply zj|apply zi|apply d_pure0);exact gd;exact rfl;exact rfl;(first|exact z3b _ _|exact znu _ _ _ (by omega) _))|refine ss ?_ ?_<;>(intro h;first|exact sz h|refine sy h ?_)|exact sq|fail
 all_goals (refine kf ?_)
 all_goals refine⟨?_,?_⟩
 all_goals first
  |(exact xg;done)
  |(unfold eRg;split<;>first|rfl|(exfalso;omega))
set_option maxHeartbeats 4000000 in
theorem zol(r:Rg)(hr:Sm 10000000 r){p:Nat}{own:Bool}{ty:TypeId}{M0:Mem}(hp:At M0 p (.cells own (rgc r) ty)) :
  PvL.Yields Tryz.prog 249 [] [.ptr (some (p,0))] (fun i=>i=p) ((rowsL r).map fun t=>[rowv t]) M0:=by
 intro l A J D hA hS stab stabD step h0
 have hpA:¬ A p:=hS p rfl
 unfold Sm at hr
 refine zf k249 rfl ?_
 dsimp only[x249,zM,zO,zI,zF,zS,zB,zL,zA,zE,zN,zW,zC,zH,zK,zX,zQ,zJ,zP,zY2,zY3,zY4,zY8,zT,zR,zU,zV,zG,List.map_cons,List.map_nil,zipE,Nat.reduceAdd,List.nil_append,List.cons_append]
 repeat' first|with_reducible intro _|refine sv ?_|refine ss ?_ ?_<;>(intro h;first|exact sz h|refine sy h ?_)|exact sq|fail
 refine zk (fun n E ms M=>∃ k:Nat,n=rowsN r - k /\ k<=rowsN r /\ ms=[] /\ Has E [(0,.func (.yield l) [] []),(1,.ptr (some (p,0))),(3,I (r.1.1+(k:Int)))] /\ Keep A M0 M /\ J (rowsK r k).length M) ?_ (rowsN r) _ _ _ ⟨0,by omega,by omega,rfl,.cons rfl (.cons rfl (.cons (congrArg (fun z=>some (I z)) (Int.add_zero _).symm) .nil)),Keep.refl _ _,h0⟩
 rintro n E ms M ⟨k,rfl,hk,rfl,hE,hkeep,hJ⟩
 have hp1:At M p (.cells own (rgc r) ty):=hkeep.at hp hpA
 have hle:=hkeep.le
 have hJ':∀ M',Grow M M'->J (rowsK r k).length M':=fun M' hg=>stab _ _ _ hJ hg.le fun i hi=>hg.old i (Nat.lt_of_lt_of_le hi hle)
 have hn:rowsN r=(r.1.2+1 - r.1.1).toNat:=rfl
 refine z1h hE ?_
 by_cases hlast:k=rowsN r
 ·have hl:r.1.2 < r.1.1+(k:Int):=by omega
  repeat' first|with_reducible intro _|refine sv ?_|refine ss ?_ ?_<;>(intro h;first|exact sz h|refine sy h ?_)|exact sq|fail
  refine kf ?_
  exact⟨hkeep,.inl (by rw[List.length_map];unfold rowsL;rw[<-hlast];exact hJ)⟩
 ·have hl:r.1.1+(k:Int)<=r.1.2:=by omega
  have hE':∀ E':Env,PvL.look E' 0=some (.func (.yield l) [] [])->PvL.look E' 1=some (.ptr (some (p,0)))->PvL.look E' 3=some (I (r.1.1+(k:Int)+1))->Has E' [(0,.func (.yield l) [] []),(1,.ptr (some (p,0))),(3,I (r.1.1+((k+1:Nat):Int)))]:=fun E' h0 h1 h3 =>
   .cons h0 (.cons h1 (.cons (by rw[h3,Int.natCast_add,Int.add_assoc];rfl) .nil))
  by_cases hok:okRow (rowOf r (r.1.1+(k:Int)))=true
  ·have hx:((rowsL r).map fun t=>[rowv t])[(rowsK r k).length]?=some [rowv (rowOf r (r.1.1+(k:Int)))]:=by
    rw[List.getElem?_map];unfold rowsL;rw[zko r (by omega) hok];rfl
   have hs:(rowsK r (k+1)).length=(rowsK r k).length+1:=by rw[z6s,if_pos hok,List.length_append];rfl
   have hok':iMax (iMax r.2.1.1 (r.2.2.1.1 - (r.1.1+(k:Int)))) (r.1.1+(k:Int) - r.2.2.2.2)<=iMin (iMin r.2.1.2 (r.2.2.1.2 - (r.1.1+(k:Int)))) (r.1.1+(k:Int) - r.2.2.2.1):=of_decide_eq_true hok
   repeat' first|with_reducible intro _|refine sv ?_|((with_reducible first|apply zz|apply z0w|apply x_call0);exact gd;exact rfl;exact rfl;(first|exact step _ _ hx _ (by omega) (hJ' _ (xg))))|refine ss ?_ ?_<;>(intro h;first|exact sz h|refine sy h ?_)|exact sq|fail
   obtain⟨hk2,⟨rfl,hJ2⟩|⟨rfl,hD⟩⟩:=‹Keep A _ _ /\ _›
   ·have:=hk2.le
    repeat' first|with_reducible intro _|refine sv ?_|refine ss ?_ ?_<;>(intro h;first|exact sz h|refine sy h ?_)|exact sq|fail
    refine z0d (rowsN r - (k+1)) (by omega) ⟨k+1,rfl,by omega,rfl,hE' _ rfl rfl rfl,Keep.trans (xk) hk2 (fun i hi=>.inl hi),by rw[hs];exact hJ2⟩
   ·have:=hk2.le
    repeat' first|with_reducible intro _|refine sv ?_|refine ss ?_ ?_<;>(intro h;first|exact sz h|refine sy h ?_)|exact sq|fail
    refine kf ?_
    exact⟨Keep.trans (xk) hk2 (fun i hi=>.inl hi),.inr hD⟩
  ·have hs:rowsK r (k+1)=rowsK r k:=by rw[z6s,if_neg hok,List.append_nil]
   have hok':iMin (iMin r.2.1.2 (r.2.2.1.2 - (r.1.1+(k:Int)))) (r.1.1+(k:Int) - r.2.2.2.1) < iMax (iMax r.2.1.1 (r.2.2.1.1 - (r.1.1+(k:Int)))) (r.1.1+(k:Int) - r.2.2.2.2):=by
    have:¬ _:=fun h=>hok (decide_eq_true h)
    exact Int.not_le.1 this
   repeat' first|with_reducible intro _|refine sv ?_|refine ss ?_ ?_<;>(intro h;first|exact sz h|refine sy h ?_)|exact sq|fail
   refine z0d (rowsN r - (k+1)) (by omega) ⟨k+1,rfl,by omega,rfl,hE' _ rfl rfl rfl,xk,by rw[hs];exact hJ' _ (xg)⟩
abbrev rowsV(p:Nat):LV:=.func (.func 249) [] [.ptr (some (p,0))]
abbrev endsV(p:Nat):LV:=.func (.func 199) [] [.ptr (some (p,0))]
theorem zny(r:Rg)(M:Mem):ze Tryz.prog 200 [rgv r] M (MkAt rowsV (.cells true (rgc r) 208) M):=by
 refine zf k200 rfl ?_
 delta x200;refine un ?_
 repeat' first|with_reducible intro _|refine sv ?_|refine ss ?_ ?_<;>(intro h;first|exact sz h|refine sy h ?_)|exact sq|fail
 refine kf ?_
 exact⟨_,rfl,xm,by omega,by omega,xg⟩
theorem ziu(r:Rg)(M:Mem):ze Tryz.prog 152 [rgv r] M (MkAt endsV (.cells true (rgc r) 208) M):=by
 refine zf k152 rfl ?_
 delta x152;refine un ?_
 repeat' first|with_reducible intro _|refine sv ?_|refine ss ?_ ?_<;>(intro h;first|exact sz h|refine sy h ?_)|exact sq|fail
 refine kf ?_
 exact⟨_,rfl,xm,by omega,by omega,xg⟩
set_option maxHeartbeats 4000000 in
theorem zln(r:Rg)(hr:Sm 10000000 r){p:Nat}{own:Bool}{ty:TypeId}{M0:Mem}(hp:At M0 p (.cells own (rgc r) ty)) :
  PvL.Yields Tryz.prog 199 [] [.ptr (some (p,0))] (fun i=>i=p) ((endsL r).map fun q=>[ptv q]) M0:=by
 intro l A J D hA hS stab stabD step h0
 have hpA:¬ A p:=hS p rfl
 refine zf k199 rfl ?_
 dsimp only[x199,zM,zO,zI,zF,zS,zB,zL,zA,zE,zN,zW,zC,zH,zK,zX,zQ,zJ,zP,zY2,zY3,zY4,zY8,zT,zR,zU,zV,zG,List.map_cons,List.map_nil,zipE,Nat.reduceAdd,List.nil_append,List.cons_append]
 repeat' first|with_reducible intro _|refine sv ?_|((with_reducible first|apply z7i|apply z72);exact gd;exact rfl;exact rfl;(first|exact zny r _))|refine ss ?_ ?_<;>(intro h;first|exact sz h|refine sy h ?_)|exact sq|fail
 rename_i n1 Ma hn1 e1 e2 p2 Mb hp2 e3 e3' hg2 hgl
 apply z4w
 exact rfl
 intro lb d l2 M1 M2 hlb hd e4 e5 hl e6 e7
 have ed:At M2 d .defr:=At.new_old hl (At.new_same hd)
 have el:At M2 l2 (lb .ready none):=At.new_same hl
 have hp2':At M2 p2 (.cells true (rgc r) 208):=At.new_old hl (At.new_old hd hp2)
 have hy:At M2 n1 (.cells true [.func (.yield l) [] []] _):=At.new_old hl (At.new_old hd (At.grow hg2 (At.new_same hn1)))
 have hJ0:J 0 M2:=stab _ _ _ h0 (by omega) fun i hi=>by
  rw[hl.grow.old i (by omega),hd.grow.old i (by omega),hg2.old i (by omega),hn1.grow.old i (by omega)]
 refine(zol r hr hp2' l2 (fun i=>A i ∨ i=l2 ∨ i=n1 ∨ i=d)
  (fun k M=>J (endsOf ((rowsL r).take k)).length M /\ At M l2 (lb .ready none) /\ At M n1 (.cells true [.func (.yield l) [] []] _) /\ At M d .defr)
  (fun M=>D M /\ At M l2 (lb .done (some .ret)) /\ At M d .defr) ?_ ?_ ?_ ?_ ?_ ⟨hJ0,el,hy,ed⟩).mono ?_
 ·rintro i (hi|rfl|rfl|rfl)
  ·have:=hA i hi;omega
  all_goals omega
 ·rintro i rfl (hi|hi|hi|hi)
  ·have:=hA _ hi;omega
  all_goals omega
 ·rintro k M M' ⟨h1,h2,h3,h4⟩ hle hA'
  exact⟨stab _ _ _ h1 hle fun i hi=>hA' i (by omega),h2.same hle (hA' _ (by omega)),h3.same hle (hA' _ (by omega)),h4.same hle (hA' _ (by omega))⟩
 ·rintro M M' ⟨h1,h2,h3⟩ hle hA'
  exact⟨stabD _ _ h1 hle fun i hi=>hA' i (by omega),h2.same hle (hA' _ (by omega)),h3.same hle (hA' _ (by omega))⟩
 ·rintro k x hx M hle ⟨h1,h2,h3,h4⟩
  rw[List.getElem?_map] at hx
  obtain⟨t,ht,rfl⟩:=Option.map_eq_some_iff.1 hx
  refine z1s hlb h2 rfl ?_
  dsimp only[zipP]
  have hgA:∀ M',Keep (fun i=>i=l2) M M'->∀ i,i < M0.next->M'.get i=M.get i:=fun M' hg i hi=>hg.old i (by omega) (by intro e;omega)
  have hJ':∀ M',Keep (fun i=>i=l2) M M'->J (endsOf ((rowsL r).take k)).length M':=fun M' hg=>stab _ _ _ h1 hg.le (hgA M' hg)
  have hsp:=zcn (rowsL r) ht
  have hsu:=ze7 (rowsL r) ht
  have hx1:((endsL r).map fun q=>[ptv q])[(endsOf ((rowsL r).take k)).length]?=some [ptv (t.1,t.2.1)]:=by
   rw[List.getElem?_map];unfold endsL;rw[hsp,List.getElem?_append_right (Nat.le_refl _),Nat.sub_self]
   unfold ends1
   split<;>rfl
  repeat' first|with_reducible intro _|refine sv ?_|((with_reducible first|apply zz|apply z0w|apply x_call0);exact gd;exact rfl;exact rfl;(first|exact step _ _ hx1 _ (by omega) (hJ' _ (xk))))|refine ss ?_ ?_<;>(intro h;first|exact sz h|refine sy h ?_)|exact sq|fail
  rename_i w4 M4 hq4
  obtain⟨hk4,hq4⟩:=hq4
  have hKM4:Keep (fun i=>A i ∨ i=l2 ∨ i=n1 ∨ i=d) M M4:=Keep.trans (xk) hk4 (fun i hi=>.inl (.inl hi))
  have hle4:=hk4.le
  have hkw:=hk4.weaken hA
  clear hk4
  rcases hq4 with⟨rfl,hJ4⟩|⟨rfl,hD4⟩
  ·have hJ4':∀ M',Keep (fun i=>i=l2) M4 M'->J ((endsOf ((rowsL r).take k)).length+1) M':=fun M' hg=>stab _ _ _ hJ4 hg.le fun i hi=>hg.old i (by omega) (by intro e;omega)
   by_cases hte:t.2.1=t.2.2
   ·have he:ends1 t=[(t.1,t.2.1)]:=if_pos hte
    have hlen:(endsOf ((rowsL r).take (k+1))).length=(endsOf ((rowsL r).take k)).length+1:=by rw[hsu,List.length_append,he];rfl
    repeat' first|with_reducible intro _|refine sv ?_|refine ss ?_ ?_<;>(intro h;first|exact sz h|refine sy h ?_)|exact sq|fail
    exact⟨xk,.inl ⟨rfl,by rw[hlen];exact hJ4' _ (xk),xm,xm,xm⟩⟩
   ·have he:ends1 t=[(t.1,t.2.1),(t.1,t.2.2)]:=if_neg hte
    have hlen:(endsOf ((rowsL r).take (k+1))).length=(endsOf ((rowsL r).take k)).length+1+1:=by rw[hsu,List.length_append,he];rfl
    have hx2:((endsL r).map fun q=>[ptv q])[(endsOf ((rowsL r).take k)).length+1]?=some [ptv (t.1,t.2.2)]:=by
     rw[List.getElem?_map];unfold endsL;rw[hsp,List.getElem?_append_right (by omega),Nat.add_sub_cancel_left,he];rfl
    repeat' first|with_reducible intro _|refine sv ?_|((with_reducible first|apply zz|apply z0w|apply x_call0);exact gd;exact rfl;exact rfl;(first|exact step _ _ hx2 _ (by omega) hJ4))|refine ss ?_ ?_<;>(intro h;first|exact sz h|refine sy h ?_)|exact sq|fail
    rename_i w5 M5 hq5
    obtain⟨hk5,hq5⟩:=hq5
    have hKM5:Keep (fun i=>A i ∨ i=l2 ∨ i=n1 ∨ i=d) M M5:=Keep.trans (xk) hk5 (fun i hi=>.inl (.inl hi))
    have hle5:=hk5.le
    have hkw5:=hk5.weaken hA
    clear hk5
    rcases hq5 with⟨rfl,hJ5⟩|⟨rfl,hD5⟩
    ·have hJ5':∀ M',Keep (fun i=>i=l2) M5 M'->J ((endsOf ((rowsL r).take k)).length+1+1) M':=fun M' hg=>stab _ _ _ hJ5 hg.le fun i hi=>hg.old i (by omega) (by intro e;omega)
     repeat' first|with_reducible intro _|refine sv ?_|refine ss ?_ ?_<;>(intro h;first|exact sz h|refine sy h ?_)|exact sq|fail
     exact⟨xk,.inl ⟨rfl,by rw[hlen];exact hJ5' _ (xk),xm,xm,xm⟩⟩
    ·have hD5':∀ M',Keep (fun i=>i=l2) M5 M'->D M':=fun M' hg=>stabD _ _ hD5 hg.le fun i hi=>hg.old i (by omega) (by intro e;omega)
     repeat' first|with_reducible intro _|refine sv ?_|refine ss ?_ ?_<;>(intro h;first|exact sz h|refine sy h ?_)|exact sq|fail
     exact⟨xk,.inr ⟨rfl,hD5' _ (xk),xm,xm⟩⟩
  ·have hD4':∀ M',Keep (fun i=>i=l2) M4 M'->D M':=fun M' hg=>stabD _ _ hD4 hg.le fun i hi=>hg.old i (by omega) (by intro e;omega)
   repeat' first|with_reducible intro _|refine sv ?_|refine ss ?_ ?_<;>(intro h;first|exact sz h|refine sy h ?_)|exact sq|fail
   exact⟨xk,.inr ⟨rfl,hD4' _ (xk),xm,xm⟩⟩
 ·rintro v M3 ⟨hk,hq⟩
  have hK3:Keep A M0 M3:=Keep.trans (xk) hk (by rintro i (hi|rfl|rfl|rfl)<;>first|exact .inl hi|exact .inr (by omega))
  have hle3:=hk.le
  clear hk
  have hst:∀ M',Keep (fun i=>i=l2 ∨ i=d) M3 M'->∀ i,i < M0.next->M'.get i=M3.get i:=fun M' hg i hi=>hg.old i (by omega) (by rintro(e|e)<;>omega)
  rcases hq with⟨h1,h2,h3,h4⟩|⟨h1,h2,h4⟩
  ·refine z40 h2 (by simp) fun M4 hu e8 a8=>?_
   repeat' first|with_reducible intro _|refine sv ?_|refine ss ?_ ?_<;>(intro h;first|exact sz h|refine sy h ?_)|exact sq|fail
   refine z0m (.inl rfl) (by simp) (by intro q hq;obtain rfl:=List.mem_singleton.1 hq;exact xm) fun M5 hm=>⟨_,.nil,?_⟩
   have hK5:Keep A M0 M5:=Keep.unmark (xk) hm (by intro q hq;obtain rfl:=List.mem_singleton.1 hq;right;omega)
   refine⟨hK5,.inl ?_⟩
   rw[List.length_map]
   rw[show(endsL r).length=(endsOf ((rowsL r).take ((rowsL r).map fun t=>[rowv t]).length)).length by rw[List.length_map,List.take_length];rfl]
   exact stab _ _ _ h1 (by rw[hm.next];omega) (hst _ (Keep.unmark (xk) hm (by intro q hq;obtain rfl:=List.mem_singleton.1 hq;exact .inl (.inr rfl))))
  ·refine z35 h2 (by simp) fun M4 hu e8 a8=>?_
   repeat' first|with_reducible intro _|refine sv ?_|refine ss ?_ ?_<;>(intro h;first|exact sz h|refine sy h ?_)|exact sq|fail
   refine z0m (.inr rfl) (by simp) (by intro q hq;obtain rfl:=List.mem_singleton.1 hq;exact xm) fun M5 hm=>⟨_,.nil,?_⟩
   have hK5:Keep A M0 M5:=Keep.unmark (xk) hm (by intro q hq;obtain rfl:=List.mem_singleton.1 hq;right;omega)
   refine⟨hK5,.inr ?_⟩
   exact stabD _ _ h1 (by rw[hm.next];omega) (hst _ (Keep.unmark (xk) hm (by intro q hq;obtain rfl:=List.mem_singleton.1 hq;exact .inl (.inr rfl))))
structure Gv where
 gf:FuncId
 ca:List LV
 S:Nat->Prop
 pts:List (Int × Int)
abbrev Gv.lv(g:Gv):LV:=.func (.func g.gf) [] g.ca
theorem z4x:∀ ds:List Nat,dnat (ds.map .mark)=ds
 | []=>rfl
 | d :: ds=>by show d :: dnat (ds.map .mark)=_;rw[z4x ds]
theorem zer:∀ ds:List Nat,onlyMarks (ds.map .mark)=true
 | []=>rfl
 | d :: ds=>zer ds
set_option maxHeartbeats 4000000 in
theorem znv(gs:List Gv){s o:Nat}{f:Bool}{e:Nat}{M0:Mem}(hs:∀ k (hk:k < gs.length),Rd1 M0 s (o+k*1) gs[k].lv)(hsz:gs.length<=1000000)
  (hy:∀ g ∈ gs,∀ M',Grow M0 M'->PvL.Yields Tryz.prog g.gf [] g.ca g.S (g.pts.map fun p=>[ptv p]) M') (hS:∀ g ∈ gs,∀ i,g.S i->i < M0.next) (hp:∀ g ∈ gs,∀ p ∈ g.pts,SmP 1000000 p) :
  ze Tryz.prog 87 [.slice (some (s,o)) gs.length f e] M0 (fun w M'=>w=.tup [rgv ((hullO none (gs.flatMap (·.pts))).getD zRg),.bool (hullO none (gs.flatMap (·.pts))).isSome] /\ Grow M0 M'):=by
 refine zf k87 rfl ?_
 delta x87;refine un ?_
 repeat' first|with_reducible intro _|refine sv ?_|refine ss ?_ ?_<;>(intro h;first|exact sz h|refine sy h ?_)|exact sq|fail
 rename_i n2 M1 hn2 e1 e2 n3 M2 hn3 e3 e4
 refine zk (fun n E ms M=>∃(k:Nat) (ds:List Nat),n=gs.length - k /\ k<=gs.length /\ ms=ds.map .mark /\ ds.Nodup /\ (∀ d ∈ ds,At M d .defr /\ M2.next<=d) /\
   Has E [(2,.ptr (some (n2,0))),(3,.ptr (some (n3,0))),(7,.slice (some (s,o)) gs.length f e),(8,I gs.length),(9,I k)] /\ Grow M0 M /\ M2.next<=M.next /\
   At M n2 (.cells true (rgc ((hullO none ((gs.take k).flatMap (·.pts))).getD zRg)) 208) /\ At M n3 (.cells true [.bool (hullO none ((gs.take k).flatMap (·.pts))).isSome] 4))
  ?_ gs.length _ _ _ ⟨0,[],by omega,by omega,rfl,List.nodup_nil,fun d hd=>(by cases hd),.cons rfl (.cons rfl (.cons rfl (.cons rfl (.cons rfl .nil)))),xg,by omega,xm,xm⟩
 rintro n E _ M ⟨k,ds,rfl,hk,rfl,hnd,hms,hE,hg,hle,hA2,hA3⟩
 refine z1h hE ?_
 by_cases hlast:k=gs.length
 ·subst hlast
  repeat' first|with_reducible intro _|refine sv ?_|refine ss ?_ ?_<;>(intro h;first|exact sz h|refine sy h ?_)|exact sq|fail
  rename_i M5 _ _ _ M6 _ _ _
  refine z0m (.inr rfl) (by rw[z4x];exact hnd) (by rw[z4x];intro d hd;obtain⟨h1,h2⟩:=hms d hd;exact xm) (fun M7 hm=>?_) (zer ds)
  rw[z4x] at hm
  have hn2':n2 ∉ ds:=fun h=>by have:=(hms _ h).2;omega
  have hn3':n3 ∉ ds:=fun h=>by have:=(hms _ h).2;omega
  have a2:At M6 n2 (.cells true (rgc ((hullO none ((gs.take gs.length).flatMap (·.pts))).getD zRg)) 208):=xm
  have a3:At M6 n3 (.cells true [.bool (hullO none ((gs.take gs.length).flatMap (·.pts))).isSome] 4):=xm
  refine⟨_,.cellN rfl (Rd.of_at (a2.unmark hm hn2') rfl).1 (.cell1 rfl (Rd1.of_at (a3.unmark hm hn3') rfl).1 .nil),?_,Grow.unmark (xg) hm (fun d hd=>by have:=(hms d hd).2;omega)⟩
  rw[List.take_length];rfl
 ·have hlt:k < gs.length:=by omega
  have hmem:gs[k] ∈ gs:=List.getElem_mem hlt
  have htake:(gs.take (k+1)).flatMap (·.pts)=(gs.take k).flatMap (·.pts) ++ gs[k].pts:=by rw[List.take_succ_eq_append_getElem hlt,List.flatMap_append];simp
  (have hrd0:=hs k hlt;repeat' (first|(with_reducible intro _)|refine sv ?_|refine ss ?_ ?_<;>(intro h;first|exact sz h|refine sy h ?_)|exact sq|fail))
  apply z4w
  exact rfl
  intro lb d l M3 M4 hlb hd e5 e6 hl e7 e8
  have hdef:∀ d' ∈ d :: ds,At M4 d' .defr /\ M2.next<=d' /\ d' < l:=fun d' hd'=>by
   rcases List.mem_cons.1 hd' with rfl|hd'
   ·exact⟨At.new_old hl (At.new_same hd),by omega,by omega⟩
   ·obtain⟨h1,h2⟩:=hms d' hd'
    have:=h1.lt
    exact⟨At.new_old hl (At.new_old hd h1),h2,by omega⟩
  have hnd':(d :: ds).Nodup:=List.nodup_cons.2 ⟨fun h=>by have:=(hms d h).1.lt;omega,hnd⟩
  refine(hy gs[k] hmem M4 (xg) l (fun i=>M0.next<=i /\ i < M4.next)
   (fun q M=>At M n2 (.cells true (rgc ((hullO (hullO none ((gs.take k).flatMap (·.pts))) (gs[k].pts.take q)).getD zRg)) 208) /\ At M n3 (.cells true [.bool (hullO (hullO none ((gs.take k).flatMap (·.pts))) (gs[k].pts.take q)).isSome] 4) /\ At M l (lb .ready none) /\ ∀ d' ∈ d :: ds,At M d' .defr)
   (fun _=>False) ?_ ?_ ?_ ?_ ?_ ⟨xm,xm,xm,fun d' hd'=>(hdef d' hd').1⟩).mono ?_
  ·rintro i ⟨h1,h2⟩;exact h2
  ·intro i hi h
   have:=hS gs[k] hmem i hi
   omega
  ·rintro q M M' ⟨h1,h2,h3,h4⟩ hle' hA'
   exact⟨h1.same hle' (hA' _ (by omega)),h2.same hle' (hA' _ (by omega)),h3.same hle' (hA' _ (by omega)),fun d' hd'=>(h4 d' hd').same hle' (hA' _ (by have:=(hdef d' hd').2.2;omega))⟩
  ·intro M M' h;exact h.elim
  ·rintro q x hx M' hle' ⟨h1,h2,h3,h4⟩
   rw[List.getElem?_map] at hx
   obtain⟨p,hpq,rfl⟩:=Option.map_eq_some_iff.1 hx
   have hsm:SmP 1000000 p:=hp gs[k] hmem p (List.mem_of_getElem? hpq)
   have hsu:=zhc (hullO none ((gs.take k).flatMap (·.pts))) gs[k].pts hpq
   rw[hsu]
   generalize hullO (hullO none ((gs.take k).flatMap (·.pts))) (gs[k].pts.take q)=oq at *
   unfold SmP at hsm
   refine z1s hlb h3 rfl ?_
   dsimp only[zipP]
   cases oq with
   | none =>
    repeat' first|with_reducible intro _|refine sv ?_|((with_reducible first|apply zj|apply zi|apply d_pure0);exact gd;exact rfl;exact rfl;(first|exact c_of p (by omega) _|exact z3s (ofP p) (ofP p) _))|refine ss ?_ ?_<;>(intro h;first|exact sz h|refine sy h ?_)|exact sq|fail
    exact⟨xk,.inl ⟨rfl,xm,xm,xm,fun d' hd'=>by have hq:=h4 d' hd';obtain⟨_,q1,q2⟩:=hdef d' hd';exact xm⟩⟩
   | some r =>
    repeat' first|with_reducible intro _|refine sv ?_|((with_reducible first|apply zj|apply zi|apply d_pure0);exact gd;exact rfl;exact rfl;(first|exact c_of p (by omega) _|exact z3s r (ofP p) _))|refine ss ?_ ?_<;>(intro h;first|exact sz h|refine sy h ?_)|exact sq|fail
    exact⟨xk,.inl ⟨rfl,xm,xm,xm,fun d' hd'=>by have hq:=h4 d' hd';obtain⟨_,q1,q2⟩:=hdef d' hd';exact xm⟩⟩
  ·rintro v M5 ⟨hk5,⟨h1,h2,h3,h4⟩|h⟩
   ·have hg5:Grow M0 M5:=(Grow.to_keep (xg) (fun _=>False) |>.trans hk5 (fun i hi=>.inr hi.1)).to_grow (fun i hi=>hi.elim)
    have hle5:=hk5.le
    have hfold:hullO none ((gs.take (k+1)).flatMap (·.pts))=hullO (hullO none ((gs.take k).flatMap (·.pts))) (gs[k].pts.take (gs[k].pts.map fun p=>[ptv p]).length):=by
     rw[htake,List.length_map,List.take_length];unfold hullO;rw[List.foldl_append]
    clear hk5
    refine z40 h3 (by simp) fun M6 hu e9 a9=>?_
    repeat' first|with_reducible intro _|refine sv ?_|refine ss ?_ ?_<;>(intro h;first|exact sz h|refine sy h ?_)|exact sq|fail
    refine z0d (gs.length - (k+1)) (by omega) ⟨k+1,d :: ds,rfl,by omega,rfl,hnd',fun d' hd'=>⟨by have hq:=h4 d' hd';obtain⟨_,q1,q2⟩:=hdef d' hd';exact xm,(hdef d' hd').2.1⟩,.cons rfl (.cons rfl (.cons rfl (.cons rfl (.cons rfl .nil)))),xg,by omega,?_,?_⟩
    ·rw[hfold];exact xm
    ·rw[hfold];exact xm
   ·exact h.elim
