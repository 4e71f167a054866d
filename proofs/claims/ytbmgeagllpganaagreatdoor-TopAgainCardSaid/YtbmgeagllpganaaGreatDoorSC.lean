/-
 Part of the proof of TopAgain. No condition beyond those in each theorem.
-/
import Derived.Test.YtbmgeagllpganaaGreatDoorSA
import Derived.Test.YtbmgeagllpganaaGreatDoorSB
section
open Go PvL Go.Proofs
set_option linter.unusedSimpArgs false
set_option linter.unusedVariables false
namespace Go.Proofs.YtbmgeagllpganaaGreatDoor.C
set_option maxHeartbeats 16000000 in
theorem zoi {M:Mem} {p n a b x:Nat} {f:Bool} {e:Nat} {ty:TypeId} {G:Nat->Ky} (hA:KT M p n ty G) (hb:b<=n) (hax:a<=x) (hxb:x < b) (hn:n<=1000) :
  CallOk Tryz.prog 149 [.slice (some (p,0)) n f e,I a,I b,I x,cf] M (fun w M'=>∃ (m:Nat) (q:Bool) (G':Nat->Ky),w=.tup [I m,.bool q] /\ Parted a b m G' /\ Sw a b G G' /\ KT M' p n ty G' /\ Keep (fun i=>i=p) M M'):=by
 refine zj k149 rfl ?_
 dsimp only [x149,zipE,Nat.reduceAdd]
 have hr1:=z0c hA (show a < n by omega)
 have hr2:=z0c hA (show x < n by omega)
 (have hrd0:=hr1;have hrd1:=hr2;repeat' (first|(with_reducible intro _)|refine sv ?_|(refine sc ?_ ?_<;>(intro h;try first|exact h.elim|exact absurd rfl h|(exfalso;omega)))|(refine sg ?_ ?_<;>(intro h;(fail_if_success (have:True:=h));try first|exact h.elim|exact absurd rfl h|(exfalso;omega)))|assumption|exact xm|exact rfl))
 refine d_st (by exact gd) rfl rfl hA rfl rfl (z08 (by omega) (G x)) ?_
 intro M7 hU7 e7 hA7
 (repeat' (first|(with_reducible intro _)|refine sv ?_|(refine sc ?_ ?_<;>(intro h;try first|exact h.elim|exact absurd rfl h|(exfalso;omega)))|(refine sg ?_ ?_<;>(intro h;(fail_if_success (have:True:=h));try first|exact h.elim|exact absurd rfl h|(exfalso;omega)))|assumption|exact xm|exact rfl))
 refine d_st (by exact gd) rfl rfl hA7 rfl rfl (z08 (by omega) (G a)) ?_
 intro M8 hU8 e8 hK
 have hkk:Keep (fun i=>i=p) M M8:=xk
 have hK:KT M8 p n ty (sw G a x):=hK
 have hw:Sw a b G (sw G a x):=.one (by omega) (by omega) hax hxb
 generalize sw G a x=G1 at *
 clear hr1 hr2 hA hU7 e7 hA7 hU8 e8
 (repeat' (first|(with_reducible intro _)|refine sv ?_|(refine sc ?_ ?_<;>(intro h;try first|exact h.elim|exact absurd rfl h|(exfalso;omega)))|(refine sg ?_ ?_<;>(intro h;(fail_if_success (have:True:=h));try first|exact h.elim|exact absurd rfl h|(exfalso;omega)))|assumption|exact xm|exact rfl))
 have hP:PL a b (a+1) (b - 1) G1:=PL.start (by omega)
 rw [show (b:Int) - 1=((b - 1:Nat):Int) by omega]
 have hj0:b - 1 < b:=by omega
 generalize b - 1=j0 at *
 refine z1a (K:=fun x E ms M'=>x=.exit 0 /\ ms=[] /\ ∃ i,PL a b i j0 G1 /\ (i<=j0->¬ klt (G1 i) (G1 a)) /\ Has E [(0,.slice (some (p,0)) n f e),(1,I a),(4,cf),(12,I i),(13,I j0)] /\ KT M' p n ty G1 /\ Keep (fun i=>i=p) M M') ?_ ?_
 ·refine zg (fun z E ms M'=>∃ i,z=b+2 - i /\ PL a b i j0 G1 /\ ms=[] /\ Has E [(0,.slice (some (p,0)) n f e),(1,I a),(4,cf),(12,I i),(13,I j0)] /\ KT M' p n ty G1 /\ Keep (fun i=>i=p) M M')
   ?_ (b+2 - (a+1)) _ _ _ ⟨(a+1),rfl,hP,rfl,.cons rfl (.cons rfl (.cons rfl (.cons rfl (.cons rfl .nil)))),hK,hkk⟩
  rintro z E ms M5 ⟨i,rfl,hP,rfl,hE,hK,hkk⟩
  refine z02 hE ?_
  have hP9:=hP
  obtain ⟨g1,g2,g3,-,-⟩:=hP9
  by_cases hij:i<=j0
  case neg =>
   (repeat' (first|(with_reducible intro _)|refine sv ?_|(refine sc ?_ ?_<;>(intro h;try first|exact h.elim|exact absurd rfl h|(exfalso;omega)))|(refine sg ?_ ?_<;>(intro h;(fail_if_success (have:True:=h));try first|exact h.elim|exact absurd rfl h|(exfalso;omega)))|assumption|exact xm|exact rfl))
   all_goals try (exfalso;omega)
   exact ⟨rfl,rfl,i,hP,fun hh=>absurd hh hij,.cons rfl (.cons rfl (.cons rfl (.cons rfl (.cons rfl .nil)))),hK,hkk⟩
  have hr1:=z0c hK (show i < n by omega)
  have hr2:=z0c hK (show a < n by omega)
  have co:=fun M'=>z0u (G1 i).1 (G1 i).2 (G1 a).1 (G1 a).2 M'
  (have hrd0:=hr1;have hrd1:=hr2;repeat' (first|(with_reducible intro _)|refine sv ?_|(refine sc ?_ ?_<;>(intro h;try first|exact h.elim|exact absurd rfl h|(exfalso;omega)))|((with_reducible first|apply z07|apply z06|apply zp);exact gd;exact rfl;exact rfl;(first|exact co _))|(refine sg ?_ ?_<;>(intro h;(fail_if_success (have:True:=h));try first|exact h.elim|exact absurd rfl h|(exfalso;omega)))|assumption|exact xm|exact rfl))
  all_goals try (exfalso;omega)
  ·rename_i hx M6 g6 q6
   have hlt:=(z0a (G1 i) (G1 a)).1 h
   exact zk (b+2 - (i+1)) (by omega) ⟨i+1,rfl,hP.up hij hlt,rfl,.cons rfl (.cons rfl (.cons rfl (.cons rfl (.cons rfl .nil)))),hK.grow g6,xk⟩
  ·rename_i hx M6 g6 q6
   have hkk6:Keep (fun i=>i=p) M M6:=xk
   exact ⟨rfl,rfl,i,hP,fun _ hh=>absurd ((z0a _ _).2 hh) (Int.not_lt.2 h),.cons rfl (.cons rfl (.cons rfl (.cons rfl (.cons rfl .nil)))),hK.grow g6,hkk6⟩
 rintro x E ms M10 ⟨rfl,rfl,i1,hP,hxi,hE,hK,hkk⟩
 apply z0y
 apply z2z
 refine z02 hE ?_
 (repeat' (first|(with_reducible intro _)|refine sv ?_|(refine sc ?_ ?_<;>(intro h;try first|exact h.elim|exact absurd rfl h|(exfalso;omega)))|(refine sg ?_ ?_<;>(intro h;(fail_if_success (have:True:=h));try first|exact h.elim|exact absurd rfl h|(exfalso;omega)))|assumption|exact xm|exact rfl))
 refine z1a (K:=fun x E ms M'=>x=.exit 2 /\ ms=[] /\ ∃ j,j<=j0 /\ PL a b i1 j G1 /\ (i1<=j->klt (G1 j) (G1 a)) /\ (i1<=j->¬ klt (G1 i1) (G1 a)) /\ Has E [(0,.slice (some (p,0)) n f e),(1,I a),(4,cf),(12,I i1),(13,I j)] /\ KT M' p n ty G1 /\ Keep (fun i=>i=p) M M') ?_ ?_
 ·refine zg (fun z E ms M'=>z<=j0 /\ PL a b i1 z G1 /\ (i1<=z->¬ klt (G1 i1) (G1 a)) /\ ms=[] /\ Has E [(0,.slice (some (p,0)) n f e),(1,I a),(4,cf),(12,I i1),(13,I z)] /\ KT M' p n ty G1 /\ Keep (fun i=>i=p) M M')
   ?_ j0 _ _ _ ⟨Nat.le_refl _,hP,hxi,rfl,.cons rfl (.cons rfl (.cons rfl (.cons rfl (.cons rfl .nil)))),hK,hkk⟩
  rintro j E ms M5 ⟨hjj,hP,hxi,rfl,hE,hK,hkk⟩
  refine z02 hE ?_
  have hP9:=hP
  obtain ⟨g1,g2,g3,-,-⟩:=hP9
  by_cases hij:i1<=j
  case neg =>
   (repeat' (first|(with_reducible intro _)|refine sv ?_|(refine sc ?_ ?_<;>(intro h;try first|exact h.elim|exact absurd rfl h|(exfalso;omega)))|(refine sg ?_ ?_<;>(intro h;(fail_if_success (have:True:=h));try first|exact h.elim|exact absurd rfl h|(exfalso;omega)))|assumption|exact xm|exact rfl))
   all_goals try (exfalso;omega)
   exact ⟨rfl,rfl,j,hjj,hP,fun hh=>absurd hh hij,fun hh=>absurd hh hij,.cons rfl (.cons rfl (.cons rfl (.cons rfl (.cons rfl .nil)))),hK,hkk⟩
  have hr1:=z0c hK (show j < n by omega)
  have hr2:=z0c hK (show a < n by omega)
  have co:=fun M'=>z0u (G1 j).1 (G1 j).2 (G1 a).1 (G1 a).2 M'
  (have hrd0:=hr1;have hrd1:=hr2;repeat' (first|(with_reducible intro _)|refine sv ?_|(refine sc ?_ ?_<;>(intro h;try first|exact h.elim|exact absurd rfl h|(exfalso;omega)))|((with_reducible first|apply z07|apply z06|apply zp);exact gd;exact rfl;exact rfl;(first|exact co _))|(refine sg ?_ ?_<;>(intro h;(fail_if_success (have:True:=h));try first|exact h.elim|exact absurd rfl h|(exfalso;omega)))|assumption|exact xm|exact rfl))
  all_goals try (exfalso;omega)
  ·rename_i hx M6 g6 q6
   obtain ⟨j',rfl⟩:∃ j',j=j' + 1:=⟨j - 1,by omega⟩
   have hge:¬ klt (G1 (j' + 1)) (G1 a):=fun hh=>absurd ((z0a _ _).2 hh) (Int.not_lt.2 h)
   have hkk6:Keep (fun i=>i=p) M M6:=xk
   refine zk j' (by omega) ⟨by omega,hP.down hij hge,fun hh=>hxi (by omega),rfl,.cons rfl (.cons rfl (.cons rfl (.cons rfl (.cons ?_ .nil)))),hK.grow g6,hkk6⟩
   show some (I _)=some (I _)
   rw [show (((j' + 1:Nat):Int) - 1)=(j':Int) by omega]
  ·rename_i hx M6 g6 q6
   have hlt:=(z0a (G1 j) (G1 a)).1 h
   have hkk6:Keep (fun i=>i=p) M M6:=xk
   exact ⟨rfl,rfl,j,hjj,hP,fun _=>hlt,hxi,.cons rfl (.cons rfl (.cons rfl (.cons rfl (.cons rfl .nil)))),hK.grow g6,hkk6⟩
 rintro x E ms M11 ⟨rfl,rfl,j1,hjj,hP,hxj,hxi,hE,hK,hkk⟩
 apply z0y
 apply z2z
 have hP1:=hP
 obtain ⟨g1,g2,g3,-,-⟩:=hP1
 refine z02 hE ?_
 by_cases hij:j1 < i1
 case pos =>
  have hr1:=z0c hK (show j1 < n by omega)
  have hr2:=z0c hK (show a < n by omega)
  (have hrd0:=hr1;have hrd1:=hr2;repeat' (first|(with_reducible intro _)|refine sv ?_|(refine sc ?_ ?_<;>(intro h;try first|exact h.elim|exact absurd rfl h|(exfalso;omega)))|(refine sg ?_ ?_<;>(intro h;(fail_if_success (have:True:=h));try first|exact h.elim|exact absurd rfl h|(exfalso;omega)))|assumption|exact xm|exact rfl))
  all_goals try (exfalso;omega)
  have hKs:=hK
  refine d_st (by exact gd) rfl rfl hKs rfl rfl (z08 (by omega) (G1 a)) ?_
  intro M17 hU17 e17 hA17
  (repeat' (first|(with_reducible intro _)|refine sv ?_|(refine sc ?_ ?_<;>(intro h;try first|exact h.elim|exact absurd rfl h|(exfalso;omega)))|(refine sg ?_ ?_<;>(intro h;(fail_if_success (have:True:=h));try first|exact h.elim|exact absurd rfl h|(exfalso;omega)))|assumption|exact xm|exact rfl))
  refine d_st (by exact gd) rfl rfl hA17 rfl rfl (z08 (by omega) (G1 j1)) ?_
  intro M12 hU18 e18 hK
  have hkk:Keep (fun i=>i=p) M M12:=xk
  have hK:KT M12 p n ty (sw G1 j1 a):=hK
  clear hr1 hr2 hKs hU17 e17 hA17 hU18 e18
  have hw2:Sw a b G (sw G1 j1 a):=.step hw (by omega) (by omega) (by omega) (by omega)
  have hd:=hP.done hij
  (repeat' (first|(with_reducible intro _)|refine sv ?_|(refine sc ?_ ?_<;>(intro h;try first|exact h.elim|exact absurd rfl h|(exfalso;omega)))|(refine sg ?_ ?_<;>(intro h;(fail_if_success (have:True:=h));try first|exact h.elim|exact absurd rfl h|(exfalso;omega)))|assumption|exact xm|exact rfl))
  ((with_reducible first|apply zi|apply zc);exact rx)
  exact ⟨j1,true,_,rfl,hd,hw2,hK,hkk⟩
 have hr1:=z0c hK (show i1 < n by omega)
 have hr2:=z0c hK (show j1 < n by omega)
 (have hrd0:=hr1;have hrd1:=hr2;repeat' (first|(with_reducible intro _)|refine sv ?_|(refine sc ?_ ?_<;>(intro h;try first|exact h.elim|exact absurd rfl h|(exfalso;omega)))|(refine sg ?_ ?_<;>(intro h;(fail_if_success (have:True:=h));try first|exact h.elim|exact absurd rfl h|(exfalso;omega)))|assumption|exact xm|exact rfl))
 all_goals try (exfalso;omega)
 have hKs:=hK
 refine d_st (by exact gd) rfl rfl hKs rfl rfl (z08 (by omega) (G1 j1)) ?_
 intro M17 hU17 e17 hA17
 (repeat' (first|(with_reducible intro _)|refine sv ?_|(refine sc ?_ ?_<;>(intro h;try first|exact h.elim|exact absurd rfl h|(exfalso;omega)))|(refine sg ?_ ?_<;>(intro h;(fail_if_success (have:True:=h));try first|exact h.elim|exact absurd rfl h|(exfalso;omega)))|assumption|exact xm|exact rfl))
 refine d_st (by exact gd) rfl rfl hA17 rfl rfl (z08 (by omega) (G1 i1)) ?_
 intro M12 hU18 e18 hK
 have hkk:Keep (fun i=>i=p) M M12:=xk
 have hK:KT M12 p n ty (sw G1 i1 j1):=hK
 clear hr1 hr2 hKs hU17 e17 hA17 hU18 e18
 obtain ⟨hij2,hP2⟩:=hP.swap (by omega) (hxi (by omega)) (hxj (by omega))
 have hw2:Sw a b G (sw G1 i1 j1):=.step hw (by omega) (by omega) (by omega) (by omega)
 (repeat' (first|(with_reducible intro _)|refine sv ?_|(refine sc ?_ ?_<;>(intro h;try first|exact h.elim|exact absurd rfl h|(exfalso;omega)))|(refine sg ?_ ?_<;>(intro h;(fail_if_success (have:True:=h));try first|exact h.elim|exact absurd rfl h|(exfalso;omega)))|assumption|exact xm|exact rfl))
 rw [show (j1:Int) - 1=((j1 - 1:Nat):Int) by omega]
 generalize hG2:sw G1 i1 j1=G2 at *
 generalize hJ2:j1 - 1=j2 at *
 refine zg (fun z E ms M'=>∃ (i:Nat) (G':Nat->Ky),PL a b i z G' /\ Sw a b G G' /\ ms=[] /\ Has E [(0,.slice (some (p,0)) n f e),(1,I a),(4,cf),(12,I i),(13,I z)] /\ KT M' p n ty G' /\ Keep (fun i=>i=p) M M')
  ?_ j2 _ _ _ ⟨i1+1,G2,hP2,hw2,rfl,.cons rfl (.cons rfl (.cons rfl (.cons rfl (.cons rfl .nil)))),hK,hkk⟩
 clear hK hkk hw2 hP2 hE hxi hxj hP
 rintro j3 E ms M3 ⟨i3,G3,hP,hw3,rfl,hE,hK,hkk⟩
 refine z02 hE ?_
 (repeat' (first|(with_reducible intro _)|refine sv ?_|(refine sc ?_ ?_<;>(intro h;try first|exact h.elim|exact absurd rfl h|(exfalso;omega)))|(refine sg ?_ ?_<;>(intro h;(fail_if_success (have:True:=h));try first|exact h.elim|exact absurd rfl h|(exfalso;omega)))|assumption|exact xm|exact rfl))
 refine z1a (K:=fun x E ms M'=>x=.exit 6 /\ ms=[] /\ ∃ i,PL a b i j3 G3 /\ (i<=j3->¬ klt (G3 i) (G3 a)) /\ Has E [(0,.slice (some (p,0)) n f e),(1,I a),(4,cf),(12,I i),(13,I j3)] /\ KT M' p n ty G3 /\ Keep (fun i=>i=p) M M') ?_ ?_
 ·refine zg (fun z E ms M'=>∃ i,z=b+2 - i /\ PL a b i j3 G3 /\ ms=[] /\ Has E [(0,.slice (some (p,0)) n f e),(1,I a),(4,cf),(12,I i),(13,I j3)] /\ KT M' p n ty G3 /\ Keep (fun i=>i=p) M M')
   ?_ (b+2 - i3) _ _ _ ⟨i3,rfl,hP,rfl,.cons rfl (.cons rfl (.cons rfl (.cons rfl (.cons rfl .nil)))),hK,hkk⟩
  rintro z E ms M5 ⟨i,rfl,hP,rfl,hE,hK,hkk⟩
  refine z02 hE ?_
  have hP9:=hP
  obtain ⟨g1,g2,g3,-,-⟩:=hP9
  by_cases hij:i<=j3
  case neg =>
   (repeat' (first|(with_reducible intro _)|refine sv ?_|(refine sc ?_ ?_<;>(intro h;try first|exact h.elim|exact absurd rfl h|(exfalso;omega)))|(refine sg ?_ ?_<;>(intro h;(fail_if_success (have:True:=h));try first|exact h.elim|exact absurd rfl h|(exfalso;omega)))|assumption|exact xm|exact rfl))
   all_goals try (exfalso;omega)
   exact ⟨rfl,rfl,i,hP,fun hh=>absurd hh hij,.cons rfl (.cons rfl (.cons rfl (.cons rfl (.cons rfl .nil)))),hK,hkk⟩
  have hr1:=z0c hK (show i < n by omega)
  have hr2:=z0c hK (show a < n by omega)
  have co:=fun M'=>z0u (G3 i).1 (G3 i).2 (G3 a).1 (G3 a).2 M'
  (have hrd0:=hr1;have hrd1:=hr2;repeat' (first|(with_reducible intro _)|refine sv ?_|(refine sc ?_ ?_<;>(intro h;try first|exact h.elim|exact absurd rfl h|(exfalso;omega)))|((with_reducible first|apply z07|apply z06|apply zp);exact gd;exact rfl;exact rfl;(first|exact co _))|(refine sg ?_ ?_<;>(intro h;(fail_if_success (have:True:=h));try first|exact h.elim|exact absurd rfl h|(exfalso;omega)))|assumption|exact xm|exact rfl))
  all_goals try (exfalso;omega)
  ·rename_i hx M6 g6 q6
   have hlt:=(z0a (G3 i) (G3 a)).1 h
   exact zk (b+2 - (i+1)) (by omega) ⟨i+1,rfl,hP.up hij hlt,rfl,.cons rfl (.cons rfl (.cons rfl (.cons rfl (.cons rfl .nil)))),hK.grow g6,xk⟩
  ·rename_i hx M6 g6 q6
   have hkk6:Keep (fun i=>i=p) M M6:=xk
   exact ⟨rfl,rfl,i,hP,fun _ hh=>absurd ((z0a _ _).2 hh) (Int.not_lt.2 h),.cons rfl (.cons rfl (.cons rfl (.cons rfl (.cons rfl .nil)))),hK.grow g6,hkk6⟩
 rintro x E ms M20 ⟨rfl,rfl,i4,hP,hxi,hE,hK,hkk⟩
 apply z0y
 apply z2z
 refine z02 hE ?_
 (repeat' (first|(with_reducible intro _)|refine sv ?_|(refine sc ?_ ?_<;>(intro h;try first|exact h.elim|exact absurd rfl h|(exfalso;omega)))|(refine sg ?_ ?_<;>(intro h;(fail_if_success (have:True:=h));try first|exact h.elim|exact absurd rfl h|(exfalso;omega)))|assumption|exact xm|exact rfl))
 refine z1a (K:=fun x E ms M'=>x=.exit 8 /\ ms=[] /\ ∃ j,j<=j3 /\ PL a b i4 j G3 /\ (i4<=j->klt (G3 j) (G3 a)) /\ (i4<=j->¬ klt (G3 i4) (G3 a)) /\ Has E [(0,.slice (some (p,0)) n f e),(1,I a),(4,cf),(12,I i4),(13,I j)] /\ KT M' p n ty G3 /\ Keep (fun i=>i=p) M M') ?_ ?_
 ·refine zg (fun z E ms M'=>z<=j3 /\ PL a b i4 z G3 /\ (i4<=z->¬ klt (G3 i4) (G3 a)) /\ ms=[] /\ Has E [(0,.slice (some (p,0)) n f e),(1,I a),(4,cf),(12,I i4),(13,I z)] /\ KT M' p n ty G3 /\ Keep (fun i=>i=p) M M')
   ?_ j3 _ _ _ ⟨Nat.le_refl _,hP,hxi,rfl,.cons rfl (.cons rfl (.cons rfl (.cons rfl (.cons rfl .nil)))),hK,hkk⟩
  rintro j E ms M5 ⟨hjj,hP,hxi,rfl,hE,hK,hkk⟩
  refine z02 hE ?_
  have hP9:=hP
  obtain ⟨g1,g2,g3,-,-⟩:=hP9
  by_cases hij:i4<=j
  case neg =>
   (repeat' (first|(with_reducible intro _)|refine sv ?_|(refine sc ?_ ?_<;>(intro h;try first|exact h.elim|exact absurd rfl h|(exfalso;omega)))|(refine sg ?_ ?_<;>(intro h;(fail_if_success (have:True:=h));try first|exact h.elim|exact absurd rfl h|(exfalso;omega)))|assumption|exact xm|exact rfl))
   all_goals try (exfalso;omega)
   exact ⟨rfl,rfl,j,hjj,hP,fun hh=>absurd hh hij,fun hh=>absurd hh hij,.cons rfl (.cons rfl (.cons rfl (.cons rfl (.cons rfl .nil)))),hK,hkk⟩
  have hr1:=z0c hK (show j < n by omega)
  have hr2:=z0c hK (show a < n by omega)
  have co:=fun M'=>z0u (G3 j).1 (G3 j).2 (G3 a).1 (G3 a).2 M'
  (have hrd0:=hr1;have hrd1:=hr2;repeat' (first|(with_reducible intro _)|refine sv ?_|(refine sc ?_ ?_<;>(intro h;try first|exact h.elim|exact absurd rfl h|(exfalso;omega)))|((with_reducible first|apply z07|apply z06|apply zp);exact gd;exact rfl;exact rfl;(first|exact co _))|(refine sg ?_ ?_<;>(intro h;(fail_if_success (have:True:=h));try first|exact h.elim|exact absurd rfl h|(exfalso;omega)))|assumption|exact xm|exact rfl))
  all_goals try (exfalso;omega)
  ·rename_i hx M6 g6 q6
   obtain ⟨j',rfl⟩:∃ j',j=j' + 1:=⟨j - 1,by omega⟩
   have hge:¬ klt (G3 (j' + 1)) (G3 a):=fun hh=>absurd ((z0a _ _).2 hh) (Int.not_lt.2 h)
   have hkk6:Keep (fun i=>i=p) M M6:=xk
   refine zk j' (by omega) ⟨by omega,hP.down hij hge,fun hh=>hxi (by omega),rfl,.cons rfl (.cons rfl (.cons rfl (.cons rfl (.cons ?_ .nil)))),hK.grow g6,hkk6⟩
   show some (I _)=some (I _)
   rw [show (((j' + 1:Nat):Int) - 1)=(j':Int) by omega]
  ·rename_i hx M6 g6 q6
   have hlt:=(z0a (G3 j) (G3 a)).1 h
   have hkk6:Keep (fun i=>i=p) M M6:=xk
   exact ⟨rfl,rfl,j,hjj,hP,fun _=>hlt,hxi,.cons rfl (.cons rfl (.cons rfl (.cons rfl (.cons rfl .nil)))),hK.grow g6,hkk6⟩
 rintro x E ms M21 ⟨rfl,rfl,j4,hjj,hP,hxj,hxi,hE,hK,hkk⟩
 apply z0y
 apply z2z
 have hP1:=hP
 obtain ⟨k1,k2,k3,-,-⟩:=hP1
 refine z02 hE ?_
 by_cases hij4:j4 < i4
 case pos =>
  have hr1:=z0c hK (show j4 < n by omega)
  have hr2:=z0c hK (show a < n by omega)
  (have hrd0:=hr1;have hrd1:=hr2;repeat' (first|(with_reducible intro _)|refine sv ?_|(refine sc ?_ ?_<;>(intro h;try first|exact h.elim|exact absurd rfl h|(exfalso;omega)))|(refine sg ?_ ?_<;>(intro h;(fail_if_success (have:True:=h));try first|exact h.elim|exact absurd rfl h|(exfalso;omega)))|assumption|exact xm|exact rfl))
  all_goals try (exfalso;omega)
  have hKs:=hK
  refine d_st (by exact gd) rfl rfl hKs rfl rfl (z08 (by omega) (G3 a)) ?_
  intro M17 hU17 e17 hA17
  (repeat' (first|(with_reducible intro _)|refine sv ?_|(refine sc ?_ ?_<;>(intro h;try first|exact h.elim|exact absurd rfl h|(exfalso;omega)))|(refine sg ?_ ?_<;>(intro h;(fail_if_success (have:True:=h));try first|exact h.elim|exact absurd rfl h|(exfalso;omega)))|assumption|exact xm|exact rfl))
  refine d_st (by exact gd) rfl rfl hA17 rfl rfl (z08 (by omega) (G3 j4)) ?_
  intro M22 hU18 e18 hK
  have hkk:Keep (fun i=>i=p) M M22:=xk
  have hK:KT M22 p n ty (sw G3 j4 a):=hK
  clear hr1 hr2 hKs hU17 e17 hA17 hU18 e18
  have hw4:Sw a b G (sw G3 j4 a):=.step hw3 (by omega) (by omega) (by omega) (by omega)
  have hd:=hP.done hij4
  (repeat' (first|(with_reducible intro _)|refine sv ?_|(refine sc ?_ ?_<;>(intro h;try first|exact h.elim|exact absurd rfl h|(exfalso;omega)))|(refine sg ?_ ?_<;>(intro h;(fail_if_success (have:True:=h));try first|exact h.elim|exact absurd rfl h|(exfalso;omega)))|assumption|exact xm|exact rfl))
  ((with_reducible first|apply zi|apply zc);exact rx)
  exact ⟨j4,false,_,rfl,hd,hw4,hK,hkk⟩
 have hr1:=z0c hK (show i4 < n by omega)
 have hr2:=z0c hK (show j4 < n by omega)
 (have hrd0:=hr1;have hrd1:=hr2;repeat' (first|(with_reducible intro _)|refine sv ?_|(refine sc ?_ ?_<;>(intro h;try first|exact h.elim|exact absurd rfl h|(exfalso;omega)))|(refine sg ?_ ?_<;>(intro h;(fail_if_success (have:True:=h));try first|exact h.elim|exact absurd rfl h|(exfalso;omega)))|assumption|exact xm|exact rfl))
 all_goals try (exfalso;omega)
 have hKs:=hK
 refine d_st (by exact gd) rfl rfl hKs rfl rfl (z08 (by omega) (G3 j4)) ?_
 intro M17 hU17 e17 hA17
 (repeat' (first|(with_reducible intro _)|refine sv ?_|(refine sc ?_ ?_<;>(intro h;try first|exact h.elim|exact absurd rfl h|(exfalso;omega)))|(refine sg ?_ ?_<;>(intro h;(fail_if_success (have:True:=h));try first|exact h.elim|exact absurd rfl h|(exfalso;omega)))|assumption|exact xm|exact rfl))
 refine d_st (by exact gd) rfl rfl hA17 rfl rfl (z08 (by omega) (G3 i4)) ?_
 intro M22 hU18 e18 hK
 have hkk:Keep (fun i=>i=p) M M22:=xk
 have hK:KT M22 p n ty (sw G3 i4 j4):=hK
 clear hr1 hr2 hKs hU17 e17 hA17 hU18 e18
 obtain ⟨hij5,hP5⟩:=hP.swap (by omega) (hxi (by omega)) (hxj (by omega))
 have hw5:Sw a b G (sw G3 i4 j4):=.step hw3 (by omega) (by omega) (by omega) (by omega)
 (repeat' (first|(with_reducible intro _)|refine sv ?_|(refine sc ?_ ?_<;>(intro h;try first|exact h.elim|exact absurd rfl h|(exfalso;omega)))|(refine sg ?_ ?_<;>(intro h;(fail_if_success (have:True:=h));try first|exact h.elim|exact absurd rfl h|(exfalso;omega)))|assumption|exact xm|exact rfl))
 refine zk (j4 - 1) (by omega) ⟨i4+1,_,hP5,hw5,rfl,.cons rfl (.cons rfl (.cons rfl (.cons rfl (.cons ?_ .nil)))),hK,hkk⟩
 show some (I _)=some (I _)
 rw [show ((j4 - 1:Nat):Int)=(j4:Int) - 1 by omega]
abbrev PE (p n:Nat) (f:Bool) (e:Nat) (a b:Nat) (lim:Int) (wb wp:Bool) (l:Env):Env:=(0,.slice (some (p,0)) n f e) :: (1,I a) :: (2,I b) :: (3,I lim) :: (4,cf) :: (10,.bool wb) :: (11,.bool wp) :: l
theorem pe9 {E l:Env} {p n:Nat} {f:Bool} {e:Nat} {a b:Nat} {lim:Int} {wb wp:Bool} (h:Has E l) (h0:PvL.look E 0=some (.slice (some (p,0)) n f e):=by exact rfl) (h1:PvL.look E 1=some (I a):=by exact rfl) (h2:PvL.look E 2=some (I b):=by exact rfl) (h3:PvL.look E 3=some (I lim):=by exact rfl) (h4:PvL.look E 4=some cf:=by exact rfl) (h5:PvL.look E 10=some (.bool wb):=by exact rfl) (h6:PvL.look E 11=some (.bool wp):=by exact rfl):Has E (PE p n f e a b lim wb wp l) :=
 .cons h0 (.cons h1 (.cons h2 (.cons h3 (.cons h4 (.cons h5 (.cons h6 h))))))
set_option maxHeartbeats 16000000 in
theorem zql {p n:Nat} {f:Bool} {e:Nat} {ty:TypeId} (hn:n < 250):∀ (N:Nat) {M:Mem} {a b:Nat} {lim:Int} {G:Nat->Ky},b - a < N->KT M p n ty G->b<=n->a<=b->Inj n G->Lo a b G->0<=lim /\ lim<=1000 ->
  CallOk Tryz.prog 104 [.slice (some (p,0)) n f e,I a,I b,I lim,cf] M (fun w M'=>∃ G',Sw a b G G' /\ Srt a b G' /\ KT M' p n ty G' /\ Keep (fun i=>i=p) M M'):=by
 intro N
 induction N with
 | zero=>intro M a b lim G h;omega
 | succ N ih =>
 intro M a b lim G hN hA hb hab hij hlo hlim
 refine zj k104 rfl ?_
 dsimp only [x104,zipE,Nat.reduceAdd]
 (repeat' (first|(with_reducible intro _)|refine sv ?_|(refine sc ?_ ?_<;>(intro h;try first|exact h.elim|exact absurd rfl h|(exfalso;omega)))|(refine sg ?_ ?_<;>(intro h;(fail_if_success (have:True:=h));try first|exact h.elim|exact absurd rfl h|(exfalso;omega)))|assumption|exact xm|exact rfl))
 refine zg (fun z E ms M'=>∃ (a' b':Nat) (lim':Int) (wb wp:Bool) (G':Nat->Ky),z=b' - a' /\ a<=a' /\ a'<=b' /\ b'<=b /\ (0<=lim' /\ lim'<=1000) /\ ms=[] /\ Has E (PE p n f e a' b' lim' wb wp []) /\ Sw a b G G' /\ Out a b a' b' G' /\ Inj n G' /\ Lo a' b' G' /\ KT M' p n ty G' /\ Keep (fun i=>i=p) M M')
  ?_ (b - a) _ _ _ ⟨a,b,lim,true,true,G,rfl,by omega,hab,by omega,hlim,rfl,pe9 .nil,.refl,Out.start,hij,hlo,hA,Keep.refl _ _⟩
 clear hA hlo hlim hij lim
 rintro z E ms M1 ⟨a',b',lim,wb,wp,G1,rfl,ha1,hab1,hb1,hlim,rfl,hE,hw1,ho1,hij1,hlo1,hA1,hk1⟩
 refine z02 hE ?_
 by_cases hshort:b'<=a' + 12
 ·(repeat' (first|(with_reducible intro _)|refine sv ?_|(refine sc ?_ ?_<;>(intro h;try first|exact h.elim|exact absurd rfl h|(exfalso;omega)))|((with_reducible first|apply zw|apply zy|apply zn);exact gd;exact rfl;exact rfl;(first|exact zqk hA1 (show b'<=n by omega) hab1 (by omega)))|(refine sg ?_ ?_<;>(intro h;(fail_if_success (have:True:=h));try first|exact h.elim|exact absurd rfl h|(exfalso;omega)))|assumption|exact xm|exact rfl))
  all_goals try (exfalso;omega)
  rename_i hq
  obtain ⟨G2,hw2,hs2,hA2,hk2⟩:=hq
  ((with_reducible first|apply zi|apply zc);exact rx)
  exact ⟨G2,hw1.trans (hw2.wider ha1 hb1),(ho1.sw hw2 ha1 hb1).fin hs2,hA2,hk1.trans hk2 (fun i hi=>.inl hi)⟩
 by_cases hl0:lim=0
 ·subst hl0
  (repeat' (first|(with_reducible intro _)|refine sv ?_|(refine sc ?_ ?_<;>(intro h;try first|exact h.elim|exact absurd rfl h|(exfalso;omega)))|((with_reducible first|apply zw|apply zy|apply zn);exact gd;exact rfl;exact rfl;(first|exact zof hA1 (show b'<=n by omega) (show a' < b' by omega) (by omega)))|(refine sg ?_ ?_<;>(intro h;(fail_if_success (have:True:=h));try first|exact h.elim|exact absurd rfl h|(exfalso;omega)))|assumption|exact xm|exact rfl))
  all_goals try (exfalso;omega)
  rename_i hq
  obtain ⟨G2,hw2,hs2,hA2,hk2⟩:=hq
  ((with_reducible first|apply zi|apply zc);exact rx)
  exact ⟨G2,hw1.trans (hw2.wider ha1 hb1),(ho1.sw hw2 ha1 hb1).fin hs2,hA2,hk1.trans hk2 (fun i hi=>.inl hi)⟩
 apply zim
 apply z66
 refine z1a (K:=fun x E ms M'=>x=.norm /\ ms=[] /\ Has E (PE p n f e a' b' lim wb wp [(12,I ((b':Int) - a'))]) /\ M'=M1) ?_ ?_
 ·(repeat' (first|(with_reducible intro _)|refine sv ?_|(refine sc ?_ ?_<;>(intro h;try first|exact h.elim|exact absurd rfl h|(exfalso;omega)))|(refine sg ?_ ?_<;>(intro h;(fail_if_success (have:True:=h));try first|exact h.elim|exact absurd rfl h|(exfalso;omega)))|assumption|exact xm|exact rfl))
  exact ⟨rfl,rfl,pe9 (.cons rfl .nil),rfl⟩
 clear hE
 rintro x E ms M2 ⟨rfl,rfl,hE,rfl⟩
 apply z2z
 refine z02 hE ?_
 apply z66
 refine z1a (K:=fun x E ms M'=>x=.norm /\ ms=[] /\ Has E (PE p n f e a' b' lim wb wp [(12,I ((b':Int) - a'))]) /\ M'=M2) ?_ ?_
 ·(repeat' (first|(with_reducible intro _)|refine sv ?_|(refine sc ?_ ?_<;>(intro h;try first|exact h.elim|exact absurd rfl h|(exfalso;omega)))|(refine sg ?_ ?_<;>(intro h;(fail_if_success (have:True:=h));try first|exact h.elim|exact absurd rfl h|(exfalso;omega)))|assumption|exact xm|exact rfl))
  all_goals try (exfalso;omega)
  exact ⟨rfl,rfl,pe9 (.cons rfl .nil),rfl⟩
 clear hE
 rintro x E ms M3 ⟨rfl,rfl,hE,rfl⟩
 apply z2z
 refine z02 hE ?_
 apply z66
 refine z1a (K:=fun x E ms M'=>x=.norm /\ ms=[] /\ Has E (PE p n f e a' b' lim wb wp [(12,I ((b':Int) - a'))]) /\ M'=M3) ?_ ?_
 ·(repeat' (first|(with_reducible intro _)|refine sv ?_|(refine sc ?_ ?_<;>(intro h;try first|exact h.elim|exact absurd rfl h|(exfalso;omega)))|(refine sg ?_ ?_<;>(intro h;(fail_if_success (have:True:=h));try first|exact h.elim|exact absurd rfl h|(exfalso;omega)))|assumption|exact xm|exact rfl))
  all_goals try (exfalso;omega)
  exact ⟨rfl,rfl,pe9 (.cons rfl .nil),rfl⟩
 clear hE
 rintro x E ms M4 ⟨rfl,rfl,hE,rfl⟩
 apply z2z
 refine z02 hE ?_
 apply z66
 refine z1a (K:=fun x E ms M'=>x=.norm /\ ms=[] /\ ∃ (lim':Int) (G':Nat->Ky),(0<=lim' /\ lim'<=1000) /\ Has E (PE p n f e a' b' lim' wb wp [(12,I ((b':Int) - a'))]) /\ Sw a' b' G1 G' /\ KT M' p n ty G' /\ Keep (fun i=>i=p) M M') ?_ ?_
 ·cases wb with
  | true =>
   (repeat' (first|(with_reducible intro _)|refine sv ?_|(refine sc ?_ ?_<;>(intro h;try first|exact h.elim|exact absurd rfl h|(exfalso;omega)))|(refine sg ?_ ?_<;>(intro h;(fail_if_success (have:True:=h));try first|exact h.elim|exact absurd rfl h|(exfalso;omega)))|assumption|exact xm|exact rfl))
   exact ⟨rfl,rfl,lim,G1,hlim,pe9 (.cons rfl .nil),.refl,hA1,hk1⟩
  | false =>
   (repeat' (first|(with_reducible intro _)|refine sv ?_|(refine sc ?_ ?_<;>(intro h;try first|exact h.elim|exact absurd rfl h|(exfalso;omega)))|((with_reducible first|apply zw|apply zy|apply zn);exact gd;exact rfl;exact rfl;(first|exact zmg hA1 (show b'<=n by omega) (show a' + 8<=b' by omega) hn))|(refine sg ?_ ?_<;>(intro h;(fail_if_success (have:True:=h));try first|exact h.elim|exact absurd rfl h|(exfalso;omega)))|assumption|exact xm|exact rfl))
   rename_i hq
   obtain ⟨G2,hw2,hA2,hk2⟩:=hq
   (repeat' (first|(with_reducible intro _)|refine sv ?_|(refine sc ?_ ?_<;>(intro h;try first|exact h.elim|exact absurd rfl h|(exfalso;omega)))|(refine sg ?_ ?_<;>(intro h;(fail_if_success (have:True:=h));try first|exact h.elim|exact absurd rfl h|(exfalso;omega)))|assumption|exact xm|exact rfl))
   exact ⟨rfl,rfl,lim - 1,G2,by omega,pe9 (.cons rfl .nil),hw2,hA2,hk1.trans hk2 (fun i hi=>.inl hi)⟩
 clear hE hlim
 rintro x E ms M5 ⟨rfl,rfl,lim2,G2,hlim,hE,hw2,hA2,hk2⟩
 have ho2:=ho1.sw hw2 ha1 hb1
 have hij2:=hw2.inj (show b'<=n by omega) hij1
 have hlo2:=hlo1.sw hw2 (Nat.le_refl _) (Nat.le_refl _)
 have hw3:=hw1.trans (hw2.wider ha1 hb1)
 clear hw1 ho1 hij1 hlo1 hA1 hk1 hl0 lim hw2 G1
 apply z2z
 refine z02 hE ?_
 apply z66
 refine z1a (K:=fun x E ms M'=>x=.norm /\ ms=[] /\ ∃ (x:Nat) (h:Int),a'<=x /\ x < b' /\ Has E (PE p n f e a' b' lim2 wb wp [(12,I ((b':Int) - a')),(13,I x),(14,I h)]) /\ KT M' p n ty G2 /\ Keep (fun i=>i=p) M M') ?_ ?_
 ·(repeat' (first|(with_reducible intro _)|refine sv ?_|(refine sc ?_ ?_<;>(intro h;try first|exact h.elim|exact absurd rfl h|(exfalso;omega)))|((with_reducible first|apply zw|apply zy|apply zn);exact gd;exact rfl;exact rfl;(first|exact zjb hA2 (show b'<=n by omega) (show a' + 8<=b' by omega) (by omega)))|(refine sg ?_ ?_<;>(intro h;(fail_if_success (have:True:=h));try first|exact h.elim|exact absurd rfl h|(exfalso;omega)))|assumption|exact xm|exact rfl))
  rename_i hq
  obtain ⟨x,h,rfl,hx1,hx2,hg⟩:=hq
  (repeat' (first|(with_reducible intro _)|refine sv ?_|(refine sc ?_ ?_<;>(intro h;try first|exact h.elim|exact absurd rfl h|(exfalso;omega)))|(refine sg ?_ ?_<;>(intro h;(fail_if_success (have:True:=h));try first|exact h.elim|exact absurd rfl h|(exfalso;omega)))|assumption|exact xm|exact rfl))
  exact ⟨rfl,rfl,x,h,hx1,hx2,pe9 (.cons rfl (.cons rfl (.cons rfl .nil))),hA2.grow hg,xk⟩
 clear hE hA2 hk2
 rintro x E ms M6 ⟨rfl,rfl,x,hh,hx1,hx2,hE,hA2,hk2⟩
 apply z2z
 refine z02 hE ?_
 apply z66
 refine z1a (K:=fun x E ms M'=>x=.norm /\ ms=[] /\ ∃ (x:Nat) (h:Int) (G':Nat->Ky),a'<=x /\ x < b' /\ Has E (PE p n f e a' b' lim2 wb wp [(12,I ((b':Int) - a')),(13,I x),(14,I h)]) /\ Sw a' b' G2 G' /\ KT M' p n ty G' /\ Keep (fun i=>i=p) M M') ?_ ?_
 ·(repeat' (first|(with_reducible intro _)|refine sv ?_|(refine sc ?_ ?_<;>(intro h;try first|exact h.elim|exact absurd rfl h|(exfalso;omega)))|((with_reducible first|apply zw|apply zy|apply zn);exact gd;exact rfl;exact rfl;(first|exact zgc hA2 (show b'<=n by omega) (show a' < b' by omega) (by omega)))|(refine sg ?_ ?_<;>(intro h;(fail_if_success (have:True:=h));try first|exact h.elim|exact absurd rfl h|(exfalso;omega)))|assumption|exact xm|exact rfl))
  ·rename_i hq
   obtain ⟨G3,hw4,hA3,hk3⟩:=hq
   (repeat' (first|(with_reducible intro _)|refine sv ?_|(refine sc ?_ ?_<;>(intro h;try first|exact h.elim|exact absurd rfl h|(exfalso;omega)))|(refine sg ?_ ?_<;>(intro h;(fail_if_success (have:True:=h));try first|exact h.elim|exact absurd rfl h|(exfalso;omega)))|assumption|exact xm|exact rfl))
   refine ⟨rfl,rfl,b' - 1 - (x - a'),1,G3,by omega,by omega,pe9 (.cons rfl (.cons ?_ (.cons rfl .nil))),hw4,hA3,hk2.trans hk3 (fun i hi=>.inl hi)⟩
   show some (I _)=some (I _)
   rw [show ((b' - 1 - (x - a'):Nat):Int)=(b':Int) - 1 - ((x:Int) - a') by omega]
  ·exact ⟨rfl,rfl,x,hh,G2,hx1,hx2,pe9 (.cons rfl (.cons rfl (.cons rfl .nil))),.refl,hA2,hk2⟩
 clear hE hA2 hk2 hx1 hx2 x hh
 rintro x E ms M7 ⟨rfl,rfl,x,hh,G3,hx1,hx2,hE,hw4,hA2,hk2⟩
 have ho3:=ho2.sw hw4 ha1 hb1
 have hij3:=hw4.inj (show b'<=n by omega) hij2
 have hlo3:=hlo2.sw hw4 (Nat.le_refl _) (Nat.le_refl _)
 have hw5:=hw3.trans (hw4.wider ha1 hb1)
 clear hw3 ho2 hij2 hlo2 hw4 G2
 apply z2z
 refine z02 hE ?_
 apply z66
 refine z1a (K:=fun x' E ms M'=>ms=[] /\ ((x'=.norm /\ ∃ (G':Nat->Ky),Has E (PE p n f e a' b' lim2 wb wp [(12,I ((b':Int) - a')),(13,I x)]) /\ Sw a' b' G3 G' /\ KT M' p n ty G' /\ Keep (fun i=>i=p) M M') ∨ (x'=.ret /\ ∃ (G':Nat->Ky),Sw a' b' G3 G' /\ Srt a' b' G' /\ KT M' p n ty G' /\ Keep (fun i=>i=p) M M'))) ?_ ?_
 ·cases wb with
  | false =>
   (repeat' (first|(with_reducible intro _)|refine sv ?_|(refine sc ?_ ?_<;>(intro h;try first|exact h.elim|exact absurd rfl h|(exfalso;omega)))|(refine sg ?_ ?_<;>(intro h;(fail_if_success (have:True:=h));try first|exact h.elim|exact absurd rfl h|(exfalso;omega)))|assumption|exact xm|exact rfl))
   exact ⟨rfl,.inl ⟨rfl,G3,pe9 (.cons rfl (.cons rfl .nil)),.refl,hA2,hk2⟩⟩
  | true =>
  cases wp with
  | false =>
   (repeat' (first|(with_reducible intro _)|refine sv ?_|(refine sc ?_ ?_<;>(intro h;try first|exact h.elim|exact absurd rfl h|(exfalso;omega)))|(refine sg ?_ ?_<;>(intro h;(fail_if_success (have:True:=h));try first|exact h.elim|exact absurd rfl h|(exfalso;omega)))|assumption|exact xm|exact rfl))
   exact ⟨rfl,.inl ⟨rfl,G3,pe9 (.cons rfl (.cons rfl .nil)),.refl,hA2,hk2⟩⟩
  | true =>
   (repeat' (first|(with_reducible intro _)|refine sv ?_|(refine sc ?_ ?_<;>(intro h;try first|exact h.elim|exact absurd rfl h|(exfalso;omega)))|((with_reducible first|apply zw|apply zy|apply zn);exact gd;exact rfl;exact rfl;(first|exact zqm hA2 (show b'<=n by omega) (show a' < b' by omega) (by omega) hlo3))|(refine sg ?_ ?_<;>(intro h;(fail_if_success (have:True:=h));try first|exact h.elim|exact absurd rfl h|(exfalso;omega)))|assumption|exact xm|exact rfl))
   ·rename_i hq
    obtain ⟨q,G4,rfl,hsq,hw6,hA4,hk4⟩:=hq
    cases q with
    | true =>
     (repeat' (first|(with_reducible intro _)|refine sv ?_|(refine sc ?_ ?_<;>(intro h;try first|exact h.elim|exact absurd rfl h|(exfalso;omega)))|(refine sg ?_ ?_<;>(intro h;(fail_if_success (have:True:=h));try first|exact h.elim|exact absurd rfl h|(exfalso;omega)))|assumption|exact xm|exact rfl))
     exact ⟨rfl,.inr ⟨rfl,G4,hw6,hsq rfl,hA4,hk2.trans hk4 (fun i hi=>.inl hi)⟩⟩
    | false =>
     (repeat' (first|(with_reducible intro _)|refine sv ?_|(refine sc ?_ ?_<;>(intro h;try first|exact h.elim|exact absurd rfl h|(exfalso;omega)))|(refine sg ?_ ?_<;>(intro h;(fail_if_success (have:True:=h));try first|exact h.elim|exact absurd rfl h|(exfalso;omega)))|assumption|exact xm|exact rfl))
     exact ⟨rfl,.inl ⟨rfl,G4,pe9 (.cons rfl (.cons rfl .nil)),hw6,hA4,hk2.trans hk4 (fun i hi=>.inl hi)⟩⟩
   ·exact ⟨rfl,.inl ⟨rfl,G3,pe9 (.cons rfl (.cons rfl .nil)),.refl,hA2,hk2⟩⟩
 clear hE hA2 hk2
 rintro z E ms M8 ⟨rfl,⟨rfl,G4,hE,hw6,hA4,hk4⟩|⟨rfl,G4,hw6,hs6,hA4,hk4⟩⟩
 case inr =>
  (repeat' (first|(with_reducible intro _)|refine sv ?_|(refine sc ?_ ?_<;>(intro h;try first|exact h.elim|exact absurd rfl h|(exfalso;omega)))|(refine sg ?_ ?_<;>(intro h;(fail_if_success (have:True:=h));try first|exact h.elim|exact absurd rfl h|(exfalso;omega)))|assumption|exact xm|exact rfl))
  ((with_reducible first|apply zi|apply zc);exact rx)
  exact ⟨G4,hw5.trans (hw6.wider ha1 hb1),(ho3.sw hw6 ha1 hb1).fin hs6,hA4,hk4⟩
 have ho4:=ho3.sw hw6 ha1 hb1
 have hij4:=hw6.inj (show b'<=n by omega) hij3
 have hlo4:=hlo3.sw hw6 (Nat.le_refl _) (Nat.le_refl _)
 have hw7:=hw5.trans (hw6.wider ha1 hb1)
 clear hw5 ho3 hij3 hlo3 hw6 G3
 apply z2z
 refine z02 hE ?_
 apply z66
 refine z1a (K:=fun x' E ms M'=>x'=.norm /\ ms=[] /\ Has E (PE p n f e a' b' lim2 wb wp [(12,I ((b':Int) - a')),(13,I x)]) /\ KT M' p n ty G4 /\ Keep (fun i=>i=p) M M') ?_ ?_
 ·by_cases ha0:a'=0
  ·subst ha0
   (repeat' (first|(with_reducible intro _)|refine sv ?_|(refine sc ?_ ?_<;>(intro h;try first|exact h.elim|exact absurd rfl h|(exfalso;omega)))|(refine sg ?_ ?_<;>(intro h;(fail_if_success (have:True:=h));try first|exact h.elim|exact absurd rfl h|(exfalso;omega)))|assumption|exact xm|exact rfl))
   all_goals try (exfalso;omega)
   exact ⟨rfl,rfl,pe9 (.cons rfl (.cons rfl .nil)),hA4,hk4⟩
  obtain ⟨a2,rfl⟩:∃ a2,a'=a2+1:=⟨a' - 1,by omega⟩
  have hz:(((a2+1:Nat):Int) - 1).toNat=a2:=by omega
  have hr1:=z0c hA4 (show x < n by omega)
  have hr2:=z0c hA4 (show a2 < n by omega)
  have hr3:Rd M8 p (0+(((a2+1:Nat):Int) - 1).toNat*2) 2 [I (G4 a2).1,I (G4 a2).2]:=by rw [hz];exact hr2
  have co:=fun M'=>z0u (G4 a2).1 (G4 a2).2 (G4 x).1 (G4 x).2 M'
  have hlt9:=(z0a (G4 a2) (G4 x)).2 ((hlo4.resolve_left ha0) x hx1 hx2)
  have hlt8:cmpK ((G4 a2).1,(G4 a2).2) ((G4 x).1,(G4 x).2) < 0:=hlt9
  (have hrd0:=hr1;have hrd1:=hr3;repeat' (first|(with_reducible intro _)|refine sv ?_|(refine sc ?_ ?_<;>(intro h;try first|exact h.elim|exact absurd rfl h|(exfalso;omega)))|((with_reducible first|apply z07|apply z06|apply zp);exact gd;exact rfl;exact rfl;(first|exact co _))|(refine sg ?_ ?_<;>(intro h;(fail_if_success (have:True:=h));try first|exact h.elim|exact absurd rfl h|(exfalso;omega)))|assumption|exact xm|exact rfl))
  all_goals try (exfalso;omega)
  rename_i M9 hg9 q9
  exact ⟨rfl,rfl,pe9 (.cons rfl (.cons rfl .nil)),hA4.grow hg9,xk⟩
 clear hE hA4 hk4
 rintro z E ms M9 ⟨rfl,rfl,hE,hA4,hk4⟩
 apply z2z
 refine z02 hE ?_
 (repeat' (first|(with_reducible intro _)|refine sv ?_|(refine sc ?_ ?_<;>(intro h;try first|exact h.elim|exact absurd rfl h|(exfalso;omega)))|((with_reducible first|apply zw|apply zy|apply zn);exact gd;exact rfl;exact rfl;(first|exact zoi hA4 (show b'<=n by omega) hx1 hx2 (by omega)))|(refine sg ?_ ?_<;>(intro h;(fail_if_success (have:True:=h));try first|exact h.elim|exact absurd rfl h|(exfalso;omega)))|assumption|exact xm|exact rfl))
 rename_i hq
 obtain ⟨m,q,G5,rfl,hp5,hw8,hA5,hk5⟩:=hq
 have hm1:=hp5.1
 have hm2:=hp5.2.1
 have ho5:=ho4.sw hw8 ha1 hb1
 have hij5:=hw8.inj (show b'<=n by omega) hij4
 have hlo5:=hlo4.sw hw8 (Nat.le_refl _) (Nat.le_refl _)
 have hw9:=hw7.trans (hw8.wider ha1 hb1)
 have hk6:Keep (fun i=>i=p) M _:=hk4.trans hk5 (fun i hi=>.inl hi)
 clear hw7 ho4 hij4 hlo4 hw8 hA4 hk4 hk5 hE
 (repeat' (first|(with_reducible intro _)|refine sv ?_|(refine sc ?_ ?_<;>(intro h;try first|exact h.elim|exact absurd rfl h|(exfalso;omega)))|((with_reducible first|apply zw|apply zy|apply zn);exact gd;exact rfl;exact rfl;(first|exact ih (b:=m) (by omega) hA5 (by omega) hm1 hij5 (hlo5.sub (Nat.le_of_lt hm2)) hlim|exact ih (a:=m+1) (by omega) hA5 (show b'<=n by omega) (by omega) hij5 (hp5.lo hij5 (by omega)) hlim))|(refine sg ?_ ?_<;>(intro h;(fail_if_success (have:True:=h));try first|exact h.elim|exact absurd rfl h|(exfalso;omega)))|assumption|exact xm|exact rfl))
 ·rename_i hq
  obtain ⟨G6,hw10,hs10,hA6,hk7⟩:=hq
  have hij6:=hw10.inj (show m<=n by omega) hij5
  have hp6:=hp5.sw hw10 (.inl ⟨Nat.le_refl _,Nat.le_refl _⟩)
  refine zk (b' - (m+1)) (by omega) ⟨m+1,b',lim2,_,_,G6,rfl,by omega,by omega,hb1,hlim,rfl,pe9 .nil (h1:=?_),hw9.trans (hw10.wider ha1 (by omega)),ho5.left hp5 hw10 hs10 ha1 hb1,hij6,hp6.lo hij6 (by omega),hA6,hk6.trans hk7 (fun i hi=>.inl hi)⟩
  show some (I _)=some (I _)
  rw [show ((m+1:Nat):Int)=(m:Int)+1 by omega]
 ·rename_i hq
  obtain ⟨G6,hw10,hs10,hA6,hk7⟩:=hq
  have hij6:=hw10.inj (show b'<=n by omega) hij5
  refine zk (m - a') (by omega) ⟨a',m,lim2,_,_,G6,rfl,ha1,hm1,by omega,hlim,rfl,pe9 .nil,hw9.trans (hw10.wider (by omega) hb1),ho5.right hp5 hw10 hs10 ha1 hb1,hij6,(hlo5.sw (hw10.wider (by omega) (Nat.le_refl _)) (Nat.le_refl _) (Nat.le_refl _)).sub (by omega),hA6,hk6.trans hk7 (fun i hi=>.inl hi)⟩
end Go.Proofs.YtbmgeagllpganaaGreatDoor.C
end
section
open Go PvL Go.Proofs
set_option linter.unusedSimpArgs false
set_option linter.unusedVariables false
variable {μ:Md}
namespace Go.Proofs.YtbmgeagllpganaaGreatDoor.C
theorem zgu {bs:List Nat} {i:Nat} (h:i < bs.length):bs[i]?=some (bs.getD i 0):=by
 rw [List.getD_eq_getElem?_getD,List.getElem?_eq_getElem h];rfl
theorem zbh {bs:List Nat} (hn:bs.Nodup) {i j:Nat} (hi:i < bs.length) (hj:j < bs.length) (he:bs[i]=bs[j]):i=j:=by
 unfold List.Nodup at hn
 rw [List.pairwise_iff_getElem] at hn
 rcases Nat.lt_trichotomy i j with h|h|h
 ·exact absurd he (hn i j hi hj h)
 ·exact h
 ·exact absurd he.symm (hn j i hj hi h)
set_option maxHeartbeats 4000000 in
theorem zoh {M:Mem} {pb r clk l:Nat} {ty:TypeId} {L:Mk} {bs:List Nat} (hpb:At M pb (.cells true [.map (some r)] ty)) (hm:At M r (.map (encK L) bs clk)) (hok:StOk bs clk L.length) (A:Nat->Prop) (Iv:List Nat->Mem->Prop)
  (hA:∀ i,A i->i ≠ r /\ i ≠ M.next)
  (stab:∀ is M1 M2,Iv is M1->M1.next<=M2.next->(∀ i,i < M1.next->i ≠ M.next->M2.get i=M1.get i)->Iv is M2)
  (step:∀ is i k v M1,is.Nodup->(∀ j ∈ is,j < L.length)->i ∉ is->L[i]?=some (k,v)->M.next < M1.next->Iv is M1->RoundOk Tryz.prog l [kyv k] M1 (fun w M2=>w=.bool true /\ Iv (is ++ [i]) M2 /\ Keep A M1 M2))
  (h0:Iv [] M) :
  CallN Tryz.prog 76 [.func (.yield l) [] [],.ptr (some (pb,0))] M (fun w M'=>∃ is,is.Nodup /\ (∀ i,i < L.length ↔ i ∈ is) /\ Iv is M' /\ M.next<=M'.next):=by
 refine z2b k76 rfl ?_
 dsimp only [x76,zipE,Nat.reduceAdd]
 (repeat' (first|(with_reducible intro _)|refine sv ?_|(refine sc ?_ ?_<;>(intro h;try first|exact h.elim|exact absurd rfl h|(exfalso;omega)))|(refine sg ?_ ?_<;>(intro h;(fail_if_success (have:True:=h));try first|exact h.elim|exact absurd rfl h|(exfalso;omega)))|assumption|exact xm|exact rfl))
 refine z50 (by exact gd) (zqb rfl hm) ?_
 have hN:New M M.next (.iter (some r) clk [] clk) (M.push (.iter (some r) clk [] clk)):=⟨rfl,rfl⟩
 generalize M.push (.iter (some r) clk [] clk)=M1 at *
 have hit:=At.new_same hN
 have hm1:=At.new_old hN hm
 have hi1:=stab [] M M1 h0 (by rw [hN.next];omega) (fun i hi _=>hN.grow.old i hi)
 have hnx:=hN.next
 have hrl:=hm.2
 generalize hit0:M.next=it at *
 (repeat' (first|(with_reducible intro _)|refine sv ?_|(refine sc ?_ ?_<;>(intro h;try first|exact h.elim|exact absurd rfl h|(exfalso;omega)))|(refine sg ?_ ?_<;>(intro h;(fail_if_success (have:True:=h));try first|exact h.elim|exact absurd rfl h|(exfalso;omega)))|assumption|exact xm|exact rfl))
 refine zg (fun z E ms M'=>∃ (is:List Nat) (last:Nat),z=L.length - is.length /\ is.Nodup /\ (∀ j ∈ is,j < L.length) /\ (is=[] ∨ last=clk) /\ ms=[] /\ Has E [(0,.func (.yield l) [] []),(5,.ptr (some (it,0)))] /\ At M' it (.iter (some r) clk (is.map fun i=>bs.getD i 0) last) /\ At M' r (.map (encK L) bs clk) /\ Iv is M' /\ it < M'.next)
  ?_ (L.length - 0) _ _ _ ⟨[],clk,rfl,List.nodup_nil,fun _ h=>(nomatch h),.inl rfl,rfl,.cons rfl (.cons rfl .nil),hit,hm1,hi1,by omega⟩
 clear hN hit hm1 hi1 hnx h0 hm hpb
 rintro z E ms M2 ⟨is,last,rfl,hnd,hlt,hla,rfl,hE,hit,hm,hI,hnx⟩
 refine z02 hE ?_
 have hes:bs.length=(encK L).length:=by rw [hok.len];simp [encK]
 have hall:allLt clk bs=true:=zda hok.lt
 by_cases hl:leftL (is.map fun i=>bs.getD i 0) bs (encK L)=[]
 ·have hst:(is.map fun i=>bs.getD i 0)=[] ∨ encK L=[] ∨ anyLt last bs=true:=by
   rcases hla with rfl|rfl
   ·exact .inl rfl
   ·cases bs with
    | nil=>exact .inr (.inl (List.length_eq_zero_iff.1 (by rw [<-hes];rfl)))
    | cons b bs=>exact .inr (.inr (z96 (x:=b) (by simp) (hok.lt b (by simp))))
  apply z66
  apply znl
  refine z50 (by exact gd) (zo0 rfl hit hm hes hall hst hl) ?_
  (repeat' (first|(with_reducible intro _)|refine sv ?_|(refine sc ?_ ?_<;>(intro h;try first|exact h.elim|exact absurd rfl h|(exfalso;omega)))|(refine sg ?_ ?_<;>(intro h;(fail_if_success (have:True:=h));try first|exact h.elim|exact absurd rfl h|(exfalso;omega)))|assumption|exact xm|exact rfl))
  ((with_reducible first|apply zi|apply zc);exact rx)
  refine ⟨is,hnd,fun i=>⟨fun hi=>?_,fun hi=>hlt i hi⟩,hI,by omega⟩
  have hib:i < bs.length:=by rw [hok.len];exact hi
  have hmem:=zds hl hes (bs[i]) (List.getElem_mem hib)
  obtain ⟨j,hj,hj2⟩:=List.mem_map.1 hmem
  have hjb:j < bs.length:=by rw [hok.len];exact hlt j hj
  have h1:bs[j]=bs[i]:=by
   have h2:=zgu hjb
   rw [List.getElem?_eq_getElem hjb] at h2
   exact (Option.some.inj h2).trans hj2
  have h3:j=i:=zbh hok.nodup hjb hib h1
  rw [<-h3];exact hj
 have hst:(is.map fun i=>bs.getD i 0)=[] ∨ encK L=[] ∨ anyLt last bs=true:=by
  rcases hla with rfl|rfl
  ·exact .inl rfl
  ·cases bs with
   | nil=>exact .inr (.inl (List.length_eq_zero_iff.1 (by rw [<-hes];rfl)))
   | cons b bs=>exact .inr (.inr (z96 (x:=b) (by simp) (hok.lt b (by simp))))
 apply z66
 apply znl
 refine znu (by exact gd) rfl hit hm hall hst hl ?_
 intro b kk v hmem M3 hU3 e3 hit3
 obtain ⟨i,hi1,hi2,hi3⟩:=z9n hmem
 have hib:i < bs.length:=(List.getElem?_eq_some_iff.1 hi1).1
 have hbi:bs.getD i 0=b:=by
  have h2:=zgu hib
  rw [hi1] at h2
  exact (Option.some.inj h2).symm
 have hil:i < L.length:=by rw [<-hok.len];exact hib
 have hni:i ∉ is:=fun hh=>hi3 (List.mem_map.2 ⟨i,hh,hbi⟩)
 have hrit:r ≠ it:=by omega
 have hm3:=At.upd_ne hU3 hrit hm
 obtain ⟨⟨k,v'⟩,hL⟩:∃ p,L[i]?=some p:=⟨L[i],List.getElem?_eq_getElem hil⟩
 have hkk:kk=kyv k /\ v=v':=by
  have h2:(encK L)[i]?=some (kyv k,v'):=by unfold encK;rw [List.getElem?_map,hL];rfl
  rw [h2] at hi2
  cases hi2
  exact ⟨rfl,rfl⟩
 obtain ⟨rfl,rfl⟩:=hkk
 have hseen:(is.map fun i=>bs.getD i 0) ++ [b]=(is ++ [i]).map fun i=>bs.getD i 0:=by rw [List.map_append,<- hbi];rfl
 have hent:stampL b bs (encK L)=some (kyv k,v):=zby hok.nodup hi1 hi2
 have hI3:=stab is M2 M3 hI (by omega) (fun i hi hne=>z26 hU3 hne)
 have hleft:L.length - (is ++ [i]).length < L.length - is.length:=by
  have:=pig L.length (is ++ [i]) (by
   rw [List.nodup_append]
   exact ⟨hnd,by simp,fun a ha b hb=>by
    obtain rfl:b=i:=by simpa using hb
    rintro rfl;exact hni ha⟩) (fun x hx=>by
   rcases List.mem_append.1 hx with hx|hx
   ·exact hlt x hx
   ·obtain rfl:x=i:=by simpa using hx
    exact hil)
  rw [List.length_append] at this ⊢
  simp only [List.length_cons,List.length_nil] at this ⊢
  omega
 (repeat' (first|(with_reducible intro _)|refine sv ?_|(refine sc ?_ ?_<;>(intro h;try first|exact h.elim|exact absurd rfl h|(exfalso;omega)))|(refine sg ?_ ?_<;>(intro h;(fail_if_success (have:True:=h));try first|exact h.elim|exact absurd rfl h|(exfalso;omega)))|assumption|exact xm|exact rfl))
 refine z50 (by exact gd) (zq3 rfl hit3 hm3 hes hent) ?_
 rw [hseen] at hit3
 clear hU3
 (repeat' (first|(with_reducible intro _)|refine sv ?_|(refine sc ?_ ?_<;>(intro h;try first|exact h.elim|exact absurd rfl h|(exfalso;omega)))|(refine sg ?_ ?_<;>(intro h;(fail_if_success (have:True:=h));try first|exact h.elim|exact absurd rfl h|(exfalso;omega)))|assumption|exact xm|exact rfl))
 rename_i n4 M4 hN4 e4 e4' M5 hU5 e5 hA5
 have hit5:At M5 it (.iter (some r) clk ((is ++ [i]).map fun i=>bs.getD i 0) clk):=xm
 have hm5:At M5 r (.map (encK L) bs clk):=xm
 have hI5:=stab is M3 M5 hI3 (by omega) (fun j hj hne=>by rw [z26 hU5 (by omega),hN4.grow.old j hj])
 clear hN4 hU5
 refine zw (by exact gd) rfl rfl (show AppOk Tryz.prog _ _ M5 _ from step is i k v M5 hnd hlt hni hL (by omega) hI5) ?_
 rintro w M6 ⟨rfl,hI6,hk6⟩
 have hm6:=hm5.keep hk6 (fun h=>(hA _ h).1 rfl)
 have hit6:=hit5.keep hk6 (fun h=>(hA _ h).2 rfl)
 have hl6:=hk6.le
 (repeat' (first|(with_reducible intro _)|refine sv ?_|(refine sc ?_ ?_<;>(intro h;try first|exact h.elim|exact absurd rfl h|(exfalso;omega)))|(refine sg ?_ ?_<;>(intro h;(fail_if_success (have:True:=h));try first|exact h.elim|exact absurd rfl h|(exfalso;omega)))|assumption|exact xm|exact rfl))
 refine zk (L.length - (is ++ [i]).length) hleft ⟨is ++ [i],clk,rfl,?_,?_,.inr rfl,rfl,.cons rfl (.cons rfl .nil),hit6,hm6,hI6,by omega⟩
 ·rw [List.nodup_append]
  exact ⟨hnd,by simp,fun a ha b hb=>by
   obtain rfl:b=i:=by simpa using hb
   rintro rfl;exact hni ha⟩
 ·intro j hj
  rcases List.mem_append.1 hj with hj|hj
  ·exact hlt j hj
  ·obtain rfl:j=i:=by simpa using hj
   exact hil
theorem zqv {P:Program} {f:FuncId} {xf:XF} (h:cFn P f=some xf):∃ fd,fnOf P f=some fd:=by
 unfold cFn at h
 split at h
 ·cases h
 ·rename_i fd hfd;exact ⟨fd,hfd⟩
theorem zh4 {m:Nat} {k:Ky} {M M':Mem} {ty:TypeId} (hn:New M m (.cells true [I k.1,I k.2] ty) M'):firstL 2 1 (.slice (some (m,0)) 1 true 2) M'=some ([k].flatMap kyc) :=
 z4g (enc:=kyc) (l:=[k]) (fun _ _=>rfl) (fun k' hk'=>z1s (enc:=kyc) (l:=[k]) (At.new_same hn) (fun _ _=>rfl) hk')
def kAt (L:Mk) (i:Nat):Ky:=((L[i]?).map (·.1)).getD (0,0)
abbrev kseq (pb:Nat):LV:=.func (.func 76) [] [.ptr (some (pb,0))]
set_option maxHeartbeats 8000000 in
theorem zc8 {M:Mem} {pb r clk:Nat} {ty:TypeId} {L:Mk} {bs:List Nat} (hpb:At M pb (.cells true [.map (some r)] ty)) (hm:At M r (.map (encK L) bs clk)) (hok:StOk bs clk L.length) (hL:L.length<=1000) :
  CallN Tryz.prog 103 [zsl,kseq pb] M (fun w M'=>∃ is:List Nat,is.Nodup /\ (∀ i,i < L.length ↔ i ∈ is) /\ Vec M.next 2 88 kyc M' w (is.map (kAt L)) /\ Grow M M'):=by
 refine z2b k103 rfl ?_
 dsimp only [x103,zipE,Nat.reduceAdd]
 (repeat' (first|(with_reducible intro _)|refine sv ?_|(refine sc ?_ ?_<;>(intro h;try first|exact h.elim|exact absurd rfl h|(exfalso;omega)))|(refine sg ?_ ?_<;>(intro h;(fail_if_success (have:True:=h));try first|exact h.elim|exact absurd rfl h|(exfalso;omega)))|assumption|exact xm|exact rfl))
 rename_i m2 M2 hN2 e2 e2'
 have hm2:At M2 m2 (.cells true [zsl] 115):=xm
 have hg2:=hN2.grow
 have hpb2:=At.grow hg2 hpb
 have hmm2:=At.grow hg2 hm
 have hrl:=hm.2
 clear hN2
 apply zno
 exact rfl
 exact zqv k76
 intro lb d0 ly M16 M17 hlb hd0 e16 e16' hly e17 e17'
 have hg17:Grow M2 M17:=hd0.grow.trans hly.grow
 have hd17:At M17 d0 .defr:=At.new_old hly (At.new_same hd0)
 have hly17:=At.new_same hly
 have hm17:=At.grow hg17 hm2
 refine (zoh (l:=ly) (At.grow hg17 hpb2) (At.grow hg17 hmm2) hok (fun i=>i=m2 ∨ i=ly ∨ M17.next < i) (fun (is:List Nat) M'=>∃ v,At M' m2 (.cells true [v] 115) /\ Vec (M17.next+1) 2 88 kyc M' v (is.map (kAt L)) /\ At M' ly (lb .ready none) /\ At M' d0 .defr /\ Keep (fun i=>i=m2 ∨ i=ly) M17 M') ?_ ?_ ?_ ⟨_,hm17,.inl ⟨rfl,rfl⟩,hly17,hd17,Keep.refl _ _⟩).mono ?_
 ·intro i hi;omega
 ·rintro is M3 M4 ⟨v,h1,h2,h3,h4,h5⟩ hle hg
  refine ⟨v,h1.same hle (hg _ h1.2 (by omega)),h2.imp id (fun ⟨i,g1,g2,g3⟩=>⟨i,g1,g2.same hle (hg _ g2.2 (by omega)),g3⟩),h3.same hle (hg _ h3.2 (by omega)),h4.same hle (hg _ h4.2 (by omega)),⟨Nat.le_trans h5.le hle,fun i hi hf=>?_⟩⟩
  rw [hg i (by have:=h5.le;omega) (by omega)]
  exact h5.old i hi hf
 ·rintro is i k v0 M3 hnd hlt hni hLi hnx ⟨v,h1,h2,h3,h4,h5⟩
  have hkA:kAt L i=k:=by unfold kAt;rw [hLi];rfl
  have hlen:is.length+1<=L.length:=by
   have:=pig L.length (is ++ [i]) (by
    rw [List.nodup_append]
    exact ⟨hnd,by simp,fun a ha b hb=>by
     obtain rfl:b=i:=by simpa using hb
     rintro rfl;exact hni ha⟩) (fun x hx=>by
    rcases List.mem_append.1 hx with hx|hx
    ·exact hlt x hx
    ·obtain rfl:x=i:=by simpa using hx
     exact (List.getElem?_eq_some_iff.1 hLi).1)
   rw [List.length_append] at this
   exact this
  refine zke hlb h3 rfl ?_
  dsimp only [zipP]
  (repeat' (first|(with_reducible intro _)|refine sv ?_|(refine sc ?_ ?_<;>(intro h;try first|exact h.elim|exact absurd rfl h|(exfalso;omega)))|(refine sg ?_ ?_<;>(intro h;(fail_if_success (have:True:=h));try first|exact h.elim|exact absurd rfl h|(exfalso;omega)))|assumption|exact xm|exact rfl))
  rename_i n4 M4 hN4 e4 e4' M5 hU5 e5 hA5 M6 hU6 e6 hA6 n7 M7 hN7 e7 e7'
  have k1:At M7 m2 (.cells true [v] 115):=xm
  have k4:At M7 d0 .defr:=xm
  have k3:At M7 ly (lb .busy none):=xm
  have kk:Keep (fun i=>i=ly) M3 M7:=xk
  have k2:=h2.keep kk (fun i hi=>by omega)
  have hl7:=kk.le
  clear hN4 hU5 hU6 hA5 hA6
  refine z7u (l':=[k]) (by exact gd) k2 rfl rfl rfl (by simp) (by simp;omega) rfl (zh4 hN7) (fun _=>rfl) (fun _=>rfl) (by omega) ?_
  intro v8 M8 hv8 e8 hk8
  have g1:=k1.keep hk8 (fun h=>by have:=h.1;omega)
  have g3:=k3.keep hk8 (fun h=>by have:=h.1;omega)
  have g4:=k4.keep hk8 (fun h=>by have:=h.1;omega)
  have gk:Keep (fun i=>i=m2 ∨ i=ly ∨ M17.next < i) M3 M8:=(kk.weaken (fun i hi=>.inr (.inl hi))).trans hk8 (fun i hi=>.inl (.inr (.inr (by have:=hi.1;omega))))
  have gk5:Keep (fun i=>i=m2 ∨ i=ly) M17 M8:=(h5.trans kk (fun i hi=>.inl (.inr hi))).trans hk8 (fun i hi=>.inr (by have:=hi.1;omega))
  clear hN7 kk k1 k2 k3 k4 hk8
  obtain ⟨a8,f8,e8',rfl⟩:=hv8.shape
  (repeat' (first|(with_reducible intro _)|refine sv ?_|(refine sc ?_ ?_<;>(intro h;try first|exact h.elim|exact absurd rfl h|(exfalso;omega)))|(refine sg ?_ ?_<;>(intro h;(fail_if_success (have:True:=h));try first|exact h.elim|exact absurd rfl h|(exfalso;omega)))|assumption|exact xm|exact rfl))
  rename_i M9 hU9 e9 hA9 M10 hU10 e10 hA10
  refine ⟨rfl,⟨_,xm,?_,hA10,xm,(gk5.upd hU9 (.inl (.inl rfl))).upd hU10 (.inl (.inr rfl))⟩,(gk.upd hU9 (.inl (.inl rfl))).upd hU10 (.inl (.inr (.inl rfl)))⟩
  rw [List.map_append]
  show Vec _ _ _ _ _ _ (is.map (kAt L) ++ [kAt L i])
  rw [hkA]
  exact hv8.keep (((Keep.refl (fun i=>i=m2 ∨ i=ly) _).upd hU9 (.inl (.inl rfl))).upd hU10 (.inl (.inr rfl))) (fun i hi=>by omega)
 rintro w M18 ⟨is,hnd,hall,⟨v,h1,h2,h3,h4,h5⟩,hnx⟩
 have hg18:Grow M M18:=Keep.to_grow' (hg2.trans hg17) h5 (fun i hi=>by omega)
 have hl18:=h5.le
 clear h5
 refine zow h3 (by simp) fun M19 hu19 e19 a19=>?_
 have g1:=At.upd_ne hu19 (show m2 ≠ ly by omega) h1
 have g4:=At.upd_ne hu19 (show d0 ≠ ly by omega) h4
 have hg19:Grow M M19:=hg18.upd hu19 (by omega)
 have g2:=h2.keep ((Keep.refl (fun i=>i=ly) _).upd hu19 (.inl rfl)) (fun i hi=>by omega)
 clear hu19 h1 h2 h4 a19 h3
 obtain ⟨a8,f8,e8,rfl⟩:=g2.shape
 (repeat' (first|(with_reducible intro _)|refine sv ?_|(refine sc ?_ ?_<;>(intro h;try first|exact h.elim|exact absurd rfl h|(exfalso;omega)))|(refine sg ?_ ?_<;>(intro h;(fail_if_success (have:True:=h));try first|exact h.elim|exact absurd rfl h|(exfalso;omega)))|assumption|exact xm|exact rfl))
 refine zh0 (.inr rfl) (by simp [dnat]) (fun d hd=>by simp [dnat] at hd;subst hd;exact g4) fun M22 hm=>⟨_,.tmp rfl .nil,is,hnd,hall,?_,?_⟩
 ·rcases g2 with ⟨h1,h2⟩|⟨i,h1,h2,h3⟩
  ·exact .inl ⟨h1,h2⟩
  ·exact .inr ⟨i,h1,h2.unmark hm (by simp [dnat];omega),by omega⟩
 ·exact hg19.unmark hm (fun d hd=>by simp [dnat] at hd;subst hd;omega)
theorem Sw.mem {n:Nat} {G G':Nat->Ky} (h:Sw 0 n G G') (k:Ky):(∃ t,t < n /\ G' t=k) ↔ ∃ t,t < n /\ G t=k:=by
 constructor
 ·rintro ⟨t,ht,hk⟩
  have:=h.all (p:=fun k=>∃ t,t < n /\ G t=k) (fun t _ ht=>⟨t,ht,rfl⟩) t (Nat.zero_le _) ht
  rw [hk] at this;exact this
 ·induction h with
  | refl=>exact id
  | @step G' i j _ h1 h2 h3 h4 ih =>
   intro hk
   obtain ⟨t,ht,hk⟩:=ih hk
   by_cases hi:t=i
   ·subst hi;exact ⟨j,h4,by rw [sw_j];exact hk⟩
   ·by_cases hj:t=j
    ·subst hj;exact ⟨i,h2,by rw [sw_i];exact hk⟩
    ·exact ⟨t,ht,by rw [z3j hi hj];exact hk⟩
theorem zfo {ks:List Ky}:(List.range ks.length).map (fun i=>ks.getD i (0,0))=ks:=by
 refine List.ext_getElem (by simp) fun i h1 h2=>?_
 simp only [List.getElem_map,List.getElem_range]
 rw [List.getD_eq_getElem?_getD,List.getElem?_eq_getElem h2];rfl
theorem zog {M:Mem} {a:Option (Nat × Nat)} {f:Bool} {e:Nat}:CallOk Tryz.prog 142 [.slice a 0 f e,I 0,I 0,cf] M (fun w M'=>M'=M):=by
 refine zj k142 rfl ?_
 dsimp only [x142,zipE,Nat.reduceAdd]
 (repeat' (first|(with_reducible intro _)|refine sv ?_|refine su ?_|(refine sc ?_ ?_<;>(intro h;try first|exact h.elim|exact absurd rfl h|(exfalso;omega)))|(refine sg ?_ ?_<;>(intro h;(fail_if_success (have:True:=h));try first|exact h.elim|exact absurd rfl h|(exfalso;omega)))|assumption|exact xm|exact rfl))
 ((with_reducible first|apply zi|apply zc);exact rx)
 rfl
theorem zoj {M:Mem} {a:Option (Nat × Nat)} {f:Bool} {e:Nat} {lim:Int}:CallOk Tryz.prog 104 [.slice a 0 f e,I 0,I 0,I lim,cf] M (fun w M'=>M'=M):=by
 refine zj k104 rfl ?_
 dsimp only [x104,zipE,Nat.reduceAdd]
 (repeat' (first|(with_reducible intro _)|refine sv ?_|refine su ?_|(refine sc ?_ ?_<;>(intro h;try first|exact h.elim|exact absurd rfl h|(exfalso;omega)))|((with_reducible first|apply zw|apply zy|apply zn);exact gd;exact rfl;exact rfl;(first|exact zog))|(refine sg ?_ ?_<;>(intro h;(fail_if_success (have:True:=h));try first|exact h.elim|exact absurd rfl h|(exfalso;omega)))|assumption|exact xm|exact rfl))
 rename_i hq
 subst hq
 (repeat' (first|(with_reducible intro _)|refine sv ?_|(refine sc ?_ ?_<;>(intro h;try first|exact h.elim|exact absurd rfl h|(exfalso;omega)))|(refine sg ?_ ?_<;>(intro h;(fail_if_success (have:True:=h));try first|exact h.elim|exact absurd rfl h|(exfalso;omega)))|assumption|exact xm|exact rfl))
 ((with_reducible first|apply zi|apply zc);exact rx)
 rfl
set_option maxHeartbeats 4000000 in
theorem zer {M:Mem} {b:Nat} {v:LV} {ks:List Ky} (hv:Vec b 2 88 kyc M v ks) (hl:ks.length<=200) (hn:ks.Nodup) :
  CallOk Tryz.prog 75 [v,cf] M (fun _ M'=>∃ ks',Vec b 2 88 kyc M' v ks' /\ ks'.Pairwise klt /\ (∀ k,k ∈ ks' ↔ k ∈ ks) /\ ks'.length=ks.length /\ Keep (fun i=>b<=i) M M'):=by
 have cl:=zo9 (M:=M) (n:=ks.length) (by omega)
 have hw:=z29 (z:=(ks.length:Int)) (by omega)
 rcases hv with ⟨rfl,rfl⟩|⟨i,rfl,hA,hbi⟩
 ·refine zj k75 rfl ?_
  dsimp only [x75,zipE,Nat.reduceAdd]
  (repeat' (first|(with_reducible intro _)|refine sv ?_|(refine sc ?_ ?_<;>(intro h;try first|exact h.elim|exact absurd rfl h|(exfalso;omega)))|((with_reducible first|apply zw|apply zy|apply zn);exact gd;exact rfl;exact rfl;(first|exact cl))|(refine sg ?_ ?_<;>(intro h;(fail_if_success (have:True:=h));try first|exact h.elim|exact absurd rfl h|(exfalso;omega)))|assumption|exact xm|exact rfl))
  rename_i hq
  obtain ⟨k,rfl,hk1,hk2,rfl⟩:=hq
  (repeat' (first|(with_reducible intro _)|refine sv ?_|(refine sc ?_ ?_<;>(intro h;try first|exact h.elim|exact absurd rfl h|(exfalso;omega)))|((with_reducible first|apply zw|apply zy|apply zn);exact gd;exact rfl;exact rfl;(first|exact zoj))|(refine sg ?_ ?_<;>(intro h;(fail_if_success (have:True:=h));try first|exact h.elim|exact absurd rfl h|(exfalso;omega)))|assumption|exact xm|exact rfl))
  rename_i hq
  subst hq
  ((with_reducible first|apply zi|apply zc);exact rx)
  exact ⟨[],.inl ⟨rfl,rfl⟩,List.Pairwise.nil,fun _=>Iff.rfl,rfl,Keep.refl _ _⟩
 ·have hT:KT M i ks.length (apE 88) (fun i=>ks.getD i (0,0)):=by
   show At M i (.cells true (tabL kyc (fun i=>ks.getD i (0,0)) ks.length) (apE 88))
   unfold tabL
   rw [zfo];exact hA
  have hij:Inj ks.length (fun i=>ks.getD i (0,0)):=fun x y hx hy hxy=>by
   simp only [List.getD_eq_getElem?_getD,List.getElem?_eq_getElem hx,List.getElem?_eq_getElem hy,Option.getD_some] at hxy
   unfold List.Nodup at hn
   rw [List.pairwise_iff_getElem] at hn
   rcases Nat.lt_trichotomy x y with h|h|h
   ·exact absurd hxy (hn x y hx hy h)
   ·exact h
   ·exact absurd hxy.symm (hn y x hy hx h)
  have hmem:∀ k,(∃ t,t < ks.length /\ ks.getD t (0,0)=k) ↔ k ∈ ks:=fun k=>by
   rw [List.mem_iff_getElem]
   constructor
   ·rintro ⟨t,ht,h⟩;exact ⟨t,ht,by rw [List.getD_eq_getElem?_getD,List.getElem?_eq_getElem ht] at h;exact h⟩
   ·rintro ⟨t,ht,h⟩;exact ⟨t,ht,by rw [List.getD_eq_getElem?_getD,List.getElem?_eq_getElem ht];exact h⟩
  refine zj k75 rfl ?_
  dsimp only [x75,zipE,Nat.reduceAdd]
  (repeat' (first|(with_reducible intro _)|refine sv ?_|(refine sc ?_ ?_<;>(intro h;try first|exact h.elim|exact absurd rfl h|(exfalso;omega)))|(refine sg ?_ ?_<;>(intro h;(fail_if_success (have:True:=h));try first|exact h.elim|exact absurd rfl h|(exfalso;omega)))|assumption|exact xm|exact rfl))
  rw [hw]
  (repeat' (first|(with_reducible intro _)|refine sv ?_|(refine sc ?_ ?_<;>(intro h;try first|exact h.elim|exact absurd rfl h|(exfalso;omega)))|((with_reducible first|apply zw|apply zy|apply zn);exact gd;exact rfl;exact rfl;(first|exact cl))|(refine sg ?_ ?_<;>(intro h;(fail_if_success (have:True:=h));try first|exact h.elim|exact absurd rfl h|(exfalso;omega)))|assumption|exact xm|exact rfl))
  rename_i hq
  obtain ⟨k,rfl,hk1,hk2,rfl⟩:=hq
  (repeat' (first|(with_reducible intro _)|refine sv ?_|(refine sc ?_ ?_<;>(intro h;try first|exact h.elim|exact absurd rfl h|(exfalso;omega)))|((with_reducible first|apply zw|apply zy|apply zn);exact gd;exact rfl;exact rfl;(first|exact zql (p:=i) (n:=ks.length) (f:=false) (e:=2) (by omega) (ks.length+1) (a:=0) (by omega) hT (Nat.le_refl _) (Nat.zero_le _) hij (.inl rfl) (by omega)))|(refine sg ?_ ?_<;>(intro h;(fail_if_success (have:True:=h));try first|exact h.elim|exact absurd rfl h|(exfalso;omega)))|assumption|exact xm|exact rfl))
  rename_i hq
  obtain ⟨G',hsw,hsr,hT',hkp⟩:=hq
  have hm2:=Sw.mem hsw
  have hij2:=hsw.inj (Nat.le_refl _) hij
  ((with_reducible first|apply zi|apply zc);exact rx)
  refine ⟨(List.range ks.length).map G',.inr ⟨i,by simp,hT',hbi⟩,?_,fun k=>?_,by simp,hkp.weaken (fun j hj=>by omega)⟩
  ·rw [List.pairwise_iff_getElem]
   intro x y hx hy hxy
   simp only [List.length_map,List.length_range] at hx hy
   simp only [List.getElem_map,List.getElem_range]
   rcases zh6 (a:=G' x) (b:=G' y) (fun he=>by have:=hij2 x y hx hy he;omega) with h|h
   ·exact h
   ·exact absurd h (hsr x y (Nat.zero_le _) hxy hy)
  ·rw [List.mem_map,<- hmem,<- hm2]
   constructor
   ·rintro ⟨t,ht,h⟩;exact ⟨t,List.mem_range.1 ht,h⟩
   ·rintro ⟨t,ht,h⟩;exact ⟨t,List.mem_range.2 ht,h⟩
end Go.Proofs.YtbmgeagllpganaaGreatDoor.C
end
section
open Go PvL
set_option linter.unusedSimpArgs false
set_option linter.unusedVariables false
namespace Go.Proofs.YtbmgeagllpganaaGreatDoor.C
def ldn (lv n:Int):Bool:=knB n && !btB n (-lv) lv
def loudF (lv:Int) (x:Fr):Bool:=x.2.2.any (ldn lv)
def qd:Option Bool->Bool
 | none=>true
 | some q=>q
def dq (L:List Fr) (lv:Int):Nat->Int->Option Bool
 | 0,_=>none
 | k+1,c=>if c=(fe L k).2.1 then some (!loudF lv (fe L k) && qd (dq L lv k c)) else dq L lv k c
def dqT (L:List Fr) (lv:Int) (c:Int):Bool:=(dq L lv L.length c).getD false
def deadL (L:List Fr) (lv:Int):Nat->List Int
 | 0=>[]
 | c+1=>deadL L lv c ++ (if dqT L lv c then [(c:Int)] else [])
def deadF (r:Rl) (lv:Int):List Int × Int :=
 if errRl r=0 then (if btB lv 0 32767 then (deadL r.2 lv 24,0) else ([],7)) else ([],errRl r)
abbrev Wn:=Int × Int × Int × Int × Int
def gdF (ch:Int) (sm:Nat) (x:Fr):Bool:=decide (x.2.1 < ch) && (decide (sm<=x.2.2.length) && (x.2.2.take sm).all knB)
def gq (L:List Fr) (ch:Int) (sm:Nat):Nat->Int->Option Int
 | 0,_=>none
 | k+1,s=>if gdF ch sm (fe L k)=true /\ s=(fe L k).1 then some ((gq L ch sm k s).getD 0+1) else gq L ch sm k s
def gqN (L:List Fr) (ch:Int) (sm:Nat) (k:Nat) (s:Int):Int:=(gq L ch sm k s).getD 0
theorem gq_s (L:List Fr) (ch:Int) (sm k:Nat) (s:Int):gq L ch sm (k+1) s=if gdF ch sm (fe L k)=true /\ s=(fe L k).1 then some ((gq L ch sm k s).getD 0+1) else gq L ch sm k s:=rfl
theorem zgv (L:List Fr) (ch:Int) (sm:Nat) (s:Int):∀ k,0<=gqN L ch sm k s /\ gqN L ch sm k s<=k
 | 0=>⟨Int.le_refl _,Int.le_refl _⟩
 | k+1=>by
  have:=zgv L ch sm s k
  unfold gqN at *
  rw [gq_s]
  split
  ·rw [Option.getD_some];omega
  ·omega
def wnB (w:Wn):Bool:=(btB w.1 0 w.2.1 && (btB w.2.1 0 60000 && (decide (w.2.1 - w.1 < 1000) && (btB w.2.2.1 1 24 && (btB w.2.2.2.1 1 64 && btB w.2.2.2.2 0 24)))))
def pq (L:List Fr) (w:Wn) (s:Int):Bool:=decide (w.2.2.1 - gqN L w.2.2.1 w.2.2.2.1.toNat L.length s > w.2.2.2.2)
def poorL (L:List Fr) (w:Wn):Nat->List Int
 | 0=>[]
 | n+1=>poorL L w n ++ (if pq L w (w.1+n) then [w.1+n] else [])
theorem z9x (L:List Fr) (w:Wn) (n:Nat):poorL L w (n+1)=poorL L w n ++ (if pq L w (w.1+n) then [w.1+n] else []):=rfl
theorem z7g (L:List Fr) (w:Wn):∀ c,(poorL L w c).length<=c
 | 0=>Nat.le_refl _
 | c+1=>by
  have:=z7g L w c
  rw [z9x,List.length_append]
  split<;>simp<;>omega
def poorF (r:Rl) (w:Wn):List Int × Int :=
 if errRl r=0 then (if wnB w then (poorL r.2 w (w.2.1 - w.1+1).toNat,0) else ([],84)) else ([],errRl r)
theorem zc1 {w:Wn} (h:wnB w=true):0<=w.1 /\ w.1<=w.2.1 /\ w.2.1<=60000 /\ w.2.1 - w.1 < 1000 /\ 1<=w.2.2.1 /\ w.2.2.1<=24 /\ 1<=w.2.2.2.1 /\ w.2.2.2.1<=64 /\ 0<=w.2.2.2.2 /\ w.2.2.2.2<=24:=by
 unfold wnB btB at h
 simp only [Bool.and_eq_true,decide_eq_true_eq] at h
 omega
theorem zbn (r:Rl) (w:Wn):(poorF r w).1.length<=1000:=by
 unfold poorF
 split
 ·split
  ·rename_i h
   have:=zc1 h
   have h2:=z7g r.2 w (w.2.1 - w.1+1).toNat
   show (poorL r.2 w (w.2.1 - w.1+1).toNat).length<=1000
   omega
  ·exact Nat.zero_le _
 ·exact Nat.zero_le _
theorem ze8 {L:List Fr} {n:Nat} (h:rlK L n=true):∀ {i j:Nat},i < j->j < n->keyI (fe L i) < keyI (fe L j):=by
 have hstep:∀ {k:Nat},k+1 < n->keyI (fe L k) < keyI (fe L (k+1)):=fun {k} hk=>by
  have h2:rlK L (k+2)=true:=by
   cases h3:rlK L (k+2) with
   | true=>rfl
   | false=>rw [ze9 (by omega:k+2<=n) h3] at h;cases h
  rw [zfq,zfq] at h2
  simp only [Bool.and_eq_true,Bool.or_eq_true,decide_eq_true_eq] at h2
  rcases h2.2.2 with h3|h3
  ·omega
  ·exact h3
 intro i j hij
 induction j with
 | zero=>omega
 | succ j ih =>
  intro hj
  rcases Nat.lt_or_ge i j with h1|h1
  ·exact Int.lt_trans (ih h1 (by omega)) (hstep hj)
  ·obtain rfl:i=j:=by omega
   exact hstep hj
def allK (l:List Int):Nat->Bool
 | 0=>true
 | k+1=>allK l k && knB (getG l k)
theorem zl5 (l:List Int) (k:Nat):allK l (k+1)=(allK l k && knB (getG l k)):=rfl
theorem zfz (l:List Int):∀ k,allK l k=(decide (k<=l.length) && (l.take k).all knB)
 | 0=>by rw [List.take_zero];simp [allK]
 | k+1=>by
  rw [zl5,zfz l k]
  by_cases hk:k < l.length
  ·rw [List.take_succ_eq_append_getElem hk,List.all_append,decide_eq_true (show k<=l.length by omega),decide_eq_true (show k+1<=l.length by omega),show getG l k=l[k] from by unfold getG;simp [hk]]
   simp
  ·rw [decide_eq_false (show ¬ (k+1<=l.length) by omega),show getG l k=40000 from by unfold getG;simp [hk]]
   simp [knB]
def gdS (sm:Nat) (x:Fr):Bool:=allK x.2.2 sm
theorem zot (ch:Int) (sm:Nat) (x:Fr):gdF ch sm x=(decide (x.2.1 < ch) && gdS sm x):=by unfold gdF gdS;rw [zfz]
def mtB (s c:Int) (x:Fr):Bool:=decide (x.1=s) && decide (x.2.1=c)
def goodB (L:List Fr) (sm:Nat) (s:Int):Nat->Int->Bool
 | 0,_=>false
 | k+1,c=>goodB L sm s k c || (gdS sm (fe L k) && mtB s c (fe L k))
theorem z9k (L:List Fr) (sm:Nat) (s:Int) (k:Nat) (c:Int):goodB L sm s (k+1) c=(goodB L sm s k c || (gdS sm (fe L k) && mtB s c (fe L k))):=rfl
theorem zdm {L:List Fr} {sm:Nat} {s c:Int}:∀ {k:Nat},(∀ j,j < k->mtB s c (fe L j)=false)->goodB L sm s k c=false
 | 0,_=>rfl
 | k+1,h=>by rw [z9k,zdm (fun j hj=>h j (by omega)),h k (by omega),Bool.and_false];rfl
theorem zlk {s c:Int} {x y:Fr} (hx:mtB s c x=true) (hy:mtB s c y=true):keyI x=keyI y:=by
 unfold mtB at hx hy
 simp only [Bool.and_eq_true,decide_eq_true_eq] at hx hy
 unfold keyI
 rw [hx.1,hx.2,hy.1,hy.2]
def badN (L:List Fr) (sm:Nat) (s:Int) (k:Nat):Nat->Int
 | 0=>0
 | c+1=>badN L sm s k c+(if goodB L sm s k c then 0 else 1)
theorem z5n (L:List Fr) (sm:Nat) (s:Int) (k c:Nat):badN L sm s k (c+1)=badN L sm s k c+(if goodB L sm s k c then 0 else 1):=rfl
theorem zah {L:List Fr} {sm:Nat} {s:Int} {k:Nat}:∀ {c:Nat},(∀ d:Nat,d < c->(gdS sm (fe L k) && mtB s d (fe L k))=false)->badN L sm s (k+1) c=badN L sm s k c
 | 0,_=>rfl
 | c+1,h=>by rw [z5n,z5n,zah (fun d hd=>h d (by omega)),z9k,h c (by omega),Bool.or_false]
theorem zaf {L:List Fr} {sm:Nat} {s:Int} {k d:Nat} (hg:gdS sm (fe L k)=true) (hs:(fe L k).1=s) (hd:(fe L k).2.1=d) (hno:goodB L sm s k d=false):∀ {c:Nat},badN L sm s (k+1) c+(if d < c then 1 else 0)=badN L sm s k c
 | 0=>by rw [if_neg (Nat.not_lt_zero d)];rfl
 | c+1=>by
  have ih:=zaf hg hs hd hno (c:=c)
  rw [z5n,z5n,z9k,hg,Bool.true_and]
  unfold mtB
  rw [decide_eq_true hs,Bool.true_and,hd]
  by_cases hdc:d=c
  ·subst hdc
   rw [if_neg (Nat.lt_irrefl d)] at ih
   rw [hno,if_pos (Nat.lt_succ_self d),decide_eq_true (rfl:(d:Int)=d)]
   simp
   omega
  ·rw [decide_eq_false (show ¬ ((d:Int)=(c:Int)) by omega),Bool.or_false]
   by_cases h3:d < c
   ·rw [if_pos h3] at ih
    rw [if_pos (show d < c+1 by omega)];omega
   ·rw [if_neg h3] at ih
    rw [if_neg (show ¬ d < c+1 by omega)];omega
theorem zde {L:List Fr} {sm n:Nat} {s:Int} (h:rlK L n=true) (c:Nat):∀ k,k<=n->badN L sm s k c+gqN L c sm k s=c
 | 0,_=>by
  show badN L sm s 0 c+0=c
  induction c with
  | zero=>rfl
  | succ c ih=>rw [z5n,show goodB L sm s 0 c=false from rfl];simp at *;omega
 | k+1,hk=>by
  have ih:=zde (sm:=sm) (s:=s) h c k (by omega)
  have hb:=z5u (ze7 h (show k < n by omega))
  unfold gqN at *
  rw [gq_s,zot]
  by_cases hq:(decide ((fe L k).2.1 < c) && gdS sm (fe L k))=true /\ s=(fe L k).1
  ·rw [if_pos hq,Option.getD_some]
   obtain ⟨h1,h2⟩:=hq
   simp only [Bool.and_eq_true,decide_eq_true_eq] at h1
   obtain ⟨d,hd⟩:∃ d:Nat,(fe L k).2.1=d:=⟨(fe L k).2.1.toNat,by omega⟩
   have hno:goodB L sm s k d=false:=zdm fun j hj=>by
    cases hmj:mtB s d (fe L j) with
    | false=>rfl
    | true =>
     have hmk:mtB s d (fe L k)=true:=by unfold mtB;rw [decide_eq_true h2.symm,decide_eq_true hd];rfl
     have:=zlk hmj hmk
     have:=ze8 h hj (show k < n by omega)
     omega
   have hl:=zaf h1.2 h2.symm hd hno (c:=c)
   rw [if_pos (by omega)] at hl
   omega
  ·rw [if_neg hq]
   rw [zah]
   ·exact ih
   ·intro d hd
    cases hgs:gdS sm (fe L k) with
    | false=>rfl
    | true =>
     rw [hgs,Bool.and_true,decide_eq_true_eq] at hq
     unfold mtB
     rw [Bool.true_and]
     by_cases h5:(fe L k).1=s
     ·rw [decide_eq_true h5,Bool.true_and,decide_eq_false_iff_not]
      intro h6
      exact hq ⟨by omega,h5.symm⟩
     ·rw [decide_eq_false h5];rfl
theorem zna {L:List Fr} {w:Wn} {s:Int} (h:rlK L L.length=true) (hw:wnB w=true):pq L w s=decide (badN L w.2.2.2.1.toNat s L.length w.2.2.1.toNat > w.2.2.2.2):=by
 have hb:=zc1 hw
 have:=zde (sm:=w.2.2.2.1.toNat) (s:=s) h w.2.2.1.toNat L.length (Nat.le_refl _)
 rw [show ((w.2.2.1.toNat:Nat):Int)=w.2.2.1 by omega] at this
 unfold pq
 rw [show w.2.2.1 - gqN L w.2.2.1 w.2.2.2.1.toNat L.length s=badN L w.2.2.2.1.toNat s L.length w.2.2.1.toNat by omega]
def FsV1 (M:Mem) (a:Option (Nat × Nat)) (L:List Fr):Prop:=L=[] ∨ ∃ i o,a=some (i,o) /\ ∀ k (hk:k < L.length),∃ b g,Rd M i (o+k*3) 3 [I L[k].1,I L[k].2.1,.slice b L[k].2.2.length g 1] /\ SlI M b L[k].2.2
theorem FsV1.grow {M M':Mem} {a:Option (Nat × Nat)} {L:List Fr} (h:FsV1 M a L) (hg:Grow M M'):FsV1 M' a L :=
 h.imp id fun ⟨i,o,h1,h2⟩=>⟨i,o,h1,fun k hk=>by
  obtain ⟨b,g,h3,h4⟩:=h2 k hk
  exact ⟨b,g,h3.grow hg,h4.grow hg⟩⟩
theorem FsV1.rd {M:Mem} {a:Option (Nat × Nat)} {L:List Fr} (h:FsV1 M a L) {k:Nat} (hk:k < L.length):∃ i o b g,a=some (i,o) /\ Rd M i (o+k*3) 3 [I (fe L k).1,I (fe L k).2.1,.slice b (fe L k).2.2.length g 1] /\ SlI M b (fe L k).2.2:=by
 rcases h with rfl|⟨i,o,h1,h2⟩
 ·exact absurd hk (Nat.not_lt_zero _)
 ·obtain ⟨b,g,h3,h4⟩:=h2 k hk
  rw [<-z1z hk] at h3 h4
  exact ⟨i,o,b,g,h1,h3,h4⟩
def RlV1 (M:Mem) (v:LV) (r:Rl):Prop:=∃ a f e,v=.agg [.str r.1,.slice a r.2.length f e] /\ FsV1 M a r.2
theorem RlV1.grow {M M':Mem} {v:LV} {r:Rl} (h:RlV1 M v r) (hg:Grow M M'):RlV1 M' v r:=by
 obtain ⟨a,f,e,h1,h2⟩:=h
 exact ⟨a,f,e,h1,h2.grow hg⟩
theorem FsV1.to {M:Mem} {a:Option (Nat × Nat)} {L:List Fr} (h:FsV1 M a L):FsV M a L :=
 h.imp id fun ⟨i,o,h1,h2⟩=>⟨i,o,h1,fun k hk=>by
  obtain ⟨b,g,h3,h4⟩:=h2 k hk
  exact ⟨b,g,1,h3,h4⟩⟩
theorem RlV1.to {M:Mem} {v:LV} {r:Rl} (h:RlV1 M v r):RlV M v r:=by
 obtain ⟨a,f,e,h1,h2⟩:=h
 exact ⟨a,f,e,h1,h2.to⟩
theorem zml {m:Mem} {r:Rl} {cs:List LV} (h:Enc m rlSh r cs):RlV1 m (.agg cs) r:=by
 obtain ⟨c1,d1,rfl,⟨rfl,hb1⟩,a,f,rfl,h2,h3⟩:=h
 by_cases hl:r.2=[]
 ·exact ⟨a,f,_,rfl,.inl hl⟩
 ·obtain ⟨i,o,g1,g2,_,g3⟩:=h3 hl
  refine ⟨a,f,_,rfl,.inr ⟨i,o,g1,fun k hk=>?_⟩⟩
  obtain ⟨c,g4,c1,d1,rfl,⟨rfl,_⟩,c2,d2,rfl,⟨rfl,_⟩,h5⟩:=g3 k hk
  obtain ⟨b,g,rfl,h6,_⟩:=z9g h5
  exact ⟨b,g,⟨g4,g2⟩,h6⟩
end Go.Proofs.YtbmgeagllpganaaGreatDoor.C
end
section
open Go PvL Go.Proofs
set_option linter.unusedSimpArgs false
set_option linter.unusedVariables false
variable {μ:Md}
namespace Go.Proofs.YtbmgeagllpganaaGreatDoor.C
theorem zo8 {M:Mem} {r:Nat}:CallOk Tryz.prog 43 [.map (some r)] M (MkAt kseq (.cells true [.map (some r)] 80) M):=by
 refine zj k43 rfl ?_
 dsimp only [x43,zipE,Nat.reduceAdd]
 (repeat' (first|(with_reducible intro _)|refine sv ?_|(refine sc ?_ ?_<;>(intro h;try first|exact h.elim|exact absurd rfl h|(exfalso;omega)))|(refine sg ?_ ?_<;>(intro h;(fail_if_success (have:True:=h));try first|exact h.elim|exact absurd rfl h|(exfalso;omega)))|assumption|exact xm|exact rfl))
 rename_i n1 M1 hN1 e1 e1'
 ((with_reducible first|apply zi|apply zc);exact rx)
 exact ⟨n1,rfl,At.new_same hN1,by omega,by omega,hN1.grow⟩
theorem zdq {L:Mk} {i:Nat} (h:i < L.length):kAt L i=L[i].1:=by unfold kAt;rw [List.getElem?_eq_getElem h];rfl
theorem zmt {L:Mk} {is:List Nat} (hL:(L.map (·.1)).Nodup) (hnd:is.Nodup) (hall:∀ i,i < L.length ↔ i ∈ is):(is.map (kAt L)).Nodup /\ (∀ k,k ∈ is.map (kAt L) ↔ k ∈ L.map (·.1)) /\ (is.map (kAt L)).length<=L.length:=by
 refine ⟨?_,fun k=>?_,?_⟩
 ·unfold List.Nodup at hnd hL ⊢
  rw [List.pairwise_map]
  refine hnd.imp_of_mem fun {i j} hi hj hne he=>?_
  have hi':=(hall i).2 hi
  have hj':=(hall j).2 hj
  rw [zdq hi',zdq hj'] at he
  refine hne (zbh (bs:=(List.range L.length)) List.nodup_range (by simpa using hi') (by simpa using hj') ?_)
  simp only [List.getElem_range]
  rw [List.pairwise_iff_getElem] at hL
  rcases Nat.lt_trichotomy i j with h|h|h
  ·exact absurd (by rw [List.getElem_map,List.getElem_map];exact he) (hL i j (by simpa using hi') (by simpa using hj') h)
  ·exact h
  ·exact absurd (by rw [List.getElem_map,List.getElem_map];exact he.symm) (hL j i (by simpa using hj') (by simpa using hi') h)
 ·rw [List.mem_map,List.mem_map]
  constructor
  ·rintro ⟨i,hi,rfl⟩
   have hi':=(hall i).2 hi
   exact ⟨L[i],List.getElem_mem hi',(zdq hi').symm⟩
  ·rintro ⟨p,hp,rfl⟩
   obtain ⟨i,hi,rfl⟩:=List.mem_iff_getElem.1 hp
   exact ⟨i,(hall i).1 hi,zdq hi⟩
 ·rw [List.length_map]
  exact pig L.length is hnd fun i hi=>(hall i).2 hi
theorem zg8 {M:Mem} {pb r clk:Nat} {ty:TypeId} {L:Mk} {bs:List Nat} (hpb:At M pb (.cells true [.map (some r)] ty)) (hm:At M r (.map (encK L) bs clk)) (hok:StOk bs clk L.length) (hL:L.length<=1000) (hN:(L.map (·.1)).Nodup) :
  CallN Tryz.prog 74 [kseq pb] M (fun w M'=>∃ ks:List Ky,ks.Nodup /\ (∀ k,k ∈ ks ↔ k ∈ L.map (·.1)) /\ ks.length<=L.length /\ Vec M.next 2 88 kyc M' w ks /\ Grow M M'):=by
 refine z2b k74 rfl ?_
 dsimp only [x74,zipE,Nat.reduceAdd]
 (repeat' (first|(with_reducible intro _)|refine sv ?_|(refine sc ?_ ?_<;>(intro h;try first|exact h.elim|exact absurd rfl h|(exfalso;omega)))|(refine sg ?_ ?_<;>(intro h;(fail_if_success (have:True:=h));try first|exact h.elim|exact absurd rfl h|(exfalso;omega)))|assumption|exact xm|exact rfl))
 refine z7s (by exact gd) rfl rfl (zc8 hpb hm hok hL) ?_
 rintro w M' ⟨is,hnd,hall,hv,hg⟩
 obtain ⟨h1,h2,h3⟩:=zmt hN hnd hall
 obtain ⟨a,f,e,rfl⟩:=hv.shape
 (repeat' (first|(with_reducible intro _)|refine sv ?_|(refine sc ?_ ?_<;>(intro h;try first|exact h.elim|exact absurd rfl h|(exfalso;omega)))|(refine sg ?_ ?_<;>(intro h;(fail_if_success (have:True:=h));try first|exact h.elim|exact absurd rfl h|(exfalso;omega)))|assumption|exact xm|exact rfl))
 ((with_reducible first|apply zi|apply zc);exact rx)
 exact ⟨_,h1,h2,h3,hv,hg⟩
theorem zap {M:Mem} {pb r clk:Nat} {ty:TypeId} {L:Mk} {bs:List Nat} (hpb:At M pb (.cells true [.map (some r)] ty)) (hm:At M r (.map (encK L) bs clk)) (hok:StOk bs clk L.length) (hL:L.length<=200) (hN:(L.map (·.1)).Nodup) :
  CallN Tryz.prog 42 [kseq pb,cf] M (fun w M'=>∃ ks:List Ky,ks.Pairwise klt /\ (∀ k,k ∈ ks ↔ k ∈ L.map (·.1)) /\ ks.length<=L.length /\ Vec M.next 2 88 kyc M' w ks /\ Grow M M'):=by
 refine z2b k42 rfl ?_
 dsimp only [x42,zipE,Nat.reduceAdd]
 (repeat' (first|(with_reducible intro _)|refine sv ?_|(refine sc ?_ ?_<;>(intro h;try first|exact h.elim|exact absurd rfl h|(exfalso;omega)))|(refine sg ?_ ?_<;>(intro h;(fail_if_success (have:True:=h));try first|exact h.elim|exact absurd rfl h|(exfalso;omega)))|assumption|exact xm|exact rfl))
 refine z7s (by exact gd) rfl rfl (zg8 hpb hm hok (by omega) hN) ?_
 rintro w M' ⟨ks,h1,h2,h3,hv,hg⟩
 obtain ⟨a,f,e,rfl⟩:=hv.shape
 (repeat' (first|(with_reducible intro _)|refine sv ?_|(refine sc ?_ ?_<;>(intro h;try first|exact h.elim|exact absurd rfl h|(exfalso;omega)))|((with_reducible first|apply zw|apply zy|apply zn);exact gd;exact rfl;exact rfl;(first|exact zer hv (by omega) h1))|(refine sg ?_ ?_<;>(intro h;(fail_if_success (have:True:=h));try first|exact h.elim|exact absurd rfl h|(exfalso;omega)))|assumption|exact xm|exact rfl))
 rename_i hq
 obtain ⟨ks',hv',h4,h5,h6,hk⟩:=hq
 have hg2:=Keep.to_grow' hg hk (fun i hi=>hi)
 (repeat' (first|(with_reducible intro _)|refine sv ?_|(refine sc ?_ ?_<;>(intro h;try first|exact h.elim|exact absurd rfl h|(exfalso;omega)))|(refine sg ?_ ?_<;>(intro h;(fail_if_success (have:True:=h));try first|exact h.elim|exact absurd rfl h|(exfalso;omega)))|assumption|exact xm|exact rfl))
 ((with_reducible first|apply zi|apply zc);exact rx)
 exact ⟨ks',h4,fun k=>(h5 k).trans (h2 k),by omega,hv',hg2⟩
abbrev FW:=Ky × Option (Nat × Nat) × Nat × Bool × Nat
abbrev fwc (x:FW):List LV:=[I x.1.1,I x.1.2,.slice x.2.1 x.2.2.1 x.2.2.2.1 x.2.2.2.2]
def FwV (M:Mem) (x:FW) (f:Fr):Prop:=x.1=fky f /\ x.2.2.1=f.2.2.length /\ SlI M x.2.1 f.2.2
inductive FwL (M:Mem):List FW->List Fr->Prop
 | nil:FwL M [] []
 | cons {x:FW} {f:Fr} {xs:List FW} {fs:List Fr} (h:FwV M x f) (h':FwL M xs fs):FwL M (x :: xs) (f :: fs)
theorem FwL.len {M:Mem} {xs:List FW} {fs:List Fr} (h:FwL M xs fs):xs.length=fs.length:=by
 induction h with
 | nil=>rfl
 | cons _ _ ih=>simp [ih]
theorem FwL.snoc {M:Mem} {xs:List FW} {fs:List Fr} {x:FW} {f:Fr} (h:FwL M xs fs) (h':FwV M x f):FwL M (xs ++ [x]) (fs ++ [f]):=by
 induction h with
 | nil=>exact .cons h' .nil
 | cons h _ ih=>exact .cons h ih
theorem FwL.at {M:Mem} {xs:List FW} {fs:List Fr} (h:FwL M xs fs):∀ {k:Nat} (h1:k < xs.length) (h2:k < fs.length),FwV M xs[k] fs[k]:=by
 induction h with
 | nil=>intro k h1;simp at h1
 | cons h _ ih =>
  intro k h1 h2
  cases k with
  | zero=>exact h
  | succ k=>exact ih (by simpa using h1) (by simpa using h2)
theorem FwV.grow {M M':Mem} {x:FW} {f:Fr} (h:FwV M x f) (hg:Grow M M'):FwV M' x f:=⟨h.1,h.2.1,h.2.2.grow hg⟩
theorem FwL.grow {M M':Mem} {xs:List FW} {fs:List Fr} (h:FwL M xs fs) (hg:Grow M M'):FwL M' xs fs:=by
 induction h with
 | nil=>exact .nil
 | cons h _ ih=>exact .cons (h.grow hg) ih
theorem zor {b:Nat} {ty:TypeId} {M:Mem} {v:LV} {xs:List FW} {fs:List Fr} (hv:Vec b 3 ty fwc M v xs) (hl:FwL M xs fs):∃ a f e,v=.slice a fs.length f e /\ FsV M a fs:=by
 obtain ⟨a,f,e,h1,h2⟩:=hv.rd (fun _ _=>rfl)
 refine ⟨a,f,e,by rw [<-hl.len];exact h1,?_⟩
 rcases h2 with rfl|⟨i,o,rfl,h3⟩
 ·left
  have:=hl.len
  exact List.length_eq_zero_iff.1 (by rw [<-this];rfl)
 ·refine .inr ⟨i,o,rfl,fun k hk=>?_⟩
  have hk':k < xs.length:=by rw [hl.len];exact hk
  have h4:=h3 k hk'
  obtain ⟨g1,g2,g3⟩:=hl.at hk' hk
  refine ⟨xs[k].2.1,xs[k].2.2.2.1,xs[k].2.2.2.2,?_,g3⟩
  have e1:xs[k].1.1=fs[k].1:=congrArg Prod.fst g1
  have e2:xs[k].1.2=fs[k].2.1:=congrArg Prod.snd g1
  rw [<-e1,<- e2,<- g2]
  exact h4
inductive FwL1 (M:Mem):List FW->List Fr->Prop
 | nil:FwL1 M [] []
 | cons {x:FW} {f:Fr} {xs:List FW} {fs:List Fr} (h:FwV M x f) (h1:f.2.2 ≠ []->x.2.2.2.2=1) (h':FwL1 M xs fs):FwL1 M (x :: xs) (f :: fs)
theorem FwL1.l {M:Mem} {xs:List FW} {fs:List Fr} (h:FwL1 M xs fs):FwL M xs fs:=by
 induction h with
 | nil=>exact .nil
 | cons h _ _ ih=>exact .cons h ih
theorem FwL1.snoc {M:Mem} {xs:List FW} {fs:List Fr} {x:FW} {f:Fr} (h:FwL1 M xs fs) (h':FwV M x f) (h1:f.2.2 ≠ []->x.2.2.2.2=1):FwL1 M (xs ++ [x]) (fs ++ [f]):=by
 induction h with
 | nil=>exact .cons h' h1 .nil
 | cons h h2 _ ih=>exact .cons h h2 ih
theorem FwL1.grow {M M':Mem} {xs:List FW} {fs:List Fr} (h:FwL1 M xs fs) (hg:Grow M M'):FwL1 M' xs fs:=by
 induction h with
 | nil=>exact .nil
 | cons h h2 _ ih=>exact .cons (h.grow hg) h2 ih
theorem FwL1.one {M:Mem} {xs:List FW} {fs:List Fr} (h:FwL1 M xs fs):∀ {k:Nat} (h1:k < xs.length) (h2:k < fs.length),fs[k].2.2 ≠ []->xs[k].2.2.2.2=1:=by
 induction h with
 | nil=>intro k h1;simp at h1
 | cons h h2 _ ih =>
  intro k g1 g2
  cases k with
  | zero=>exact h2
  | succ k=>exact ih (by simpa using g1) (by simpa using g2)
theorem zmq {b:Nat} {ty:TypeId} {M:Mem} {v:LV} {xs:List FW} {fs:List Fr} (hv:Vec b 3 ty fwc M v xs) (hl1:FwL1 M xs fs) (hne:∀ x ∈ fs,x.2.2 ≠ []):∃ a f e,v=.slice a fs.length f e /\ FsV1 M a fs:=by
 have hl:=hl1.l
 obtain ⟨a,f,e,h1,h2⟩:=hv.rd (fun _ _=>rfl)
 refine ⟨a,f,e,by rw [<-hl.len];exact h1,?_⟩
 rcases h2 with rfl|⟨i,o,rfl,h3⟩
 ·left
  have:=hl.len
  exact List.length_eq_zero_iff.1 (by rw [<-this];rfl)
 ·refine .inr ⟨i,o,rfl,fun k hk=>?_⟩
  have hk':k < xs.length:=by rw [hl.len];exact hk
  have h4:=h3 k hk'
  obtain ⟨g1,g2,g3⟩:=hl.at hk' hk
  have g4:=hl1.one hk' hk (hne _ (List.getElem_mem hk))
  refine ⟨xs[k].2.1,xs[k].2.2.2.1,?_,g3⟩
  have e1:xs[k].1.1=fs[k].1:=congrArg Prod.fst g1
  have e2:xs[k].1.2=fs[k].2.1:=congrArg Prod.snd g1
  rw [<-e1,<- e2,<- g2,<- g4]
  exact h4
theorem zdl {m:Nat} {x:FW} {M M':Mem} {ty:TypeId} (hn:New M m (.cells true (fwc x) ty) M'):firstL 3 1 (.slice (some (m,0)) 1 true 3) M'=some ([x].flatMap fwc) :=
 z4g (enc:=fwc) (l:=[x]) (fun _ _=>rfl) (fun k' hk'=>z1s (enc:=fwc) (l:=[x]) (At.new_same hn) (fun _ _=>rfl) hk')
set_option maxHeartbeats 8000000 in
theorem zjc {M:Mem} {r:Nat} {R:Rk} {J:List Fr} (hR:RkM M r R) (hJ:RJ R J) (hne:∀ x ∈ J,x.2.2 ≠ []) (hlen:R.length<=1000000) :
  CallN Tryz.prog 24 [.map (some r)] M (fun w M'=>((J.length<=128 /\ ∃ a f e,w=.tup [.slice a J.length f e,.bool true] /\ FsV1 M' a J) ∨ (128 < J.length /\ w=.tup [zsl,.bool false])) /\ Grow M M'):=by
 obtain ⟨L,bs,clk,hm,hok,hL⟩:=hR
 have hLl:=hL.len
 have hkeys:=hL.keys
 have hJl:=hJ.len
 have hN:(L.map (·.1)).Nodup:=by rw [hkeys];exact hJ.n
 refine z2b k24 rfl ?_
 dsimp only [x24,zipE,Nat.reduceAdd]
 have hel:(encK L).length=L.length:=by simp [encK]
 by_cases hbig:128 < R.length
 ·(repeat' (first|(with_reducible intro _)|refine sv ?_|(refine sc ?_ ?_<;>(intro h;try first|exact h.elim|exact absurd rfl h|(exfalso;omega)))|(refine sg ?_ ?_<;>(intro h;(fail_if_success (have:True:=h));try first|exact h.elim|exact absurd rfl h|(exfalso;omega)))|assumption|exact xm|exact rfl))
  refine z7t (by exact gd) (ziw rfl hm) ?_
  (repeat' (first|(with_reducible intro _)|refine sv ?_|(refine sc ?_ ?_<;>(intro h;try first|exact h.elim|exact absurd rfl h|(exfalso;omega)))|(refine sg ?_ ?_<;>(intro h;(fail_if_success (have:True:=h));try first|exact h.elim|exact absurd rfl h|(exfalso;omega)))|assumption|exact xm|exact rfl))
  all_goals try (exfalso;omega)
  ((with_reducible first|apply zi|apply zc);exact rx)
  exact ⟨.inr ⟨by omega,rfl⟩,Grow.refl _⟩
 (repeat' (first|(with_reducible intro _)|refine sv ?_|(refine sc ?_ ?_<;>(intro h;try first|exact h.elim|exact absurd rfl h|(exfalso;omega)))|(refine sg ?_ ?_<;>(intro h;(fail_if_success (have:True:=h));try first|exact h.elim|exact absurd rfl h|(exfalso;omega)))|assumption|exact xm|exact rfl))
 refine z7t (by exact gd) (ziw rfl hm) ?_
 (repeat' (first|(with_reducible intro _)|refine sv ?_|(refine sc ?_ ?_<;>(intro h;try first|exact h.elim|exact absurd rfl h|(exfalso;omega)))|((with_reducible first|apply zpu|apply zol);exact gd;exact rfl;exact rfl;(first|exact zo8))|(refine sg ?_ ?_<;>(intro h;(fail_if_success (have:True:=h));try first|exact h.elim|exact absurd rfl h|(exfalso;omega)))|assumption|exact xm|exact rfl))
 all_goals try (exfalso;omega)
 rename_i pb M1 hpb q1 q1' hg1 q1''
 refine z7s (by exact gd) rfl rfl (zap hpb (At.grow hg1 hm) hok (by omega) hN) ?_
 rintro w M2 ⟨ks,hsrt,hmem,hkl,hv,hg2⟩
 have hks:=hJ.frames hsrt (fun k=>by rw [hmem,hkeys])
 have hgM2:=hg1.trans hg2
 obtain ⟨a2,f2,e2,rfl,hrd⟩:=hv.rd (fun _ _=>rfl)
 (repeat' (first|(with_reducible intro _)|refine sv ?_|(refine sc ?_ ?_<;>(intro h;try first|exact h.elim|exact absurd rfl h|(exfalso;omega)))|(refine sg ?_ ?_<;>(intro h;(fail_if_success (have:True:=h));try first|exact h.elim|exact absurd rfl h|(exfalso;omega)))|assumption|exact xm|exact rfl))
 have hb0:M2.next=M2.next:=rfl
 refine zg (fun z E ms M'=>∃ (k:Nat) (xs:List FW) (v:LV),z=ks.length - k /\ k<=ks.length /\ ms=[] /\ Has E [(0,.map (some r)),(12,.slice a2 ks.length f2 e2),(13,I ks.length),(14,I k),(4,v)] /\ Vec M2.next 3 43 fwc M' v xs /\ FwL1 M xs ((ks.take k).map (frK R)) /\ Grow M2 M')
  ?_ (ks.length - 0) _ _ _ ⟨0,[],_,rfl,Nat.zero_le _,rfl,.cons rfl (.cons rfl (.cons rfl (.cons rfl (.cons rfl .nil)))),Vec.nil,.nil,Grow.refl _⟩
 rintro z E ms M3 ⟨k,xs,v,rfl,hk,rfl,hE,hvx,hfx,hg3⟩
 refine z02 hE ?_
 obtain ⟨a3,f3,e3,rfl⟩:=hvx.shape
 by_cases hlast:k=ks.length
 ·subst hlast
  rw [List.take_length,hks] at hfx
  have hfx':=hfx.grow (hgM2.trans hg3)
  (repeat' (first|(with_reducible intro _)|refine sv ?_|(refine sc ?_ ?_<;>(intro h;try first|exact h.elim|exact absurd rfl h|(exfalso;omega)))|(refine sg ?_ ?_<;>(intro h;(fail_if_success (have:True:=h));try first|exact h.elim|exact absurd rfl h|(exfalso;omega)))|assumption|exact xm|exact rfl))
  ((with_reducible first|apply zi|apply zc);exact rx)
  obtain ⟨a,f,e,he,hfs⟩:=zmq hvx hfx' hne
  exact ⟨.inl ⟨by omega,a,f,e,by rw [he];rfl,hfs⟩,hgM2.trans hg3⟩
 have hlt:k < ks.length:=by omega
 rcases hrd with h0|⟨i2,o2,rfl,hrd⟩
 ·rw [h0] at hlt;exact absurd hlt (Nat.not_lt_zero _)
 have hr3:=(hrd k hlt).grow hg3
 have hkk:=hL.look ks[k]
 have hfr:frK R ks[k]=(ks[k].1,ks[k].2,(lkK R ks[k]).getD []):=rfl
 have htk:(ks.take (k+1)).map (frK R)=(ks.take k).map (frK R) ++ [frK R ks[k]]:=by rw [List.take_succ_eq_append_getElem hlt,List.map_append];rfl
 obtain ⟨av,fv,ev,hve,hv1,hvs⟩:=hkk
 generalize (lkK R ks[k]).getD []=smp at *
 have hmr:=At.grow (hgM2.trans hg3) hm
 have hlke:=hve
 generalize ks[k]=kk at *
 have hxl:xs.length=k:=by rw [hfx.l.len];simp;omega
 (have hrd0:=hr3;repeat' (first|(with_reducible intro _)|refine sv ?_|(refine sc ?_ ?_<;>(intro h;try first|exact h.elim|exact absurd rfl h|(exfalso;omega)))|(refine sg ?_ ?_<;>(intro h;(fail_if_success (have:True:=h));try first|exact h.elim|exact absurd rfl h|(exfalso;omega)))|assumption|exact xm|exact rfl))
 rename_i n4 M4 hN4 q4 q4' M5 hU5 q5 hA5
 have hm5:At M5 r (.map (encK L) bs clk):=by have:=hm.2;have:=hgM2.le;have:=hg3.le;exact xm
 have lk5:∀ {E:Env} {x y:XO} (m:Mem),At m r (.map (encK L) bs clk)->xval E x=some (.map (some r))->xval E y=some (kyv kk)->xstep Tryz.prog (.lkp 88 zsl false x y) E m=some (.val (.slice av smp.length fv ev) m):=fun m hm hx hy=>by
  have:=zhc hm hx hy
  rw [hve] at this;exact this
 have hkp5:Keep (fun _=>False) M3 M5:=xk
 have hl5:=hkp5.le
 have hvx5:=hvx.keep hkp5 (fun i hi=>hi.elim)
 have hl3:=hg3.le
 have hg5:Grow M2 M5:=xg
 have hrl:=hm.2
 have hM2:=hgM2.le
 clear hU5 hN4
 (repeat' (first|(with_reducible intro _)|refine sv ?_|(refine sc ?_ ?_<;>(intro h;try first|exact h.elim|exact absurd rfl h|(exfalso;omega)))|(refine sg ?_ ?_<;>(intro h;(fail_if_success (have:True:=h));try first|exact h.elim|exact absurd rfl h|(exfalso;omega)))|assumption|exact xm|exact rfl))
 refine z5l (by exact gd) (lk5 _ hm5 rfl rfl) (fun m=>At m r (.map (encK L) bs clk)) (fun m hm=>lk5 m hm rfl rfl) ?_
 (repeat' (first|(with_reducible intro _)|refine sv ?_|(refine sc ?_ ?_<;>(intro h;try first|exact h.elim|exact absurd rfl h|(exfalso;omega)))|(refine sg ?_ ?_<;>(intro h;(fail_if_success (have:True:=h));try first|exact h.elim|exact absurd rfl h|(exfalso;omega)))|assumption|exact xm|exact rfl))
 rename_i n6 M6 hN6 q6 q6'
 have hvx6:=hvx5.grow hN6.grow
 have hg6:Grow M2 M6:=hg5.trans hN6.grow
 have hfx2:FwL1 M (xs ++ [(kk,av,smp.length,fv,ev)]) ((ks.take (k+1)).map (frK R)):=by
  rw [htk,hfr]
  exact hfx.snoc ⟨rfl,rfl,hvs⟩ hv1
 have hl6:=hg6.le
 refine zaw (l':=[(kk,av,smp.length,fv,ev)]) (by exact gd) hvx6 rfl rfl rfl (by simp) (by simp;omega) rfl (zdl (x:=(kk,av,smp.length,fv,ev)) hN6) (fun _=>rfl) (fun _=>rfl) (by omega) ?_
 intro v7 M7 hv7 e7 hk7
 have hg7:Grow M2 M7:=Keep.to_grow' hg6 hk7 (fun i hi=>hi.1)
 obtain ⟨a7,f7,e7',rfl⟩:=hv7.shape
 have hob:∀ i,i < M2.next->¬ (M2.next<=i /\ ∃ o n f e,LV.slice a3 xs.length f3 e3=.slice (some (i,o)) n f e):=fun i hi h=>by omega
 (repeat' (first|(with_reducible intro _)|refine sv ?_|(refine sc ?_ ?_<;>(intro h;try first|exact h.elim|exact absurd rfl h|(exfalso;omega)))|(refine sg ?_ ?_<;>(intro h;(fail_if_success (have:True:=h));try first|exact h.elim|exact absurd rfl h|(exfalso;omega)))|assumption|exact xm|exact rfl))
 exact zk (ks.length - (k+1)) (by omega) ⟨k+1,_,_,rfl,by omega,rfl,.cons rfl (.cons rfl (.cons rfl (.cons rfl (.cons rfl .nil)))),hv7,hfx2,hg7⟩
end Go.Proofs.YtbmgeagllpganaaGreatDoor.C
end
