/-
 Part of the proof of TopAgain. No condition beyond those in each theorem.
-/
import Derived.Test.YtbmgeagllpganaaGreatDoorSA
import Derived.Test.YtbmgeagllpganaaGreatDoorTX
section
open Go PvL Go.Proofs
set_option linter.unusedSimpArgs false
set_option linter.unusedVariables false
namespace Go.Proofs.YtbmgeagllpganaaGreatDoor.C
set_option maxHeartbeats 8000000 in
theorem z3s {M:Mem} {v:LV} {r:Rl} (hv:RlV M v r) (hin:RlIn r):CallOk Tryz.prog 12 [v] M (fun w M'=>w=I (errRl r) /\ Grow M M'):=by
 obtain ⟨a,f,e,rfl,hs⟩:=hv
 refine zj k12 rfl ?_
 dsimp only [x12,zipE,Nat.reduceAdd]
 have cn:=fun M=>zj9 r.1 hin.1 M
 cases hnm:nmB r.1 with
 | false =>
  have he:errRl r=81:=by unfold errRl rlB;rw [hnm];rfl
  rw [he]
  rw [hnm] at cn
  (repeat' (first|(with_reducible intro _)|refine sv ?_|(refine sc ?_ ?_<;>(intro h;try first|exact h.elim|exact absurd rfl h|(exfalso;omega)))|((with_reducible first|apply zx|apply zu|apply zm);exact gd;exact rfl;exact rfl;(first|exact cn _))|(refine sg ?_ ?_<;>(intro h;(fail_if_success (have:True:=h));try first|exact h.elim|exact absurd rfl h|(exfalso;omega)))|assumption|exact xm|exact rfl))
  ((with_reducible first|apply zi|apply zc);exact rx)
  exact ⟨rfl,xg⟩
 | true =>
 rw [hnm] at cn
 by_cases hl:¬ r.2.length<=128
 ·have he:errRl r=81:=by unfold errRl rlB;rw [decide_eq_false hl,Bool.and_false];rfl
  rw [he]
  have hl2:=hin.2.1
  (repeat' (first|(with_reducible intro _)|refine sv ?_|(refine sc ?_ ?_<;>(intro h;try first|exact h.elim|exact absurd rfl h|(exfalso;omega)))|((with_reducible first|apply zx|apply zu|apply zm);exact gd;exact rfl;exact rfl;(first|exact cn _))|(refine sg ?_ ?_<;>(intro h;(fail_if_success (have:True:=h));try first|exact h.elim|exact absurd rfl h|(exfalso;omega)))|assumption|exact xm|exact rfl))
  all_goals try (exfalso;omega)
  ((with_reducible first|apply zi|apply zc);exact rx)
  exact ⟨rfl,xg⟩
 have hl:r.2.length<=128:=by omega
 have hok9:rlK r.2 r.2.length=true->errRl r=0:=fun h=>by unfold errRl rlB;rw [hnm,decide_eq_true hl,h];rfl
 have hno9:=fun k (hk:k<=r.2.length) h=>zjm (r:=r) hk h
 have hfr:=fun k (hk:k < r.2.length)=>hin.fr hk
 generalize errRl r=ER at *
 generalize r.2=L at *
 generalize r.1=nm at *
 clear hnm
 (repeat' (first|(with_reducible intro _)|refine sv ?_|(refine sc ?_ ?_<;>(intro h;try first|exact h.elim|exact absurd rfl h|(exfalso;omega)))|((with_reducible first|apply zx|apply zu|apply zm);exact gd;exact rfl;exact rfl;(first|exact cn _))|(refine sg ?_ ?_<;>(intro h;(fail_if_success (have:True:=h));try first|exact h.elim|exact absurd rfl h|(exfalso;omega)))|assumption|exact xm|exact rfl))
 rename_i m1 M1 hN1 q1 q2
 have hA1:=At.new_same hN1
 have hg1:=hN1.grow
 have hs1:=hs.grow hg1
 clear hN1 h
 dsimp only [LV.cells] at hA1
 refine zg (fun z E ms M'=>∃ k:Nat,z=L.length - k /\ k<=L.length /\ ms=[] /\ Has E [(1,.ptr (some (m1,0))),(16,.slice a L.length f e),(17,I L.length),(18,I k)] /\ Grow M1 M' /\ rlK L k=true)
  ?_ L.length _ _ _ ⟨0,by omega,by omega,rfl,.cons rfl (.cons rfl (.cons rfl (.cons rfl .nil))),Grow.refl _,rfl⟩
 rintro z E ms M2 ⟨k,rfl,hk,rfl,hE,hg2,hok⟩
 refine z02 hE ?_
 have hA2:=At.grow hg2 hA1
 by_cases hlast:k=L.length
 ·subst hlast
  rw [hok9 hok]
  (repeat' (first|(with_reducible intro _)|refine sv ?_|(refine sc ?_ ?_<;>(intro h;try first|exact h.elim|exact absurd rfl h|(exfalso;omega)))|(refine sg ?_ ?_<;>(intro h;(fail_if_success (have:True:=h));try first|exact h.elim|exact absurd rfl h|(exfalso;omega)))|assumption|exact xm|exact rfl))
  ((with_reducible first|apply zi|apply zc);exact rx)
  exact ⟨rfl,hg1.trans hg2⟩
 have hlt:k < L.length:=by omega
 have hst:=zfq L k
 rw [hok,Bool.true_and] at hst
 obtain ⟨i,o,b,g,u,rfl,hr,hfv⟩:=(hs1.grow hg2).rd hlt
 have hfi:=hfr k hlt
 have hno:=hno9 (k+1) (by omega)
 (have hrd0:=hr;repeat' (first|(with_reducible intro _)|refine sv ?_|(refine sc ?_ ?_<;>(intro h;try first|exact h.elim|exact absurd rfl h|(exfalso;omega)))|(refine sg ?_ ?_<;>(intro h;(fail_if_success (have:True:=h));try first|exact h.elim|exact absurd rfl h|(exfalso;omega)))|assumption|exact xm|exact rfl))
 rename_i m3 M3 hN3 q3 q4 M4 hU4 q5 hA4
 have hg4:Grow M2 M4:=xg
 have cc:=zao (hfv.grow hg4) hfi
 have hA1b:At M4 m1 (.cells true [.str nm,.slice (some (i,o)) L.length f e] 24):=At.grow hg4 hA2
 have he80:frB (fe L k)=false->errF (fe L k)=80:=fun h=>by unfold errF;rw [h];rfl
 have he0:frB (fe L k)=true->errF (fe L k)=0:=fun h=>by unfold errF;rw [h];rfl
 cases hfb:frB (fe L k) with
 | false =>
  rw [hfb] at hst
  rw [he80 hfb] at cc
  rw [hno (by rw [hst];rfl)]
  have hgM:=hg1.trans (hg2.trans hg4)
  clear hN3 hU4
  (repeat' (first|(with_reducible intro _)|refine sv ?_|(refine sc ?_ ?_<;>(intro h;try first|exact h.elim|exact absurd rfl h|(exfalso;omega)))|((with_reducible first|apply z07|apply z06|apply zp);exact gd;exact rfl;exact rfl;(first|exact cc))|(refine sg ?_ ?_<;>(intro h;(fail_if_success (have:True:=h));try first|exact h.elim|exact absurd rfl h|(exfalso;omega)))|assumption|exact xm|exact rfl))
  ((with_reducible first|apply zi|apply zc);exact rx)
  exact ⟨rfl,xg⟩
 | true =>
 rw [hfb,Bool.true_and] at hst
 rw [he0 hfb] at cc
 by_cases h0:k=0
 ·subst h0
  clear hN3 hU4
  (repeat' (first|(with_reducible intro _)|refine sv ?_|(refine sc ?_ ?_<;>(intro h;try first|exact h.elim|exact absurd rfl h|(exfalso;omega)))|((with_reducible first|apply z07|apply z06|apply zp);exact gd;exact rfl;exact rfl;(first|exact cc))|(refine sg ?_ ?_<;>(intro h;(fail_if_success (have:True:=h));try first|exact h.elim|exact absurd rfl h|(exfalso;omega)))|assumption|exact xm|exact rfl))
  refine zk (L.length - (0+1)) (by omega) ⟨1,rfl,by omega,rfl,.cons rfl (.cons rfl (.cons rfl (.cons rfl .nil))),(hg2.trans hg4).trans (xg),by rw [hst];rfl⟩
 ·rw [decide_eq_false h0,Bool.false_or] at hst
  obtain ⟨i2,o2,b2,g2,u2,he2,hr2,hfv2⟩:=(hs1.grow hg2).rd (k:=k - 1) (by omega)
  obtain ⟨rfl,rfl⟩:i2=i /\ o2=o:=by injection he2 with q;injection q with q1 q2;exact ⟨q1.symm,q2.symm⟩
  have hkk:((k:Int) - 1).toNat=k - 1:=by omega
  have hge:=zmi (ze7 (i:=k - 1) hok (by omega)) hfb
  have ck1:=fun M' (hg:Grow M4 M')=>zc9 ((hfv2.grow hg4).grow hg)
  have ck2:=fun M' (hg:Grow M4 M')=>zc9 ((hfv.grow hg4).grow hg)
  have co:=fun M'=>z0u (fe L (k - 1)).1 (fe L (k - 1)).2.1 (fe L k).1 (fe L k).2.1 M'
  have hr4:=hr2.grow hg4
  rw [<-hkk] at hr4
  rw [hkk] at hr4
  have hr5:Rd M4 i2 (o2+((k:Int) - 1).toNat*3) 3 [I (fe L (k - 1)).1,I (fe L (k - 1)).2.1,.slice b2 (fe L (k - 1)).2.2.length g2 u2]:=by rw [hkk];exact hr4
  generalize hC:cmpK ((fe L (k - 1)).1,(fe L (k - 1)).2.1) ((fe L k).1,(fe L k).2.1)=C at *
  generalize decide (keyI (fe L (k - 1)) < keyI (fe L k))=B at *
  have hgM:=hg1.trans (hg2.trans hg4)
  have hg24:=hg2.trans hg4
  clear hN3 hU4 hg4 hr hr2 hr4 hfv hfv2 hrd0
  (have hrd0:=hr5;repeat' (first|(with_reducible intro _)|refine sv ?_|(refine sc ?_ ?_<;>(intro h;try first|exact h.elim|exact absurd rfl h|(exfalso;omega)))|((with_reducible first|apply z07|apply z06|apply zp);exact gd;exact rfl;exact rfl;(first|exact cc|exact ck1 _ (xg)|exact ck2 _ (xg)|exact co _))|(refine sg ?_ ?_<;>(intro h;(fail_if_success (have:True:=h));try first|exact h.elim|exact absurd rfl h|(exfalso;omega)))|assumption|exact xm|exact rfl))
  ·have hB:B=false:=by
    have h9:decide (C>=0)=true:=decide_eq_true h
    rw [h9] at hge
    cases B
    ·rfl
    ·cases hge
   rw [hno (by rw [hst,hB])]
   ((with_reducible first|apply zi|apply zc);exact rx)
   exact ⟨rfl,hgM.trans (xg)⟩
  ·have hB:B=true:=by
    have h9:decide (C>=0)=false:=decide_eq_false (by omega)
    rw [h9] at hge
    cases B
    ·cases hge
    ·rfl
   exact zk (L.length - (k+1)) (by omega) ⟨k+1,rfl,by omega,rfl,.cons rfl (.cons rfl (.cons rfl (.cons rfl .nil))),hg24.trans (xg),by rw [hst,hB]⟩
end Go.Proofs.YtbmgeagllpganaaGreatDoor.C
end
section

end
section
open Go PvL Go.Proofs
set_option linter.unusedSimpArgs false
set_option linter.unusedVariables false
namespace Go.Proofs.YtbmgeagllpganaaGreatDoor.C
abbrev cf:LV:=.func (.func 28) [] []
abbrev KT (M:Mem) (p n:Nat) (ty:TypeId) (G:Nat->Ky):Prop:=At M p (.cells true (tabL kyc G n) ty)
theorem z0c {M:Mem} {p n k:Nat} {ty:TypeId} {G:Nat->Ky} (h:KT M p n ty G) (hk:k < n):Rd M p (0+k*2) 2 [I (G k).1,I (G k).2]:=znh (enc:=kyc) (fun _=>rfl) h hk
theorem z08 {n k:Nat} {G:Nat->Ky} (hk:k < n) (x:Ky):setList (tabL kyc G n) (0+k*2) [I x.1,I x.2]=some (tabL kyc (fun t=>if t=k then x else G t) n):=by
 have:=zkl (enc:=kyc) (sz:=2) (G:=G) (G':=fun t=>if t=k then x else G t) (n:=n) (k:=k) (fun _=>rfl) (by omega) hk (fun i _ hi=>by simp [hi])
 simpa using this
set_option maxHeartbeats 4000000 in
theorem zqk {M:Mem} {p n a b:Nat} {f:Bool} {e:Nat} {ty:TypeId} {G:Nat->Ky} (hA:KT M p n ty G) (hb:b<=n) (hab:a<=b) (hn:n<=1000) :
  CallOk Tryz.prog 142 [.slice (some (p,0)) n f e,I a,I b,cf] M (fun w M'=>∃ G',Sw a b G G' /\ Srt a b G' /\ KT M' p n ty G' /\ Keep (fun i=>i=p) M M'):=by
 refine zj k142 rfl ?_
 dsimp only [x142,zipE,Nat.reduceAdd]
 (repeat' (first|(with_reducible intro _)|refine sv ?_|(refine sc ?_ ?_<;>(intro h;try first|exact h.elim|exact absurd rfl h|(exfalso;omega)))|(refine sg ?_ ?_<;>(intro h;(fail_if_success (have:True:=h));try first|exact h.elim|exact absurd rfl h|(exfalso;omega)))|assumption|exact xm|exact rfl))
 refine zg (fun z E ms M'=>∃ (i:Nat) (G':Nat->Ky),z=b+1 - i /\ a+1<=i /\ (i<=b ∨ i=a+1) /\ ms=[] /\ Has E [(0,.slice (some (p,0)) n f e),(1,I a),(2,I b),(3,cf),(8,I i)] /\ Sw a b G G' /\ Srt a i G' /\ KT M' p n ty G' /\ Keep (fun i=>i=p) M M')
  ?_ (b+1 - (a+1)) _ _ _ ⟨a+1,G,rfl,by omega,.inr rfl,rfl,.cons rfl (.cons rfl (.cons rfl (.cons rfl (.cons rfl .nil)))),.refl,Srt.short (by omega),hA,Keep.refl _ _⟩
 rintro z E ms M1 ⟨i,G1,rfl,hi,hib,rfl,hE,hw1,hs1,hA1,hk1⟩
 refine z02 hE ?_
 by_cases hlast:b<=i
 ·(repeat' (first|(with_reducible intro _)|refine sv ?_|(refine sc ?_ ?_<;>(intro h;try first|exact h.elim|exact absurd rfl h|(exfalso;omega)))|(refine sg ?_ ?_<;>(intro h;(fail_if_success (have:True:=h));try first|exact h.elim|exact absurd rfl h|(exfalso;omega)))|assumption|exact xm|exact rfl))
  all_goals try (exfalso;omega)
  ((with_reducible first|apply zi|apply zc);exact rx)
  exact ⟨G1,hw1,fun x y h1 h2 h3=>hs1 x y h1 h2 (by omega),hA1,hk1⟩
 have hlt:i < b:=by omega
 (repeat' (first|(with_reducible intro _)|refine sv ?_|(refine sc ?_ ?_<;>(intro h;try first|exact h.elim|exact absurd rfl h|(exfalso;omega)))|(refine sg ?_ ?_<;>(intro h;(fail_if_success (have:True:=h));try first|exact h.elim|exact absurd rfl h|(exfalso;omega)))|assumption|exact xm|exact rfl))
 all_goals try (exfalso;omega)
 refine zg (fun z E ms M'=>∃ (G':Nat->Ky),a<=z /\ z<=i /\ ms=[] /\ Has E [(0,.slice (some (p,0)) n f e),(1,I a),(2,I b),(3,cf),(8,I i),(9,I z)] /\ Sw a b G G' /\ Ins a (i+1) z G' /\ KT M' p n ty G' /\ Keep (fun i=>i=p) M M')
  ?_ i _ _ _ ⟨G1,by omega,Nat.le_refl _,rfl,.cons rfl (.cons rfl (.cons rfl (.cons rfl (.cons rfl (.cons rfl .nil))))),hw1,Ins.start hs1,hA1,hk1⟩
 rintro j E ms M2 ⟨G2,hj1,hj2,rfl,hE,hw2,hs2,hA2,hk2⟩
 refine z02 hE ?_
 by_cases hja:j=a
 ·subst hja
  (repeat' (first|(with_reducible intro _)|refine sv ?_|(refine sc ?_ ?_<;>(intro h;try first|exact h.elim|exact absurd rfl h|(exfalso;omega)))|(refine sg ?_ ?_<;>(intro h;(fail_if_success (have:True:=h));try first|exact h.elim|exact absurd rfl h|(exfalso;omega)))|assumption|exact xm|exact rfl))
  all_goals try (exfalso;omega)
  refine zk (b+1 - (i+1)) (by omega) ⟨i+1,G2,rfl,by omega,by omega,rfl,.cons rfl (.cons rfl (.cons rfl (.cons rfl (.cons rfl .nil)))),hw2,hs2.done (.inl (Nat.le_refl _)),hA2,hk2⟩
 obtain ⟨j',rfl⟩:∃ j',j=j' + 1:=⟨j - 1,by omega⟩
 have hz:(((j' + 1:Nat):Int) - 1).toNat=j':=by omega
 have hr1:=z0c hA2 (show j' + 1 < n by omega)
 have hr2:=z0c hA2 (show j' < n by omega)
 rw [<-hz] at hr2
 rw [hz] at hr2
 have hr3:Rd M2 p (0+(((j' + 1:Nat):Int) - 1).toNat*2) 2 [I (G2 j').1,I (G2 j').2]:=by rw [hz];exact hr2
 have co:=fun M'=>z0u (G2 (j' + 1)).1 (G2 (j' + 1)).2 (G2 j').1 (G2 j').2 M'
 have hlt9:=z0a (G2 (j' + 1)) (G2 j')
 (have hrd0:=hr1;have hrd1:=hr3;repeat' (first|(with_reducible intro _)|refine sv ?_|(refine sc ?_ ?_<;>(intro h;try first|exact h.elim|exact absurd rfl h|(exfalso;omega)))|((with_reducible first|apply z07|apply z06|apply zp);exact gd;exact rfl;exact rfl;(first|exact co _))|(refine sg ?_ ?_<;>(intro h;(fail_if_success (have:True:=h));try first|exact h.elim|exact absurd rfl h|(exfalso;omega)))|assumption|exact xm|exact rfl))
 ·rename_i hgt M5 hg5 q5
  have hA5:KT M5 p n ty G2:=hA2.grow hg5
  refine d_st (by exact gd) rfl rfl hA5 rfl rfl (z08 (by omega) (G2 j')) ?_
  intro M6 hU6 e6 hA6
  (repeat' (first|(with_reducible intro _)|refine sv ?_|(refine sc ?_ ?_<;>(intro h;try first|exact h.elim|exact absurd rfl h|(exfalso;omega)))|(refine sg ?_ ?_<;>(intro h;(fail_if_success (have:True:=h));try first|exact h.elim|exact absurd rfl h|(exfalso;omega)))|assumption|exact xm|exact rfl))
  refine d_st (by exact gd) rfl rfl hA6 rfl rfl (by rw [hz];exact z08 (by omega) (G2 (j' + 1))) ?_
  intro M7 hU7 e7 hA7
  have hk7:Keep (fun i=>i=p) M M7:=xk
  have hlt8:=hlt9.1 h
  (repeat' (first|(with_reducible intro _)|refine sv ?_|(refine sc ?_ ?_<;>(intro h;try first|exact h.elim|exact absurd rfl h|(exfalso;omega)))|(refine sg ?_ ?_<;>(intro h;(fail_if_success (have:True:=h));try first|exact h.elim|exact absurd rfl h|(exfalso;omega)))|assumption|exact xm|exact rfl))
  refine zk j' (by omega) ⟨sw G2 (j' + 1) j',by omega,by omega,rfl,.cons rfl (.cons rfl (.cons rfl (.cons rfl (.cons rfl (.cons ?_ .nil))))),.step hw2 (by omega) (by omega) (by omega) (by omega),hs2.step (by omega) hlt8,hA7,hk7⟩
  show some (I _)=some (I _)
  rw [show ((j' + 1:Nat):Int) - 1=j' by omega]
 ·rename_i hgt M5 hg5 q5
  have hA5:KT M5 p n ty G2:=hA2.grow hg5
  have hk5:Keep (fun i=>i=p) M M5:=xk
  refine zk (b+1 - (i+1)) (by omega) ⟨i+1,G2,rfl,by omega,by omega,rfl,.cons rfl (.cons rfl (.cons rfl (.cons rfl (.cons rfl .nil)))),hw2,hs2.done (.inr (fun hk=>absurd (hlt9.2 hk) (Int.not_lt.2 h))),hA5,hk5⟩
set_option maxHeartbeats 16000000 in
theorem zqm {M:Mem} {p n a b:Nat} {f:Bool} {e:Nat} {ty:TypeId} {G:Nat->Ky} (hA:KT M p n ty G) (hb:b<=n) (hab:a < b) (hn:n<=1000) (hlo:Lo a b G) :
  CallOk Tryz.prog 147 [.slice (some (p,0)) n f e,I a,I b,cf] M (fun w M'=>∃ (q:Bool) (G':Nat->Ky),w=.bool q /\ (q=true->Srt a b G') /\ Sw a b G G' /\ KT M' p n ty G' /\ Keep (fun i=>i=p) M M'):=by
 refine zj k147 rfl ?_
 dsimp only [x147,zipE,Nat.reduceAdd]
 (repeat' (first|(with_reducible intro _)|refine sv ?_|(refine sc ?_ ?_<;>(intro h;try first|exact h.elim|exact absurd rfl h|(exfalso;omega)))|(refine sg ?_ ?_<;>(intro h;(fail_if_success (have:True:=h));try first|exact h.elim|exact absurd rfl h|(exfalso;omega)))|assumption|exact xm|exact rfl))
 refine zg (fun z E ms M'=>∃ (s i:Nat) (G':Nat->Ky),z=5 - s /\ s<=5 /\ a < i /\ i<=b /\ ms=[] /\ Has E [(0,.slice (some (p,0)) n f e),(1,I a),(2,I b),(3,cf),(9,I i),(10,I s)] /\ Sw a b G G' /\ Srt a i G' /\ KT M' p n ty G' /\ Keep (fun i=>i=p) M M')
  ?_ 5 _ _ _ ⟨0,a+1,G,rfl,by omega,by omega,by omega,rfl,.cons rfl (.cons rfl (.cons rfl (.cons rfl (.cons rfl (.cons rfl .nil))))),.refl,Srt.short (by omega),hA,Keep.refl _ _⟩
 rintro z E ms M1 ⟨s,i0,G1,rfl,hs5,hi0,hib0,rfl,hE,hw1,hs1,hA1,hk1⟩
 refine z02 hE ?_
 by_cases hlast:s=5
 ·subst hlast
  (repeat' (first|(with_reducible intro _)|refine sv ?_|(refine sc ?_ ?_<;>(intro h;try first|exact h.elim|exact absurd rfl h|(exfalso;omega)))|(refine sg ?_ ?_<;>(intro h;(fail_if_success (have:True:=h));try first|exact h.elim|exact absurd rfl h|(exfalso;omega)))|assumption|exact xm|exact rfl))
  all_goals try (exfalso;omega)
  ((with_reducible first|apply zi|apply zc);exact rx)
  exact ⟨false,G1,rfl,fun h=>(by cases h),hw1,hA1,hk1⟩
 have hs6:s < 5:=by omega
 (repeat' (first|(with_reducible intro _)|refine sv ?_|(refine sc ?_ ?_<;>(intro h;try first|exact h.elim|exact absurd rfl h|(exfalso;omega)))|(refine sg ?_ ?_<;>(intro h;(fail_if_success (have:True:=h));try first|exact h.elim|exact absurd rfl h|(exfalso;omega)))|assumption|exact xm|exact rfl))
 all_goals try (exfalso;omega)
 refine z1a (K:=fun x E ms M'=>x=.exit 2 /\ ms=[] /\ ∃ i,a < i /\ i<=b /\ (i=b ∨ klt (G1 i) (G1 (i - 1))) /\ Srt a i G1 /\ Has E [(0,.slice (some (p,0)) n f e),(1,I a),(2,I b),(3,cf),(9,I i),(10,I s)] /\ KT M' p n ty G1 /\ Keep (fun i=>i=p) M M') ?_ ?_
 ·refine zg (fun z E ms M'=>∃ i,z=b - i /\ a < i /\ i<=b /\ Srt a i G1 /\ ms=[] /\ Has E [(0,.slice (some (p,0)) n f e),(1,I a),(2,I b),(3,cf),(9,I i),(10,I s)] /\ KT M' p n ty G1 /\ Keep (fun i=>i=p) M M')
   ?_ (b - i0) _ _ _ ⟨i0,rfl,hi0,hib0,hs1,rfl,.cons rfl (.cons rfl (.cons rfl (.cons rfl (.cons rfl (.cons rfl .nil))))),hA1,hk1⟩
  rintro z E ms M2 ⟨i,rfl,hi,hib,hs2,rfl,hE,hA2,hk2⟩
  refine z02 hE ?_
  by_cases hib2:i=b
  ·subst hib2
   (repeat' (first|(with_reducible intro _)|refine sv ?_|(refine sc ?_ ?_<;>(intro h;try first|exact h.elim|exact absurd rfl h|(exfalso;omega)))|(refine sg ?_ ?_<;>(intro h;(fail_if_success (have:True:=h));try first|exact h.elim|exact absurd rfl h|(exfalso;omega)))|assumption|exact xm|exact rfl))
   all_goals try (exfalso;omega)
   exact ⟨rfl,rfl,i,hi,hib,.inl rfl,hs2,.cons rfl (.cons rfl (.cons rfl (.cons rfl (.cons rfl (.cons rfl .nil))))),hA2,hk2⟩
  obtain ⟨i',rfl⟩:∃ i',i=i' + 1:=⟨i - 1,by omega⟩
  have hz:(((i' + 1:Nat):Int) - 1).toNat=i':=by omega
  have hr1:=z0c hA2 (show i' + 1 < n by omega)
  have hr2:=z0c hA2 (show i' < n by omega)
  have hr3:Rd M2 p (0+(((i' + 1:Nat):Int) - 1).toNat*2) 2 [I (G1 i').1,I (G1 i').2]:=by rw [hz];exact hr2
  have co:=fun M'=>z0u (G1 (i' + 1)).1 (G1 (i' + 1)).2 (G1 i').1 (G1 i').2 M'
  have hlt9:=z0a (G1 (i' + 1)) (G1 i')
  (have hrd0:=hr1;have hrd1:=hr3;repeat' (first|(with_reducible intro _)|refine sv ?_|(refine sc ?_ ?_<;>(intro h;try first|exact h.elim|exact absurd rfl h|(exfalso;omega)))|((with_reducible first|apply z07|apply z06|apply zp);exact gd;exact rfl;exact rfl;(first|exact co _))|(refine sg ?_ ?_<;>(intro h;(fail_if_success (have:True:=h));try first|exact h.elim|exact absurd rfl h|(exfalso;omega)))|assumption|exact xm|exact rfl))
  all_goals try (exfalso;omega)
  ·rename_i hx M5 hg5 q5
   have hk5:Keep (fun i=>i=p) M M5:=xk
   refine zk (b - (i' + 1+1)) (by omega) ⟨i' + 1+1,rfl,by omega,by omega,?_,rfl,.cons rfl (.cons rfl (.cons rfl (.cons rfl (.cons rfl (.cons rfl .nil))))),hA2.grow hg5,hk5⟩
   exact (Ins.start hs2).done (.inr (fun hk=>absurd (hlt9.2 hk) (Int.not_lt.2 h)))
  ·rename_i hx M5 hg5 q5
   have hk5:Keep (fun i=>i=p) M M5:=xk
   exact ⟨rfl,rfl,i' + 1,hi,hib,.inr (hlt9.1 h),hs2,.cons rfl (.cons rfl (.cons rfl (.cons rfl (.cons rfl (.cons rfl .nil))))),hA2.grow hg5,hk5⟩
 rintro x E ms M10 ⟨rfl,rfl,i,hi,hib,hst,hs2,hE,hA2,hk2⟩
 apply z0y
 apply z2z
 refine z02 hE ?_
 by_cases hib2:i=b
 ·subst hib2
  (repeat' (first|(with_reducible intro _)|refine sv ?_|(refine sc ?_ ?_<;>(intro h;try first|exact h.elim|exact absurd rfl h|(exfalso;omega)))|(refine sg ?_ ?_<;>(intro h;(fail_if_success (have:True:=h));try first|exact h.elim|exact absurd rfl h|(exfalso;omega)))|assumption|exact xm|exact rfl))
  all_goals try (exfalso;omega)
  ((with_reducible first|apply zi|apply zc);exact rx)
  exact ⟨true,G1,rfl,fun _=>hs2,hw1,hA2,hk2⟩
 have hib3:i < b:=by omega
 have hst:=hst.resolve_left hib2
 obtain ⟨i',rfl⟩:∃ i',i=i' + 1:=⟨i - 1,by omega⟩
 have hst:klt (G1 (i' + 1)) (G1 i'):=hst
 have hz:(((i' + 1:Nat):Int) - 1).toNat=i':=by omega
 have hr1:=z0c hA2 (show i' + 1 < n by omega)
 have hr2:=z0c hA2 (show i' < n by omega)
 have hr3:Rd M10 p (0+(((i' + 1:Nat):Int) - 1).toNat*2) 2 [I (G1 i').1,I (G1 i').2]:=by rw [hz];exact hr2
 (have hrd0:=hr1;have hrd1:=hr3;repeat' (first|(with_reducible intro _)|refine sv ?_|(refine sc ?_ ?_<;>(intro h;try first|exact h.elim|exact absurd rfl h|(exfalso;omega)))|(refine sg ?_ ?_<;>(intro h;(fail_if_success (have:True:=h));try first|exact h.elim|exact absurd rfl h|(exfalso;omega)))|assumption|exact xm|exact rfl))
 all_goals try (exfalso;omega)
 ·((with_reducible first|apply zi|apply zc);exact rx)
  exact ⟨false,G1,rfl,fun h=>(by cases h),hw1,hA2,hk2⟩
 refine d_st (by exact gd) rfl rfl hA2 rfl rfl (z08 (by omega) (G1 i')) ?_
 intro M6 hU6 e6 hA6
 (repeat' (first|(with_reducible intro _)|refine sv ?_|(refine sc ?_ ?_<;>(intro h;try first|exact h.elim|exact absurd rfl h|(exfalso;omega)))|(refine sg ?_ ?_<;>(intro h;(fail_if_success (have:True:=h));try first|exact h.elim|exact absurd rfl h|(exfalso;omega)))|assumption|exact xm|exact rfl))
 refine d_st (by exact gd) rfl rfl hA6 rfl rfl (by rw [hz];exact z08 (by omega) (G1 (i' + 1))) ?_
 intro M7 hU7 e7 hA7
 have hk7:Keep (fun i=>i=p) M M7:=xk
 have hw7:Sw a b G (sw G1 (i' + 1) i'):=.step hw1 (by omega) (by omega) (by omega) (by omega)
 have hA7:KT M7 p n ty (sw G1 (i' + 1) i'):=hA7
 have hs7:Srt a i' (sw G1 (i' + 1) i'):=(hs2.pre (by omega:i'<=i' + 1)).swr (a':=i') (b:=b) (.one (by omega) (by omega) (by omega) (by omega)) (Nat.le_refl _)
 have hlo7:=hlo.sw hw7 (Nat.le_refl _) (Nat.le_refl _)
 generalize sw G1 (i' + 1) i'=G7 at *
 refine zld (by exact ox) ?_
 clear hr1 hr2 hr3 hA2 hk2 hU6 e6 hA6 hU7 e7 hA1 hk1 hs1 hs2 hst hi0
 apply z2z
 apply z66
 refine z1a (K:=fun x E ms M'=>x=.norm /\ ms=[] /\ ∃ G',Sw a b G G' /\ Srt a (i' + 1) G' /\ Has E [(0,.slice (some (p,0)) n f e),(1,I a),(2,I b),(3,cf),(9,I ((i' + 1:Nat):Int)),(10,I s)] /\ KT M' p n ty G' /\ Keep (fun i=>i=p) M M') ?_ ?_
 ·by_cases hia:i'=a
  ·subst hia
   (repeat' (first|(with_reducible intro _)|refine sv ?_|(refine sc ?_ ?_<;>(intro h;try first|exact h.elim|exact absurd rfl h|(exfalso;omega)))|(refine sg ?_ ?_<;>(intro h;(fail_if_success (have:True:=h));try first|exact h.elim|exact absurd rfl h|(exfalso;omega)))|assumption|exact xm|exact rfl))
   all_goals try (exfalso;omega)
   exact ⟨rfl,rfl,G7,hw7,Srt.short (by omega),.cons rfl (.cons rfl (.cons rfl (.cons rfl (.cons rfl (.cons rfl .nil))))),hA7,hk7⟩
  (repeat' (first|(with_reducible intro _)|refine sv ?_|(refine sc ?_ ?_<;>(intro h;try first|exact h.elim|exact absurd rfl h|(exfalso;omega)))|(refine sg ?_ ?_<;>(intro h;(fail_if_success (have:True:=h));try first|exact h.elim|exact absurd rfl h|(exfalso;omega)))|assumption|exact xm|exact rfl))
  all_goals try (exfalso;omega)
  have hi'0:((i' + 1:Nat):Int) - 1=(i':Int):=by omega
  refine zg (fun z E ms M'=>∃ (G':Nat->Ky),a<=z /\ z<=i' /\ ms=[] /\ Has E [(0,.slice (some (p,0)) n f e),(1,I a),(2,I b),(3,cf),(9,I ((i' + 1:Nat):Int)),(10,I s),(11,I z)] /\ Sw a b G G' /\ Ins a (i' + 1) z G' /\ Lo a b G' /\ KT M' p n ty G' /\ Keep (fun i=>i=p) M M')
   ?_ i' _ _ _ ⟨G7,by omega,Nat.le_refl _,rfl,.cons rfl (.cons rfl (.cons rfl (.cons rfl (.cons rfl (.cons rfl (.cons (by show some (I _)=some (I _);rw [hi'0]) .nil)))))),hw7,Ins.start hs7,hlo7,hA7,hk7⟩
  clear hw7 hA7 hk7 hs7 hlo7
  rintro j E ms M2 ⟨G2,hj1,hj2,rfl,hE,hw2,hs2,hlo2,hA2,hk2⟩
  refine z02 hE ?_
  by_cases hj0:j=0
  ·subst hj0
   (repeat' (first|(with_reducible intro _)|refine sv ?_|(refine sc ?_ ?_<;>(intro h;try first|exact h.elim|exact absurd rfl h|(exfalso;omega)))|(refine sg ?_ ?_<;>(intro h;(fail_if_success (have:True:=h));try first|exact h.elim|exact absurd rfl h|(exfalso;omega)))|assumption|exact xm|exact rfl))
   all_goals try (exfalso;omega)
   exact ⟨rfl,rfl,G2,hw2,hs2.done (.inl (by omega)),.cons rfl (.cons rfl (.cons rfl (.cons rfl (.cons rfl (.cons rfl .nil))))),hA2,hk2⟩
  obtain ⟨j',rfl⟩:∃ j',j=j' + 1:=⟨j - 1,by omega⟩
  have hz:(((j' + 1:Nat):Int) - 1).toNat=j':=by omega
  have hr1:=z0c hA2 (show j' + 1 < n by omega)
  have hr2:=z0c hA2 (show j' < n by omega)
  have hr3:Rd M2 p (0+(((j' + 1:Nat):Int) - 1).toNat*2) 2 [I (G2 j').1,I (G2 j').2]:=by rw [hz];exact hr2
  have co:=fun M'=>z0u (G2 (j' + 1)).1 (G2 (j' + 1)).2 (G2 j').1 (G2 j').2 M'
  have hlt9:=z0a (G2 (j' + 1)) (G2 j')
  (have hrd0:=hr1;have hrd1:=hr3;repeat' (first|(with_reducible intro _)|refine sv ?_|(refine sc ?_ ?_<;>(intro h;try first|exact h.elim|exact absurd rfl h|(exfalso;omega)))|((with_reducible first|apply z07|apply z06|apply zp);exact gd;exact rfl;exact rfl;(first|exact co _))|(refine sg ?_ ?_<;>(intro h;(fail_if_success (have:True:=h));try first|exact h.elim|exact absurd rfl h|(exfalso;omega)))|assumption|exact xm|exact rfl))
  all_goals try (exfalso;omega)
  ·rename_i hgt M5 hg5 q5
   have hk5:Keep (fun i=>i=p) M M5:=xk
   exact ⟨rfl,rfl,G2,hw2,hs2.done (.inr (fun hk=>absurd (hlt9.2 hk) (Int.not_lt.2 h))),.cons rfl (.cons rfl (.cons rfl (.cons rfl (.cons rfl (.cons rfl .nil))))),hA2.grow hg5,hk5⟩
  ·rename_i hgt M5 hg5 q5
   have hlt8:=hlt9.1 h
   have hja:a<=j':=by
    rcases hlo2 with h0|h0
    ·omega
    ·rcases Nat.lt_or_ge j' a with h1|h1
     ·obtain rfl:a=j' + 1:=by omega
      exact absurd hlt8 (z70 (h0 (j' + 1) (by omega) (by omega)))
     ·exact h1
   have hA5:KT M5 p n ty G2:=hA2.grow hg5
   refine d_st (by exact gd) rfl rfl hA5 rfl rfl (z08 (by omega) (G2 j')) ?_
   intro M6 hU6 e6 hA6
   (repeat' (first|(with_reducible intro _)|refine sv ?_|(refine sc ?_ ?_<;>(intro h;try first|exact h.elim|exact absurd rfl h|(exfalso;omega)))|(refine sg ?_ ?_<;>(intro h;(fail_if_success (have:True:=h));try first|exact h.elim|exact absurd rfl h|(exfalso;omega)))|assumption|exact xm|exact rfl))
   refine d_st (by exact gd) rfl rfl hA6 rfl rfl (by rw [hz];exact z08 (by omega) (G2 (j' + 1))) ?_
   intro M7 hU7 e7 hA7
   have hk7:Keep (fun i=>i=p) M M7:=xk
   have hw7:Sw a b G2 (sw G2 (j' + 1) j'):=.one (by omega) (by omega) (by omega) (by omega)
   (repeat' (first|(with_reducible intro _)|refine sv ?_|(refine sc ?_ ?_<;>(intro h;try first|exact h.elim|exact absurd rfl h|(exfalso;omega)))|(refine sg ?_ ?_<;>(intro h;(fail_if_success (have:True:=h));try first|exact h.elim|exact absurd rfl h|(exfalso;omega)))|assumption|exact xm|exact rfl))
   refine zk j' (by omega) ⟨sw G2 (j' + 1) j',by omega,by omega,rfl,.cons rfl (.cons rfl (.cons rfl (.cons rfl (.cons rfl (.cons rfl (.cons ?_ .nil)))))),hw2.trans hw7,hs2.step (by omega) hlt8,hlo2.sw hw7 (Nat.le_refl _) (Nat.le_refl _),hA7,hk7⟩
   show some (I _)=some (I _)
   rw [show ((j' + 1:Nat):Int) - 1=j' by omega]
 clear hw7 hA7 hk7 hs7 hlo7
 rintro x E ms M11 ⟨rfl,rfl,G8,hw8,hs8,hE,hA8,hk8⟩
 apply z2z
 refine z02 hE ?_
 refine z1a (K:=fun x E ms M'=>x=.norm /\ ms=[] /\ ∃ G',Sw a b G G' /\ Srt a (i' + 1) G' /\ Has E [(0,.slice (some (p,0)) n f e),(1,I a),(2,I b),(3,cf),(9,I ((i' + 1:Nat):Int)),(10,I s)] /\ KT M' p n ty G' /\ Keep (fun i=>i=p) M M') ?_ ?_
 ·by_cases hbi:¬ b - (i' + 1)>=2
  ·(repeat' (first|(with_reducible intro _)|refine sv ?_|(refine sc ?_ ?_<;>(intro h;try first|exact h.elim|exact absurd rfl h|(exfalso;omega)))|(refine sg ?_ ?_<;>(intro h;(fail_if_success (have:True:=h));try first|exact h.elim|exact absurd rfl h|(exfalso;omega)))|assumption|exact xm|exact rfl))
   all_goals try (exfalso;omega)
   exact ⟨rfl,rfl,G8,hw8,hs8,.cons rfl (.cons rfl (.cons rfl (.cons rfl (.cons rfl (.cons rfl .nil))))),hA8,hk8⟩
  (repeat' (first|(with_reducible intro _)|refine sv ?_|(refine sc ?_ ?_<;>(intro h;try first|exact h.elim|exact absurd rfl h|(exfalso;omega)))|(refine sg ?_ ?_<;>(intro h;(fail_if_success (have:True:=h));try first|exact h.elim|exact absurd rfl h|(exfalso;omega)))|assumption|exact xm|exact rfl))
  all_goals try (exfalso;omega)
  refine zg (fun z E ms M'=>∃ (j:Nat) (G':Nat->Ky),z=b - j /\ i' + 2<=j /\ j<=b /\ ms=[] /\ Has E [(0,.slice (some (p,0)) n f e),(1,I a),(2,I b),(3,cf),(9,I ((i' + 1:Nat):Int)),(10,I s),(12,I j)] /\ Sw a b G G' /\ Srt a (i' + 1) G' /\ KT M' p n ty G' /\ Keep (fun i=>i=p) M M')
   ?_ (b - (i' + 2)) _ _ _ ⟨i' + 2,G8,rfl,by omega,by omega,rfl,.cons rfl (.cons rfl (.cons rfl (.cons rfl (.cons rfl (.cons rfl (.cons rfl .nil)))))),hw8,hs8,hA8,hk8⟩
  clear hw8 hA8 hk8 hs8
  rintro z E ms M2 ⟨j,G2,rfl,hj1,hj2,rfl,hE,hw2,hs2,hA2,hk2⟩
  refine z02 hE ?_
  by_cases hjb:j=b
  ·subst hjb
   (repeat' (first|(with_reducible intro _)|refine sv ?_|(refine sc ?_ ?_<;>(intro h;try first|exact h.elim|exact absurd rfl h|(exfalso;omega)))|(refine sg ?_ ?_<;>(intro h;(fail_if_success (have:True:=h));try first|exact h.elim|exact absurd rfl h|(exfalso;omega)))|assumption|exact xm|exact rfl))
   all_goals try (exfalso;omega)
   exact ⟨rfl,rfl,G2,hw2,hs2,.cons rfl (.cons rfl (.cons rfl (.cons rfl (.cons rfl (.cons rfl .nil))))),hA2,hk2⟩
  obtain ⟨j',rfl⟩:∃ j',j=j' + 1:=⟨j - 1,by omega⟩
  have hz:(((j' + 1:Nat):Int) - 1).toNat=j':=by omega
  have hr1:=z0c hA2 (show j' + 1 < n by omega)
  have hr2:=z0c hA2 (show j' < n by omega)
  have hr3:Rd M2 p (0+(((j' + 1:Nat):Int) - 1).toNat*2) 2 [I (G2 j').1,I (G2 j').2]:=by rw [hz];exact hr2
  have co:=fun M'=>z0u (G2 (j' + 1)).1 (G2 (j' + 1)).2 (G2 j').1 (G2 j').2 M'
  (have hrd0:=hr1;have hrd1:=hr3;repeat' (first|(with_reducible intro _)|refine sv ?_|(refine sc ?_ ?_<;>(intro h;try first|exact h.elim|exact absurd rfl h|(exfalso;omega)))|((with_reducible first|apply z07|apply z06|apply zp);exact gd;exact rfl;exact rfl;(first|exact co _))|(refine sg ?_ ?_<;>(intro h;(fail_if_success (have:True:=h));try first|exact h.elim|exact absurd rfl h|(exfalso;omega)))|assumption|exact xm|exact rfl))
  all_goals try (exfalso;omega)
  ·rename_i hgt M5 hg5 q5
   have hk5:Keep (fun i=>i=p) M M5:=xk
   exact ⟨rfl,rfl,G2,hw2,hs2,.cons rfl (.cons rfl (.cons rfl (.cons rfl (.cons rfl (.cons rfl .nil))))),hA2.grow hg5,hk5⟩
  ·rename_i hgt M5 hg5 q5
   have hA5:KT M5 p n ty G2:=hA2.grow hg5
   refine d_st (by exact gd) rfl rfl hA5 rfl rfl (z08 (by omega) (G2 j')) ?_
   intro M6 hU6 e6 hA6
   (repeat' (first|(with_reducible intro _)|refine sv ?_|(refine sc ?_ ?_<;>(intro h;try first|exact h.elim|exact absurd rfl h|(exfalso;omega)))|(refine sg ?_ ?_<;>(intro h;(fail_if_success (have:True:=h));try first|exact h.elim|exact absurd rfl h|(exfalso;omega)))|assumption|exact xm|exact rfl))
   refine d_st (by exact gd) rfl rfl hA6 rfl rfl (by rw [hz];exact z08 (by omega) (G2 (j' + 1))) ?_
   intro M7 hU7 e7 hA7
   have hk7:Keep (fun i=>i=p) M M7:=xk
   have hw7:Sw (i' + 1) b G2 (sw G2 (j' + 1) j'):=.one (by omega) (by omega) (by omega) (by omega)
   (repeat' (first|(with_reducible intro _)|refine sv ?_|(refine sc ?_ ?_<;>(intro h;try first|exact h.elim|exact absurd rfl h|(exfalso;omega)))|(refine sg ?_ ?_<;>(intro h;(fail_if_success (have:True:=h));try first|exact h.elim|exact absurd rfl h|(exfalso;omega)))|assumption|exact xm|exact rfl))
   exact zk (b - (j' + 1+1)) (by omega) ⟨j' + 1+1,sw G2 (j' + 1) j',rfl,by omega,by omega,rfl,.cons rfl (.cons rfl (.cons rfl (.cons rfl (.cons rfl (.cons rfl (.cons rfl .nil)))))),hw2.trans (hw7.wider (by omega) (Nat.le_refl _)),hs2.swr hw7 (Nat.le_refl _),hA7,hk7⟩
 clear hw8 hA8 hk8 hs8
 rintro x E ms M12 ⟨rfl,rfl,G9,hw9,hs9,hE,hA9,hk9⟩
 apply zgz
 apply z2z
 refine z02 hE ?_
 (repeat' (first|(with_reducible intro _)|refine sv ?_|(refine sc ?_ ?_<;>(intro h;try first|exact h.elim|exact absurd rfl h|(exfalso;omega)))|(refine sg ?_ ?_<;>(intro h;(fail_if_success (have:True:=h));try first|exact h.elim|exact absurd rfl h|(exfalso;omega)))|assumption|exact xm|exact rfl))
 exact zk (5 - (s+1)) (by omega) ⟨s+1,i' + 1,G9,rfl,by omega,by omega,by omega,rfl,.cons rfl (.cons rfl (.cons rfl (.cons rfl (.cons rfl (.cons rfl .nil))))),hw9,hs9,hA9,hk9⟩
end Go.Proofs.YtbmgeagllpganaaGreatDoor.C
end
section
open Go PvL
set_option linter.unusedSimpArgs false
set_option linter.unusedVariables false
namespace Go.Proofs.YtbmgeagllpganaaGreatDoor.C
def par (c:Nat):Nat:=(c - 1) / 2
def Heap (f lo hi:Nat) (G:Nat->Ky):Prop:=∀ c,0 < c->c < hi->lo<=par c->¬ klt (G (f+par c)) (G (f+c))
def Sift (f lo hi r:Nat) (G:Nat->Ky):Prop :=
 (∀ c,0 < c->c < hi->lo<=par c->par c ≠ r->¬ klt (G (f+par c)) (G (f+c))) /\ (∀ c,0 < c->c < hi->par c=r->r ≠ lo->lo<=par r->¬ klt (G (f+par r)) (G (f+c)))
theorem Sift.start {f lo hi:Nat} {G:Nat->Ky} (h:Heap f (lo+1) hi G):Sift f lo hi lo G :=
 ⟨fun c h1 h2 h3 h4=>h c h1 h2 (by omega),fun c _ _ _ h=>absurd rfl h⟩
theorem Sift.leaf {f lo hi r:Nat} {G:Nat->Ky} (h:Sift f lo hi r G) (hr:hi<=2*r+1):Heap f lo hi G:=fun c h1 h2 h3=>h.1 c h1 h2 h3 (by unfold par at *;omega)
theorem Sift.stop {f lo hi r x:Nat} {G:Nat->Ky} (h:Sift f lo hi r G) (hmax:∀ c,c < hi->(c=2*r+1 ∨ c=2*r+2)->¬ klt (G (f+x)) (G (f+c))) (hx:¬ klt (G (f+r)) (G (f+x))):Heap f lo hi G:=fun c h1 h2 h3=>by
 by_cases hc:par c=r
 ·rw [hc]
  have:=hmax c h2 (by unfold par at hc;omega)
  exact z6z this hx
 ·exact h.1 c h1 h2 h3 hc
theorem Sift.step {f lo hi r x:Nat} {G:Nat->Ky} (h:Sift f lo hi r G) (hlo:lo<=r) (hxc:x=2*r+1 ∨ x=2*r+2) (hxh:x < hi) (hmax:∀ c,c < hi->(c=2*r+1 ∨ c=2*r+2)->¬ klt (G (f+x)) (G (f+c))) (hx:klt (G (f+r)) (G (f+x))) :
  Sift f lo hi x (sw G (f+r) (f+x)):=by
 have hxr:x ≠ r:=by omega
 have hr':sw G (f+r) (f+x) (f+r)=G (f+x):=sw_i _ _ _
 have hx':sw G (f+r) (f+x) (f+x)=G (f+r):=sw_j _ _ _
 have hne:∀ t,t ≠ r->t ≠ x->sw G (f+r) (f+x) (f+t)=G (f+t):=fun t h1 h2=>z3j (by omega) (by omega)
 have hpx:par x=r:=by unfold par;omega
 constructor
 ·intro c h1 h2 h3 h4
  by_cases hcr:par c=r
  ·rw [hcr,hr']
   by_cases hcx:c=x
   ·subst hcx;rw [hx'];exact z70 hx
   ·rw [hne c (by unfold par at hcr;omega) hcx]
    exact hmax c h2 (by unfold par at hcr;omega)
  ·rw [hne (par c) hcr h4]
   by_cases hc:c=r
   ·subst hc
    rw [hr']
    exact h.2 x (by omega) hxh hpx (by rintro rfl;unfold par at h3;omega) h3
   ·rw [hne c hc (by rintro rfl;exact hcr hpx)]
    exact h.1 c h1 h2 h3 hcr
 ·intro c h1 h2 h3 h4 h5
  rw [hpx,hr',hne c (by rintro rfl;unfold par at h3;omega) (by rintro rfl;unfold par at h3;omega)]
  have:=h.1 c h1 h2 (by omega) (by omega)
  rw [h3] at this;exact this
theorem Heap.max {f m:Nat} {G:Nat->Ky} (h:Heap f 0 m G):∀ c,c < m->¬ klt (G (f+0)) (G (f+c)):=by
 intro c
 induction c using Nat.strongRecOn with
 | _ c ih =>
  intro hc
  rcases Nat.eq_zero_or_pos c with h0|h0
  ·subst h0;exact z0v _
  ·exact z6z (h c h0 hc (Nat.zero_le _)) (ih (par c) (by unfold par;omega) (by unfold par;omega))
theorem Heap.none {f lo hi:Nat} {G:Nat->Ky} (h:hi<=2*lo+1):Heap f lo hi G:=fun c h1 h2 h3=>by unfold par at h3;omega
def Tail (f i hi:Nat) (G:Nat->Ky):Prop:=∀ q,i<=q->q < hi->∀ p,p < q->¬ klt (G (f+q)) (G (f+p))
theorem Tail.step {f i hi:Nat} {G G':Nat->Ky} (ht:Tail f (i+1) hi G) (hi':i < hi) (hh:Heap f 0 (i+1) G) (hw:Sw (f+0) (f+i) (sw G (f+0) (f+i)) G'):Tail f i hi G':=by
 have hm:=hh.max
 have key:∀ t,t < i+1->¬ klt (G (f+0)) (sw G (f+0) (f+i) (f+t)):=fun t h=>by
  unfold sw
  split
  ·exact z0v _
  ·split
   ·exact hm i (by omega)
   ·exact hm t h
 intro q h1 h2 p hp
 have hq:G' (f+q)=sw G (f+0) (f+i) (f+q):=hw.out (by omega)
 rw [hq]
 by_cases hqi:q=i
 ·subst hqi
  rw [sw_j]
  refine hw.all (p:=fun x=>¬ klt (G (f+0)) x) (fun t h3 h4=>?_) (f+p) (by omega) (by omega)
  have:=key (t - f) (by omega)
  rwa [show f+(t - f)=t by omega] at this
 ·rw [z3j (by omega) (by omega)]
  have hall:∀ t,t < q->¬ klt (G (f+q)) (G (f+t)):=fun t h=>ht q (by omega) h2 t h
  by_cases hpi:p < i
  ·refine hw.all (p:=fun x=>¬ klt (G (f+q)) x) (fun t h3 h4=>?_) (f+p) (by omega) (by omega)
   unfold sw
   split
   ·exact hall 0 (by omega)
   ·split
    ·exact hall i (by omega)
    ·have:=hall (t - f) (by omega)
     rwa [show f+(t - f)=t by omega] at this
  ·rw [hw.out (by omega)]
   unfold sw
   split
   ·exact hall 0 (by omega)
   ·split
    ·exact hall i (by omega)
    ·exact hall p hp
theorem Heap.swapped {f i:Nat} {G:Nat->Ky} (hh:Heap f 0 (i+1) G):Heap f 1 i (sw G (f+0) (f+i)):=fun c h1 h2 h3=>by
 rw [z3j (by omega) (by unfold par;omega),z3j (by omega) (by omega)]
 exact hh c h1 (by omega) (Nat.zero_le _)
theorem Tail.srt {a b:Nat} {G:Nat->Ky} (hab:a<=b) (h:Tail a 0 (b - a) G):Srt a b G:=fun i j h1 h2 h3=>by
 have:=h (j - a) (Nat.zero_le _) (by omega) (i - a) (by omega)
 rwa [show a+(j - a)=j by omega,show a+(i - a)=i by omega] at this
end Go.Proofs.YtbmgeagllpganaaGreatDoor.C
end
section
open Go PvL Go.Proofs
set_option linter.unusedSimpArgs false
set_option linter.unusedVariables false
namespace Go.Proofs.YtbmgeagllpganaaGreatDoor.C
set_option maxHeartbeats 4000000 in
theorem zlb {M:Mem} {p n lo hi fs:Nat} {f:Bool} {e:Nat} {ty:TypeId} {G:Nat->Ky} (hA:KT M p n ty G) (hb:fs+hi<=n) (hn:n<=1000) (hlo:lo<=1000) (hH:Heap fs (lo+1) hi G) :
  CallOk Tryz.prog 184 [.slice (some (p,0)) n f e,I lo,I hi,I fs,cf] M (fun w M'=>∃ G',Sw (fs+lo) (fs+hi) G G' /\ Heap fs lo hi G' /\ KT M' p n ty G' /\ Keep (fun i=>i=p) M M'):=by
 refine zj k184 rfl ?_
 dsimp only [x184,zipE,Nat.reduceAdd]
 (repeat' (first|(with_reducible intro _)|refine sv ?_|(refine sc ?_ ?_<;>(intro h;try first|exact h.elim|exact absurd rfl h|(exfalso;omega)))|(refine sg ?_ ?_<;>(intro h;(fail_if_success (have:True:=h));try first|exact h.elim|exact absurd rfl h|(exfalso;omega)))|assumption|exact xm|exact rfl))
 refine zg (fun z E ms M'=>∃ (r:Nat) (G':Nat->Ky),z=hi+2000 - r /\ lo<=r /\ (r=lo ∨ r < hi) /\ ms=[] /\ Has E [(0,.slice (some (p,0)) n f e),(2,I hi),(3,I fs),(4,cf),(10,I r)] /\ Sw (fs+lo) (fs+hi) G G' /\ Sift fs lo hi r G' /\ KT M' p n ty G' /\ Keep (fun i=>i=p) M M')
  ?_ (hi+2000 - lo) _ _ _ ⟨lo,G,rfl,Nat.le_refl _,.inl rfl,rfl,.cons rfl (.cons rfl (.cons rfl (.cons rfl (.cons rfl .nil)))),.refl,Sift.start hH,hA,Keep.refl _ _⟩
 rintro z E ms M1 ⟨r,G1,rfl,hr,hrh,rfl,hE,hw1,hs1,hA1,hk1⟩
 refine z02 hE ?_
 by_cases hleaf:hi<=2*r+1
 ·(repeat' (first|(with_reducible intro _)|refine sv ?_|(refine sc ?_ ?_<;>(intro h;try first|exact h.elim|exact absurd rfl h|(exfalso;omega)))|(refine sg ?_ ?_<;>(intro h;(fail_if_success (have:True:=h));try first|exact h.elim|exact absurd rfl h|(exfalso;omega)))|assumption|exact xm|exact rfl))
  all_goals try (exfalso;omega)
  ((with_reducible first|apply zi|apply zc);exact rx)
  exact ⟨G1,hw1,hs1.leaf hleaf,hA1,hk1⟩
 have hrl:r < hi:=by omega
 have hR:=z0c hA1 (show fs+r < n by omega)
 have hC:=z0c hA1 (show fs+(2*r+1) < n by omega)
 have f1:((fs:Int)+(2*(r:Int)+1)).toNat=fs+(2*r+1):=by omega
 have f2:((fs:Int)+(r:Int)).toNat=fs+r:=by omega
 have f3:((fs:Int)+(2*(r:Int)+1)+1).toNat=fs+(2*r+2):=by omega
 have f4:((fs:Int)+(2*(r:Int)+1+1)).toNat=fs+(2*r+2):=by omega
 have h1:Rd M1 p (0+((fs:Int)+(2*(r:Int)+1)).toNat*2) 2 [I (G1 (fs+(2*r+1))).1,I (G1 (fs+(2*r+1))).2]:=by rw [f1];exact hC
 have h2:Rd M1 p (0+((fs:Int)+(r:Int)).toNat*2) 2 [I (G1 (fs+r)).1,I (G1 (fs+r)).2]:=by rw [f2];exact hR
 by_cases htwo:2*r+2 < hi
 ·have hD:=z0c hA1 (show fs+(2*r+2) < n by omega)
  have h3:Rd M1 p (0+((fs:Int)+(2*(r:Int)+1)+1).toNat*2) 2 [I (G1 (fs+(2*r+2))).1,I (G1 (fs+(2*r+2))).2]:=by rw [f3];exact hD
  have h4:Rd M1 p (0+((fs:Int)+(2*(r:Int)+1+1)).toNat*2) 2 [I (G1 (fs+(2*r+2))).1,I (G1 (fs+(2*r+2))).2]:=by rw [f4];exact hD
  have co:=fun M'=>z0u (G1 (fs+(2*r+1))).1 (G1 (fs+(2*r+1))).2 (G1 (fs+(2*r+2))).1 (G1 (fs+(2*r+2))).2 M'
  have co1:=fun M'=>z0u (G1 (fs+r)).1 (G1 (fs+r)).2 (G1 (fs+(2*r+1))).1 (G1 (fs+(2*r+1))).2 M'
  have co2:=fun M'=>z0u (G1 (fs+r)).1 (G1 (fs+r)).2 (G1 (fs+(2*r+2))).1 (G1 (fs+(2*r+2))).2 M'
  (have hrd0:=h1;have hrd1:=h2;have hrd2:=h3;have hrd3:=h4;repeat' (first|(with_reducible intro _)|refine sv ?_|(refine sc ?_ ?_<;>(intro h;try first|exact h.elim|exact absurd rfl h|(exfalso;omega)))|((with_reducible first|apply z07|apply z06|apply zp);exact gd;exact rfl;exact rfl;(first|exact co _|exact co1 _|exact co2 _))|(refine sg ?_ ?_<;>(intro h;(fail_if_success (have:True:=h));try first|exact h.elim|exact absurd rfl h|(exfalso;omega)))|assumption|exact xm|exact rfl))
  all_goals try (exfalso;omega)
  ·rename_i k1 k2 M5 g5 q5 hc1 M6 g6 q6
   have hK:KT M6 p n ty G1:=hA1.grow (g5.trans g6)
   ((with_reducible first|apply zi|apply zc);exact rx)
   exact ⟨G1,hw1,hs1.stop (x:=2*r+2) (fun c hc h9=>by rcases h9 with rfl|rfl;exact z70 ((z0a _ _).1 hc1);exact z0v _) (fun hh=>absurd ((z0a _ _).2 hh) (Int.not_lt.2 h)),hK,xk⟩
  ·rename_i k1 k2 M5 g5 q5 hc1 M6 g6 q6
   have hK:KT M6 p n ty G1:=hA1.grow (g5.trans g6)
   have hlt:=(z0a (G1 (fs+r)) (G1 (fs+(2*r+2)))).1 h
   refine d_st (by exact gd) rfl rfl hK rfl rfl (z08 (by omega) (G1 (fs+(2*r+2)))) ?_
   intro M7 hU7 e7 hA7
   (repeat' (first|(with_reducible intro _)|refine sv ?_|(refine sc ?_ ?_<;>(intro h;try first|exact h.elim|exact absurd rfl h|(exfalso;omega)))|(refine sg ?_ ?_<;>(intro h;(fail_if_success (have:True:=h));try first|exact h.elim|exact absurd rfl h|(exfalso;omega)))|assumption|exact xm|exact rfl))
   refine d_st (by exact gd) rfl rfl hA7 rfl rfl (by rw [f4];exact z08 (by omega) (G1 (fs+r))) ?_
   intro M8 hU8 e8 hA8
   have hk8:Keep (fun i=>i=p) M M8:=xk
   (repeat' (first|(with_reducible intro _)|refine sv ?_|(refine sc ?_ ?_<;>(intro h;try first|exact h.elim|exact absurd rfl h|(exfalso;omega)))|(refine sg ?_ ?_<;>(intro h;(fail_if_success (have:True:=h));try first|exact h.elim|exact absurd rfl h|(exfalso;omega)))|assumption|exact xm|exact rfl))
   refine zk (hi+2000 - (2*r+2)) (by omega) ⟨2*r+2,sw G1 (fs+r) (fs+(2*r+2)),rfl,by omega,.inr (by omega),rfl,.cons rfl (.cons rfl (.cons rfl (.cons rfl (.cons ?_ .nil)))),.step hw1 (by omega) (by omega) (by omega) (by omega),hs1.step hr (.inr rfl) (by omega) (fun c hc h9=>by rcases h9 with rfl|rfl;exact z70 ((z0a _ _).1 hc1);exact z0v _) hlt,hA8,hk8⟩
   show some (I _)=some (I _)
   rw [show ((2*r+2:Nat):Int)=2*(r:Int)+1+1 by omega]
  ·rename_i k1 k2 M5 g5 q5 hc1 M6 g6 q6
   have hK:KT M6 p n ty G1:=hA1.grow (g5.trans g6)
   ((with_reducible first|apply zi|apply zc);exact rx)
   exact ⟨G1,hw1,hs1.stop (x:=2*r+1) (fun c hc h9=>by rcases h9 with rfl|rfl;exact z0v _;exact fun hh=>absurd ((z0a _ _).2 hh) (Int.not_lt.2 hc1)) (fun hh=>absurd ((z0a _ _).2 hh) (Int.not_lt.2 h)),hK,xk⟩
  ·rename_i k1 k2 M5 g5 q5 hc1 M6 g6 q6
   have hK:KT M6 p n ty G1:=hA1.grow (g5.trans g6)
   have hlt:=(z0a (G1 (fs+r)) (G1 (fs+(2*r+1)))).1 h
   refine d_st (by exact gd) rfl rfl hK rfl rfl (z08 (by omega) (G1 (fs+(2*r+1)))) ?_
   intro M7 hU7 e7 hA7
   (repeat' (first|(with_reducible intro _)|refine sv ?_|(refine sc ?_ ?_<;>(intro h;try first|exact h.elim|exact absurd rfl h|(exfalso;omega)))|(refine sg ?_ ?_<;>(intro h;(fail_if_success (have:True:=h));try first|exact h.elim|exact absurd rfl h|(exfalso;omega)))|assumption|exact xm|exact rfl))
   refine d_st (by exact gd) rfl rfl hA7 rfl rfl (by rw [f1];exact z08 (by omega) (G1 (fs+r))) ?_
   intro M8 hU8 e8 hA8
   have hk8:Keep (fun i=>i=p) M M8:=xk
   (repeat' (first|(with_reducible intro _)|refine sv ?_|(refine sc ?_ ?_<;>(intro h;try first|exact h.elim|exact absurd rfl h|(exfalso;omega)))|(refine sg ?_ ?_<;>(intro h;(fail_if_success (have:True:=h));try first|exact h.elim|exact absurd rfl h|(exfalso;omega)))|assumption|exact xm|exact rfl))
   refine zk (hi+2000 - (2*r+1)) (by omega) ⟨2*r+1,sw G1 (fs+r) (fs+(2*r+1)),rfl,by omega,.inr (by omega),rfl,.cons rfl (.cons rfl (.cons rfl (.cons rfl (.cons ?_ .nil)))),.step hw1 (by omega) (by omega) (by omega) (by omega),hs1.step hr (.inl rfl) (by omega) (fun c hc h9=>by rcases h9 with rfl|rfl;exact z0v _;exact fun hh=>absurd ((z0a _ _).2 hh) (Int.not_lt.2 hc1)) hlt,hA8,hk8⟩
   show some (I _)=some (I _)
   rw [show ((2*r+1:Nat):Int)=2*(r:Int)+1 by omega]
 ·have co1:=fun M'=>z0u (G1 (fs+r)).1 (G1 (fs+r)).2 (G1 (fs+(2*r+1))).1 (G1 (fs+(2*r+1))).2 M'
  (have hrd0:=h1;have hrd1:=h2;repeat' (first|(with_reducible intro _)|refine sv ?_|(refine sc ?_ ?_<;>(intro h;try first|exact h.elim|exact absurd rfl h|(exfalso;omega)))|((with_reducible first|apply z07|apply z06|apply zp);exact gd;exact rfl;exact rfl;(first|exact co1 _))|(refine sg ?_ ?_<;>(intro h;(fail_if_success (have:True:=h));try first|exact h.elim|exact absurd rfl h|(exfalso;omega)))|assumption|exact xm|exact rfl))
  all_goals try (exfalso;omega)
  ·rename_i k1 k2 M5 g5 q5
   have hK:KT M5 p n ty G1:=hA1.grow g5
   ((with_reducible first|apply zi|apply zc);exact rx)
   exact ⟨G1,hw1,hs1.stop (x:=2*r+1) (fun c hc h9=>by rcases h9 with rfl|rfl;exact z0v _;omega) (fun hh=>absurd ((z0a _ _).2 hh) (Int.not_lt.2 h)),hK,xk⟩
  ·rename_i k1 k2 M5 g5 q5
   have hK:KT M5 p n ty G1:=hA1.grow g5
   have hlt:=(z0a (G1 (fs+r)) (G1 (fs+(2*r+1)))).1 h
   refine d_st (by exact gd) rfl rfl hK rfl rfl (z08 (by omega) (G1 (fs+(2*r+1)))) ?_
   intro M7 hU7 e7 hA7
   (repeat' (first|(with_reducible intro _)|refine sv ?_|(refine sc ?_ ?_<;>(intro h;try first|exact h.elim|exact absurd rfl h|(exfalso;omega)))|(refine sg ?_ ?_<;>(intro h;(fail_if_success (have:True:=h));try first|exact h.elim|exact absurd rfl h|(exfalso;omega)))|assumption|exact xm|exact rfl))
   refine d_st (by exact gd) rfl rfl hA7 rfl rfl (by rw [f1];exact z08 (by omega) (G1 (fs+r))) ?_
   intro M8 hU8 e8 hA8
   have hk8:Keep (fun i=>i=p) M M8:=xk
   (repeat' (first|(with_reducible intro _)|refine sv ?_|(refine sc ?_ ?_<;>(intro h;try first|exact h.elim|exact absurd rfl h|(exfalso;omega)))|(refine sg ?_ ?_<;>(intro h;(fail_if_success (have:True:=h));try first|exact h.elim|exact absurd rfl h|(exfalso;omega)))|assumption|exact xm|exact rfl))
   refine zk (hi+2000 - (2*r+1)) (by omega) ⟨2*r+1,sw G1 (fs+r) (fs+(2*r+1)),rfl,by omega,.inr (by omega),rfl,.cons rfl (.cons rfl (.cons rfl (.cons rfl (.cons ?_ .nil)))),.step hw1 (by omega) (by omega) (by omega) (by omega),hs1.step hr (.inl rfl) (by omega) (fun c hc h9=>by rcases h9 with rfl|rfl;exact z0v _;omega) hlt,hA8,hk8⟩
   show some (I _)=some (I _)
   rw [show ((2*r+1:Nat):Int)=2*(r:Int)+1 by omega]
set_option maxHeartbeats 4000000 in
theorem zof {M:Mem} {p n a b:Nat} {f:Bool} {e:Nat} {ty:TypeId} {G:Nat->Ky} (hA:KT M p n ty G) (hb:b<=n) (hab:a < b) (hn:n<=1000) :
  CallOk Tryz.prog 143 [.slice (some (p,0)) n f e,I a,I b,cf] M (fun w M'=>∃ G',Sw a b G G' /\ Srt a b G' /\ KT M' p n ty G' /\ Keep (fun i=>i=p) M M'):=by
 refine zj k143 rfl ?_
 dsimp only [x143,zipE,Nat.reduceAdd]
 obtain ⟨hi,rfl⟩:∃ hi,b=a+hi:=⟨b - a,by omega⟩
 (repeat' (first|(with_reducible intro _)|refine sv ?_|(refine sc ?_ ?_<;>(intro h;try first|exact h.elim|exact absurd rfl h|(exfalso;omega)))|(refine sg ?_ ?_<;>(intro h;(fail_if_success (have:True:=h));try first|exact h.elim|exact absurd rfl h|(exfalso;omega)))|assumption|exact xm|exact rfl))
 have v0:(((a+hi:Nat):Int) - (a:Int))=hi:=by omega
 have v1:((((a+hi:Nat):Int) - (a:Int) - 1) / 2)=(((hi - 1) / 2+1:Nat):Int) - 1:=by omega
 refine zg (fun z E ms M'=>∃ (G':Nat->Ky),z<=(hi - 1) / 2+1 /\ ms=[] /\ Has E [(0,.slice (some (p,0)) n f e),(3,cf),(8,I a),(9,I 0),(10,I hi),(11,I ((z:Int) - 1))] /\ Sw a (a+hi) G G' /\ Heap a z hi G' /\ KT M' p n ty G' /\ Keep (fun i=>i=p) M M')
  ?_ ((hi - 1) / 2+1) _ _ _ ⟨G,Nat.le_refl _,rfl,.cons rfl (.cons rfl (.cons rfl (.cons rfl (.cons (by show some (I _)=some (I _);rw [v0]) (.cons (by show some (I _)=some (I _);rw [v1]) .nil))))),.refl,Heap.none (by omega),hA,Keep.refl _ _⟩
 rintro z E ms M1 ⟨G1,hz,rfl,hE,hw1,hh1,hA1,hk1⟩
 refine z02 hE ?_
 rcases z with _|i
 case succ =>
  rw [show (((i+1:Nat):Int) - 1)=(i:Int) by omega]
  have cs:=fun M' (hh:KT M' p n ty G1)=>zlb (f:=f) (e:=e) (lo:=i) (hi:=hi) (fs:=a) hh hb hn (by omega) hh1
  (repeat' (first|(with_reducible intro _)|refine sv ?_|(refine sc ?_ ?_<;>(intro h;try first|exact h.elim|exact absurd rfl h|(exfalso;omega)))|((with_reducible first|apply zw|apply zy|apply zn);exact gd;exact rfl;exact rfl;(first|exact cs _ (xm)))|(refine sg ?_ ?_<;>(intro h;(fail_if_success (have:True:=h));try first|exact h.elim|exact absurd rfl h|(exfalso;omega)))|assumption|exact xm|exact rfl))
  all_goals try (exfalso;omega)
  rename_i w2 M2 hq
  obtain ⟨G2,hw2,hh2,hA2,hk2⟩:=hq
  (repeat' (first|(with_reducible intro _)|refine sv ?_|(refine sc ?_ ?_<;>(intro h;try first|exact h.elim|exact absurd rfl h|(exfalso;omega)))|(refine sg ?_ ?_<;>(intro h;(fail_if_success (have:True:=h));try first|exact h.elim|exact absurd rfl h|(exfalso;omega)))|assumption|exact xm|exact rfl))
  exact zk i (by omega) ⟨G2,by omega,rfl,.cons rfl (.cons rfl (.cons rfl (.cons rfl (.cons rfl (.cons rfl .nil))))),hw1.trans (hw2.wider (by omega) (Nat.le_refl _)),hh2,hA2,hk1.trans hk2 (fun i hi=>.inl hi)⟩
 case zero =>
 (repeat' (first|(with_reducible intro _)|refine sv ?_|(refine sc ?_ ?_<;>(intro h;try first|exact h.elim|exact absurd rfl h|(exfalso;omega)))|(refine sg ?_ ?_<;>(intro h;(fail_if_success (have:True:=h));try first|exact h.elim|exact absurd rfl h|(exfalso;omega)))|assumption|exact xm|exact rfl))
 all_goals try (exfalso;omega)
 refine zg (fun z E ms M'=>∃ (G':Nat->Ky),z<=hi /\ ms=[] /\ Has E [(0,.slice (some (p,0)) n f e),(3,cf),(8,I a),(9,I 0),(12,I ((z:Int) - 1))] /\ Sw a (a+hi) G G' /\ Heap a 0 z G' /\ Tail a z hi G' /\ KT M' p n ty G' /\ Keep (fun i=>i=p) M M')
  ?_ hi _ _ _ ⟨G1,Nat.le_refl _,rfl,.cons rfl (.cons rfl (.cons rfl (.cons rfl (.cons rfl .nil)))),hw1,hh1,fun q h1 h2=>by omega,hA1,hk1⟩
 rintro z E ms M3 ⟨G3,hz3,rfl,hE,hw3,hh3,ht3,hA3,hk3⟩
 refine z02 hE ?_
 rcases z with _|i
 case zero =>
  (repeat' (first|(with_reducible intro _)|refine sv ?_|(refine sc ?_ ?_<;>(intro h;try first|exact h.elim|exact absurd rfl h|(exfalso;omega)))|(refine sg ?_ ?_<;>(intro h;(fail_if_success (have:True:=h));try first|exact h.elim|exact absurd rfl h|(exfalso;omega)))|assumption|exact xm|exact rfl))
  all_goals try (exfalso;omega)
  ((with_reducible first|apply zi|apply zc);exact rx)
  refine ⟨G3,hw3,Tail.srt (by omega) ?_,hA3,hk3⟩
  rwa [show a+hi - a=hi by omega]
 case succ =>
  rw [show (((i+1:Nat):Int) - 1)=(i:Int) by omega]
  have hr1:=z0c hA3 (show a+i < n by omega)
  have hr2:=z0c hA3 (show a < n by omega)
  (have hrd0:=hr1;have hrd1:=hr2;repeat' (first|(with_reducible intro _)|refine sv ?_|(refine sc ?_ ?_<;>(intro h;try first|exact h.elim|exact absurd rfl h|(exfalso;omega)))|(refine sg ?_ ?_<;>(intro h;(fail_if_success (have:True:=h));try first|exact h.elim|exact absurd rfl h|(exfalso;omega)))|assumption|exact xm|exact rfl))
  all_goals try (exfalso;omega)
  have hK:=hA3
  refine d_st (by exact gd) rfl rfl hK rfl rfl (z08 (by omega) (G3 (a+i))) ?_
  intro M7 hU7 e7 hA7
  (repeat' (first|(with_reducible intro _)|refine sv ?_|(refine sc ?_ ?_<;>(intro h;try first|exact h.elim|exact absurd rfl h|(exfalso;omega)))|(refine sg ?_ ?_<;>(intro h;(fail_if_success (have:True:=h));try first|exact h.elim|exact absurd rfl h|(exfalso;omega)))|assumption|exact xm|exact rfl))
  refine d_st (by exact gd) rfl rfl hA7 rfl rfl (z08 (by omega) (G3 a)) ?_
  intro M8 hU8 e8 hA8
  have hk8:Keep (fun i=>i=p) M M8:=xk
  have hA8:KT M8 p n ty (sw G3 (a+0) (a+i)):=hA8
  have hsw:=hh3.swapped
  have cs:=fun M' (hh:KT M' p n ty (sw G3 (a+0) (a+i)))=>zlb (f:=f) (e:=e) (lo:=0) (hi:=i) (fs:=a) hh (by omega) hn (by omega) hsw
  (repeat' (first|(with_reducible intro _)|refine sv ?_|(refine sc ?_ ?_<;>(intro h;try first|exact h.elim|exact absurd rfl h|(exfalso;omega)))|((with_reducible first|apply zw|apply zy|apply zn);exact gd;exact rfl;exact rfl;(first|exact cs _ (by exact hA8)))|(refine sg ?_ ?_<;>(intro h;(fail_if_success (have:True:=h));try first|exact h.elim|exact absurd rfl h|(exfalso;omega)))|assumption|exact xm|exact rfl))
  rename_i w2 M9 hq
  obtain ⟨G9,hw9,hh9,hA9,hk9⟩:=hq
  (repeat' (first|(with_reducible intro _)|refine sv ?_|(refine sc ?_ ?_<;>(intro h;try first|exact h.elim|exact absurd rfl h|(exfalso;omega)))|(refine sg ?_ ?_<;>(intro h;(fail_if_success (have:True:=h));try first|exact h.elim|exact absurd rfl h|(exfalso;omega)))|assumption|exact xm|exact rfl))
  exact zk i (by omega) ⟨G9,by omega,rfl,.cons rfl (.cons rfl (.cons rfl (.cons rfl (.cons rfl .nil)))),(Sw.step hw3 (i:=a+0) (j:=a+i) (by omega) (by omega) (by omega) (by omega)).trans (hw9.wider (by omega) (by omega)),hh9,Tail.step ht3 (by omega) hh3 hw9,hA9,hk8.trans hk9 (fun i hi=>.inl hi)⟩
theorem zky {E:Env} {M:Mem} {x y:XO} {s:ByteArray} {k:Nat} {q:IntKind} (hx:xval E x=some (.str s)) (hy:xval E y=some (.int q (k:Int))) (h:k < s.size):xstep Tryz.prog (.idxS x y) E M=some (.val (.int .u8 (byteAt s k:Int)) M):=by
 have h1:=zit (P:=Tryz.prog) (E:=[(0,.str s),(1,I k)]) (M:=M) (x:=.t 0) (y:=.t 1) rfl rfl h
 have h2:xstep Tryz.prog (.idxS (.t 0) (.t 1)) [(0,.str s),(1,I k)] M=xstep Tryz.prog (.idxS (.t 0) (.t 1)) [(0,.str s),(1,.int q (k:Int))] M:=rfl
 rw [h2] at h1
 show ob (xval E x) _=_
 rw [hx,za,hy]
 exact h1
set_option maxRecDepth 100000 in
def len8:ByteArray:=⟨#[0,1,2,2,3,3,3,3,4,4,4,4,4,4,4,4,5,5,5,5,5,5,5,5,5,5,5,5,5,5,5,5,6,6,6,6,6,6,6,6,6,6,6,6,6,6,6,6,6,6,6,6,6,6,6,6,6,6,6,6,6,6,6,6,7,7,7,7,7,7,7,7,7,7,7,7,7,7,7,7,7,7,7,7,7,7,7,7,7,7,7,7,7,7,7,7,7,7,7,7,7,7,7,7,7,7,7,7,7,7,7,7,7,7,7,7,7,7,7,7,7,7,7,7,7,7,7,7,8,8,8,8,8,8,8,8,8,8,8,8,8,8,8,8,8,8,8,8,8,8,8,8,8,8,8,8,8,8,8,8,8,8,8,8,8,8,8,8,8,8,8,8,8,8,8,8,8,8,8,8,8,8,8,8,8,8,8,8,8,8,8,8,8,8,8,8,8,8,8,8,8,8,8,8,8,8,8,8,8,8,8,8,8,8,8,8,8,8,8,8,8,8,8,8,8,8,8,8,8,8,8,8,8,8,8,8,8,8,8,8,8,8,8,8,8,8,8,8,8,8,8,8,8,8,8,8]⟩
set_option maxRecDepth 100000 in
theorem zmu:(List.range 256).all (fun n=>Nat.ble (byteAt len8 n) 8 && (Nat.ble n 0 || (Nat.ble (n+1) (2 ^ byteAt len8 n) && Nat.ble (2 ^ byteAt len8 n) (2*n))))=true:=by decide +kernel
set_option maxRecDepth 100000 in
set_option maxHeartbeats 4000000 in
theorem zme {M:Mem} {n:Nat} (hn:n < 256):CallOk Tryz.prog 151 [.int .u64 (n:Int)] M (fun w M'=>∃ k:Nat,w=I k /\ k<=8 /\ (1<=n->n < 2 ^ k /\ 2 ^ k<=2*n) /\ M'=M):=by
 refine zj k151 rfl ?_
 dsimp only [x151,zipE,Nat.reduceAdd]
 (repeat' (first|(with_reducible intro _)|refine sv ?_|(refine sc ?_ ?_<;>(intro h;try first|exact h.elim|exact absurd rfl h|(exfalso;omega)))|(refine sg ?_ ?_<;>(intro h;(fail_if_success (have:True:=h));try first|exact h.elim|exact absurd rfl h|(exfalso;omega)))|assumption|exact xm|exact rfl))
 all_goals try (exfalso;omega)
 have h8:=List.all_eq_true.1 zmu n (List.mem_range.2 hn)
 simp only [Bool.and_eq_true,Bool.or_eq_true,Nat.ble_eq] at h8
 refine z7t (by exact gd) (zky (s:=len8) (k:=n) rfl rfl (show n < 256 from hn)) ?_
 generalize hb:byteAt len8 n=k at *
 (repeat' (first|(with_reducible intro _)|refine sv ?_|(refine sc ?_ ?_<;>(intro h;try first|exact h.elim|exact absurd rfl h|(exfalso;omega)))|(refine sg ?_ ?_<;>(intro h;(fail_if_success (have:True:=h));try first|exact h.elim|exact absurd rfl h|(exfalso;omega)))|assumption|exact xm|exact rfl))
 ((with_reducible first|apply zi|apply zc);exact rx)
 exact ⟨k,by show I (0+(k:Int))=_;rw [Int.zero_add],h8.1,fun h1=>by rcases h8.2 with h2|h2;omega;exact ⟨h2.1,h2.2⟩,rfl⟩
theorem wrap64 (z:Int):0<=IntKind.wrap .u64 z /\ IntKind.wrap .u64 z < 18446744073709551616:=by
 unfold IntKind.wrap
 simp only [IntKind.signed,IntKind.bits,Bool.false_and,Bool.false_eq_true,if_false]
 omega
theorem z29 {z:Int} (h:0<=z /\ z < 18446744073709551616):IntKind.wrap .u64 z=z:=by
 unfold IntKind.wrap
 simp only [IntKind.signed,IntKind.bits,Bool.false_and,Bool.false_eq_true,if_false]
 omega
section
variable {E:Env} {M:Mem} {x y:XO} {a b:Int}
theorem zei (hx:xval E x=some (.int .u64 a)) (hy:xval E y=some (.int .u64 b)) (hb:0<=b):∃ r,xstep Tryz.prog (.bin .shl x y) E M=some (.val (.int .u64 r) M) /\ 0<=r /\ r < 18446744073709551616:=by
 obtain ⟨n,rfl⟩:=Int.eq_ofNat_of_zero_le hb
 refine ⟨IntKind.wrap .u64 (a*((2 ^ (Nat.min n 64):Nat):Int)),?_,wrap64 _⟩
 show ob (xval E x) _=_
 rw [hx,za,hy,za]
 show ob (fI (IntKind.wrap .u64 (a*((2 ^ (Nat.min n 64):Nat):Int))) fun z=>some (LV.int .u64 z)) _=_
 rw [zch];rfl
theorem zl0 (hx:xval E x=some (.int .u64 a)) (hy:xval E y=some (.int .u64 b)) (hb:0<=b) (ha:0<=a /\ a < 18446744073709551616):∃ r,xstep Tryz.prog (.bin .shr x y) E M=some (.val (.int .u64 r) M) /\ 0<=r /\ r < 18446744073709551616:=by
 obtain ⟨n,rfl⟩:=Int.eq_ofNat_of_zero_le hb
 have hp:(0:Int) < ((2 ^ (Nat.min n 64):Nat):Int):=by
  have:=Nat.two_pow_pos (Nat.min n 64)
  omega
 refine ⟨a.fdiv ((2 ^ (Nat.min n 64):Nat):Int),?_,Int.fdiv_nonneg ha.1 (Int.le_of_lt hp),?_⟩
 ·show ob (xval E x) _=_
  rw [hx,za,hy,za]
  show ob (fI (a.fdiv ((2 ^ (Nat.min n 64):Nat):Int)) fun z=>some (LV.int .u64 z)) _=_
  rw [zch];rfl
 ·rw [Int.fdiv_eq_ediv_of_nonneg _ (Int.le_of_lt hp)]
  exact Int.lt_of_le_of_lt (Int.ediv_le_self _ ha.1) ha.2
theorem za8 (hx:xval E x=some (.int .u64 a)) (hy:xval E y=some (.int .u64 b)):∃ r,xstep Tryz.prog (.bin .xor x y) E M=some (.val (.int .u64 r) M) /\ 0<=r /\ r < 18446744073709551616:=by
 refine ⟨IntKind.wrap .u64 ((BitVec.ofInt 64 a ^^^ BitVec.ofInt 64 b).toNat),?_,wrap64 _⟩
 show ob (xval E x) _=_
 rw [hx,za,hy,za]
 show ob (fI (IntKind.wrap .u64 ((BitVec.ofInt 64 a ^^^ BitVec.ofInt 64 b).toNat)) fun z=>some (LV.int .u64 z)) _=_
 rw [zch];rfl
theorem zku (hx:xval E x=some (.int .u64 a)) (hy:xval E y=some (.int .u64 b)) (hb:0<=b /\ b < 18446744073709551616):∃ r:Nat,xstep Tryz.prog (.bin .and x y) E M=some (.val (.int .u64 (r:Int)) M) /\ (r:Int)<=b:=by
 obtain ⟨n,rfl⟩:=Int.eq_ofNat_of_zero_le hb.1
 have hn:n < 2 ^ 64:=by have:=hb.2;omega
 have h1:(BitVec.ofInt 64 a &&& BitVec.ofInt 64 (n:Int)).toNat<=n:=by
  rw [BitVec.toNat_and]
  refine Nat.le_trans Nat.and_le_right ?_
  rw [BitVec.toNat_ofInt]
  omega
 refine ⟨(BitVec.ofInt 64 a &&& BitVec.ofInt 64 (n:Int)).toNat,?_,by omega⟩
 show ob (xval E x) _=_
 rw [hx,za,hy,za]
 show ob (fI (IntKind.wrap .u64 ((BitVec.ofInt 64 a &&& BitVec.ofInt 64 (n:Int)).toNat)) fun z=>some (LV.int .u64 z)) _=_
 rw [zch,z29 (by omega)];rfl
theorem zkz {k:Nat} (hx:xval E x=some (.int .u64 1)) (hy:xval E y=some (I (k:Int))) (hk:k<=8):xstep Tryz.prog (.bin .shl x y) E M=some (.val (.int .u64 ((2 ^ k:Nat):Int)) M):=by
 show ob (xval E x) _=_
 rw [hx,za,hy,za]
 show ob (fI (IntKind.wrap .u64 (1*((2 ^ (Nat.min k 64):Nat):Int))) fun z=>some (LV.int .u64 z)) _=_
 have hm:Nat.min k 64=k:=Nat.min_eq_left (by omega)
 have h2:2 ^ k<=256:=Nat.pow_le_pow_right (n:=2) (by decide) hk
 rw [hm,Int.one_mul]
 generalize 2 ^ k=m at *
 rw [z29 (by omega),zch];rfl
end
theorem zo9 {M:Mem} {n:Nat} (hn:n < 256):CallOk Tryz.prog 105 [.int .u64 (n:Int)] M (fun w M'=>∃ k:Nat,w=I k /\ k<=8 /\ (1<=n->n < 2 ^ k /\ 2 ^ k<=2*n) /\ M'=M):=by
 refine zj k105 rfl ?_
 dsimp only [x105,zipE,Nat.reduceAdd]
 (repeat' (first|(with_reducible intro _)|refine sv ?_|(refine sc ?_ ?_<;>(intro h;try first|exact h.elim|exact absurd rfl h|(exfalso;omega)))|((with_reducible first|apply zw|apply zy|apply zn);exact gd;exact rfl;exact rfl;(first|exact zme hn))|(refine sg ?_ ?_<;>(intro h;(fail_if_success (have:True:=h));try first|exact h.elim|exact absurd rfl h|(exfalso;omega)))|assumption|exact xm|exact rfl))
 rename_i hh
 obtain ⟨k,rfl,hk,h1,rfl⟩:=hh
 (repeat' (first|(with_reducible intro _)|refine sv ?_|(refine sc ?_ ?_<;>(intro h;try first|exact h.elim|exact absurd rfl h|(exfalso;omega)))|(refine sg ?_ ?_<;>(intro h;(fail_if_success (have:True:=h));try first|exact h.elim|exact absurd rfl h|(exfalso;omega)))|assumption|exact xm|exact rfl))
 ((with_reducible first|apply zi|apply zc);exact rx)
 exact ⟨k,rfl,hk,h1,rfl⟩
theorem zgb {M:Mem} {n:Nat} (hn:n < 256) (h1:1<=n):CallOk Tryz.prog 185 [I n] M (fun w M'=>∃ m:Nat,w=.int .u64 (m:Int) /\ 1<=m /\ m<=2*n /\ M'=M):=by
 refine zj k185 rfl ?_
 dsimp only [x185,zipE,Nat.reduceAdd]
 have cl:=zo9 (M:=M) hn
 (repeat' (first|(with_reducible intro _)|refine sv ?_|(refine sc ?_ ?_<;>(intro h;try first|exact h.elim|exact absurd rfl h|(exfalso;omega)))|(refine sg ?_ ?_<;>(intro h;(fail_if_success (have:True:=h));try first|exact h.elim|exact absurd rfl h|(exfalso;omega)))|assumption|exact xm|exact rfl))
 rw [z29 (by omega)]
 (repeat' (first|(with_reducible intro _)|refine sv ?_|(refine sc ?_ ?_<;>(intro h;try first|exact h.elim|exact absurd rfl h|(exfalso;omega)))|((with_reducible first|apply zw|apply zy|apply zn);exact gd;exact rfl;exact rfl;(first|exact cl))|(refine sg ?_ ?_<;>(intro h;(fail_if_success (have:True:=h));try first|exact h.elim|exact absurd rfl h|(exfalso;omega)))|assumption|exact xm|exact rfl))
 rename_i hh
 obtain ⟨k,rfl,hk,h2,rfl⟩:=hh
 refine z7t (by exact gd) (zkz rfl rfl hk) ?_
 have h3:=(h2 h1).2
 have h4:1<=2 ^ k:=Nat.one_le_two_pow
 (repeat' (first|(with_reducible intro _)|refine sv ?_|(refine sc ?_ ?_<;>(intro h;try first|exact h.elim|exact absurd rfl h|(exfalso;omega)))|(refine sg ?_ ?_<;>(intro h;(fail_if_success (have:True:=h));try first|exact h.elim|exact absurd rfl h|(exfalso;omega)))|assumption|exact xm|exact rfl))
 ((with_reducible first|apply zi|apply zc);exact rx)
 exact ⟨2 ^ k,rfl,h4,h3,rfl⟩
theorem zoa {M:Mem} {q:Nat} {ty:TypeId} {c:Int} (hq:At M q (.cells true [.int .u64 c] ty)) (hc:0<=c /\ c < 18446744073709551616):CallOk Tryz.prog 186 [.ptr (some (q,0))] M (fun w M'=>∃ c',w=.int .u64 c' /\ 0<=c' /\ c' < 18446744073709551616 /\ At M' q (.cells true [.int .u64 c'] ty) /\ Keep (fun i=>i=q) M M'):=by
 refine zj k186 rfl ?_
 dsimp only [x186,zipE,Nat.reduceAdd]
 (repeat' (first|(with_reducible intro _)|refine sv ?_|(refine sc ?_ ?_<;>(intro h;try first|exact h.elim|exact absurd rfl h|(exfalso;omega)))|(refine sg ?_ ?_<;>(intro h;(fail_if_success (have:True:=h));try first|exact h.elim|exact absurd rfl h|(exfalso;omega)))|assumption|exact xm|exact rfl))
 obtain ⟨r1,sr1,br1⟩:=zei (E:=[(8,.int .u64 c),(1000,.int .u64 13)]) (M:=M) (x:=.t 8) (y:=.t 1000) (a:=c) (b:=13) rfl rfl (by omega)
 refine zcf (by exact gd) (v:=.int .u64 r1) (by exact sr1) ?_
 obtain ⟨r2,sr2,br2⟩:=za8 (E:=[(5,.int .u64 c),(9,.int .u64 r1)]) (M:=M) (x:=.t 5) (y:=.t 9) (a:=c) (b:=r1) rfl rfl
 refine zcf (by exact gd) (v:=.int .u64 r2) (by exact sr2) ?_
 (repeat' (first|(with_reducible intro _)|refine sv ?_|(refine sc ?_ ?_<;>(intro h;try first|exact h.elim|exact absurd rfl h|(exfalso;omega)))|(refine sg ?_ ?_<;>(intro h;(fail_if_success (have:True:=h));try first|exact h.elim|exact absurd rfl h|(exfalso;omega)))|assumption|exact xm|exact rfl))
 rename_i M1 hU1 e1 hA1
 obtain ⟨r3,sr3,br3⟩:=zl0 (E:=[(17,.int .u64 r2),(1000,.int .u64 7)]) (M:=M1) (x:=.t 17) (y:=.t 1000) (a:=r2) (b:=7) rfl rfl (by omega) (by omega)
 refine zcf (by exact gd) (v:=.int .u64 r3) (by exact sr3) ?_
 obtain ⟨r4,sr4,br4⟩:=za8 (E:=[(14,.int .u64 r2),(18,.int .u64 r3)]) (M:=M1) (x:=.t 14) (y:=.t 18) (a:=r2) (b:=r3) rfl rfl
 refine zcf (by exact gd) (v:=.int .u64 r4) (by exact sr4) ?_
 (repeat' (first|(with_reducible intro _)|refine sv ?_|(refine sc ?_ ?_<;>(intro h;try first|exact h.elim|exact absurd rfl h|(exfalso;omega)))|(refine sg ?_ ?_<;>(intro h;(fail_if_success (have:True:=h));try first|exact h.elim|exact absurd rfl h|(exfalso;omega)))|assumption|exact xm|exact rfl))
 rename_i M2 hU2 e2 hA2
 obtain ⟨r5,sr5,br5⟩:=zei (E:=[(26,.int .u64 r4),(1000,.int .u64 17)]) (M:=M2) (x:=.t 26) (y:=.t 1000) (a:=r4) (b:=17) rfl rfl (by omega)
 refine zcf (by exact gd) (v:=.int .u64 r5) (by exact sr5) ?_
 obtain ⟨r6,sr6,br6⟩:=za8 (E:=[(23,.int .u64 r4),(27,.int .u64 r5)]) (M:=M2) (x:=.t 23) (y:=.t 27) (a:=r4) (b:=r5) rfl rfl
 refine zcf (by exact gd) (v:=.int .u64 r6) (by exact sr6) ?_
 (repeat' (first|(with_reducible intro _)|refine sv ?_|(refine sc ?_ ?_<;>(intro h;try first|exact h.elim|exact absurd rfl h|(exfalso;omega)))|(refine sg ?_ ?_<;>(intro h;(fail_if_success (have:True:=h));try first|exact h.elim|exact absurd rfl h|(exfalso;omega)))|assumption|exact xm|exact rfl))
 rename_i M3 hU3 e3 hA3
 have hk3:Keep (fun i=>i=q) M M3:=xk
 ((with_reducible first|apply zi|apply zc);exact rx)
 exact ⟨r6,rfl,br6.1,br6.2,hA3,hk3⟩
set_option maxHeartbeats 4000000 in
theorem zgc {M:Mem} {p n a b:Nat} {f:Bool} {e:Nat} {ty:TypeId} {G:Nat->Ky} (hA:KT M p n ty G) (hb:b<=n) (hab:a < b) (hn:n<=1000) :
  CallOk Tryz.prog 146 [.slice (some (p,0)) n f e,I a,I b,cf] M (fun w M'=>∃ G',Sw a b G G' /\ KT M' p n ty G' /\ Keep (fun i=>i=p) M M'):=by
 refine zj k146 rfl ?_
 dsimp only [x146,zipE,Nat.reduceAdd]
 (repeat' (first|(with_reducible intro _)|refine sv ?_|(refine sc ?_ ?_<;>(intro h;try first|exact h.elim|exact absurd rfl h|(exfalso;omega)))|(refine sg ?_ ?_<;>(intro h;(fail_if_success (have:True:=h));try first|exact h.elim|exact absurd rfl h|(exfalso;omega)))|assumption|exact xm|exact rfl))
 refine zg (fun z E ms M'=>∃ (i j:Nat) (G':Nat->Ky),z=b - i /\ a<=i /\ i<=b /\ j < b /\ a<=j+1 /\ ms=[] /\ Has E [(0,.slice (some (p,0)) n f e),(8,I i),(9,I j)] /\ Sw a b G G' /\ KT M' p n ty G' /\ Keep (fun i=>i=p) M M')
  ?_ (b - a) _ _ _ ⟨a,b - 1,G,rfl,by omega,by omega,by omega,by omega,rfl,.cons rfl (.cons rfl (.cons (by show some (I _)=some (I _);rw [show (b:Int) - 1=((b - 1:Nat):Int) by omega]) .nil)),.refl,hA,Keep.refl _ _⟩
 rintro z E ms M1 ⟨i,j,G1,rfl,hi1,hi2,hj1,hj2,rfl,hE,hw1,hA1,hk1⟩
 refine z02 hE ?_
 by_cases hlt:i < j
 case neg =>
  (repeat' (first|(with_reducible intro _)|refine sv ?_|(refine sc ?_ ?_<;>(intro h;try first|exact h.elim|exact absurd rfl h|(exfalso;omega)))|(refine sg ?_ ?_<;>(intro h;(fail_if_success (have:True:=h));try first|exact h.elim|exact absurd rfl h|(exfalso;omega)))|assumption|exact xm|exact rfl))
  all_goals try (exfalso;omega)
  ((with_reducible first|apply zi|apply zc);exact rx)
  exact ⟨G1,hw1,hA1,hk1⟩
 have hr1:=z0c hA1 (show i < n by omega)
 have hr2:=z0c hA1 (show j < n by omega)
 (have hrd0:=hr1;have hrd1:=hr2;repeat' (first|(with_reducible intro _)|refine sv ?_|(refine sc ?_ ?_<;>(intro h;try first|exact h.elim|exact absurd rfl h|(exfalso;omega)))|(refine sg ?_ ?_<;>(intro h;(fail_if_success (have:True:=h));try first|exact h.elim|exact absurd rfl h|(exfalso;omega)))|assumption|exact xm|exact rfl))
 all_goals try (exfalso;omega)
 have hK:=hA1
 refine d_st (by exact gd) rfl rfl hK rfl rfl (z08 (by omega) (G1 j)) ?_
 intro M7 hU7 e7 hA7
 (repeat' (first|(with_reducible intro _)|refine sv ?_|(refine sc ?_ ?_<;>(intro h;try first|exact h.elim|exact absurd rfl h|(exfalso;omega)))|(refine sg ?_ ?_<;>(intro h;(fail_if_success (have:True:=h));try first|exact h.elim|exact absurd rfl h|(exfalso;omega)))|assumption|exact xm|exact rfl))
 refine d_st (by exact gd) rfl rfl hA7 rfl rfl (z08 (by omega) (G1 i)) ?_
 intro M8 hU8 e8 hA8
 have hk8:Keep (fun i=>i=p) M M8:=xk
 (repeat' (first|(with_reducible intro _)|refine sv ?_|(refine sc ?_ ?_<;>(intro h;try first|exact h.elim|exact absurd rfl h|(exfalso;omega)))|(refine sg ?_ ?_<;>(intro h;(fail_if_success (have:True:=h));try first|exact h.elim|exact absurd rfl h|(exfalso;omega)))|assumption|exact xm|exact rfl))
 refine zk (b - (i+1)) (by omega) ⟨i+1,j - 1,sw G1 i j,rfl,by omega,by omega,by omega,by omega,rfl,.cons rfl (.cons rfl (.cons ?_ .nil)),.step hw1 (by omega) (by omega) (by omega) (by omega),hA8,hk8⟩
 show some (I _)=some (I _)
 rw [show ((j - 1:Nat):Int)=(j:Int) - 1 by omega]
set_option maxHeartbeats 8000000 in
theorem zmg {M:Mem} {p n a b:Nat} {f:Bool} {e:Nat} {ty:TypeId} {G:Nat->Ky} (hA:KT M p n ty G) (hb:b<=n) (hab:a+8<=b) (hn:n < 250) :
  CallOk Tryz.prog 144 [.slice (some (p,0)) n f e,I a,I b,cf] M (fun w M'=>∃ G',Sw a b G G' /\ KT M' p n ty G' /\ Keep (fun i=>i=p) M M'):=by
 refine zj k144 rfl ?_
 dsimp only [x144,zipE,Nat.reduceAdd]
 obtain ⟨l,rfl⟩:∃ l,b=a+l:=⟨b - a,by omega⟩
 have v0:((a+l:Nat):Int) - (a:Int)=l:=by omega
 (repeat' (first|(with_reducible intro _)|refine sv ?_|(refine sc ?_ ?_<;>(intro h;try first|exact h.elim|exact absurd rfl h|(exfalso;omega)))|(refine sg ?_ ?_<;>(intro h;(fail_if_success (have:True:=h));try first|exact h.elim|exact absurd rfl h|(exfalso;omega)))|assumption|exact xm|exact rfl))
 all_goals try (exfalso;omega)
 rename_i q M1 hN1 e1 e2 M2 hU2 e3 hA2
 rw [v0] at *
 have hq2:At M2 q (.cells true [.int .u64 (l:Int)] 335):=by rw [z29 (by omega)] at hA2;exact hA2
 have hqn:M.next<=q:=by omega
 have hK2:KT M2 p n ty G:=At.upd_ne hU2 (by have:=hA.2;omega) (At.grow hN1.grow hA)
 have hk2:Keep (fun i=>i=p) M M2:=xk
 have hle2:M.next<=M2.next:=by omega
 clear hN1 hU2 hA2 e1 e2 e3
 (repeat' (first|(with_reducible intro _)|refine sv ?_|(refine sc ?_ ?_<;>(intro h;try first|exact h.elim|exact absurd rfl h|(exfalso;omega)))|((with_reducible first|apply zw|apply zy|apply zn);exact gd;exact rfl;exact rfl;(first|exact zgb (n:=l) (by omega) (by omega)))|(refine sg ?_ ?_<;>(intro h;(fail_if_success (have:True:=h));try first|exact h.elim|exact absurd rfl h|(exfalso;omega)))|assumption|exact xm|exact rfl))
 rename_i hh
 obtain ⟨m,rfl,hm1,hm2,rfl⟩:=hh
 (repeat' (first|(with_reducible intro _)|refine sv ?_|(refine sc ?_ ?_<;>(intro h;try first|exact h.elim|exact absurd rfl h|(exfalso;omega)))|(refine sg ?_ ?_<;>(intro h;(fail_if_success (have:True:=h));try first|exact h.elim|exact absurd rfl h|(exfalso;omega)))|assumption|exact xm|exact rfl))
 refine zg (fun z E ms M'=>∃ (i:Nat) (G':Nat->Ky) (c:Int),z=a+l / 4*2+2 - i /\ a+l / 4*2<=i+1 /\ i<=a+l / 4*2+2 /\ ms=[] /\ Has E [(0,.slice (some (p,0)) n f e),(1,I a),(8,I l),(9,.ptr (some (q,0))),(10,.int .u64 (m:Int)),(11,I i)] /\ Sw a (a+l) G G' /\ KT M' p n ty G' /\ At M' q (.cells true [.int .u64 c] 335) /\ 0<=c /\ c < 18446744073709551616 /\ Keep (fun i=>i=p) M M')
  ?_ 3 _ _ _ ⟨a+l / 4*2 - 1,G,l,by omega,by omega,by omega,rfl,.cons rfl (.cons rfl (.cons rfl (.cons rfl (.cons rfl (.cons (by show some (I _)=some (I _);rw [show (a:Int)+(l:Int) / 4*2 - 1=((a+l / 4*2 - 1:Nat):Int) by omega]) .nil))))),.refl,hK2,hq2,by omega,by omega,hk2⟩
 rintro z E ms M3 ⟨i,G3,c3,rfl,hi1,hi2,rfl,hE,hw3,hK3,hq3,hc3,hc3',hk3⟩
 refine z02 hE ?_
 by_cases hlast:i=a+l / 4*2+2
 ·subst hlast
  (repeat' (first|(with_reducible intro _)|refine sv ?_|(refine sc ?_ ?_<;>(intro h;try first|exact h.elim|exact absurd rfl h|(exfalso;omega)))|(refine sg ?_ ?_<;>(intro h;(fail_if_success (have:True:=h));try first|exact h.elim|exact absurd rfl h|(exfalso;omega)))|assumption|exact xm|exact rfl))
  all_goals try (exfalso;omega)
  ((with_reducible first|apply zi|apply zc);exact rx)
  exact ⟨G3,hw3,hK3,hk3⟩
 (repeat' (first|(with_reducible intro _)|refine sv ?_|(refine sc ?_ ?_<;>(intro h;try first|exact h.elim|exact absurd rfl h|(exfalso;omega)))|((with_reducible first|apply zw|apply zy|apply zn);exact gd;exact rfl;exact rfl;(first|exact zoa hq3 ⟨hc3,hc3'⟩))|(refine sg ?_ ?_<;>(intro h;(fail_if_success (have:True:=h));try first|exact h.elim|exact absurd rfl h|(exfalso;omega)))|assumption|exact xm|exact rfl))
 all_goals try (exfalso;omega)
 rename_i w4 M4 hh
 obtain ⟨c4,rfl,hc4,hc4',hq4,hk4⟩:=hh
 have hpq:p ≠ q:=by have:=hA.2;omega
 have hK4:KT M4 p n ty G3:=hK3.keep hk4 hpq
 have hkk4:Keep (fun i=>i=p) M M4:=hk3.trans hk4 (fun i hi=>.inr (by omega))
 clear hk4
 (repeat' (first|(with_reducible intro _)|refine sv ?_|(refine sc ?_ ?_<;>(intro h;try first|exact h.elim|exact absurd rfl h|(exfalso;omega)))|(refine sg ?_ ?_<;>(intro h;(fail_if_success (have:True:=h));try first|exact h.elim|exact absurd rfl h|(exfalso;omega)))|assumption|exact xm|exact rfl))
 rw [z29 (by omega)]
 obtain ⟨r,sr,br⟩:=zku (E:=[(38,.int .u64 c4),(40,.int .u64 ((m:Int) - 1))]) (M:=M4) (x:=.t 38) (y:=.t 40) (a:=c4) (b:=(m:Int) - 1) rfl rfl (by omega)
 refine z7t (by exact gd) (v:=.int .u64 (r:Int)) (by exact sr) ?_
 have hr1:=z0c hK4 (show i < n by omega)
 by_cases hrl:r < l
 ·have hr2:=z0c hK4 (show a+r < n by omega)
  (have hrd0:=hr1;have hrd1:=hr2;repeat' (first|(with_reducible intro _)|refine sv ?_|(refine sc ?_ ?_<;>(intro h;try first|exact h.elim|exact absurd rfl h|(exfalso;omega)))|(refine sg ?_ ?_<;>(intro h;(fail_if_success (have:True:=h));try first|exact h.elim|exact absurd rfl h|(exfalso;omega)))|assumption|exact xm|exact rfl))
  all_goals try (exfalso;omega)
  have hK:=hK4
  refine d_st (by exact gd) rfl rfl hK rfl rfl (z08 (by omega) (G3 (a+r))) ?_
  intro M7 hU7 e7 hA7
  (repeat' (first|(with_reducible intro _)|refine sv ?_|(refine sc ?_ ?_<;>(intro h;try first|exact h.elim|exact absurd rfl h|(exfalso;omega)))|(refine sg ?_ ?_<;>(intro h;(fail_if_success (have:True:=h));try first|exact h.elim|exact absurd rfl h|(exfalso;omega)))|assumption|exact xm|exact rfl))
  refine d_st (by exact gd) rfl rfl hA7 rfl rfl (z08 (by omega) (G3 i)) ?_
  intro M8 hU8 e8 hA8
  have hk8:Keep (fun i=>i=p) M M8:=xk
  have hq8:At M8 q (.cells true [.int .u64 c4] 335):=At.upd_ne hU8 (fun hh=>hpq hh.symm) (At.upd_ne hU7 (fun hh=>hpq hh.symm) hq4)
  (repeat' (first|(with_reducible intro _)|refine sv ?_|(refine sc ?_ ?_<;>(intro h;try first|exact h.elim|exact absurd rfl h|(exfalso;omega)))|(refine sg ?_ ?_<;>(intro h;(fail_if_success (have:True:=h));try first|exact h.elim|exact absurd rfl h|(exfalso;omega)))|assumption|exact xm|exact rfl))
  exact zk (a+l / 4*2+2 - (i+1)) (by omega) ⟨i+1,sw G3 i (a+r),c4,rfl,by omega,by omega,rfl,.cons rfl (.cons rfl (.cons rfl (.cons rfl (.cons rfl (.cons rfl .nil))))),.step hw3 (by omega) (by omega) (by omega) (by omega),hA8,hq8,hc4,hc4',hk8⟩
 ·have hr2:=z0c hK4 (show a+(r - l) < n by omega)
  have f1:((a:Int)+((r:Int) - (l:Int))).toNat=a+(r - l):=by omega
  have hr3:Rd M4 p (0+((a:Int)+((r:Int) - (l:Int))).toNat*2) 2 [I (G3 (a+(r - l))).1,I (G3 (a+(r - l))).2]:=by rw [f1];exact hr2
  (have hrd0:=hr1;have hrd1:=hr3;repeat' (first|(with_reducible intro _)|refine sv ?_|(refine sc ?_ ?_<;>(intro h;try first|exact h.elim|exact absurd rfl h|(exfalso;omega)))|(refine sg ?_ ?_<;>(intro h;(fail_if_success (have:True:=h));try first|exact h.elim|exact absurd rfl h|(exfalso;omega)))|assumption|exact xm|exact rfl))
  all_goals try (exfalso;omega)
  have hK:=hK4
  refine d_st (by exact gd) rfl rfl hK rfl rfl (z08 (by omega) (G3 (a+(r - l)))) ?_
  intro M7 hU7 e7 hA7
  (repeat' (first|(with_reducible intro _)|refine sv ?_|(refine sc ?_ ?_<;>(intro h;try first|exact h.elim|exact absurd rfl h|(exfalso;omega)))|(refine sg ?_ ?_<;>(intro h;(fail_if_success (have:True:=h));try first|exact h.elim|exact absurd rfl h|(exfalso;omega)))|assumption|exact xm|exact rfl))
  refine d_st (by exact gd) rfl rfl hA7 rfl rfl (by rw [f1];exact z08 (by omega) (G3 i)) ?_
  intro M8 hU8 e8 hA8
  have hk8:Keep (fun i=>i=p) M M8:=xk
  have hq8:At M8 q (.cells true [.int .u64 c4] 335):=At.upd_ne hU8 (fun hh=>hpq hh.symm) (At.upd_ne hU7 (fun hh=>hpq hh.symm) hq4)
  (repeat' (first|(with_reducible intro _)|refine sv ?_|(refine sc ?_ ?_<;>(intro h;try first|exact h.elim|exact absurd rfl h|(exfalso;omega)))|(refine sg ?_ ?_<;>(intro h;(fail_if_success (have:True:=h));try first|exact h.elim|exact absurd rfl h|(exfalso;omega)))|assumption|exact xm|exact rfl))
  exact zk (a+l / 4*2+2 - (i+1)) (by omega) ⟨i+1,sw G3 i (a+(r - l)),c4,rfl,by omega,by omega,rfl,.cons rfl (.cons rfl (.cons rfl (.cons rfl (.cons rfl (.cons rfl .nil))))),.step hw3 (by omega) (by omega) (by omega) (by omega),hA8,hq8,hc4,hc4',hk8⟩
set_option maxHeartbeats 4000000 in
theorem z9d {M:Mem} {p n a b q:Nat} {f:Bool} {e:Nat} {ty ty2:TypeId} {G:Nat->Ky} {c:Int} (hA:KT M p n ty G) (hq:At M q (.cells true [I c] ty2)) (ha:a < n) (hb:b < n) (hn:n<=1000) (hc:0<=c /\ c<=1000) :
  CallOk Tryz.prog 226 [.slice (some (p,0)) n f e,I a,I b,.ptr (some (q,0)),cf] M (fun w M'=>∃ (x y:Nat) (c':Int),w=.tup [I x,I y] /\ ((x=a /\ y=b) ∨ (x=b /\ y=a)) /\ c<=c' /\ c'<=c+1 /\ At M' q (.cells true [I c'] ty2) /\ Keep (fun i=>i=q) M M'):=by
 refine zj k226 rfl ?_
 dsimp only [x226,zipE,Nat.reduceAdd]
 have hr1:=z0c hA ha
 have hr2:=z0c hA hb
 have co:=fun M'=>z0u (G b).1 (G b).2 (G a).1 (G a).2 M'
 (have hrd0:=hr1;have hrd1:=hr2;repeat' (first|(with_reducible intro _)|refine sv ?_|(refine sc ?_ ?_<;>(intro h;try first|exact h.elim|exact absurd rfl h|(exfalso;omega)))|((with_reducible first|apply z07|apply z06|apply zp);exact gd;exact rfl;exact rfl;(first|exact co _))|(refine sg ?_ ?_<;>(intro h;(fail_if_success (have:True:=h));try first|exact h.elim|exact absurd rfl h|(exfalso;omega)))|assumption|exact xm|exact rfl))
 ·rename_i M5 hg5 q5 M6 hU6 q6 hA6
  have hk6:Keep (fun i=>i=q) M M6:=xk
  ((with_reducible first|apply zi|apply zc);exact rx)
  exact ⟨b,a,c+1,rfl,.inr ⟨rfl,rfl⟩,by omega,by omega,hA6,hk6⟩
 ·rename_i M5 hg5 q5
  have hk5:Keep (fun i=>i=q) M M5:=xk
  ((with_reducible first|apply zi|apply zc);exact rx)
  exact ⟨a,b,c,rfl,.inl ⟨rfl,rfl⟩,by omega,by omega,hq.grow hg5,hk5⟩
set_option maxHeartbeats 4000000 in
theorem z9c {M:Mem} {p n a b d q:Nat} {f:Bool} {e:Nat} {ty ty2:TypeId} {G:Nat->Ky} {c:Int} (hA:KT M p n ty G) (hq:At M q (.cells true [I c] ty2)) (hpq:p ≠ q) (ha:a < n) (hb:b < n) (hd:d < n) (hn:n<=1000) (hc:0<=c /\ c<=900) :
  CallOk Tryz.prog 188 [.slice (some (p,0)) n f e,I a,I b,I d,.ptr (some (q,0)),cf] M (fun w M'=>∃ (x:Nat) (c':Int),w=I x /\ (x=a ∨ x=b ∨ x=d) /\ c<=c' /\ c'<=c+3 /\ At M' q (.cells true [I c'] ty2) /\ Keep (fun i=>i=q) M M'):=by
 refine zj k188 rfl ?_
 dsimp only [x188,zipE,Nat.reduceAdd]
 have c1:=z9d (f:=f) (e:=e) hA hq ha hb hn (by omega)
 (repeat' (first|(with_reducible intro _)|refine sv ?_|(refine sc ?_ ?_<;>(intro h;try first|exact h.elim|exact absurd rfl h|(exfalso;omega)))|((with_reducible first|apply zw|apply zy|apply zn);exact gd;exact rfl;exact rfl;(first|exact c1))|(refine sg ?_ ?_<;>(intro h;(fail_if_success (have:True:=h));try first|exact h.elim|exact absurd rfl h|(exfalso;omega)))|assumption|exact xm|exact rfl))
 rename_i w1 M1 hh
 obtain ⟨x1,y1,d1,rfl,hxy1,hd1,hd1',hq1,hk1⟩:=hh
 have hA1:KT M1 p n ty G:=hA.keep hk1 hpq
 have c2:=z9d (f:=f) (e:=e) (a:=y1) (b:=d) hA1 hq1 (by omega) hd hn (by omega)
 (repeat' (first|(with_reducible intro _)|refine sv ?_|(refine sc ?_ ?_<;>(intro h;try first|exact h.elim|exact absurd rfl h|(exfalso;omega)))|((with_reducible first|apply zw|apply zy|apply zn);exact gd;exact rfl;exact rfl;(first|exact c2))|(refine sg ?_ ?_<;>(intro h;(fail_if_success (have:True:=h));try first|exact h.elim|exact absurd rfl h|(exfalso;omega)))|assumption|exact xm|exact rfl))
 rename_i w2 M2 hh
 obtain ⟨x2,y2,d2,rfl,hxy2,hd2,hd2',hq2,hk2⟩:=hh
 have hA2:KT M2 p n ty G:=hA1.keep hk2 hpq
 have c3:=z9d (f:=f) (e:=e) (a:=x1) (b:=x2) hA2 hq2 (by omega) (by omega) hn (by omega)
 (repeat' (first|(with_reducible intro _)|refine sv ?_|(refine sc ?_ ?_<;>(intro h;try first|exact h.elim|exact absurd rfl h|(exfalso;omega)))|((with_reducible first|apply zw|apply zy|apply zn);exact gd;exact rfl;exact rfl;(first|exact c3))|(refine sg ?_ ?_<;>(intro h;(fail_if_success (have:True:=h));try first|exact h.elim|exact absurd rfl h|(exfalso;omega)))|assumption|exact xm|exact rfl))
 rename_i w3 M3 hh
 obtain ⟨x3,y3,d3,rfl,hxy3,hd3,hd3',hq3,hk3⟩:=hh
 (repeat' (first|(with_reducible intro _)|refine sv ?_|(refine sc ?_ ?_<;>(intro h;try first|exact h.elim|exact absurd rfl h|(exfalso;omega)))|(refine sg ?_ ?_<;>(intro h;(fail_if_success (have:True:=h));try first|exact h.elim|exact absurd rfl h|(exfalso;omega)))|assumption|exact xm|exact rfl))
 ((with_reducible first|apply zi|apply zc);exact rx)
 exact ⟨y3,d3,rfl,by omega,by omega,by omega,hq3,(hk1.trans hk2 (fun i hi=>.inl hi)).trans hk3 (fun i hi=>.inl hi)⟩
set_option maxHeartbeats 4000000 in
theorem z9b {M:Mem} {p n a q:Nat} {f:Bool} {e:Nat} {ty ty2:TypeId} {G:Nat->Ky} {c:Int} (hA:KT M p n ty G) (hq:At M q (.cells true [I c] ty2)) (hpq:p ≠ q) (ha:1<=a /\ a+1 < n) (hn:n<=1000) (hc:0<=c /\ c<=900) :
  CallOk Tryz.prog 187 [.slice (some (p,0)) n f e,I a,.ptr (some (q,0)),cf] M (fun w M'=>∃ (x:Nat) (c':Int),w=I x /\ a<=x+1 /\ x<=a+1 /\ c<=c' /\ c'<=c+3 /\ At M' q (.cells true [I c'] ty2) /\ Keep (fun i=>i=q) M M'):=by
 refine zj k187 rfl ?_
 dsimp only [x187,zipE,Nat.reduceAdd]
 have c1:=z9c (f:=f) (e:=e) (a:=a - 1) (b:=a) (d:=a+1) hA hq hpq (by omega) (by omega) (by omega) hn hc
 rw [show ((a - 1:Nat):Int)=(a:Int) - 1 by omega,show ((a+1:Nat):Int)=(a:Int)+1 by omega] at c1
 (repeat' (first|(with_reducible intro _)|refine sv ?_|(refine sc ?_ ?_<;>(intro h;try first|exact h.elim|exact absurd rfl h|(exfalso;omega)))|((with_reducible first|apply zw|apply zy|apply zn);exact gd;exact rfl;exact rfl;(first|exact c1))|(refine sg ?_ ?_<;>(intro h;(fail_if_success (have:True:=h));try first|exact h.elim|exact absurd rfl h|(exfalso;omega)))|assumption|exact xm|exact rfl))
 rename_i w1 M1 hh
 obtain ⟨x1,d1,rfl,hx1,hd1,hd1',hq1,hk1⟩:=hh
 (repeat' (first|(with_reducible intro _)|refine sv ?_|(refine sc ?_ ?_<;>(intro h;try first|exact h.elim|exact absurd rfl h|(exfalso;omega)))|(refine sg ?_ ?_<;>(intro h;(fail_if_success (have:True:=h));try first|exact h.elim|exact absurd rfl h|(exfalso;omega)))|assumption|exact xm|exact rfl))
 ((with_reducible first|apply zi|apply zc);exact rx)
 exact ⟨x1,d1,rfl,by omega,by omega,hd1,hd1',hq1,hk1⟩
set_option maxHeartbeats 8000000 in
theorem zjb {M:Mem} {p n a b:Nat} {f:Bool} {e:Nat} {ty:TypeId} {G:Nat->Ky} (hA:KT M p n ty G) (hb:b<=n) (hab:a+8<=b) (hn:n<=1000) :
  CallOk Tryz.prog 145 [.slice (some (p,0)) n f e,I a,I b,cf] M (fun w M'=>∃ (x:Nat) (h:Int),w=.tup [I x,I h] /\ a<=x /\ x < b /\ Grow M M'):=by
 refine zj k145 rfl ?_
 dsimp only [x145,zipE,Nat.reduceAdd]
 obtain ⟨l,rfl⟩:∃ l,b=a+l:=⟨b - a,by omega⟩
 have v1:((a+l / 4:Nat):Int)=(a:Int)+(((a+l:Nat):Int) - (a:Int)) / 4*1:=by omega
 have v2:((a+l / 4*2:Nat):Int)=(a:Int)+(((a+l:Nat):Int) - (a:Int)) / 4*2:=by omega
 have v3:((a+l / 4*3:Nat):Int)=(a:Int)+(((a+l:Nat):Int) - (a:Int)) / 4*3:=by omega
 (repeat' (first|(with_reducible intro _)|refine sv ?_|(refine sc ?_ ?_<;>(intro h;try first|exact h.elim|exact absurd rfl h|(exfalso;omega)))|(refine sg ?_ ?_<;>(intro h;(fail_if_success (have:True:=h));try first|exact h.elim|exact absurd rfl h|(exfalso;omega)))|assumption|exact xm|exact rfl))
 all_goals try (exfalso;omega)
 ·rename_i q M1 hN1 e1 e2 h50
  have hq1:At M1 q (.cells true [I 0] 3):=At.new_same hN1
  have hA1:KT M1 p n ty G:=At.grow hN1.grow hA
  have hpq:p ≠ q:=by have:=hA.2;omega
  have c1:=z9b (f:=f) (e:=e) (a:=a+l / 4) hA1 hq1 hpq (by omega) hn (by omega)
  rw [v1] at c1
  (repeat' (first|(with_reducible intro _)|refine sv ?_|(refine sc ?_ ?_<;>(intro h;try first|exact h.elim|exact absurd rfl h|(exfalso;omega)))|((with_reducible first|apply zw|apply zy|apply zn);exact gd;exact rfl;exact rfl;(first|exact c1))|(refine sg ?_ ?_<;>(intro h;(fail_if_success (have:True:=h));try first|exact h.elim|exact absurd rfl h|(exfalso;omega)))|assumption|exact xm|exact rfl))
  rename_i w1 M2 hh
  obtain ⟨x1,d1,rfl,hx1,hx1',hd1,hd1',hq2,hk2⟩:=hh
  have hA2:KT M2 p n ty G:=hA1.keep hk2 hpq
  have c2:=z9b (f:=f) (e:=e) (a:=a+l / 4*2) hA2 hq2 hpq (by omega) hn (by omega)
  rw [v2] at c2
  (repeat' (first|(with_reducible intro _)|refine sv ?_|(refine sc ?_ ?_<;>(intro h;try first|exact h.elim|exact absurd rfl h|(exfalso;omega)))|((with_reducible first|apply zw|apply zy|apply zn);exact gd;exact rfl;exact rfl;(first|exact c2))|(refine sg ?_ ?_<;>(intro h;(fail_if_success (have:True:=h));try first|exact h.elim|exact absurd rfl h|(exfalso;omega)))|assumption|exact xm|exact rfl))
  rename_i w2 M3 hh
  obtain ⟨x2,d2,rfl,hx2,hx2',hd2,hd2',hq3,hk3⟩:=hh
  have hA3:KT M3 p n ty G:=hA2.keep hk3 hpq
  have c3:=z9b (f:=f) (e:=e) (a:=a+l / 4*3) hA3 hq3 hpq (by omega) hn (by omega)
  rw [v3] at c3
  (repeat' (first|(with_reducible intro _)|refine sv ?_|(refine sc ?_ ?_<;>(intro h;try first|exact h.elim|exact absurd rfl h|(exfalso;omega)))|((with_reducible first|apply zw|apply zy|apply zn);exact gd;exact rfl;exact rfl;(first|exact c3))|(refine sg ?_ ?_<;>(intro h;(fail_if_success (have:True:=h));try first|exact h.elim|exact absurd rfl h|(exfalso;omega)))|assumption|exact xm|exact rfl))
  rename_i w3 M4 hh
  obtain ⟨x3,d3,rfl,hx3,hx3',hd3,hd3',hq4,hk4⟩:=hh
  have hA4:KT M4 p n ty G:=hA3.keep hk4 hpq
  have c4:=z9c (f:=f) (e:=e) (a:=x1) (b:=x2) (d:=x3) hA4 hq4 hpq (by omega) (by omega) (by omega) hn (by omega)
  (repeat' (first|(with_reducible intro _)|refine sv ?_|(refine sc ?_ ?_<;>(intro h;try first|exact h.elim|exact absurd rfl h|(exfalso;omega)))|((with_reducible first|apply zw|apply zy|apply zn);exact gd;exact rfl;exact rfl;(first|exact c4))|(refine sg ?_ ?_<;>(intro h;(fail_if_success (have:True:=h));try first|exact h.elim|exact absurd rfl h|(exfalso;omega)))|assumption|exact xm|exact rfl))
  rename_i w9 M9 hh
  obtain ⟨x9,d9,rfl,hx9,hd9,hd9',hq9,hk9⟩:=hh
  have hgr:Grow M M9:=Keep.to_grow' hN1.grow (((hk2.trans hk3 (fun i hi=>.inl hi)).trans hk4 (fun i hi=>.inl hi)).trans hk9 (fun i hi=>.inl hi)) (fun i hi=>by omega)
  (repeat' (first|(with_reducible intro _)|refine sv ?_|(refine sc ?_ ?_<;>(intro h;try first|exact h.elim|exact absurd rfl h|(exfalso;omega)))|(refine sg ?_ ?_<;>(intro h;(fail_if_success (have:True:=h));try first|exact h.elim|exact absurd rfl h|(exfalso;omega)))|assumption|exact xm|exact rfl))
  all_goals (((with_reducible first|apply zi|apply zc);exact rx);exact ⟨x9,_,rfl,by omega,by omega,hgr⟩)
 ·rename_i q M1 hN1 e1 e2 h50
  have hq1:At M1 q (.cells true [I 0] 3):=At.new_same hN1
  have hA1:KT M1 p n ty G:=At.grow hN1.grow hA
  have hpq:p ≠ q:=by have:=hA.2;omega
  have c4:=z9c (f:=f) (e:=e) (a:=a+l / 4) (b:=a+l / 4*2) (d:=a+l / 4*3) hA1 hq1 hpq (by omega) (by omega) (by omega) hn (by omega)
  rw [v1,v2,v3] at c4
  (repeat' (first|(with_reducible intro _)|refine sv ?_|(refine sc ?_ ?_<;>(intro h;try first|exact h.elim|exact absurd rfl h|(exfalso;omega)))|((with_reducible first|apply zw|apply zy|apply zn);exact gd;exact rfl;exact rfl;(first|exact c4))|(refine sg ?_ ?_<;>(intro h;(fail_if_success (have:True:=h));try first|exact h.elim|exact absurd rfl h|(exfalso;omega)))|assumption|exact xm|exact rfl))
  rename_i w9 M9 hh
  obtain ⟨x9,d9,rfl,hx9,hd9,hd9',hq9,hk9⟩:=hh
  have hgr:Grow M M9:=Keep.to_grow' hN1.grow hk9 (fun i hi=>by omega)
  (repeat' (first|(with_reducible intro _)|refine sv ?_|(refine sc ?_ ?_<;>(intro h;try first|exact h.elim|exact absurd rfl h|(exfalso;omega)))|(refine sg ?_ ?_<;>(intro h;(fail_if_success (have:True:=h));try first|exact h.elim|exact absurd rfl h|(exfalso;omega)))|assumption|exact xm|exact rfl))
  all_goals (((with_reducible first|apply zi|apply zc);exact rx);exact ⟨x9,_,rfl,by omega,by omega,hgr⟩)
end Go.Proofs.YtbmgeagllpganaaGreatDoor.C
end
