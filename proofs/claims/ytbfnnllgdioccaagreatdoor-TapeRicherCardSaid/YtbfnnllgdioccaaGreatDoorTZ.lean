/-
 Part of the proof of TapeRicher: what functions of the program and of the statement come to,walked by the rules. No condition beyond those in each theorem.
-/
import Derived.Test.YtbfnnllgdioccaaGreatDoorTV
import Derived.Test.YtbfnnllgdioccaaGreatDoorTY
open Go PvL Go.Proofs
variable {μ:Md}
set_option linter.unusedVariables false
set_option linter.unusedSimpArgs false
namespace Go.Proofs.YtbfnnllgdioccaaGreatDoor.C
theorem zeq {M:Mem} {a:Option (Nat × Nat)} {l:List Int} {f:Bool} {e:Nat} {v:Int} (hs:SlI M a l) (hl:l.length<=1000000):CallOk Tryz.prog 28 [.slice a l.length f e,I v] M (fun w M'=>(∃ r:Int,w=I r /\ (0<=r ↔ v ∈ l) /\ -1<=r /\ r<=1000000) /\ M'=M):=by
 refine z9 k28 rfl ?_
 dsimp only [x28,zipE,Nat.reduceAdd]
 (repeat' (first|(with_reducible intro _)|refine sv ?_|(refine sc ?_ ?_<;>(intro h;try first|exact h.elim|exact absurd rfl h|(exfalso;omega)))|(refine sg ?_ ?_<;>(intro h;(fail_if_success (have:True:=h));try first|exact h.elim|exact absurd rfl h|(exfalso;omega)))|assumption|exact xm|exact rfl))
 refine z7 (fun m E ms M'=>∃ k:Nat,m=l.length - k /\ k<=l.length /\ ms=[] /\ Has E [(0,.slice a l.length f e),(1,I v),(5,I k)] /\ M'=M /\ ∀ j,j < k->∀ hj:j < l.length,l[j] ≠ v)
  ?_ l.length _ _ _ ⟨0,by omega,by omega,rfl,.cons rfl (.cons rfl (.cons rfl .nil)),rfl,fun j hj=>absurd hj (Nat.not_lt_zero _)⟩
 rintro m E ms M1 ⟨k,rfl,hk,rfl,hE,rfl,hall⟩
 refine zt hE ?_
 by_cases hlast:k=l.length
 ·subst hlast
  (repeat' (first|(with_reducible intro _)|refine sv ?_|(refine sc ?_ ?_<;>(intro h;try first|exact h.elim|exact absurd rfl h|(exfalso;omega)))|(refine sg ?_ ?_<;>(intro h;(fail_if_success (have:True:=h));try first|exact h.elim|exact absurd rfl h|(exfalso;omega)))|assumption|exact xm|exact rfl))
  ((with_reducible first|apply z8|apply z3);exact rx)
  refine ⟨⟨-1,rfl,⟨fun h=>absurd h (by decide),fun h=>?_⟩,by decide,by decide⟩,rfl⟩
  obtain ⟨j,hj,hj2⟩:=List.mem_iff_getElem.1 h
  exact absurd hj2 (hall j hj hj)
 have hlt:k < l.length:=by omega
 obtain ⟨i,o,rfl,hr⟩:=hs.rd hlt
 (have hrd0:=hr;repeat' (first|(with_reducible intro _)|refine sv ?_|(refine sc ?_ ?_<;>(intro h;try first|exact h.elim|exact absurd rfl h|(exfalso;omega)))|(refine sg ?_ ?_<;>(intro h;(fail_if_success (have:True:=h));try first|exact h.elim|exact absurd rfl h|(exfalso;omega)))|assumption|exact xm|exact rfl))
 ·((with_reducible first|apply z8|apply z3);exact rx)
  exact ⟨⟨k,rfl,⟨fun _=>by rw [<-h];exact List.getElem_mem hlt,fun _=>by omega⟩,by omega,by omega⟩,rfl⟩
 ·refine ze (l.length - (k+1)) (by omega) ⟨k+1,rfl,by omega,rfl,.cons rfl (.cons rfl (.cons rfl .nil)),rfl,fun j hj hj'=>?_⟩
  by_cases hjk:j=k
  ·subst hjk;exact h
  ·exact hall j (by omega) hj'
set_option maxHeartbeats 16000000 in
theorem z9k {M:Mem} {v w:LV} {x y:Rl} {F La Ch Sm Mo:Int} (hv1:RlV1 M v x) (hw:RlV M w y) (hx:RlIn x) (hy:RlIn y) (hB:Base M) (hp:preOk M tabs=true) :
  CallN Tryz.prog 7 [v,w,.agg [I F,I La,I Ch,I Sm,I Mo]] M (fun r _=>r=.bool true):=by
 have hv0:=hv1.to
 have hv10:=hv1
 have hw0:=hw
 obtain ⟨a,f,e,rfl,hs⟩:=hv1
 obtain ⟨b,f',e',rfl,hs'⟩:=hw
 have hpM:∀ M',Grow M M'->preOk M' tabs=true:=fun M' hg=>z6q (Ext.of_grow hg hB) hp
 refine z1w k7 rfl ?_
 dsimp only [x7,zipE,Nat.reduceAdd]
 (repeat' (first|(with_reducible intro _)|refine sv ?_|(refine sc ?_ ?_<;>(intro h;try first|exact h.elim|exact absurd rfl h|(exfalso;omega)))|(refine sg ?_ ?_<;>(intro h;(fail_if_success (have:True:=h));try first|exact h.elim|exact absurd rfl h|(exfalso;omega)))|assumption|exact xm|exact rfl))
 rename_i n1 M1 hN1 q1 q1' n2 M2 hN2 q2 q2' n3 M3 hN3 q3 q3'
 have g3:Grow M M3:=xg
 have a1:At M3 n1 (.cells true [.str x.1,.slice a x.2.length f e] 24):=by
  have:At M1 n1 (.cells true [.str x.1,.slice a x.2.length f e] 24):=At.new_same hN1
  exact At.new_old hN3 (At.new_old hN2 this)
 have a3:At M3 n3 (.cells true [I F,I La,I Ch,I Sm,I Mo] 26):=At.new_same hN3
 clear hN1 hN2 hN3
 refine z6z (by exact gd) rfl rfl (mg (hv0.grow g3) (hw0.grow g3) hx hy) ?_
 rintro w4 M4 ⟨s4,a4,k4,f4,e4,nA,rfl,hA4,hg4⟩
 have g4:=g3.trans hg4
 have a1:=At.grow hg4 a1
 have a3:=At.grow hg4 a3
 have hn1:n1 < M4.next:=a1.2
 have hn3:n3 < M4.next:=a3.2
 have hl4:=g4.le
 clear hg4
 have cp:=fun M' (hg:Grow M M')=>zj5 (M:=M') (F:=F) (La:=La) (Ch:=Ch) (Sm:=Sm) (Mo:=Mo) (hv10.grow hg) hx
 have hpo:=zia (x:=x) (w:=(F,La,Ch,Sm,Mo))
 have hpl:=zah x (F,La,Ch,Sm,Mo)
 have hri:=fun (h:mgOk x y) (hw:wnB (F,La,Ch,Sm,Mo)=true) ht=>zgb (w:=(F,La,Ch,Sm,Mo)) h hw ht
 generalize poorF x (F,La,Ch,Sm,Mo)=PF at *
 (repeat' (first|(with_reducible intro _)|refine sv ?_|(refine sc ?_ ?_<;>(intro h;try first|exact h.elim|exact absurd rfl h|(exfalso;omega)))|((with_reducible first|apply zm|apply zo|apply zc);exact gd;exact rfl;exact rfl;(first|exact cp _ (xg)))|(refine sg ?_ ?_<;>(intro h;(fail_if_success (have:True:=h));try first|exact h.elim|exact absurd rfl h|(exfalso;omega)))|assumption|exact xm|exact rfl))
 rename_i n5 M5 hN5 q5 q5' M6 hU6 q6 hA6 w7 M7 hq
 obtain ⟨a7,f7,e7,rfl,hs7,hg7⟩:=hq
 have g47:Grow M4 M7:=xg
 have a1:At M7 n1 _:=At.grow g47 a1
 have a3:At M7 n3 _:=At.grow g47 a3
 have a5:=At.grow hg7 hA6
 have g7:=g4.trans g47
 have hn3:n3 < M7.next:=a3.2
 have hn5:n5 < M7.next:=a5.2
 have hl7:=g7.le
 have hA7:nA=0->mgOk x y /\ s4=x.1 /\ k4=(jnL x.2 y.2).length /\ FsV1 M7 a4 (jnL x.2 y.2):=fun h=>by
  obtain ⟨h1,h2,h3,h4⟩:=hA4 h
  exact ⟨h1,h2,h3,h4.grow g47⟩
 clear hN5 hU6 hA6 hg7 g47 a1 hn1
 (repeat' (first|(with_reducible intro _)|refine sv ?_|(refine sc ?_ ?_<;>(intro h;try first|exact h.elim|exact absurd rfl h|(exfalso;omega)))|((with_reducible first|apply zz|apply zx|apply zi);exact gd;exact rfl;exact rfl;(first|exact zb2 (hpM _ (xg))))|(refine sg ?_ ?_<;>(intro h;(fail_if_success (have:True:=h));try first|exact h.elim|exact absurd rfl h|(exfalso;omega)))|assumption|exact xm|exact rfl))
 ·((with_reducible first|apply z8|apply z3);exact rx)
  rfl
 ·((with_reducible first|apply z8|apply z3);exact rx)
  rfl
 rename_i hzA
 have hA0:nA=0:=by omega
 obtain ⟨hok,rfl,rfl,hsA⟩:=hA7 hA0
 obtain ⟨-,hwB⟩:=hpo (by omega)
 have hgj:=(zcf (err0 hok.1).2.2 (err0 hok.2.1).2.2).1
 have hlj:(jnL x.2 y.2).length<=128:=hok.2.2.2
 have hri2:=hri hok hwB
 have hp0:=zi9 (w:=(F,La,Ch,Sm,Mo)) (zfy hok) hwB
 have cpx:=fun M' (hg:Grow M7 M')=>zj5 (M:=M') (r:=(x.1,jnL x.2 y.2)) (v:=.agg [.str x.1,.slice a4 (jnL x.2 y.2).length f4 e4]) (F:=F) (La:=La) (Ch:=Ch) (Sm:=Sm) (Mo:=Mo) ⟨_,_,_,rfl,hsA.grow hg⟩ (zbs (zfy hok))
 have hqx:=zah (x.1,jnL x.2 y.2) (F,La,Ch,Sm,Mo)
 generalize poorF (x.1,jnL x.2 y.2) (F,La,Ch,Sm,Mo)=PX at *
 generalize jnL x.2 y.2=J at *
 refine z0w (K:=fun e1 E ms M'=>ms=[] /\ ((e1=.ret /\ PvL.look E 6=some (.bool true)) ∨ (e1=.exit 0 /\ Has E [(5,.ptr (some (n3,0))),(7,.ptr (some (n5,0))),(9,.slice a7 PF.1.length f7 e7)] /\ Grow M7 M' /\ ∀ z ∈ J,40001 ∉ z.2.2))) ?_ ?_
 ·refine z7 (fun m E ms M'=>∃ k:Nat,m=J.length - k /\ k<=J.length /\ ms=[] /\ Has E [(5,.ptr (some (n3,0))),(7,.ptr (some (n5,0))),(9,.slice a7 PF.1.length f7 e7),(11,I k)] /\ Grow M7 M' /\ ∀ j,j < k->∀ hj:j < J.length,40001 ∉ J[j].2.2)
   ?_ (J.length - 0) _ _ _ ⟨0,rfl,Nat.zero_le _,rfl,.cons rfl (.cons rfl (.cons rfl (.cons rfl .nil))),Grow.refl _,fun j hj=>absurd hj (Nat.not_lt_zero _)⟩
  rintro m E ms M8 ⟨k,rfl,hk,rfl,hE,hg8,hall⟩
  refine zt hE ?_
  have a5:=At.grow hg8 a5
  have r5:Rd1 M8 n5 (0+1) (.slice a4 J.length f4 e4):=Rd1.of_at a5 rfl
  by_cases hlast:k=J.length
  ·subst hlast
   (have hrd0:=r5;repeat' (first|(with_reducible intro _)|refine sv ?_|(refine sc ?_ ?_<;>(intro h;try first|exact h.elim|exact absurd rfl h|(exfalso;omega)))|(refine sg ?_ ?_<;>(intro h;(fail_if_success (have:True:=h));try first|exact h.elim|exact absurd rfl h|(exfalso;omega)))|assumption|exact xm|exact rfl))
   all_goals try (exfalso;omega)
   refine ⟨rfl,.inr ⟨rfl,.cons rfl (.cons rfl (.cons rfl .nil)),hg8,fun z hz=>?_⟩⟩
   obtain ⟨j,hj,rfl⟩:=List.mem_iff_getElem.1 hz
   exact hall j hj hj
  have hlt:k < J.length:=by omega
  obtain ⟨i,o,bk,gk,uk,rfl,hrk,hsk⟩:=FsV.at ((hsA.to).grow hg8) hlt
  have r6:Rd1 M8 i (o+k*3+2) (.slice bk (fe J k).2.2.length gk uk):=Rd.nth (j:=2) hrk rfl
  have hln:=(z4l (hgj.b (fe J k) (by rw [z2d hlt];exact List.getElem_mem hlt))).2
  have ci:=zeq (f:=gk) (e:=uk) (v:=40001) hsk (by omega)
  (have hrd0:=r5;have hrd1:=r6;repeat' (first|(with_reducible intro _)|refine sv ?_|(refine sc ?_ ?_<;>(intro h;try first|exact h.elim|exact absurd rfl h|(exfalso;omega)))|((with_reducible first|apply zm|apply zo|apply zc);exact gd;exact rfl;exact rfl;(first|exact ci))|(refine sg ?_ ?_<;>(intro h;(fail_if_success (have:True:=h));try first|exact h.elim|exact absurd rfl h|(exfalso;omega)))|assumption|exact xm|exact rfl))
  rename_i w9 M9 hq
  obtain ⟨⟨r,rfl,hr1,hr2,hr3⟩,rfl⟩:=hq
  have hpw:=hpM _ (g7.trans hg8)
  (repeat' (first|(with_reducible intro _)|refine sv ?_|(refine sc ?_ ?_<;>(intro h;try first|exact h.elim|exact absurd rfl h|(exfalso;omega)))|((with_reducible first|apply zz|apply zx|apply zi);exact gd;exact rfl;exact rfl;(first|exact zb2 hpw))|(refine sg ?_ ?_<;>(intro h;(fail_if_success (have:True:=h));try first|exact h.elim|exact absurd rfl h|(exfalso;omega)))|assumption|exact xm|exact rfl))
  ·exact ⟨rfl,.inl ⟨rfl,rfl⟩⟩
  ·refine ze (J.length - (k+1)) (by omega) ⟨k+1,rfl,by omega,rfl,.cons rfl (.cons rfl (.cons rfl (.cons rfl .nil))),hg8,fun j hj hj'=>?_⟩
   by_cases hjk:j=k
   ·subst hjk
    rw [<-z2d hj']
    intro hc
    have:=hr1.2 hc
    omega
   ·exact hall j (by omega) hj'
 rintro e1 E ms M8 ⟨rfl,⟨rfl,h6⟩|⟨rfl,hE,hg8,hnt⟩⟩
 ·apply z67
  apply za4
  refine z8 (.tmp h6 .nil) ?_
  rfl
 apply z0a
 apply z29
 refine zt hE ?_
 have hsub:=hri2 hnt
 have a3:=At.grow hg8 a3
 have a5:=At.grow hg8 a5
 (repeat' (first|(with_reducible intro _)|refine sv ?_|(refine sc ?_ ?_<;>(intro h;try first|exact h.elim|exact absurd rfl h|(exfalso;omega)))|((with_reducible first|apply zm|apply zo|apply zc);exact gd;exact rfl;exact rfl;(first|exact cpx _ hg8))|(refine sg ?_ ?_<;>(intro h;(fail_if_success (have:True:=h));try first|exact h.elim|exact absurd rfl h|(exfalso;omega)))|assumption|exact xm|exact rfl))
 rename_i w9 M9 hq
 obtain ⟨a9,f9,e9,rfl,hs9,hg9⟩:=hq
 have hs79:=(hs7.grow hg8).grow hg9
 have g9:=(g7.trans hg8).trans hg9
 clear hg9 hg8 hE
 (repeat' (first|(with_reducible intro _)|refine sv ?_|(refine sc ?_ ?_<;>(intro h;try first|exact h.elim|exact absurd rfl h|(exfalso;omega)))|(refine sg ?_ ?_<;>(intro h;(fail_if_success (have:True:=h));try first|exact h.elim|exact absurd rfl h|(exfalso;omega)))|assumption|exact xm|exact rfl))
 all_goals try (exfalso;omega)
 refine z7 (fun m E ms M'=>∃ k:Nat,m=PX.1.length - k /\ k<=PX.1.length /\ ms=[] /\ Has E [(9,.slice a7 PF.1.length f7 e7),(12,.slice a9 PX.1.length f9 e9),(13,I k)] /\ M'=M9)
   ?_ (PX.1.length - 0) _ _ _ ⟨0,rfl,Nat.zero_le _,rfl,.cons rfl (.cons rfl (.cons rfl .nil)),rfl⟩
 rintro m E ms M10 ⟨k,rfl,hk,rfl,hE,rfl⟩
 refine zt hE ?_
 by_cases hlast:k=PX.1.length
 ·subst hlast
  (repeat' (first|(with_reducible intro _)|refine sv ?_|(refine sc ?_ ?_<;>(intro h;try first|exact h.elim|exact absurd rfl h|(exfalso;omega)))|((with_reducible first|apply zz|apply zx|apply zi);exact gd;exact rfl;exact rfl;(first|exact zb2 (hpM _ g9)))|(refine sg ?_ ?_<;>(intro h;(fail_if_success (have:True:=h));try first|exact h.elim|exact absurd rfl h|(exfalso;omega)))|assumption|exact xm|exact rfl))
  all_goals try (exfalso;omega)
  ((with_reducible first|apply z8|apply z3);exact rx)
  rfl
 have hlt:k < PX.1.length:=by omega
 obtain ⟨i,o,rfl,hr⟩:=hs9.rd hlt
 have ci:=zeq (f:=f7) (e:=e7) (v:=PX.1[k]) hs79 (by omega)
 have hin:=hsub _ (List.getElem_mem hlt)
 (have hrd0:=hr;repeat' (first|(with_reducible intro _)|refine sv ?_|(refine sc ?_ ?_<;>(intro h;try first|exact h.elim|exact absurd rfl h|(exfalso;omega)))|((with_reducible first|apply zm|apply zo|apply zc);exact gd;exact rfl;exact rfl;(first|exact ci))|(refine sg ?_ ?_<;>(intro h;(fail_if_success (have:True:=h));try first|exact h.elim|exact absurd rfl h|(exfalso;omega)))|assumption|exact xm|exact rfl))
 rename_i w11 M11 hq
 obtain ⟨⟨r,rfl,hr1,hr2,hr3⟩,rfl⟩:=hq
 have hr0:=hr1.2 hin
 (repeat' (first|(with_reducible intro _)|refine sv ?_|(refine sc ?_ ?_<;>(intro h;try first|exact h.elim|exact absurd rfl h|(exfalso;omega)))|(refine sg ?_ ?_<;>(intro h;(fail_if_success (have:True:=h));try first|exact h.elim|exact absurd rfl h|(exfalso;omega)))|assumption|exact xm|exact rfl))
 all_goals try (exfalso;omega)
 exact ze (PX.1.length - (k+1)) (by omega) ⟨k+1,rfl,by omega,rfl,.cons rfl (.cons rfl (.cons rfl .nil)),rfl⟩
end Go.Proofs.YtbfnnllgdioccaaGreatDoor.C
