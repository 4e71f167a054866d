/-
 Part of the proof of TopAgain. No condition beyond those in each theorem.
-/
import Derived.Test.YtbmgeagllpganaaGreatDoorSC
import Derived.Test.YtbmgeagllpganaaGreatDoorSB
import Derived.Test.YtbmgeagllpganaaGreatDoorSA
import Derived.Test.YtbmgeagllpganaaGreatDoorTX
section
open Go PvL Go.Proofs
set_option linter.unusedSimpArgs false
set_option linter.unusedVariables false
variable {μ:Md}
namespace Go.Proofs.YtbmgeagllpganaaGreatDoor.C
section
variable {P:Program} [Orc P] {sz:Nat} {E:Env} {M:Mem} {K:Env->Mem->Prop} {l:List XG} {g:Option (Nat × Bool)} {st:List Mem} {n:Nat} {xs:List (Nat × Nat × (Mem->Prop))} {ld:List (XG × XK)} {x y z':XO} {r:Nat} {R:Rk} {k:Ky} {v:LV} {smp:List Int}
theorem zjj [Orc Tryz.prog] (hg:GOn E g) (hm:RkM M r R) (hv:SlV M v smp) (hx:xval E x=some (.map (some r))) (hy:xval E y=some (kyv k)) (hz:xval E z'=some v)
  (hk:∀ lb M',Upd M r lb M'->M'.next=M.next->RkM M' r (stK R k smp)->XD Tryz.prog sz ld E M' (M' :: st) (n+1) xs K):XD Tryz.prog sz ((⟨none,.mset 88 x y z',g⟩,.anchor) :: ld) E M st n xs K:=by
 obtain ⟨lb,M',h1,h2,h3⟩:=zpf hm hv hx hy hz
 exact zis hg h1 (hk lb M' h2 (by rw [h2.eq];exact Mem.next_upd _ _ _) h3)
end
def RkB (R:Rk):Prop:=∀ k,((lkK R k).getD []).length<=64
theorem RkB.nil:RkB []:=fun k=>Nat.zero_le _
theorem RkB.add {R:Rk} (h:RkB R) {f:Fr} (hf:f.2.2.length<=64):RkB (rkA R f):=fun k=>by
 unfold rkA
 rw [zh9]
 split
 ·rw [Option.getD_some,z0r]
  have:=h (fky f)
  omega
 ·exact h k
def FrOk (L:List Fr):Prop:=∀ x ∈ L,frB x=true
theorem FrOk.k {L:List Fr} (h:FrOk L):∀ x ∈ L,FrK x:=fun x hx=>by have:=z5u (h x hx);exact ⟨this.1,this.2.1,this.2.2.1,this.2.2.2.1⟩
theorem z6x {x:Fr} (h:frB x=true):1<=x.2.2.length /\ x.2.2.length<=64:=by
 have:=zgq (x:=x) (by unfold errF;rw [h];rfl)
 omega
theorem FrOk.rkB {L:List Fr}:∀ {R:Rk},FrOk L->RkB R->RkB (L.foldl rkA R):=by
 induction L with
 | nil=>intro R _ h;exact h
 | cons x L ih=>intro R hL h;exact ih (fun y hy=>hL y (by simp [hy])) (h.add (z6x (hL x (by simp))).2)
theorem zf1 {α β:Type} {f:β->α->β} {b:β} {L:List α} {k:Nat} (h:k < L.length):(L.take (k+1)).foldl f b=f ((L.take k).foldl f b) L[k]:=by
 rw [List.take_succ_eq_append_getElem h,List.foldl_append];rfl
theorem Rd1.nem {M:Mem} {i o r:Nat} {v:LV} {es:List (LV × LV)} {bs:List Nat} {c:Nat} (h:Rd1 M i o v) (hm:At M r (.map es bs c)):i ≠ r:=fun e=>by
 subst e
 have h1:=h.1
 unfold load1 atCells at h1
 rw [hm.1] at h1
 cases h1
theorem Rd.nem {M:Mem} {i o n r:Nat} {v:List LV} {es:List (LV × LV)} {bs:List Nat} {c:Nat} (h:Rd M i o n v) (hm:At M r (.map es bs c)):i ≠ r:=fun e=>by
 subst e
 have h1:=h.1
 unfold loadN atCells at h1
 rw [hm.1] at h1
 cases h1
theorem SlI.keepm {M M':Mem} {r:Nat} {es:List (LV × LV)} {bs:List Nat} {c:Nat} {a:Option (Nat × Nat)} {l:List Int} (h:SlI M a l) (hm:At M r (.map es bs c)) (hk:Keep (fun i=>i=r) M M'):SlI M' a l :=
 h.imp id fun ⟨i,o,h1,h2⟩=>⟨i,o,h1,fun k hk'=>(h2 k hk').keep hk (Rd1.nem (h2 k hk') hm)⟩
theorem FsV.keepm {M M':Mem} {r:Nat} {es:List (LV × LV)} {bs:List Nat} {c:Nat} {a:Option (Nat × Nat)} {L:List Fr} (h:FsV M a L) (hm:At M r (.map es bs c)) (hk:Keep (fun i=>i=r) M M'):FsV M' a L :=
 h.imp id fun ⟨i,o,h1,h2⟩=>⟨i,o,h1,fun k hk'=>by
  obtain ⟨b,g,u,h3,h4⟩:=h2 k hk'
  exact ⟨b,g,u,h3.keep hk (Rd.nem h3 hm),SlI.keepm h4 hm hk⟩⟩
set_option maxHeartbeats 8000000 in
theorem zob {M:Mem} {r:Nat} {R:Rk} {a:Option (Nat × Nat)} {L:List Fr} {f:Bool} {e:Nat} (hR:RkM M r R) (hs:FsV M a L) (hL:FrOk L) (hB:RkB R) (hln:L.length<=1000000) :
  CallOk Tryz.prog 23 [.map (some r),.slice a L.length f e] M (fun _ M'=>RkM M' r (L.foldl rkA R) /\ Keep (fun i=>i=r) M M'):=by
 refine zj k23 rfl ?_
 dsimp only [x23,zipE,Nat.reduceAdd]
 (repeat' (first|(with_reducible intro _)|refine sv ?_|(refine sc ?_ ?_<;>(intro h;try first|exact h.elim|exact absurd rfl h|(exfalso;omega)))|(refine sg ?_ ?_<;>(intro h;(fail_if_success (have:True:=h));try first|exact h.elim|exact absurd rfl h|(exfalso;omega)))|assumption|exact xm|exact rfl))
 refine zg (fun z E ms M'=>∃ (k:Nat),z=L.length - k /\ k<=L.length /\ ms=[] /\ Has E [(0,.map (some r)),(6,.slice a L.length f e),(7,I L.length),(8,I k)] /\ RkM M' r ((L.take k).foldl rkA R) /\ RkB ((L.take k).foldl rkA R) /\ FsV M' a L /\ Keep (fun i=>i=r) M M')
  ?_ (L.length - 0) _ _ _ ⟨0,rfl,Nat.zero_le _,rfl,.cons rfl (.cons rfl (.cons rfl (.cons rfl .nil))),hR,hB,hs,Keep.refl _ _⟩
 rintro z E ms M1 ⟨k,rfl,hk,rfl,hE,hR1,hB1,hs1,hk1⟩
 refine z02 hE ?_
 by_cases hlast:k=L.length
 ·subst hlast
  rw [List.take_length] at hR1
  (repeat' (first|(with_reducible intro _)|refine sv ?_|(refine sc ?_ ?_<;>(intro h;try first|exact h.elim|exact absurd rfl h|(exfalso;omega)))|(refine sg ?_ ?_<;>(intro h;(fail_if_success (have:True:=h));try first|exact h.elim|exact absurd rfl h|(exfalso;omega)))|assumption|exact xm|exact rfl))
  ((with_reducible first|apply zi|apply zc);exact rx)
  exact ⟨hR1,hk1⟩
 have hlt:k < L.length:=by omega
 obtain ⟨i,o,b,g,u,rfl,hr,hfv⟩:=hs1.rd hlt
 have hfo:=hL (fe L k) (by rw [z1z hlt];exact List.getElem_mem hlt)
 have hfl:=z6x hfo
 have hnext:(L.take (k+1)).foldl rkA R=rkA ((L.take k).foldl rkA R) (fe L k):=by rw [zf1 hlt,z1z hlt]
 generalize hRk:(L.take k).foldl rkA R=R1 at *
 generalize hF:fe L k=F at *
 (have hrd0:=hr;repeat' (first|(with_reducible intro _)|refine sv ?_|(refine sc ?_ ?_<;>(intro h;try first|exact h.elim|exact absurd rfl h|(exfalso;omega)))|(refine sg ?_ ?_<;>(intro h;(fail_if_success (have:True:=h));try first|exact h.elim|exact absurd rfl h|(exfalso;omega)))|assumption|exact xm|exact rfl))
 rename_i n2 M2 hN2 q2 q2' M3 hU3 q3 hA3
 have hg13:Grow M1 M3:=xg
 have hs3:=hs1.grow hg13
 have hR3:RkM M3 r R1:=hR1.grow (xg)
 have hfv3:=hfv.grow hg13
 have hkp3:Keep (fun i=>i=r) M M3:=xk
 clear hU3 hN2
 have ck:=fun M' (hg:Grow M3 M')=>zc9 (hfv3.grow hg)
 (repeat' (first|(with_reducible intro _)|refine sv ?_|(refine sc ?_ ?_<;>(intro h;try first|exact h.elim|exact absurd rfl h|(exfalso;omega)))|((with_reducible first|apply z07|apply z06|apply zp);exact gd;exact rfl;exact rfl;(first|exact ck _ (xg)))|(refine sg ?_ ?_<;>(intro h;(fail_if_success (have:True:=h));try first|exact h.elim|exact absurd rfl h|(exfalso;omega)))|assumption|exact xm|exact rfl))
 rename_i M4 hg4 q4 M5 hg5 q5
 have hg35:=hg4.trans hg5
 have hR5:=hR3.grow hg35
 have hs5:=hs3.grow hg35
 have hfv5:=hfv3.grow hg35
 have hA5:=At.grow hg35 hA3
 have hkp5:Keep (fun i=>i=r) M M5:=hkp3.grow hg35
 obtain ⟨Lm,bs,clk,hm5,hok,hLm⟩:=id hR5
 have hlk:=hLm.look (fky F)
 have hbl:=hB1 (fky F)
 have hst:rkA R1 F=stK R1 (fky F) (bothL ((lkK R1 (fky F)).getD []) F.2.2):=rfl
 generalize (lkK R1 (fky F)).getD []=old at *
 obtain ⟨av,fv,ev,hve,hv1,hvs⟩:=hlk
 have lk5:∀ {E:Env} {x y:XO} (m:Mem),At m r (.map (encK Lm) bs clk)->xval E x=some (.map (some r))->xval E y=some (kyv (fky F))->xstep Tryz.prog (.lkp 88 zsl false x y) E m=some (.val (.slice av old.length fv ev) m):=fun m hm hx hy=>by
  have:=zhc hm hx hy
  rw [hve] at this;exact this
 have hm3:At M4 n2 (.cells true [I F.1,I F.2.1,.slice b F.2.2.length g u] 43):=At.grow hg4 hA3
 refine z5l (by exact gd) (lk5 _ hm5 rfl rfl) (fun m=>At m r (.map (encK Lm) bs clk)) (fun m hm=>lk5 m hm rfl rfl) ?_
 obtain ⟨_,_,_,hfe,hfs⟩:=id hfv5
 cases hfe
 have cb:=zoc hvs hfs (by omega) (by omega) (fa:=fv) (ea:=ev) (fb:=g) (eb:=u)
 clear hg4 hg5
 (have hrd0:=z7j (Rd.of_at (i:=n2) (o:=0+2) hA5 rfl);repeat' (first|(with_reducible intro _)|refine sv ?_|(refine sc ?_ ?_<;>(intro h;try first|exact h.elim|exact absurd rfl h|(exfalso;omega)))|((with_reducible first|apply zw|apply zy|apply zn);exact gd;exact rfl;exact rfl;(first|exact cb))|(refine sg ?_ ?_<;>(intro h;(fail_if_success (have:True:=h));try first|exact h.elim|exact absurd rfl h|(exfalso;omega)))|assumption|exact xm|exact rfl))
 rename_i w6 M6 hq
 obtain ⟨hv6,hg6⟩:=hq
 have hsv6:=SlV.vec hv6
 obtain ⟨a6,f6,e6,rfl,hs6⟩:=SlI.vec hv6
 have hR6:=hR5.grow hg6
 have hFs6:=hs5.grow hg6
 have hm6:=At.grow hg6 hm5
 refine zjj (smp:=bothL old F.2.2) (k:=fky F) (by exact gd) hR6 hsv6 rfl rfl rfl ?_
 intro lb M7 hU7 e7 hR7
 have hk67:Keep (fun i=>i=r) M6 M7:=(Keep.refl _ _).upd hU7 (.inl rfl)
 have hFs7:=FsV.keepm hFs6 hm6 hk67
 have hk7:Keep (fun i=>i=r) M M7:=(hkp5.grow hg6).upd hU7 (.inl rfl)
 rw [<-hst] at hR7
 clear hU7
 (repeat' (first|(with_reducible intro _)|refine sv ?_|(refine sc ?_ ?_<;>(intro h;try first|exact h.elim|exact absurd rfl h|(exfalso;omega)))|(refine sg ?_ ?_<;>(intro h;(fail_if_success (have:True:=h));try first|exact h.elim|exact absurd rfl h|(exfalso;omega)))|assumption|exact xm|exact rfl))
 exact zk (L.length - (k+1)) (by omega) ⟨k+1,rfl,by omega,rfl,.cons rfl (.cons rfl (.cons rfl (.cons rfl .nil))),by rw [hnext];exact hR7,by rw [hnext];exact hB1.add hfl.2,hFs7,hk7⟩
end Go.Proofs.YtbmgeagllpganaaGreatDoor.C
end
section
open Go PvL
set_option linter.unusedSimpArgs false
set_option linter.unusedVariables false
namespace Go.Proofs.YtbmgeagllpganaaGreatDoor.C
def oJ:Option (List Int)->Option (List Int)->Option (List Int)
 | none,b=>b
 | some a,none=>some a
 | some a,some b=>some (bothL a b)
theorem zn1 (a b:Option (List Int)):oJ a b=oJ b a:=by cases a<;>cases b<;>simp [oJ,z87]
theorem zdt {L:List Fr}:∀ {J:List Fr},SrtJ J->(∀ x ∈ J,FrK x)->(∀ x ∈ L,FrK x)->(L.map fky).Nodup->SrtJ (L.foldl addR J) /\ (∀ x ∈ L.foldl addR J,FrK x) /\ ∀ k,lkJ (L.foldl addR J) k=oJ (lkJ J k) (lkJ L k):=by
 induction L with
 | nil=>intro J h1 h2 _ _;exact ⟨h1,h2,fun k=>by cases hh:lkJ J k<;>simp [hh,lkJ,oJ]⟩
 | cons f L ih =>
  intro J h1 h2 h3 h4
  have hf:=h3 f (by simp)
  obtain ⟨g1,g2,g3,_⟩:=zc2 h1 h2 hf
  rw [List.map_cons,List.nodup_cons] at h4
  obtain ⟨i1,i2,i3⟩:=ih (J:=addR J f) g1 g2 (fun x hx=>h3 x (by simp [hx])) h4.2
  refine ⟨i1,i2,fun k=>?_⟩
  rw [List.foldl_cons,i3,g3,z72]
  by_cases hk:k=fky f
  ·rw [if_pos hk,if_pos hk]
   have hno:lkJ L k=none:=by
    cases hq:lkJ L k with
    | none=>rfl
    | some l =>
     have:=(z73 L k).1 (by rw [hq];rfl)
     rw [hk] at this
     exact absurd this h4.1
   rw [hno,<- hk]
   cases lkJ J k with
   | none=>simp [oJ,z6f]
   | some a=>simp [oJ]
  ·rw [if_neg hk,if_neg hk]
theorem zkk:∀ {J J':List Fr},SrtJ J->SrtJ J'->(∀ k,lkJ J k=lkJ J' k)->J=J':=by
 intro J J' h1 h2 h
 have e:J.map fky=J'.map fky:=zd4 h1.keys h2.keys fun k=>by rw [<-z73,<- z73,h]
 have hl:J.length=J'.length:=by simpa using congrArg List.length e
 refine List.ext_getElem hl fun i hi hi'=>?_
 have hk:fky J[i]=fky J'[i]:=by
  have h3:=List.getElem_of_eq e (i:=i) (by simpa using hi)
  simpa using h3
 have h3:=z8l h1 J[i] (List.getElem_mem hi)
 have h4:=z8l h2 J'[i] (List.getElem_mem hi')
 rw [<-hk,<- h,h3] at h4
 have h5:J[i].2.2=J'[i].2.2:=Option.some.inj h4
 have h6:(fky J[i]).1=(fky J'[i]).1:=congrArg Prod.fst hk
 have h7:(fky J[i]).2=(fky J'[i]).2:=congrArg Prod.snd hk
 exact Prod.ext h6 (Prod.ext h7 h5)
structure GdL (J:List Fr):Prop where
 s:SrtJ J
 b:∀ x ∈ J,frB x=true
theorem zgs {x:Fr} (h:frB x=true):FrK x:=by have:=z5u h;exact ⟨this.1,this.2.1,this.2.2.1,this.2.2.2.1⟩
theorem GdL.k {J:List Fr} (h:GdL J):∀ x ∈ J,FrK x:=fun x hx=>zgs (h.b x hx)
theorem GdL.nd {J:List Fr} (h:GdL J):(J.map fky).Nodup:=h.s.keys.imp fun hk e=>by subst e;exact z0v _ hk
theorem GdL.rlK {J:List Fr} (h:GdL J):∀ n,n<=J.length->rlK J n=true
 | 0,_=>rfl
 | n+1,hn=>by
  have hlt:n < J.length:=hn
  have hb:=h.b J[n] (List.getElem_mem hlt)
  rw [zfq,GdL.rlK h n (by omega),z1z hlt,hb,Bool.true_and,Bool.true_and]
  by_cases h0:n=0
  ·rw [decide_eq_true h0];rfl
  ·have hl2:n - 1 < J.length:=by omega
   rw [z1z hl2,decide_eq_true (p:=keyI J[n - 1] < keyI J[n]) ?_,Bool.or_true]
   have:=h.s
   unfold SrtJ at this
   rw [List.pairwise_iff_getElem] at this
   exact (z9m (zgs (h.b _ (List.getElem_mem hl2))) (zgs hb)).2 (this (n - 1) n hl2 hlt (by omega))
theorem zou {J:List Fr} (h:C.rlK J J.length=true):GdL J:=by
 have hb:∀ x ∈ J,frB x=true:=fun x hx=>by
  obtain ⟨i,hi,rfl⟩:=List.mem_iff_getElem.1 hx
  have:=ze7 h hi
  rw [z1z hi] at this;exact this
 refine ⟨?_,hb⟩
 unfold SrtJ
 rw [List.pairwise_iff_getElem]
 intro i j hi hj hij
 have:=ze8 h hij hj
 rw [z1z hi,z1z hj] at this
 exact (z9m (zgs (hb _ (List.getElem_mem hi))) (zgs (hb _ (List.getElem_mem hj)))).1 this
theorem zki {a b:List Int} (ha:smsB a=true) (hb:smsB b=true):smsB (bothL a b)=true:=by
 unfold smsB btB at *
 simp only [Bool.and_eq_true,decide_eq_true_eq] at *
 rw [z0r]
 exact ⟨by omega,znf ha.2 hb.2⟩
theorem zjp {g f:Fr} (hg:frB g=true) (hf:frB f=true):frB (g.1,g.2.1,bothL g.2.2 f.2.2)=true:=by
 have h1:=z5u hg
 have h2:=z5u hf
 unfold frB btB
 simp only [Bool.and_eq_true,decide_eq_true_eq]
 exact ⟨⟨h1.1,h1.2.1⟩,⟨h1.2.2.1,h1.2.2.2.1⟩,zki h1.2.2.2.2 h2.2.2.2.2⟩
theorem zfv {f:Fr} (hf:frB f=true):∀ {J:List Fr},(∀ x ∈ J,frB x=true)->∀ x ∈ addR J f,frB x=true
 | [],_=>fun x hx=>by
  have hx:x ∈ [f]:=hx
  have:x=f:=by simpa using hx
  rw [this];exact hf
 | g :: l,h=>fun x hx=>by
  unfold addR at hx
  split at hx
  ·rcases List.mem_cons.1 hx with rfl|hx
   ·exact zjp (h g (by simp)) hf
   ·exact h x (by simp [hx])
  ·split at hx
   ·rcases List.mem_cons.1 hx with rfl|hx
    ·exact hf
    ·exact h x hx
   ·rcases List.mem_cons.1 hx with rfl|hx
    ·exact h x (by simp)
    ·exact zfv hf (fun y hy=>h y (by simp [hy])) x hx
theorem zcj {L:List Fr}:∀ {J:List Fr},(∀ x ∈ J,frB x=true)->(∀ x ∈ L,frB x=true)->∀ x ∈ L.foldl addR J,frB x=true:=by
 induction L with
 | nil=>intro J h _;exact h
 | cons f L ih=>intro J h h';exact ih (zfv (h' f (by simp)) h) fun x hx=>h' x (by simp [hx])
def jnL (a b:List Fr):List Fr:=joinedR (a ++ b)
theorem z5v {a b:List Fr} (ha:GdL a) (hb:GdL b):GdL (jnL a b) /\ ∀ k,lkJ (jnL a b) k=oJ (lkJ a k) (lkJ b k):=by
 unfold jnL joinedR
 rw [List.foldl_append]
 obtain ⟨h1,h2,h3⟩:=zdt (L:=a) (J:=[]) List.Pairwise.nil (fun _ h=>absurd h List.not_mem_nil) ha.k ha.nd
 obtain ⟨g1,g2,g3⟩:=zdt (L:=b) h1 h2 hb.k hb.nd
 refine ⟨⟨g1,zcj (zcj (fun _ h=>absurd h List.not_mem_nil) ha.b) hb.b⟩,fun k=>?_⟩
 rw [g3,h3];rfl
theorem zdp {a b:List Fr} (ha:GdL a) (hb:GdL b):jnL a b=jnL b a :=
 zkk (z5v ha hb).1.s (z5v hb ha).1.s fun k=>by rw [(z5v ha hb).2,(z5v hb ha).2,zn1]
theorem z39:∀ {J:List Fr} {k:Ky} {l:List Int},lkJ J k=some l->∃ x ∈ J,fky x=k /\ x.2.2=l
 | x :: J,k,l,h=>by
  rw [z72] at h
  by_cases hk:k=fky x
  ·rw [if_pos hk] at h
   exact ⟨x,by simp,hk.symm,Option.some.inj h⟩
  ·rw [if_neg hk] at h
   obtain ⟨y,h1,h2⟩:=z39 h
   exact ⟨y,by simp [h1],h2⟩
theorem zmr {a b:List Fr} (ha:GdL a) (hb:GdL b) {x:Fr} (hx:x ∈ a):∃ y ∈ jnL a b,fky y=fky x /\ bothL y.2.2 x.2.2=y.2.2:=by
 have h1:=z8l ha.s x hx
 have h2:=(z5v ha hb).2 (fky x)
 rw [h1] at h2
 cases hq:lkJ b (fky x) with
 | none =>
  rw [hq] at h2
  obtain ⟨y,h3,h4,h5⟩:=z39 h2
  exact ⟨y,h3,h4,by rw [h5,z88]⟩
 | some l =>
  rw [hq] at h2
  obtain ⟨y,h3,h4,h5⟩:=z39 h2
  refine ⟨y,h3,h4,?_⟩
  rw [h5,z87 x.2.2 l,zc5,z88]
def zRl:Rl:=(⟨#[]⟩,[])
def mergeF (x y:Rl):Rl × Int :=
 if errRl x=0 then (if errRl y=0 then (if x.1=y.1 then (if (joinedR (x.2 ++ y.2)).length<=128 then ((x.1,joinedR (x.2 ++ y.2)),0) else (zRl,6)) else (zRl,2)) else (zRl,errRl y)) else (zRl,errRl x)
def mgOk (x y:Rl):Prop:=errRl x=0 /\ errRl y=0 /\ x.1=y.1 /\ (jnL x.2 y.2).length<=128
theorem zhg {x y:Rl} (h:mgOk x y):mergeF x y=((x.1,jnL x.2 y.2),0):=by
 obtain ⟨h1,h2,h3,h4⟩:=h
 unfold mergeF
 have h4:(joinedR (x.2 ++ y.2)).length<=128:=h4
 rw [if_pos h1,if_pos h2,if_pos h3,if_pos h4];rfl
theorem zhf {x y:Rl} (h:¬ mgOk x y):(mergeF x y).2 ≠ 0:=by
 unfold mergeF
 by_cases h1:errRl x=0
 case neg=>rw [if_neg h1];exact h1
 by_cases h2:errRl y=0
 case neg=>rw [if_pos h1,if_neg h2];exact h2
 rw [if_pos h1,if_pos h2]
 by_cases h3:x.1=y.1
 case neg=>rw [if_neg h3];decide
 rw [if_pos h3]
 by_cases h4:(joinedR (x.2 ++ y.2)).length<=128
 ·exact absurd ⟨h1,h2,h3,h4⟩ h
 ·rw [if_neg h4];decide
theorem err0 {x:Rl} (h:errRl x=0):nmB x.1=true /\ x.2.length<=128 /\ GdL x.2:=by
 unfold errRl at h
 cases hb:rlB x with
 | false=>rw [hb] at h;simp at h
 | true =>
  unfold rlB at hb
  simp only [Bool.and_eq_true,decide_eq_true_eq] at hb
  exact ⟨hb.1.1,hb.1.2,zou hb.2⟩
theorem zmp {x:Rl} (h1:nmB x.1=true) (h2:x.2.length<=128) (h3:GdL x.2):errRl x=0:=by
 unfold errRl rlB
 rw [h1,decide_eq_true h2,h3.rlK _ (Nat.le_refl _)];rfl
theorem zdw {x y:Rl} (h:mgOk x y):errRl (x.1,jnL x.2 y.2)=0 :=
 zmp (err0 h.1).1 h.2.2.2 (z5v (err0 h.1).2.2 (err0 h.2.1).2.2).1
theorem znd {x:Rl} (h:errRl x=0):RlIn x:=by
 obtain ⟨h1,h2,h3⟩:=err0 h
 refine ⟨?_,by omega,fun f hf=>zqz (by unfold errF;rw [h3.b f hf];rfl)⟩
 unfold nmB btB at h1
 simp only [Bool.and_eq_true,decide_eq_true_eq] at h1
 omega
end Go.Proofs.YtbmgeagllpganaaGreatDoor.C
end
section
open Go PvL Go.Proofs
set_option linter.unusedSimpArgs false
set_option linter.unusedVariables false
variable {μ:Md}
namespace Go.Proofs.YtbmgeagllpganaaGreatDoor.C
theorem zpi {x:Rl} (h:errRl x=0):FrOk x.2 /\ x.2.length<=128 /\ nmB x.1=true /\ rlK x.2 x.2.length=true:=by
 unfold errRl at h
 cases hb:rlB x with
 | false=>rw [hb] at h;simp at h
 | true =>
  unfold rlB at hb
  simp only [Bool.and_eq_true,decide_eq_true_eq] at hb
  refine ⟨fun f hf=>?_,hb.1.2,hb.1.1,hb.2⟩
  obtain ⟨i,hi,rfl⟩:=List.mem_iff_getElem.1 hf
  have:=ze7 hb.2 hi
  rw [z1z hi] at this;exact this
theorem z4u (M:Mem):RlV1 M (.agg [.str ⟨#[]⟩,.slice none 0 true 0]) zRl:=⟨none,true,0,rfl,.inl rfl⟩
theorem RkM.nil {M M':Mem} {r:Nat} (hN:New M r (.map [] [] 0) M'):RkM M' r []:=⟨[],[],0,At.new_same hN,⟨rfl,List.nodup_nil,fun _ h=>nomatch h⟩,.nil⟩
theorem Rd1.ner {M:Mem} {i o n:Nat} {v:Int} {own:Bool} {s:ByteArray} {p:Option (Nat × Nat)} {k:Nat} {f:Bool} {e:Nat} {ty:TypeId} (h:Rd1 M i o (I v)) (hm:At M n (.cells own [.str s,.slice p k f e] ty)):i ≠ n:=fun he=>by
 subst he
 have h1:=h.1
 unfold load1 atCells at h1
 rw [hm.1] at h1
 have h1:PvL.nth [LV.str s,.slice p k f e] o=some (I v):=h1
 match o,h1 with
 | 0,h1=>cases h1
 | 1,h1=>cases h1
 | o+2,h1=>cases h1
theorem Rd.ner {M:Mem} {i o n:Nat} {x y z:LV} {own:Bool} {s:ByteArray} {p:Option (Nat × Nat)} {k:Nat} {f:Bool} {e:Nat} {ty:TypeId} (h:Rd M i o 3 [x,y,z]) (hm:At M n (.cells own [.str s,.slice p k f e] ty)):i ≠ n:=fun he=>by
 subst he
 have h1:=h.1
 unfold loadN atCells at h1
 rw [hm.1] at h1
 have h1:take' 3 (drop' o [LV.str s,.slice p k f e])=some [x,y,z]:=h1
 match o,h1 with
 | 0,h1=>cases h1
 | 1,h1=>cases h1
 | 2,h1=>cases h1
 | o+3,h1=>cases h1
theorem SlI.updr {M M':Mem} {n:Nat} {lb:LB} {own:Bool} {s:ByteArray} {p:Option (Nat × Nat)} {k:Nat} {f:Bool} {e:Nat} {ty:TypeId} {a:Option (Nat × Nat)} {l:List Int} (h:SlI M a l) (hm:At M n (.cells own [.str s,.slice p k f e] ty)) (hu:Upd M n lb M'):SlI M' a l :=
 h.imp id fun ⟨i,o,h1,h2⟩=>⟨i,o,h1,fun k hk'=>Rd1.upd_ne hu (Rd1.ner (h2 k hk') hm) (h2 k hk')⟩
theorem FsV.updr {M M':Mem} {n:Nat} {lb:LB} {own:Bool} {s:ByteArray} {p:Option (Nat × Nat)} {k:Nat} {f:Bool} {e:Nat} {ty:TypeId} {a:Option (Nat × Nat)} {L:List Fr} (h:FsV M a L) (hm:At M n (.cells own [.str s,.slice p k f e] ty)) (hu:Upd M n lb M'):FsV M' a L :=
 h.imp id fun ⟨i,o,h1,h2⟩=>⟨i,o,h1,fun k hk'=>by
  obtain ⟨b,g,u,h3,h4⟩:=h2 k hk'
  exact ⟨b,g,u,Rd.upd_ne hu (Rd.ner h3 hm) h3,SlI.updr h4 hm hu⟩⟩
theorem FsV1.updr {M M':Mem} {n:Nat} {lb:LB} {own:Bool} {s:ByteArray} {p:Option (Nat × Nat)} {k:Nat} {f:Bool} {e:Nat} {ty:TypeId} {a:Option (Nat × Nat)} {L:List Fr} (h:FsV1 M a L) (hm:At M n (.cells own [.str s,.slice p k f e] ty)) (hu:Upd M n lb M'):FsV1 M' a L :=
 h.imp id fun ⟨i,o,h1,h2⟩=>⟨i,o,h1,fun k hk'=>by
  obtain ⟨b,g,h3,h4⟩:=h2 k hk'
  exact ⟨b,g,Rd.upd_ne hu (Rd.ner h3 hm) h3,SlI.updr h4 hm hu⟩⟩
set_option maxHeartbeats 8000000 in
theorem zmf {M:Mem} {v w:LV} {x y:Rl} (hv:RlV M v x) (hw:RlV M w y) (hx:RlIn x) (hy:RlIn y) :
  CallN Tryz.prog 10 [v,w] M (fun r M'=>∃ q,r=.tup [q,I (mergeF x y).2] /\ RlV1 M' q (mergeF x y).1 /\ Grow M M'):=by
 have hv0:=hv
 have hw0:=hw
 obtain ⟨a,f,e,rfl,hs⟩:=hv
 obtain ⟨b,f',e',rfl,hs'⟩:=hw
 refine z2b k10 rfl ?_
 dsimp only [x10,zipE,Nat.reduceAdd]
 have hc1:=fun M' hg=>z3s (M:=M') (hv0.grow hg) hx
 have hc2:=fun M' hg=>z3s (M:=M') (hw0.grow hg) hy
 by_cases hex:errRl x=0
 case neg =>
  have hj:mergeF x y=(zRl,errRl x):=by unfold mergeF;rw [if_neg hex]
  rw [hj]
  (repeat' (first|(with_reducible intro _)|refine sv ?_|refine su ?_|(refine sc ?_ ?_<;>(intro h;try first|exact h.elim|exact absurd rfl h|(exfalso;omega)))|((with_reducible first|apply z07|apply z06|apply zp);exact gd;exact rfl;exact rfl;(first|exact hc1 _ (xg)))|(refine sg ?_ ?_<;>(intro h;(fail_if_success (have:True:=h));try first|exact h.elim|exact absurd rfl h|(exfalso;omega)))|assumption|exact xm|exact rfl))
  ((with_reducible first|apply zi|apply zc);exact rx)
  exact ⟨_,rfl,z4u _,xg⟩
 rw [hex] at hc1
 by_cases hey:errRl y=0
 case neg =>
  have hj:mergeF x y=(zRl,errRl y):=by unfold mergeF;rw [if_pos hex,if_neg hey]
  rw [hj]
  (repeat' (first|(with_reducible intro _)|refine sv ?_|refine su ?_|(refine sc ?_ ?_<;>(intro h;try first|exact h.elim|exact absurd rfl h|(exfalso;omega)))|((with_reducible first|apply z07|apply z06|apply zp);exact gd;exact rfl;exact rfl;(first|exact hc1 _ (xg)|exact hc2 _ (xg)))|(refine sg ?_ ?_<;>(intro h;(fail_if_success (have:True:=h));try first|exact h.elim|exact absurd rfl h|(exfalso;omega)))|assumption|exact xm|exact rfl))
  ((with_reducible first|apply zi|apply zc);exact rx)
  exact ⟨_,rfl,z4u _,xg⟩
 rw [hey] at hc2
 obtain ⟨hox,hlx,-,-⟩:=zpi hex
 obtain ⟨hoy,hly,-,-⟩:=zpi hey
 by_cases hnm:x.1=y.1
 case neg =>
  have hj:mergeF x y=(zRl,2):=by unfold mergeF;rw [if_pos hex,if_pos hey,if_neg hnm]
  rw [hj]
  (repeat' (first|(with_reducible intro _)|refine sv ?_|refine su ?_|(refine sc ?_ ?_<;>(intro h;try first|exact h.elim|exact absurd rfl h|(exfalso;omega)))|((with_reducible first|apply z07|apply z06|apply zp);exact gd;exact rfl;exact rfl;(first|exact hc1 _ (xg)|exact hc2 _ (xg)))|(refine sg ?_ ?_<;>(intro h;(fail_if_success (have:True:=h));try first|exact h.elim|exact absurd rfl h|(exfalso;omega)))|assumption|exact xm|exact rfl))
  ·((with_reducible first|apply zi|apply zc);exact rx)
   exact ⟨_,rfl,z4u _,xg⟩
  ·exact absurd (zak h) hnm
 have hb:(x.1 == y.1)=true:=by rw [hnm];exact z89 _
 have hfo:FrOk (x.2 ++ y.2):=fun z hz=>(List.mem_append.1 hz).elim (hox z) (hoy z)
 have hrj:=zr3 hfo.k
 have hne9:∀ z ∈ joinedR (x.2 ++ y.2),z.2.2 ≠ []:=fun z hz=>by
  have h1:=z6x (zcj (J:=[]) (fun _ h=>absurd h List.not_mem_nil) hfo z hz)
  intro h2;rw [h2] at h1;exact absurd h1.1 (by decide)
 have hrk:rackF (x.2 ++ y.2)=y.2.foldl rkA (x.2.foldl rkA []):=by unfold rackF;rw [List.foldl_append]
 have hll:(rackF (x.2 ++ y.2)).length<=1000000:=by
  have:∀ (l:List Fr) (R:Rk),(l.foldl rkA R).length<=R.length+l.length:=fun l=>by
   induction l with
   | nil=>intro R;exact Nat.le_refl _
   | cons z l ih =>
    intro R
    have h1:=ih (rkA R z)
    have h2:(rkA R z).length<=R.length+1:=by
     have:=congrArg List.length (zd6 R (fky z) (bothL ((lkK R (fky z)).getD []) z.2.2))
     rw [List.length_map] at this
     unfold rkA
     rw [this]
     split<;>simp
    rw [List.foldl_cons,List.length_cons];omega
  have:=this (x.2 ++ y.2) []
  rw [List.length_append] at this
  unfold rackF
  have h0:([]:Rk).length=0:=rfl
  omega
 (repeat' (first|(with_reducible intro _)|refine sv ?_|refine su ?_|(refine sc ?_ ?_<;>(intro h;try first|exact h.elim|exact absurd rfl h|(exfalso;omega)))|((with_reducible first|apply z07|apply z06|apply zp);exact gd;exact rfl;exact rfl;(first|exact hc1 _ (xg)|exact hc2 _ (xg)))|(refine sg ?_ ?_<;>(intro h;(fail_if_success (have:True:=h));try first|exact h.elim|exact absurd rfl h|(exfalso;omega)))|assumption|exact xm|exact rfl))
 ·rw [hb] at h;cases h
 rename_i n1 M1 hN1 q1 q1' n2 M2 hN2 q2 q2' n3 M3 hN3 q3 q3' hz1 n4 M4 hN4 q4 q4' M5 hU5 q5 hA5 M6 hg6 q6 hz2 hz3 n7 M7 hN7 q7 q7' M8 hU8 q8 hA8 M9 hg9 q9 hz4 hz5 n10 M10 hN10 q10 q10'
 have g10:Grow M M10:=xg
 have a1:At M10 n1 (.cells true [.str x.1,.slice a x.2.length f e] 24):=by
  have:At M1 n1 (.cells true [.str x.1,.slice a x.2.length f e] 24):=At.new_same hN1
  exact xm
 have a2:At M10 n2 (.cells true [.str y.1,.slice b y.2.length f' e'] 24):=by
  have:At M2 n2 (.cells true [.str y.1,.slice b y.2.length f' e'] 24):=At.new_same hN2
  exact xm
 have a3:At M10 n3 (.cells true [.str ⟨#[]⟩,.slice none 0 true 0] 24):=xm
 have hR10:=RkM.nil hN10
 have hs10:=hs.grow g10
 have hs10':=hs'.grow g10
 clear hN1 hN2 hN3 hN4 hU5 hA5 hg6 hN7 hU8 hA8 hg9 hN10 hz1 hz2 hz3 hz4 hz5
 (repeat' (first|(with_reducible intro _)|refine sv ?_|(refine sc ?_ ?_<;>(intro h;try first|exact h.elim|exact absurd rfl h|(exfalso;omega)))|((with_reducible first|apply zw|apply zy|apply zn);exact gd;exact rfl;exact rfl;(first|exact zob hR10 hs10 hox RkB.nil (by omega)))|(refine sg ?_ ?_<;>(intro h;(fail_if_success (have:True:=h));try first|exact h.elim|exact absurd rfl h|(exfalso;omega)))|assumption|exact xm|exact rfl))
 rename_i M11 hq
 obtain ⟨hR11,hk11⟩:=hq
 have hle:=g10.le
 obtain ⟨Lm,bs,clk,hm10,-⟩:=id hR10
 have hs11:=FsV.keepm hs10' hm10 hk11
 have a1:=a1.keep hk11 (show ¬ n1=n10 by omega)
 have a2:=a2.keep hk11 (show ¬ n2=n10 by omega)
 have a3:=a3.keep hk11 (show ¬ n3=n10 by omega)
 have hk10:Keep (fun i=>i=n10) M10 M11:=hk11
 clear hk11 hs10 hs10' hm10 hR10
 (repeat' (first|(with_reducible intro _)|refine sv ?_|(refine sc ?_ ?_<;>(intro h;try first|exact h.elim|exact absurd rfl h|(exfalso;omega)))|((with_reducible first|apply zw|apply zy|apply zn);exact gd;exact rfl;exact rfl;(first|exact zob hR11 hs11 hoy (hox.rkB RkB.nil) (by omega)))|(refine sg ?_ ?_<;>(intro h;(fail_if_success (have:True:=h));try first|exact h.elim|exact absurd rfl h|(exfalso;omega)))|assumption|exact xm|exact rfl))
 rename_i M12 hq
 obtain ⟨hR12,hk12⟩:=hq
 rw [<-hrk] at hR12
 have a1:=a1.keep hk12 (show ¬ n1=n10 by omega)
 have a2:=a2.keep hk12 (show ¬ n2=n10 by omega)
 have a3:=a3.keep hk12 (show ¬ n3=n10 by omega)
 have g12:Grow M M12:=Keep.to_grow' (Keep.to_grow' g10 hk10 (fun i hi=>by omega)) hk12 (fun i hi=>by omega)
 clear hk10 hk12 hR11 hs11
 (repeat' (first|(with_reducible intro _)|refine sv ?_|(refine sc ?_ ?_<;>(intro h;try first|exact h.elim|exact absurd rfl h|(exfalso;omega)))|(refine sg ?_ ?_<;>(intro h;(fail_if_success (have:True:=h));try first|exact h.elim|exact absurd rfl h|(exfalso;omega)))|assumption|exact xm|exact rfl))
 refine z7s (by exact gd) rfl rfl (zjc hR12 hrj hne9 hll) ?_
 rintro w13 M13 ⟨hres,hg13⟩
 have a1:=At.grow hg13 a1
 have a2:=At.grow hg13 a2
 have a3:=At.grow hg13 a3
 have g13:=g12.trans hg13
 clear g12 hg13
 have hmf:mergeF x y=if (joinedR (x.2 ++ y.2)).length<=128 then ((x.1,joinedR (x.2 ++ y.2)),0) else (zRl,6):=by
  unfold mergeF
  rw [if_pos hex,if_pos hey,if_pos hnm]
 rcases hres with ⟨hj,aj,fj,ej,rfl,hfj⟩|⟨hj,rfl⟩
 ·rw [hmf,if_pos hj]
  (repeat' (first|(with_reducible intro _)|refine sv ?_|(refine sc ?_ ?_<;>(intro h;try first|exact h.elim|exact absurd rfl h|(exfalso;omega)))|(refine sg ?_ ?_<;>(intro h;(fail_if_success (have:True:=h));try first|exact h.elim|exact absurd rfl h|(exfalso;omega)))|assumption|exact xm|exact rfl))
  rename_i M14 hU14 e14 hA14
  have g14:Grow M M14:=g13.upd hU14 (by omega)
  ((with_reducible first|apply zi|apply zc);exact rx)
  exact ⟨_,rfl,⟨aj,fj,ej,rfl,FsV1.updr hfj a3 hU14⟩,g14⟩
 ·rw [hmf,if_neg (by omega)]
  (repeat' (first|(with_reducible intro _)|refine sv ?_|(refine sc ?_ ?_<;>(intro h;try first|exact h.elim|exact absurd rfl h|(exfalso;omega)))|(refine sg ?_ ?_<;>(intro h;(fail_if_success (have:True:=h));try first|exact h.elim|exact absurd rfl h|(exfalso;omega)))|assumption|exact xm|exact rfl))
  ((with_reducible first|apply zi|apply zc);exact rx)
  exact ⟨_,rfl,z4u _,xg⟩
end Go.Proofs.YtbmgeagllpganaaGreatDoor.C
end
section

end
section
open Go PvL Go.Proofs
set_option linter.unusedSimpArgs false
set_option linter.unusedVariables false
variable {μ:Md}
namespace Go.Proofs.YtbmgeagllpganaaGreatDoor.C
section
variable {β:Type} {ev:β->LV}
def lk:List (Int × β)->Int->Option β
 | [],_=>none
 |(a,b) :: L,k=>if k=a then some b else lk L k
def stM:List (Int × β)->Int->β->List (Int × β)
 | [],k,v=>[(k,v)]
 |(a,b) :: L,k,v=>if k=a then (k,v) :: L else (a,b) :: stM L k v
theorem zoz:∀ (L:List (Int × β)) (k:Int) (v:β) (k':Int),lk (stM L k v) k'=if k'=k then some v else lk L k'
 | [],k,v,k'=>by
  show (if k'=k then some v else none)=_
  rfl
 |(a,b) :: L,k,v,k'=>by
  unfold stM
  by_cases h:k=a
  ·subst h
   rw [if_pos rfl]
   show (if k'=k then some v else lk L k')=if k'=k then some v else (if k'=k then some b else lk L k')
   by_cases h2:k'=k
   ·rw [if_pos h2,if_pos h2]
   ·rw [if_neg h2,if_neg h2,if_neg h2]
  ·rw [if_neg h]
   show (if k'=a then some b else lk (stM L k v) k')=if k'=k then some v else (if k'=a then some b else lk L k')
   rw [zoz L k v k']
   by_cases h2:k'=a
   ·subst h2
    rw [if_pos rfl,if_neg (fun h3=>h h3.symm),if_pos rfl]
   ·rw [if_neg h2,if_neg h2]
theorem zlf (a b:Int):eqL Tryz.prog Op.maxDepth 3 (I a) (I b)=some (decide (a=b)):=by
 show eqL Tryz.prog (Op.maxDepth - 1+1) 3 (I a) (I b)=_
 unfold eqL
 rw [show Tryz.prog.underlying 3=some (.int .i64) by kernel_rfl]
 show guard' (kEq .i64 .i64) (some (ieq a b))=_
 rw [z1l.2 rfl,ze,z24]
 rfl
theorem zd5 (a:Int) (b:β) (L:List (Int × β)) (k:Int) (v:β):stM ((a,b) :: L) k v=if k=a then (k,v) :: L else (a,b) :: stM L k v:=rfl
theorem z5c {P:Program} {kt:TypeId} (heq:∀ a b:Int,eqL P Op.maxDepth kt (I a) (I b)=some (decide (a=b))) (k a:Int) (b:β) (L:List (Int × β)) (i:Nat):findL P kt (I k) (encM I ev ((a,b) :: L)) i=if k=a then some (some (i,I a,ev b)) else findL P kt (I k) (encM I ev L) (i+1):=by
 have h:findL P kt (I k) (encM I ev ((a,b) :: L)) i=ob (eqL P Op.maxDepth kt (I k) (I a)) fun b'=>ifb b' (some (some (i,I a,ev b))) (findL P kt (I k) (encM I ev L) (i+1)):=rfl
 rw [h,heq,za]
 by_cases hab:k=a
 ·rw [decide_eq_true hab,zq,if_pos hab]
 ·rw [decide_eq_false hab,zf,if_neg hab]
theorem z8g {P:Program} {kt:TypeId} (heq:∀ a b:Int,eqL P Op.maxDepth kt (I a) (I b)=some (decide (a=b))) (k:Int):∀ (L:List (Int × β)) (i:Nat),lk L k=none->findL P kt (I k) (encM I ev L) i=some none /\ ∀ v,encM I ev L ++ [(I k,ev v)]=encM I ev (stM L k v)
 | [],i,_=>⟨rfl,fun v=>rfl⟩
 |(a,b) :: L,i,h=>by
  have h:(if k=a then some b else lk L k)=none:=h
  by_cases hka:k=a
  ·rw [if_pos hka] at h;cases h
  ·rw [if_neg hka] at h
   obtain ⟨h1,h2⟩:=z8g heq k L (i+1) h
   constructor
   ·rw [z5c heq,if_neg hka,h1]
   ·intro v
    rw [zd5,if_neg hka]
    show (I a,ev b) :: (encM I ev L ++ [(I k,ev v)])=(I a,ev b) :: encM I ev (stM L k v)
    rw [h2 v]
theorem z8h {P:Program} {kt:TypeId} (heq:∀ a b:Int,eqL P Op.maxDepth kt (I a) (I b)=some (decide (a=b))) (k:Int):∀ (L:List (Int × β)) (i:Nat) (b:β),lk L k=some b->∃ j,findL P kt (I k) (encM I ev L) i=some (some (i+j,I k,ev b)) /\ ∀ v,setVal (encM I ev L) j (I k) (ev v)=encM I ev (stM L k v)
 | [],i,b,h=>by cases h
 |(a,c) :: L,i,b,h=>by
  have h:(if k=a then some c else lk L k)=some b:=h
  by_cases hka:k=a
  ·rw [if_pos hka] at h
   obtain rfl:=Option.some.inj h
   subst hka
   refine ⟨0,?_,fun v=>?_⟩
   ·rw [z5c heq,if_pos rfl,Nat.add_zero]
   ·rw [zd5,if_pos rfl];rfl
  ·rw [if_neg hka] at h
   obtain ⟨j,h1,h2⟩:=z8h heq k L (i+1) b h
   refine ⟨j+1,?_,fun v=>?_⟩
   ·rw [z5c heq,if_neg hka,h1,Nat.add_assoc,Nat.add_comm 1 j]
   ·rw [zd5,if_neg hka]
    show (I a,ev c) :: setVal (encM I ev L) j (I k) (ev v)=(I a,ev c) :: encM I ev (stM L k v)
    rw [h2 v]
theorem zb1 (k:Int) (L:List (Int × β)) (i:Nat) (hl:lk L k=none):findL Tryz.prog 3 (I k) (encM I ev L) i=some none /\ ∀ v,encM I ev L ++ [(I k,ev v)]=encM I ev (stM L k v):=z8g zlf k L i hl
theorem zb2 (k:Int) (L:List (Int × β)) (i:Nat) (b:β) (hl:lk L k=some b):∃ j,findL Tryz.prog 3 (I k) (encM I ev L) i=some (some (i+j,I k,ev b)) /\ ∀ v,setVal (encM I ev L) j (I k) (ev v)=encM I ev (stM L k v):=z8h zlf k L i b hl
def MpI (ev:β->LV) (M:Mem) (r:Nat) (L:List (Int × β)):Prop:=∃ bs clk,At M r (.map (encM I ev L) bs clk)
def lkV (ev:β->LV) (z:LV):Option β->LV
 | some b=>ev b
 | none=>z
def lkV2 (ev:β->LV) (z:LV):Option β->LV
 | some b=>.tup [ev b,.bool true]
 | none=>.tup [z,.bool false]
theorem MpI.grow {M M':Mem} {r:Nat} {L:List (Int × β)} (h:MpI ev M r L) (hg:Grow M M'):MpI ev M' r L:=by
 obtain ⟨bs,clk,h⟩:=h
 exact ⟨bs,clk,h.grow hg⟩
theorem MpI.lt {M:Mem} {r:Nat} {L:List (Int × β)} (h:MpI ev M r L):r < M.next:=by
 obtain ⟨bs,clk,h⟩:=h
 exact h.2
theorem MpI.upd {M M':Mem} {r i:Nat} {lb:LB} {L:List (Int × β)} (h:MpI ev M r L) (hu:Upd M i lb M') (hi:r ≠ i):MpI ev M' r L:=by
 obtain ⟨bs,clk,h⟩:=h
 exact ⟨bs,clk,At.upd_ne hu hi h⟩
theorem MpI.keep {M M':Mem} {r:Nat} {F:Nat->Prop} {L:List (Int × β)} (h:MpI ev M r L) (hk:Keep F M M') (hi:¬ F r):MpI ev M' r L:=by
 obtain ⟨bs,clk,h⟩:=h
 exact ⟨bs,clk,h.keep hk hi⟩
theorem zlj (k:Int):keyOk Tryz.prog 10000 3 (I k)=true:=by kernel_rfl
variable {E:Env} {M:Mem} {x y z':XO} {r:Nat} {L:List (Int × β)} {k:Int} {z:LV}
theorem MpI.look1 (h:MpI ev M r L) (hx:xval E x=some (.map (some r))) (hy:xval E y=some (I k)):xstep Tryz.prog (.lkp 3 z false x y) E M=some (.val (lkV ev z (lk L k)) M):=by
 obtain ⟨bs,clk,hm⟩:=h
 show ob (xval E x) _=_
 rw [hx,za,hy,za,zlj,ze]
 show atMap M r _=_
 unfold atMap
 rw [hm.1,za]
 show ob (findL Tryz.prog 3 (I k) (encM I ev L) 0) _=_
 cases hl:lk L k with
 | none=>rw [(zb1 k L 0 hl).1];rfl
 | some b =>
  obtain ⟨j,h1,_⟩:=zb2 k L 0 b hl
  rw [h1];rfl
theorem MpI.put {v:β} (h:MpI ev M r L) (hx:xval E x=some (.map (some r))) (hy:xval E y=some (I k)) (hz:xval E z'=some (ev v)):∃ lb M',xstep Tryz.prog (.mset 3 x y z') E M=some (.skip M') /\ Upd M r lb M' /\ MpI ev M' r (stM L k v):=by
 obtain ⟨bs,clk,hm⟩:=h
 have key:∀ R,(ob (findL Tryz.prog 3 (I k) (encM I ev L) 0) fun p=>oe p
   (some (R1.skip (M.upd r (some (.map (encM I ev L ++ [(I k,ev v)]) (bs ++ [clk]) (clk+1))))))
   (fun p=>pr p fun i q=>pr q fun k' _=>guard' (lvEq (I k) k') (some (.skip (M.upd r (some (.map (setVal (encM I ev L) i (I k) (ev v)) bs clk)))))))=some R->xstep Tryz.prog (.mset 3 x y z') E M=some R:=fun R hR=>by
  show ob (xval E x) _=_
  rw [hx,za,hy,za,hz,za,zlj,ze]
  show atMap M r _=_
  unfold atMap
  rw [hm.1,za]
  exact hR
 cases hl:lk L k with
 | none =>
  obtain ⟨h1,h2⟩:=zb1 (ev:=ev) k L 0 hl
  refine ⟨_,_,key _ (by rw [h1,za];rfl),⟨rfl⟩,bs ++ [clk],clk+1,?_⟩
  rw [<-h2 v]
  exact At.upd_same ⟨rfl⟩ hm
 | some b =>
  obtain ⟨j,h1,h2⟩:=zb2 (ev:=ev) k L 0 b hl
  refine ⟨_,_,key (.skip (M.upd r (some (.map (setVal (encM I ev L) j (I k) (ev v)) bs clk)))) (by
   rw [h1,za,Nat.zero_add]
   show guard' (lvEq (I k) (I k)) _=_
   rw [show lvEq (I k) (I k)=true from by show (kEq .i64 .i64 && ieq k k)=true;rw [z1l.2 rfl,z24];simp,ze]),⟨rfl⟩,bs,clk,?_⟩
  rw [<-h2 v]
  exact At.upd_same ⟨rfl⟩ hm
end
section
variable {P:Program} [Orc P] {β:Type} {ev:β->LV} {sz:Nat} {E:Env} {M:Mem} {K:Env->Mem->Prop} {l:List XG} {g:Option (Nat × Bool)} {st:List Mem} {n:Nat} {xs:List (Nat × Nat × (Mem->Prop))} {ld:List (XG × XK)} {x y z':XO} {r:Nat} {L:List (Int × β)} {k:Int} {v:β}
theorem zkt [Orc Tryz.prog] (hg:GOn E g) (hm:MpI ev M r L) (hx:xval E x=some (.map (some r))) (hy:xval E y=some (I k)) (hz:xval E z'=some (ev v))
  (hk:∀ lb M',Upd M r lb M'->M'.next=M.next->MpI ev M' r (stM L k v)->XW μ Tryz.prog sz l E M' K):XW μ Tryz.prog sz (⟨none,.mset 3 x y z',g⟩ :: l) E M K:=by
 obtain ⟨lb,M',h1,h2,h3⟩:=MpI.put hm hx hy hz
 exact zj1 hg h1 (hk lb M' h2 (by rw [h2.eq];exact Mem.next_upd _ _ _) h3)
theorem MpI.nil {m:Nat} {M M':Mem} {cl:Nat} (hN:New M m (.map [] [] cl) M'):MpI ev M' m []:=⟨[],cl,At.new_same hN⟩
end
end Go.Proofs.YtbmgeagllpganaaGreatDoor.C
end
section
open Go PvL Go.Proofs
set_option linter.unusedSimpArgs false
set_option linter.unusedVariables false
namespace Go.Proofs.YtbmgeagllpganaaGreatDoor.C
def mgZ (n:Int):Int:=if n < 0 then -n else n
theorem zpk {i o len n h:Nat} {f:Bool} (hh:h<=len):∃ o' f',(0 < len->o'=o) /\ sliceSl n (some (i,o)) len f n none (some (.int .i64 (h:Int))) none=some (.slice (some (i,o')) h f' n):=by
 have e1:sliceSl n (some (i,o)) len f n none (some (.int .i64 (h:Int))) none=guard' (Nat.ble h len) (guard' (Nat.beq n n) (ifb (false || (f || (Nat.ble (0+1) len || true))) (fN (ifb (Nat.beq len 0 && (f || false)) o (o+0*n)) fun off'=>fN (h - 0) fun len'=>some (LV.slice (some (i,off')) len' (ifb false (Nat.beq h len) (f && Nat.beq h len)) n)) (some (LV.slice (some (i,o)) 0 false 0)))):=by
  show guard' true (guard' (Nat.ble h len) (guard' (Nat.ble 0 h) _))=_
  rw [ze,Nat.ble_eq_true_of_le (Nat.zero_le h),ze]
  rfl
 rw [e1,z0p,z0p,Nat.ble_eq_true_of_le hh,ze,show Nat.beq n n=true by simp,ze]
 rw [show (false || (f || (Nat.ble (0+1) len || true)))=true by simp,zq]
 refine ⟨_,_,fun h0=>?_,rfl⟩
 have h1:Nat.beq len 0=false:=by cases hb:Nat.beq len 0 with|false=>rfl|true=>have:=Nat.eq_of_beq_eq_true hb;omega
 rw [h1,Bool.false_and,zf,Nat.zero_mul,Nat.add_zero]
theorem zl1 {n:Nat} {a:Option (Nat × Nat)} {len h:Nat} {f:Bool} {v:LV} {E:Env} {M:Mem} {x hi:XO} (hs:sliceSl n a len f n none (some (.int .i64 (h:Int))) none=some v) (hx:xval E x=some (.slice a len f n)) (hh:xval E hi=some (I (h:Int))):xstep Tryz.prog (.slc n x none (some hi) none) E M=some (.val v M):=by
 show ob (xval E x) _=_
 rw [hx,za]
 show ob (ob (xval E hi) _) _=_
 rw [hh,za]
 show ob (sliceSl n a len f n none (some (.int .i64 (h:Int))) none) (rv M)=_
 rw [hs];rfl
theorem zkh {M:Mem} {a:Option (Nat × Nat)} {L:List Int} {f:Bool} {h:Nat} (hp:SlI M a L) (hh:h<=L.length):∃ a' f' e',sliceSl 1 a L.length f 1 none (some (.int .i64 (h:Int))) none=some (.slice a' h f' e') /\ SlI M a' (L.take h):=by
 have hl:(L.take h).length=h:=by rw [List.length_take];omega
 rcases a with _|⟨i,o⟩
 ·rcases hp with rfl|⟨i,o,h1,_⟩
  ·obtain rfl:h=0:=by simpa using hh
   exact ⟨_,_,_,rfl,.inl rfl⟩
  ·cases h1
 ·obtain ⟨o',f',h1,h2⟩:=zpk (i:=i) (o:=o) (n:=1) (f:=f) hh
  refine ⟨_,_,_,h2,?_⟩
  rcases hp with rfl|⟨i',o2,h3,h4⟩
  ·exact .inl (by simp)
  ·obtain ⟨rfl,rfl⟩:i=i' /\ o=o2:=by injection h3 with q;injection q with q1 q2;exact ⟨q1,q2⟩
   refine .inr ⟨i,o',rfl,fun k hk=>?_⟩
   rw [hl] at hk
   rw [h1 (by omega),List.getElem_take]
   exact h4 k (by omega)
theorem zga (n:Int) (M:Mem):CallOk Tryz.prog 15 [I n] M (fun w M'=>w=.bool (!knB n) /\ M'=M):=by
 refine zj k15 rfl ?_
 dsimp only [x15,zipE,Nat.reduceAdd]
 (repeat' (first|(with_reducible intro _)|refine sv ?_|(refine sc ?_ ?_<;>(intro h;try first|exact h.elim|exact absurd rfl h|(exfalso;omega)))|((with_reducible first|apply zx|apply zu|apply zm);exact gd;exact rfl;exact rfl;(first|exact zca _ _))|(refine sg ?_ ?_<;>(intro h;(fail_if_success (have:True:=h));try first|exact h.elim|exact absurd rfl h|(exfalso;omega)))|assumption|exact xm|exact rfl))
 ((with_reducible first|apply zi|apply zc);exact rx)
 exact ⟨rfl,rfl⟩
theorem zoy (o:Option Int):lkV (β:=Int) I (I 0) o=I (o.getD 0):=by cases o<;>rfl
set_option maxHeartbeats 16000000 in
theorem zl8 {M:Mem} {v:LV} {r:Rl} {F La Ch Sm Mo:Int} (hv:RlV1 M v r) (hin:RlIn r):CallOk Tryz.prog 4 [v,.agg [I F,I La,I Ch,I Sm,I Mo]] M (fun w M'=>∃ a f e,w=.tup [.slice a (poorF r (F,La,Ch,Sm,Mo)).1.length f e,I (poorF r (F,La,Ch,Sm,Mo)).2] /\ SlI M' a (poorF r (F,La,Ch,Sm,Mo)).1 /\ Grow M M'):=by
 have hv0:=hv
 obtain ⟨a,f,e,rfl,hs⟩:=hv
 refine zj k4 rfl ?_
 dsimp only [x4,zipE,Nat.reduceAdd]
 have cc:=fun M' (hg:Grow M M')=>z3s (hv0.to.grow hg) hin
 by_cases her:errRl r=0
 case neg =>
  have he:poorF r (F,La,Ch,Sm,Mo)=([],errRl r):=by unfold poorF;rw [if_neg her]
  rw [he]
  generalize errRl r=ER at *
  (repeat' (first|(with_reducible intro _)|refine sv ?_|(refine sc ?_ ?_<;>(intro h;try first|exact h.elim|exact absurd rfl h|(exfalso;omega)))|((with_reducible first|apply z07|apply z06|apply zp);exact gd;exact rfl;exact rfl;(first|exact cc _ (xg)))|(refine sg ?_ ?_<;>(intro h;(fail_if_success (have:True:=h));try first|exact h.elim|exact absurd rfl h|(exfalso;omega)))|assumption|exact xm|exact rfl))
  all_goals try (exfalso;omega)
  ((with_reducible first|apply zi|apply zc);exact rx)
  exact ⟨_,_,_,rfl,.inl rfl,xg⟩
 case pos =>
 rw [her] at cc
 have hE0:wnB (F,La,Ch,Sm,Mo)=false->poorF r (F,La,Ch,Sm,Mo)=([],84):=fun h=>by unfold poorF;rw [if_pos her,h];rfl
 have hE1:wnB (F,La,Ch,Sm,Mo)=true->poorF r (F,La,Ch,Sm,Mo)=(poorL r.2 (F,La,Ch,Sm,Mo) (La - F+1).toNat,0):=fun h=>by unfold poorF;rw [if_pos her,h];rfl
 have hwn:wnB (F,La,Ch,Sm,Mo)=(btB F 0 La && (btB La 0 60000 && (decide (La - F < 1000) && (btB Ch 1 24 && (btB Sm 1 64 && btB Mo 0 24))))):=rfl
 generalize poorF r (F,La,Ch,Sm,Mo)=PF at *
 have cb1:=fun M'=>z0e F 0 La M'
 cases b1:btB F 0 La with
 | false =>
  rw [b1] at hwn cb1
  rw [hE0 (by rw [hwn];try simp)]
  (repeat' (first|(with_reducible intro _)|refine sv ?_|(refine sc ?_ ?_<;>(intro h;try first|exact h.elim|exact absurd rfl h|(exfalso;omega)))|((with_reducible first|apply zx|apply zu|apply zm);exact gd;exact rfl;exact rfl;(first|exact cb1 _))|((with_reducible first|apply z07|apply z06|apply zp);exact gd;exact rfl;exact rfl;(first|exact cc _ (xg)))|(refine sg ?_ ?_<;>(intro h;(fail_if_success (have:True:=h));try first|exact h.elim|exact absurd rfl h|(exfalso;omega)))|assumption|exact xm|exact rfl))
  all_goals try (exfalso;omega)
  all_goals (((with_reducible first|apply zi|apply zc);exact rx);exact ⟨_,_,_,rfl,.inl rfl,xg⟩)
 | true =>
 rw [b1] at cb1 hwn
 rw [Bool.true_and] at hwn
 have cb2:=fun M'=>z0e La 0 60000 M'
 cases b2:btB La 0 60000 with
 | false =>
  rw [b2] at hwn cb2
  rw [hE0 (by rw [hwn];try simp)]
  (repeat' (first|(with_reducible intro _)|refine sv ?_|(refine sc ?_ ?_<;>(intro h;try first|exact h.elim|exact absurd rfl h|(exfalso;omega)))|((with_reducible first|apply zx|apply zu|apply zm);exact gd;exact rfl;exact rfl;(first|exact cb1 _|exact cb2 _))|((with_reducible first|apply z07|apply z06|apply zp);exact gd;exact rfl;exact rfl;(first|exact cc _ (xg)))|(refine sg ?_ ?_<;>(intro h;(fail_if_success (have:True:=h));try first|exact h.elim|exact absurd rfl h|(exfalso;omega)))|assumption|exact xm|exact rfl))
  all_goals try (exfalso;omega)
  all_goals (((with_reducible first|apply zi|apply zc);exact rx);exact ⟨_,_,_,rfl,.inl rfl,xg⟩)
 | true =>
 rw [b2] at cb2 hwn
 rw [Bool.true_and] at hwn
 have bd1:0<=F /\ F<=La:=by unfold btB at b1;exact of_decide_eq_true b1
 have bd2:0<=La /\ La<=60000:=by unfold btB at b2;exact of_decide_eq_true b2
 by_cases b3:La - F < 1000
 case neg =>
  rw [decide_eq_false b3] at hwn
  rw [hE0 (by rw [hwn];try simp)]
  (repeat' (first|(with_reducible intro _)|refine sv ?_|(refine sc ?_ ?_<;>(intro h;try first|exact h.elim|exact absurd rfl h|(exfalso;omega)))|((with_reducible first|apply zx|apply zu|apply zm);exact gd;exact rfl;exact rfl;(first|exact cb1 _|exact cb2 _))|((with_reducible first|apply z07|apply z06|apply zp);exact gd;exact rfl;exact rfl;(first|exact cc _ (xg)))|(refine sg ?_ ?_<;>(intro h;(fail_if_success (have:True:=h));try first|exact h.elim|exact absurd rfl h|(exfalso;omega)))|assumption|exact xm|exact rfl))
  all_goals try (exfalso;omega)
  all_goals (((with_reducible first|apply zi|apply zc);exact rx);exact ⟨_,_,_,rfl,.inl rfl,xg⟩)
 case pos =>
 rw [decide_eq_true b3,Bool.true_and] at hwn
 have cb4:=fun M'=>z0e Ch 1 24 M'
 cases b4:btB Ch 1 24 with
 | false =>
  rw [b4] at hwn cb4
  rw [hE0 (by rw [hwn];try simp)]
  (repeat' (first|(with_reducible intro _)|refine sv ?_|(refine sc ?_ ?_<;>(intro h;try first|exact h.elim|exact absurd rfl h|(exfalso;omega)))|((with_reducible first|apply zx|apply zu|apply zm);exact gd;exact rfl;exact rfl;(first|exact cb1 _|exact cb2 _|exact cb4 _))|((with_reducible first|apply z07|apply z06|apply zp);exact gd;exact rfl;exact rfl;(first|exact cc _ (xg)))|(refine sg ?_ ?_<;>(intro h;(fail_if_success (have:True:=h));try first|exact h.elim|exact absurd rfl h|(exfalso;omega)))|assumption|exact xm|exact rfl))
  all_goals try (exfalso;omega)
  all_goals (((with_reducible first|apply zi|apply zc);exact rx);exact ⟨_,_,_,rfl,.inl rfl,xg⟩)
 | true =>
 rw [b4] at cb4 hwn
 rw [Bool.true_and] at hwn
 have cb5:=fun M'=>z0e Sm 1 64 M'
 cases b5:btB Sm 1 64 with
 | false =>
  rw [b5] at hwn cb5
  rw [hE0 (by rw [hwn];try simp)]
  (repeat' (first|(with_reducible intro _)|refine sv ?_|(refine sc ?_ ?_<;>(intro h;try first|exact h.elim|exact absurd rfl h|(exfalso;omega)))|((with_reducible first|apply zx|apply zu|apply zm);exact gd;exact rfl;exact rfl;(first|exact cb1 _|exact cb2 _|exact cb4 _|exact cb5 _))|((with_reducible first|apply z07|apply z06|apply zp);exact gd;exact rfl;exact rfl;(first|exact cc _ (xg)))|(refine sg ?_ ?_<;>(intro h;(fail_if_success (have:True:=h));try first|exact h.elim|exact absurd rfl h|(exfalso;omega)))|assumption|exact xm|exact rfl))
  all_goals try (exfalso;omega)
  all_goals (((with_reducible first|apply zi|apply zc);exact rx);exact ⟨_,_,_,rfl,.inl rfl,xg⟩)
 | true =>
 rw [b5] at cb5 hwn
 rw [Bool.true_and] at hwn
 have cb6:=fun M'=>z0e Mo 0 24 M'
 cases b6:btB Mo 0 24 with
 | false =>
  rw [b6] at hwn cb6
  rw [hE0 (by rw [hwn];try simp)]
  (repeat' (first|(with_reducible intro _)|refine sv ?_|(refine sc ?_ ?_<;>(intro h;try first|exact h.elim|exact absurd rfl h|(exfalso;omega)))|((with_reducible first|apply zx|apply zu|apply zm);exact gd;exact rfl;exact rfl;(first|exact cb1 _|exact cb2 _|exact cb4 _|exact cb5 _|exact cb6 _))|((with_reducible first|apply z07|apply z06|apply zp);exact gd;exact rfl;exact rfl;(first|exact cc _ (xg)))|(refine sg ?_ ?_<;>(intro h;(fail_if_success (have:True:=h));try first|exact h.elim|exact absurd rfl h|(exfalso;omega)))|assumption|exact xm|exact rfl))
  all_goals try (exfalso;omega)
  all_goals (((with_reducible first|apply zi|apply zc);exact rx);exact ⟨_,_,_,rfl,.inl rfl,xg⟩)
 | true =>
 rw [b6] at cb6 hwn
 have bd4:1<=Ch /\ Ch<=24:=by unfold btB at b4;exact of_decide_eq_true b4
 have bd5:1<=Sm /\ Sm<=64:=by unfold btB at b5;exact of_decide_eq_true b5
 have bd6:0<=Mo /\ Mo<=24:=by unfold btB at b6;exact of_decide_eq_true b6
 rw [hE1 hwn]
 obtain ⟨sm,rfl⟩:∃ sm:Nat,Sm=sm:=⟨Sm.toNat,by omega⟩
 clear hE0 hE1 PF
 have hfr:=fun k (hk:k < r.2.length)=>hin.fr hk
 have hlen:=hin.2.1
 generalize r.2=L at *
 generalize r.1=nm at *
 (repeat' (first|(with_reducible intro _)|refine sv ?_|(refine sc ?_ ?_<;>(intro h;try first|exact h.elim|exact absurd rfl h|(exfalso;omega)))|((with_reducible first|apply zx|apply zu|apply zm);exact gd;exact rfl;exact rfl;(first|exact cb1 _|exact cb2 _|exact cb4 _|exact cb5 _|exact cb6 _))|((with_reducible first|apply z07|apply z06|apply zp);exact gd;exact rfl;exact rfl;(first|exact cc _ (xg)))|(refine sg ?_ ?_<;>(intro h;(fail_if_success (have:True:=h));try first|exact h.elim|exact absurd rfl h|(exfalso;omega)))|assumption|exact xm|exact rfl))
 all_goals try (exfalso;omega)
 rename_i n1 M1 hN1 e1 e2 n2 M2 hN2 e3 e4 M3 hg3 e5 h0 h1 n4 M4 hN4 e6 e7
 have hA2:At M4 n2 (.cells true [I F,I La,I Ch,I sm,I Mo] 26):=xm
 have hg4:Grow M M4:=xg
 have hm4:=MpI.nil (ev:=I) hN4
 have hl1:M.next<=n1 /\ n1 < n4 /\ n2 < n4 /\ n4 < M4.next:=by omega
 clear hN1 hN2 hg3 hN4 cb1 cb2 cb4 cb5 cb6 b1 b2 b4 b5 b6 cc e1 e2 e3 e4 e5 e6 e7 h0 h1
 refine zg (fun z E ms M'=>∃ (k:Nat) (D:List (Int × Int)),z=L.length - k /\ k<=L.length /\ ms=[] /\ Has E [(3,.ptr (some (n2,0))),(7,.map (some n4)),(57,.slice a L.length f e),(58,I L.length),(59,I k)] /\ Keep (fun i=>i=n4) M4 M' /\ MpI I M' n4 D /\ ∀ c,lk D c=gq L Ch sm k c)
  ?_ L.length _ _ _ ⟨0,[],by omega,by omega,rfl,.cons rfl (.cons rfl (.cons rfl (.cons rfl (.cons rfl .nil)))),Keep.refl _ _,hm4,fun c=>rfl⟩
 rintro z E ms M5 ⟨k,D,rfl,hk,rfl,hE,hk5,hm5,hD⟩
 refine z02 hE ?_
 have hle5:=hk5.le
 have hg5:Grow M M5:=Keep.to_grow' hg4 hk5 (fun i hi=>by omega)
 have hB2:At M5 n2 (.cells true [I F,I La,I Ch,I sm,I Mo] 26):=hA2.keep hk5 (by omega)
 have hs5:=hs.grow hg5
 clear hA2 hg4
 by_cases hlast:k=L.length
 ·subst hlast
  have hle9:=hm5.lt
  obtain ⟨N,hN⟩:∃ N:Nat,(N:Int)=La - F+1:=⟨(La - F+1).toNat,by omega⟩
  have hNN:(La - F+1).toNat=N:=by omega
  rw [hNN]
  (repeat' (first|(with_reducible intro _)|refine sv ?_|(refine sc ?_ ?_<;>(intro h;try first|exact h.elim|exact absurd rfl h|(exfalso;omega)))|(refine sg ?_ ?_<;>(intro h;(fail_if_success (have:True:=h));try first|exact h.elim|exact absurd rfl h|(exfalso;omega)))|assumption|exact xm|exact rfl))
  refine zg (fun z E ms M'=>∃ (c:Nat) (v:LV),z=N - c /\ c<=N /\ ms=[] /\ Has E [(3,.ptr (some (n2,0))),(7,.map (some n4)),(10,v),(11,I (F+c))] /\ Vec M5.next 1 3 intc M' v (poorL L (F,La,Ch,sm,Mo) c) /\ Grow M5 M' /\ M5.next<=M'.next)
   ?_ N _ _ _ ⟨0,_,by omega,by omega,rfl,.cons rfl (.cons rfl (.cons rfl (.cons (by show some (I _)=some (I _);simp) .nil))),Vec.nil,Grow.refl _,Nat.le_refl _⟩
  rintro z E ms M6 ⟨c,v,rfl,hc,rfl,hE,hv6,hg6,hle6⟩
  refine z02 hE ?_
  have hB6:=At.grow hg6 hB2
  by_cases hlast:c=N
  ·subst hlast
   (repeat' (first|(with_reducible intro _)|refine sv ?_|(refine sc ?_ ?_<;>(intro h;try first|exact h.elim|exact absurd rfl h|(exfalso;omega)))|(refine sg ?_ ?_<;>(intro h;(fail_if_success (have:True:=h));try first|exact h.elim|exact absurd rfl h|(exfalso;omega)))|assumption|exact xm|exact rfl))
   all_goals try (exfalso;omega)
   ((with_reducible first|apply zi|apply zc);exact rx)
   obtain ⟨a3,f3,e3,rfl,hs3⟩:=SlI.vec hv6
   exact ⟨_,_,_,rfl,hs3,hg5.trans hg6⟩
  have hlt:c < N:=by omega
  have hm6:=hm5.grow hg6
  have hst:=z9x L (F,La,Ch,sm,Mo) c
  have hlen6:=z7g L (F,La,Ch,sm,Mo) c
  have hpq:pq L (F,La,Ch,(sm:Int),Mo) (F+c)=decide (Ch - gqN L Ch sm L.length (F+c) > Mo):=rfl
  have hqb:=zgv L Ch sm (F+c) L.length
  have hlk:lkV (β:=Int) I (I 0) (lk D (F+c))=I (gqN L Ch sm L.length (F+c)):=by rw [zoy,hD];rfl
  rw [hpq] at hst
  generalize gqN L Ch sm L.length (F+c)=Q at *
  (repeat' (first|(with_reducible intro _)|refine sv ?_|(refine sc ?_ ?_<;>(intro h;try first|exact h.elim|exact absurd rfl h|(exfalso;omega)))|(refine sg ?_ ?_<;>(intro h;(fail_if_success (have:True:=h));try first|exact h.elim|exact absurd rfl h|(exfalso;omega)))|assumption|exact xm|exact rfl))
  all_goals try (exfalso;omega)
  refine z7t (by exact gd) (MpI.look1 hm6 rfl rfl) ?_
  rw [hlk]
  by_cases hd9:Ch - Q > Mo
  ·rw [decide_eq_true hd9] at hst
   (repeat' (first|(with_reducible intro _)|refine sv ?_|(refine sc ?_ ?_<;>(intro h;try first|exact h.elim|exact absurd rfl h|(exfalso;omega)))|(refine sg ?_ ?_<;>(intro h;(fail_if_success (have:True:=h));try first|exact h.elim|exact absurd rfl h|(exfalso;omega)))|assumption|exact xm|exact rfl))
   all_goals try (exfalso;omega)
   rename_i m9 M9 hN9 e8 e9
   have hv9:=hv6.grow hN9.grow
   refine z7u (by exact gd) (l':=[F+(c:Int)]) hv9 rfl rfl rfl (by simp) (by rw [List.length_singleton];omega) rfl (zbi hN9) (fun _=>rfl) (fun _=>rfl) (by omega) ?_
   intro v' M10 hv10 e10 hk10
   have hg10:Grow M5 M10:=Keep.to_grow' (hg6.trans hN9.grow) hk10 (fun i hi=>hi.1)
   (repeat' (first|(with_reducible intro _)|refine sv ?_|(refine sc ?_ ?_<;>(intro h;try first|exact h.elim|exact absurd rfl h|(exfalso;omega)))|(refine sg ?_ ?_<;>(intro h;(fail_if_success (have:True:=h));try first|exact h.elim|exact absurd rfl h|(exfalso;omega)))|assumption|exact xm|exact rfl))
   refine zk (N - (c+1)) (by omega) ⟨c+1,v',rfl,by omega,rfl,.cons rfl (.cons rfl (.cons rfl (.cons ?_ .nil))),by rw [hst];exact hv10,hg10,by omega⟩
   show some (I _)=some (I _)
   rw [show F+((c+1:Nat):Int)=F+c+1 by omega]
  ·rw [decide_eq_false hd9] at hst
   (repeat' (first|(with_reducible intro _)|refine sv ?_|(refine sc ?_ ?_<;>(intro h;try first|exact h.elim|exact absurd rfl h|(exfalso;omega)))|(refine sg ?_ ?_<;>(intro h;(fail_if_success (have:True:=h));try first|exact h.elim|exact absurd rfl h|(exfalso;omega)))|assumption|exact xm|exact rfl))
   all_goals try (exfalso;omega)
   refine zk (N - (c+1)) (by omega) ⟨c+1,v,rfl,by omega,rfl,.cons rfl (.cons rfl (.cons rfl (.cons ?_ .nil))),by rw [hst];simpa using hv6,hg6,hle6⟩
   show some (I _)=some (I _)
   rw [show F+((c+1:Nat):Int)=F+c+1 by omega]
 have hlt:k < L.length:=by omega
 obtain ⟨i,o,b,g,rfl,hr,hsl⟩:=hs5.rd hlt
 have hfi:=hfr k hlt
 have hst:=gq_s L Ch sm k
 have hgd:gdF Ch sm (fe L k)=(decide ((fe L k).2.1 < Ch) && (decide (sm<=(fe L k).2.2.length) && ((fe L k).2.2.take sm).all knB)):=rfl
 have hqb:=zgv L Ch sm (fe L k).1 k
 have hlk:lkV (β:=Int) I (I 0) (lk D (fe L k).1)=I (gqN L Ch sm k (fe L k).1):=by rw [zoy,hD];rfl
 have hno9:gdF Ch sm (fe L k)=false->∀ c,lk D c=gq L Ch sm (k+1) c:=fun hh c=>by rw [hst,hh,hD];simp
 have hyes9:gdF Ch sm (fe L k)=true->∀ c,lk (stM D (fe L k).1 (gqN L Ch sm k (fe L k).1+1)) c=gq L Ch sm (k+1) c:=fun hh c=>by
  rw [hst,hh,zoz,hD]
  unfold gqN
  by_cases hc:c=(fe L k).1
  ·subst hc;simp
  ·simp [hc]
 clear hst
 generalize gqN L Ch sm k (fe L k).1=Q at *
 generalize gdF Ch sm (fe L k)=GD at *
 obtain ⟨-,-,hS9,-⟩:=hfi
 generalize (fe L k).1=s1 at *
 generalize (fe L k).2.1=s2 at *
 generalize (fe L k).2.2=S at *
 by_cases hc1:s2 < Ch
 case neg =>
  rw [decide_eq_false hc1,Bool.false_and] at hgd
  (have hrd0:=hr;repeat' (first|(with_reducible intro _)|refine sv ?_|(refine sc ?_ ?_<;>(intro h;try first|exact h.elim|exact absurd rfl h|(exfalso;omega)))|(refine sg ?_ ?_<;>(intro h;(fail_if_success (have:True:=h));try first|exact h.elim|exact absurd rfl h|(exfalso;omega)))|assumption|exact xm|exact rfl))
  all_goals try (exfalso;omega)
  rename_i m6 M6 hN6 q1 q2 M7 hU7 q3 hA7 hx9
  have hg7:Grow M5 M7:=xg
  exact zk (L.length - (k+1)) (by omega) ⟨k+1,D,rfl,by omega,rfl,.cons rfl (.cons rfl (.cons rfl (.cons rfl (.cons rfl .nil)))),xk,hm5.grow hg7,hno9 hgd⟩
 rw [decide_eq_true hc1,Bool.true_and] at hgd
 by_cases hc2:sm<=S.length
 case neg =>
  rw [decide_eq_false hc2,Bool.false_and] at hgd
  (have hrd0:=hr;repeat' (first|(with_reducible intro _)|refine sv ?_|(refine sc ?_ ?_<;>(intro h;try first|exact h.elim|exact absurd rfl h|(exfalso;omega)))|(refine sg ?_ ?_<;>(intro h;(fail_if_success (have:True:=h));try first|exact h.elim|exact absurd rfl h|(exfalso;omega)))|assumption|exact xm|exact rfl))
  all_goals try (exfalso;omega)
  rename_i m6 M6 hN6 q1 q2 M7 hU7 q3 hA7 hx8 hx9
  have hg7:Grow M5 M7:=xg
  exact zk (L.length - (k+1)) (by omega) ⟨k+1,D,rfl,by omega,rfl,.cons rfl (.cons rfl (.cons rfl (.cons rfl (.cons rfl .nil)))),xk,hm5.grow hg7,hno9 hgd⟩
 rw [decide_eq_true hc2,Bool.true_and] at hgd
 have hct:∀ M',Grow M5 M'->∀ (b':Option (Nat × Nat)) (g':Bool) (u':Nat),SlI M' b' (S.take sm)->CallOk Tryz.prog 14 [.slice b' sm g' u',.func (.func 15) [] []] M' (fun w M''=>w=.bool (!(S.take sm).all knB) /\ M''=M'):=fun M' hg b' g' u' hsl'=>by
  have hl:(S.take sm).length=sm:=by rw [List.length_take];omega
  have:=z8b (f:=g') (e:=u') (g:=15) (fi:=[]) (ca:=[]) (M:=M') (fun n=>!knB n) (by omega) hsl' (fun n _=>zga n M') (fun n _ M2 _=>zga n M2)
  rw [zg2,hl] at this;exact this
 (have hrd0:=hr;repeat' (first|(with_reducible intro _)|refine sv ?_|(refine sc ?_ ?_<;>(intro h;try first|exact h.elim|exact absurd rfl h|(exfalso;omega)))|(refine sg ?_ ?_<;>(intro h;(fail_if_success (have:True:=h));try first|exact h.elim|exact absurd rfl h|(exfalso;omega)))|assumption|exact xm|exact rfl))
 all_goals try (exfalso;omega)
 rename_i m6 M6 hN6 q1 q2 M7 hU7 q3 hA7 hx8
 have hg7:Grow M5 M7:=xg
 obtain ⟨b8,g8,u8,hsc,hst8⟩:=zkh (f:=g) (hsl.grow hg7) hc2
 refine z7t (by exact gd) (zl1 hsc rfl rfl) ?_
 have hct7:=hct M7 hg7 b8 g8 u8 hst8
 have hm7:=hm5.grow hg7
 have hk7:Keep (fun i=>i=n4) M4 M7:=xk
 generalize (S.take sm).all knB=A9 at *
 cases A9 with
 | false =>
  (repeat' (first|(with_reducible intro _)|refine sv ?_|(refine sc ?_ ?_<;>(intro h;try first|exact h.elim|exact absurd rfl h|(exfalso;omega)))|((with_reducible first|apply zx|apply zu|apply zm);exact gd;exact rfl;exact rfl;(first|exact hct7))|(refine sg ?_ ?_<;>(intro h;(fail_if_success (have:True:=h));try first|exact h.elim|exact absurd rfl h|(exfalso;omega)))|assumption|exact xm|exact rfl))
  exact zk (L.length - (k+1)) (by omega) ⟨k+1,D,rfl,by omega,rfl,.cons rfl (.cons rfl (.cons rfl (.cons rfl (.cons rfl .nil)))),hk7,hm7,hno9 hgd⟩
 | true =>
  (repeat' (first|(with_reducible intro _)|refine sv ?_|(refine sc ?_ ?_<;>(intro h;try first|exact h.elim|exact absurd rfl h|(exfalso;omega)))|((with_reducible first|apply zx|apply zu|apply zm);exact gd;exact rfl;exact rfl;(first|exact hct7))|(refine sg ?_ ?_<;>(intro h;(fail_if_success (have:True:=h));try first|exact h.elim|exact absurd rfl h|(exfalso;omega)))|assumption|exact xm|exact rfl))
  refine z7t (by exact gd) (MpI.look1 hm7 rfl rfl) ?_
  rw [hlk]
  (repeat' (first|(with_reducible intro _)|refine sv ?_|(refine sc ?_ ?_<;>(intro h;try first|exact h.elim|exact absurd rfl h|(exfalso;omega)))|(refine sg ?_ ?_<;>(intro h;(fail_if_success (have:True:=h));try first|exact h.elim|exact absurd rfl h|(exfalso;omega)))|assumption|exact xm|exact rfl))
  refine zkt (v:=Q+1) (by exact gd) hm7 rfl rfl rfl ?_
  intro lb M9 hU9 e9 hm9
  have hk9:Keep (fun i=>i=n4) M4 M9:=xk
  (repeat' (first|(with_reducible intro _)|refine sv ?_|(refine sc ?_ ?_<;>(intro h;try first|exact h.elim|exact absurd rfl h|(exfalso;omega)))|(refine sg ?_ ?_<;>(intro h;(fail_if_success (have:True:=h));try first|exact h.elim|exact absurd rfl h|(exfalso;omega)))|assumption|exact xm|exact rfl))
  exact zk (L.length - (k+1)) (by omega) ⟨k+1,_,rfl,by omega,rfl,.cons rfl (.cons rfl (.cons rfl (.cons rfl (.cons rfl .nil)))),hk9,hm9,hyes9 hgd⟩
end Go.Proofs.YtbmgeagllpganaaGreatDoor.C
end
section
open Go PvL Go.Proofs
set_option linter.unusedSimpArgs false
set_option linter.unusedVariables false
variable {μ:Md}
namespace Go.Proofs.YtbmgeagllpganaaGreatDoor.C
theorem Vec.ge {α:Type} {b sz:Nat} {ty:TypeId} {enc:α->List LV} {M:Mem} {v:LV} {l:List α} (h:Vec b sz ty enc M v l) {i o n e:Nat} {f:Bool} (hv:v=.slice (some (i,o)) n f e):b<=i:=by
 rcases h with ⟨_,rfl⟩|⟨j,rfl,_,h3⟩
 ·cases hv
 ·cases hv;exact h3
theorem Vec.blt {α:Type} {b sz:Nat} {ty:TypeId} {enc:α->List LV} {M:Mem} {v:LV} {l:List α} (h:Vec b sz ty enc M v l) {i o n e:Nat} {f:Bool} (hv:v=.slice (some (i,o)) n f e):i < M.next:=by
 rcases h with ⟨_,rfl⟩|⟨j,rfl,h2,_⟩
 ·cases hv
 ·cases hv;exact h2.2
section
variable {α:Type} {b sz:Nat} {ty:TypeId} {enc:α->List LV} {M:Mem} {v:LV} {l:List α}
theorem Vec.appx {P:Program} [Orc P] {E:Env} {s x:XO} {by':Nat} {z:List LV} {l':List α} {xv:LV} (h:Vec b sz ty enc M v l) (hs:xval E s=some v) (hx:xval E x=some xv) (hn:lenOfL xv=some l'.length) (h0:0 < l'.length)
  (hb:(2*(l.length+l'.length)+2048)*by'<=140737488355328) (hz:(Nat.ble 1 sz && (Nat.ble 1 by' && Nat.beq z.length sz))=true) (hw:firstL sz l'.length xv M=some (l'.flatMap enc))
  (henc:∀ x,(enc x).length=sz) (hfl:∀ x,allFlat (enc x)=true) (hbM:b<=M.next) :
  ∃ v' M',xstep P (.app ty sz by' z s x) E M=some (.val v' M') /\ Vec b sz ty enc M' v' (l ++ l') /\ M'.next=M.next+1 /\ Keep (fun i=>b<=i /\ ∃ o n f e,v=.slice (some (i,o)) n f e) M M' /\ ∃ n f e,v'=.slice (some (M.next,0)) n f e:=by
 have hf:=z2t (l:=l') (enc:=enc) (fun x _=>hfl x)
 rcases h with ⟨rfl,rfl⟩|⟨i,rfl,h2,h3⟩
 ·refine ⟨_,_,z93 hs hx hn h0 (by simpa using hb) hz rfl hw hf (.inl rfl),.inr ⟨M.next,?_,?_,hbM⟩,rfl,?_,_,_,_,rfl⟩
  ·rw [List.nil_append,Nat.zero_add]
  ·rw [List.nil_append,List.nil_append];exact ⟨by rw [Mem.get_push,if_pos rfl],Nat.lt_succ_self _⟩
  ·have hN:New M M.next (.cells true ([] ++ l'.flatMap enc) (apE ty)) (M.push (.cells true ([] ++ l'.flatMap enc) (apE ty))):=⟨rfl,rfl⟩
   exact hN.grow.to_keep _
 ·have ho:firstL sz l.length (.slice (some (i,0)) l.length false sz) M=some (l.flatMap enc):=by
   rw [z2x h2 (by rw [z1j (fun x _=>henc x)];omega),List.drop_zero,List.take_of_length_le (by rw [z1j (fun x _=>henc x)];omega)]
  have hK:Kill M i M.next (.cells true (l.flatMap enc ++ l'.flatMap enc) (apE ty)) ((M.upd i none).push (.cells true (l.flatMap enc ++ l'.flatMap enc) (apE ty))):=⟨rfl,rfl⟩
  refine ⟨_,_,z7w hs hx hn h0 hb hz ho hw hf h2 (by rw [show Nat.beq (apE ty) (apE ty)=true by simp,Bool.or_true]),.inr ⟨M.next,by rw [List.length_append],?_,hbM⟩,hK.next,hK.keep.weaken fun j hj=>?_,_,_,_,rfl⟩
  ·rw [List.flatMap_append];exact hK.same
  ·subst hj;exact ⟨h3,_,_,_,_,rfl⟩
end
def FwN (N:Nat->Prop) (M:Mem) (x:FW) (f:Fr):Prop:=x.1=fky f /\ x.2.2.1=f.2.2.length /\ (f.2.2=[] ∨ ∃ i o,x.2.1=some (i,o) /\ ¬ N i /\ ∀ k (hk:k < f.2.2.length),Rd1 M i (o+k*1) (I f.2.2[k]))
inductive FwLN (N:Nat->Prop) (M:Mem):List FW->List Fr->Prop
 | nil:FwLN N M [] []
 | cons {x:FW} {f:Fr} {xs:List FW} {fs:List Fr} (h:FwN N M x f) (h':FwLN N M xs fs):FwLN N M (x :: xs) (f :: fs)
theorem FwN.keep {N F:Nat->Prop} {M M':Mem} {x:FW} {f:Fr} (h:FwN N M x f) (hk:Keep F M M') (hF:∀ i,F i->N i):FwN N M' x f :=
 ⟨h.1,h.2.1,h.2.2.imp id fun ⟨i,o,h1,h2,h3⟩=>⟨i,o,h1,h2,fun k hk'=>(h3 k hk').keep hk (fun hf=>h2 (hF i hf))⟩⟩
theorem FwN.ge {N N':Nat->Prop} {M:Mem} {x:FW} {f:Fr} (h:FwN N M x f) (hb:∀ i,N' i->N i ∨ M.next<=i):FwN N' M x f:=by
 refine ⟨h.1,h.2.1,?_⟩
 rcases h.2.2 with h0|⟨i,o,h1,h2,h3⟩
 ·exact .inl h0
 ·by_cases h0:f.2.2=[]
  ·exact .inl h0
  ·refine .inr ⟨i,o,h1,fun hN=>?_,h3⟩
   have:=(h3 0 (List.length_pos_iff.2 h0)).2
   rcases hb i hN with h|h
   ·exact h2 h
   ·omega
theorem FwLN.keep {N F:Nat->Prop} {M M':Mem} {xs:List FW} {fs:List Fr} (h:FwLN N M xs fs) (hk:Keep F M M') (hF:∀ i,F i->N i):FwLN N M' xs fs:=by
 induction h with
 | nil=>exact .nil
 | cons h _ ih=>exact .cons (h.keep hk hF) ih
theorem FwLN.ge {N N':Nat->Prop} {M:Mem} {xs:List FW} {fs:List Fr} (h:FwLN N M xs fs) (hb:∀ i,N' i->N i ∨ M.next<=i):FwLN N' M xs fs:=by
 induction h with
 | nil=>exact .nil
 | cons h _ ih=>exact .cons (h.ge hb) ih
theorem FwLN.snoc {N:Nat->Prop} {M:Mem} {xs:List FW} {fs:List Fr} {x:FW} {f:Fr} (h:FwLN N M xs fs) (h':FwN N M x f):FwLN N M (xs ++ [x]) (fs ++ [f]):=by
 induction h with
 | nil=>exact .cons h' .nil
 | cons h _ ih=>exact .cons h ih
theorem FwLN.l {N:Nat->Prop} {M:Mem} {xs:List FW} {fs:List Fr} (h:FwLN N M xs fs):FwL M xs fs:=by
 induction h with
 | nil=>exact .nil
 | cons h _ ih=>exact .cons ⟨h.1,h.2.1,h.2.2.imp id fun ⟨i,o,h1,_,h3⟩=>⟨i,o,h1,h3⟩⟩ ih
theorem FwN.vec {N:Nat->Prop} {b:Nat} {ty:TypeId} {M:Mem} {v:LV} {f:Fr} (h:Vec b 1 ty intc M v f.2.2) (hN:∀ i,N i->i < b):∃ a g e,v=.slice a f.2.2.length g e /\ FwN N M (fky f,a,f.2.2.length,g,e) f:=by
 rcases h with ⟨h0,rfl⟩|⟨i,rfl,h2,h3⟩
 ·exact ⟨none,true,0,by rw [h0];rfl,rfl,rfl,.inl h0⟩
 ·exact ⟨_,_,_,rfl,rfl,rfl,.inr ⟨i,0,rfl,fun hn=>by have:=hN i hn;omega,fun k hk=>z7j (z1s (enc:=intc) h2 (fun _ _=>rfl) hk)⟩⟩
theorem zey {α:Type} {b sz:Nat} {ty:TypeId} {enc:α->List LV} {M:Mem} {v:LV} {l:List α} {P:Program} [Orc P] {s0:Nat} {E:Env} {K:Env->Mem->Prop} {ld:List (XG × XK)} {d:Nat} {g:Option (Nat × Bool)} {s x:XO} {by':Nat} {z:List LV} {l':List α} {xv:LV} {st:List Mem} {k:Nat} {xs:List (Nat × Nat × (Mem->Prop))} (hg:GOn E g) (hv:Vec b sz ty enc M v l) (hs:xval E s=some v) (hx:xval E x=some xv) (hn:lenOfL xv=some l'.length) (h0:0 < l'.length) (hb:(2*(l.length+l'.length)+2048)*by'<=140737488355328) (hz:(Nat.ble 1 sz && (Nat.ble 1 by' && Nat.beq z.length sz))=true) (hw:firstL sz l'.length xv M=some (l'.flatMap enc))
  (henc:∀ x,(enc x).length=sz) (hfl:∀ x,allFlat (enc x)=true) (hbM:b<=M.next) (hk:∀ v' M',Vec b sz ty enc M' v' (l ++ l')->M'.next=M.next+1->Keep (fun i=>b<=i /\ ∃ o n f e,v=.slice (some (i,o)) n f e) M M'->(∃ n f e,v'=.slice (some (M.next,0)) n f e)->XD P s0 ld ((d,v') :: E) M' (M' :: st) (k+1) xs K):XD P s0 ((⟨some d,.app ty sz by' z s x,g⟩,.anchor) :: ld) E M st k xs K:=by
 obtain ⟨v',M',h1,h2,h3,h4,h5⟩:=Vec.appx (P:=P) hv hs hx hn h0 hb hz hw henc hfl hbM
 exact zlc hg h1 (hk v' M' h2 h3 h4 h5)
def NV (v:LV) (i:Nat):Prop:=∃ o n f e,v=.slice (some (i,o)) n f e
theorem NV.lt {α:Type} {b sz:Nat} {ty:TypeId} {enc:α->List LV} {M:Mem} {v:LV} {l:List α} (h:Vec b sz ty enc M v l) {i:Nat} (hi:NV v i):i < M.next:=by
 obtain ⟨o,n,f,e,h1⟩:=hi
 exact Vec.blt h h1
theorem NV.nil {n:Nat} {f:Bool} {e i:Nat}:¬ NV (.slice none n f e) i:=fun ⟨o,n,f,e,h⟩=>by cases h
theorem NV.some {j o n:Nat} {f:Bool} {e i:Nat} (h:NV (.slice (some (j,o)) n f e) i):i=j:=by
 obtain ⟨_,_,_,_,h⟩:=h
 cases h;rfl
end Go.Proofs.YtbmgeagllpganaaGreatDoor.C
end
section
open Go PvL
set_option linter.unusedSimpArgs false
set_option linter.unusedVariables false
namespace Go.Proofs.YtbmgeagllpganaaGreatDoor.C
theorem z4h {L:List Fr} {sm:Nat} {s c:Int}:∀ {n:Nat},goodB L sm s n c=true ↔ ∃ k,k < n /\ gdS sm (fe L k)=true /\ mtB s c (fe L k)=true
 | 0=>⟨fun h=>(by cases h),fun ⟨k,h,_⟩=>absurd h (Nat.not_lt_zero _)⟩
 | n+1=>by
  rw [z9k,Bool.or_eq_true,Bool.and_eq_true,z4h]
  constructor
  ·rintro (⟨k,h1,h2⟩|h)
   ·exact ⟨k,by omega,h2⟩
   ·exact ⟨n,by omega,h⟩
  ·rintro ⟨k,h1,h2⟩
   by_cases hk:k=n
   ·subst hk;exact .inr h2
   ·exact .inl ⟨k,by omega,h2⟩
theorem zg5 {L L':List Fr} {sm:Nat} {s:Int} {n n':Nat} (h:∀ c:Nat,goodB L sm s n c=true->goodB L' sm s n' c=true):∀ c:Nat,badN L' sm s n' c<=badN L sm s n c
 | 0=>Int.le_refl _
 | c+1=>by
  have ih:=zg5 h c
  rw [z5n,z5n]
  cases h1:goodB L sm s n c with
  | false=>split<;>simp<;>omega
  | true=>rw [h c h1];simpa using ih
theorem z35 {l:List Int}:∀ {n:Nat},allK l n=true ↔ ∀ k,k < n->knB (getG l k)=true
 | 0=>⟨fun _ k h=>absurd h (Nat.not_lt_zero _),fun _=>rfl⟩
 | n+1=>by
  rw [zl5,Bool.and_eq_true,z35]
  constructor
  ·rintro ⟨h1,h2⟩ k hk
   by_cases he:k=n
   ·subst he;exact h2
   ·exact h1 k (by omega)
  ·intro h;exact ⟨fun k hk=>h k (by omega),h n (by omega)⟩
theorem zf9 {u v:Int} (hv:knB v=true) (hu:u ≠ 40001) (h:joinI u v=u):knB u=true:=by
 have hv2:v ≠ 40000:=by rintro rfl;exact absurd hv (by decide)
 unfold joinI at h
 split at h
 ·rename_i h1
  rcases h1 with h1|h1
  ·rw [h1];exact hv
  ·exact absurd h1 hv2
 ·split at h
  ·rename_i h1 h2
   exact absurd (by rw [h,h2]) hv2
  ·exact absurd h.symm hu
theorem zg0 {y f:List Int} {n:Nat} (hf:allK f n=true) (hb:bothL y f=y) (ht:40001 ∉ y):allK y n=true:=by
 rw [z35] at hf ⊢
 intro k hk
 refine zf9 (hf k hk) (fun h=>?_) (by rw [<-z1k,hb])
 by_cases hl:k < y.length
 ·rw [z11 hl] at h
  exact ht (by rw [<-h];exact List.getElem_mem hl)
 ·rw [z2h (by omega)] at h;exact absurd h (by decide)
theorem zhz {a b:List Fr} {w:Wn} {s:Int} (ha:GdL a) (hb:GdL b) (hw:wnB w=true) (ht:∀ y ∈ jnL a b,40001 ∉ y.2.2) (h:pq (jnL a b) w s=true):pq a w s=true:=by
 have hj:=(z5v ha hb).1
 rw [zna (hj.rlK _ (Nat.le_refl _)) hw,decide_eq_true_eq] at h
 rw [zna (ha.rlK _ (Nat.le_refl _)) hw,decide_eq_true_eq]
 have:=zg5 (L:=a) (L':=jnL a b) (sm:=w.2.2.2.1.toNat) (s:=s) (n:=a.length) (n':=(jnL a b).length) (fun c hc=>by
  obtain ⟨k,hk,h1,h2⟩:=z4h.1 hc
  have hm:fe a k ∈ a:=by rw [z1z hk];exact List.getElem_mem hk
  obtain ⟨y,hy,hky,hby⟩:=zmr ha hb hm
  obtain ⟨n,hn,rfl⟩:=List.mem_iff_getElem.1 hy
  refine z4h.2 ⟨n,hn,?_,?_⟩
  ·rw [z1z hn]
   exact zg0 h1 hby (ht _ hy)
  ·rw [z1z hn]
   unfold mtB at h2 ⊢
   simp only [Bool.and_eq_true,decide_eq_true_eq] at h2 ⊢
   have e1:(fky (jnL a b)[n]).1=(fky (fe a k)).1:=congrArg Prod.fst hky
   have e2:(fky (jnL a b)[n]).2=(fky (fe a k)).2:=congrArg Prod.snd hky
   dsimp only at e1 e2
   omega) w.2.2.1.toNat
 omega
theorem z4s {L:List Fr} {w:Wn} {s:Int}:∀ {n:Nat},s ∈ poorL L w n ↔ ∃ i:Nat,i < n /\ s=w.1+i /\ pq L w s=true
 | 0=>⟨fun h=>absurd h List.not_mem_nil,fun ⟨i,h,_⟩=>absurd h (Nat.not_lt_zero _)⟩
 | n+1=>by
  rw [z9x,List.mem_append,z4s]
  constructor
  ·rintro (⟨i,h1,h2⟩|h)
   ·exact ⟨i,by omega,h2⟩
   ·split at h
    ·rename_i hp
     have:s=w.1+n:=by simpa using h
     exact ⟨n,by omega,this,by rw [this];exact hp⟩
    ·exact absurd h List.not_mem_nil
  ·rintro ⟨i,h1,h2,h3⟩
   by_cases hi:i=n
   ·subst hi
    right
    rw [if_pos (by rw [<-h2];exact h3),h2];simp
   ·exact .inl ⟨i,by omega,h2,h3⟩
theorem zhy {x y:Rl} {w:Wn} (h:mgOk x y) (hw:wnB w=true) (ht:∀ z ∈ jnL x.2 y.2,40001 ∉ z.2.2):∀ s ∈ (poorF (x.1,jnL x.2 y.2) w).1,s ∈ (poorF x w).1:=by
 intro s hs
 unfold poorF at *
 rw [if_pos (zdw h),if_pos hw] at hs
 rw [if_pos h.1,if_pos hw]
 obtain ⟨i,h1,h2,h3⟩:=z4s.1 hs
 exact z4s.2 ⟨i,h1,h2,zhz (err0 h.1).2.2 (err0 h.2.1).2.2 hw ht h3⟩
theorem z9w {x:Rl} {w:Wn} (h:(poorF x w).2=0):errRl x=0 /\ wnB w=true:=by
 unfold poorF at h
 by_cases h1:errRl x=0
 case neg=>rw [if_neg h1] at h;exact absurd h h1
 rw [if_pos h1] at h
 cases hw:wnB w with
 | true=>exact ⟨h1,rfl⟩
 | false =>
  rw [hw] at h
  have h:(84:Int)=0:=h
  exact absurd h (by decide)
theorem zka {x:Rl} {w:Wn} (h:errRl x=0) (hw:wnB w=true):(poorF x w).2=0:=by
 unfold poorF
 rw [if_pos h,if_pos hw]
end Go.Proofs.YtbmgeagllpganaaGreatDoor.C
end
section
open Go PvL Go.Proofs
set_option linter.unusedSimpArgs false
set_option linter.unusedVariables false
namespace Go.Proofs.YtbmgeagllpganaaGreatDoor.C
def dst (k j:Nat):Int:=if j<=k then (k:Int) - j else (j:Int) - k
def bndR (l:List Int) (d:Int) (k:Nat):Nat->Int × Int
 | 0=>(-32767,32767)
 | j+1=>if knB (getG l j) then (iMax (bndR l d k j).1 (getG l j - d*dst k j),iMin (bndR l d k j).2 (getG l j+d*dst k j)) else bndR l d k j
def bnd (l:List Int) (d:Int) (k:Nat):Int × Int:=bndR l d k l.length
def bndsL (l:List Int) (d:Int):List (Int × Int):=(List.range l.length).map (bnd l d)
def mag (x:Int):Int:=iMax x (-x)
def clJ (l:List Int) (d:Int) (i:Nat):Nat->Bool
 | 0=>false
 | j+1=>clJ l d i j || (knB (getG l i) && (knB (getG l j) && decide (d*((i:Int) - j) < mag (getG l i - getG l j))))
def clI (l:List Int) (d:Int):Nat->Bool
 | 0=>false
 | i+1=>clI l d i || clJ l d i i
def errL (l:List Int) (d:Int):Int:=if smsB l then (if btB d 0 65535 then (if l.any knB then (if clI l d l.length then 83 else 0) else 4) else 7) else 80
def fillF (l:List Int) (d:Int):List (Int × Int) × Int:=(if errL l d=0 then bndsL l d else [],errL l d)
theorem zll {d t:Int} (h1:0<=d) (h2:d<=65535) (h3:-64<=t) (h4:t<=64):-4194240<=d*t /\ d*t<=4194240:=by
 rcases Int.le_total 0 t with h|h
 ·have a:=Int.mul_le_mul h2 h4 h (by omega:(0:Int)<=65535)
  have b:=Int.mul_nonneg h1 h
  exact ⟨by omega,by omega⟩
 ·have a:=Int.mul_le_mul h2 (by omega:-t<=64) (by omega) (by omega:(0:Int)<=65535)
  have b:=Int.mul_nonneg h1 (by omega:0<=-t)
  rw [Int.mul_neg] at a b
  exact ⟨by omega,by omega⟩
def el (s:List Int) (i:Nat):Int:=s.getD i 0
theorem z4e {s:List Int} {i:Nat} (h:i < s.length):el s i=s[i]:=by unfold el;rw [List.getD_eq_getElem?_getD,List.getElem?_eq_getElem h];rfl
def okT (s:List Int):Nat->Bool
 | 0=>true
 | k+1=>okT s k && (btB (el s k) 0 60000 && (decide (k=0) || decide (el s (k - 1) < el s k)))
def okS (s:List Int) (a b:Int):Bool:=(decide (s.length<=128) && (btB a 0 1000 && btB b 1 1000)) && okT s s.length
theorem z9r {s:List Int}:∀ {k j:Nat},j<=k->okT s k=true->okT s j=true
 | 0,j,h,hk=>by obtain rfl:j=0:=by omega
                rfl
 | k+1,j,h,hk=>by
  by_cases he:j=k+1
  ·subst he;exact hk
  ·refine z9r (k:=k) (by omega) ?_
   have hk:(okT s k && _)=true:=hk
   rw [Bool.and_eq_true] at hk
   exact hk.1
theorem zp5 {s:List Int} {k i:Nat} (h:okT s k=true) (hi:i < k):0<=el s i /\ el s i<=60000:=by
 have h1:(okT s i && (btB (el s i) 0 60000 && _))=true:=z9r (j:=i+1) (by omega) h
 rw [Bool.and_eq_true,Bool.and_eq_true] at h1
 exact of_decide_eq_true h1.2.1
theorem zk2 {s:List Int} {k i:Nat} (h:okT s k=true) (hi:i+1 < k):el s i < el s (i+1):=by
 have h1:(okT s (i+1) && (btB (el s (i+1)) 0 60000 && (decide (i+1=0) || decide (el s (i+1 - 1) < el s (i+1)))))=true:=z9r (j:=i+1+1) (by omega) h
 rw [Bool.and_eq_true,Bool.and_eq_true,Bool.or_eq_true] at h1
 rcases h1.2.2 with h2|h2
 ·have:=of_decide_eq_true h2;omega
 ·exact of_decide_eq_true h2
theorem zhr {s:List Int} {n:Nat} (h:okT s n=true) {i:Nat}:∀ {k:Nat},i < k->k < n->el s i < el s k
 | 0,hi,_=>absurd hi (Nat.not_lt_zero _)
 | k+1,hi,hk=>by
  have h1:=zk2 h hk
  by_cases he:i=k
  ·subst he;exact h1
  ·exact Int.lt_trans (zhr h (k:=k) (by omega) (by omega)) h1
theorem zp6 {s:List Int} {n:Nat} (h:okT s n=true) {i k:Nat} (hi:i<=k) (hk:k < n):el s i<=el s k:=by
 by_cases he:i=k
 ·subst he;exact Int.le_refl _
 ·have:=zhr h (i:=i) (k:=k) (by omega) hk;omega
structure OkS (s:List Int) (a b:Int):Prop where
 len:s.length<=128
 a0:0<=a /\ a<=1000
 b0:1<=b /\ b<=1000
 t:okT s s.length=true
theorem zhq {s:List Int} {a b:Int} (h:okS s a b=true):OkS s a b:=by
 unfold okS at h
 rw [Bool.and_eq_true,Bool.and_eq_true,Bool.and_eq_true] at h
 exact ⟨of_decide_eq_true h.1.1,of_decide_eq_true h.1.2.1,of_decide_eq_true h.1.2.2,h.2⟩
theorem OkS.at {s:List Int} {a b:Int} (h:OkS s a b) {i:Nat} (hi:i < s.length):0<=el s i /\ el s i<=60000:=zp5 h.t hi
theorem OkS.lt {s:List Int} {a b:Int} (h:OkS s a b) {i k:Nat} (hi:i < k) (hk:k < s.length):el s i < el s k:=zhr h.t hi hk
theorem OkS.le {s:List Int} {a b:Int} (h:OkS s a b) {i k:Nat} (hi:i<=k) (hk:k < s.length):el s i<=el s k:=zp6 h.t hi hk
def spn (s:List Int) (i k:Nat):Int:=el s k - el s i+1
theorem OkS.spn {s:List Int} {a b:Int} (h:OkS s a b) {i k:Nat} (hi:i<=k) (hk:k < s.length):1<=spn s i k /\ spn s i k<=60001:=by
 have h1:=h.le hi hk
 have h2:=h.at hk
 have h3:=h.at (i:=i) (by omega)
 unfold C.spn;omega
theorem OkS.spn_lt {s:List Int} {a b:Int} (h:OkS s a b) {i k j:Nat} (hkj:k < j) (hj:j < s.length):C.spn s i k < C.spn s i j:=by
 have h1:=h.lt hkj hj
 unfold C.spn;omega
def seg (y:List Int) (i:Nat):Nat->Int
 | 0=>0
 | k+1=>seg y i k+el y (i+k)
def badR (s y:List Int) (a b:Int) (i:Nat):Nat->Bool
 | 0=>false
 | k+1=>badR s y a b i k || (decide (spn s i (i+k)<=b) && decide (seg y i (k+1) > a+spn s i (i+k)))
def badA (s y:List Int) (a b:Int):Nat->Bool
 | 0=>false
 | i+1=>badA s y a b i || badR s y a b i (s.length - i)
def inY (x:Int):Bool:=btB x 0 1048576
def prF (s y:List Int) (a b:Int):Int × Int :=
 if okS s a b then (if y.length=s.length then (if y.all inY then (if badA s y a b s.length then (0,85) else (seg y 0 y.length,0)) else (0,85)) else (0,85)) else (0,84)
theorem zae {s y:List Int} {a b:Int}:∀ {k j:Nat},j<=k->badA s y a b k=false->badA s y a b j=false
 | 0,j,h,hk=>by obtain rfl:j=0:=by omega
                rfl
 | k+1,j,h,hk=>by
  by_cases he:j=k+1
  ·subst he;exact hk
  ·have hk:(badA s y a b k || _)=false:=hk
   rw [Bool.or_eq_false_iff] at hk
   exact zae (k:=k) (by omega) hk.1
theorem zdc {s y:List Int} {a b:Int} {n i:Nat} (hi:i < n) (h:badR s y a b i (s.length - i)=true):badA s y a b n=true:=by
 cases hq:badA s y a b n with
 | true=>rfl
 | false =>
  have h1:(badA s y a b i || badR s y a b i (s.length - i))=false:=zae (j:=i+1) (by omega) hq
  rw [Bool.or_eq_false_iff,h] at h1
  exact absurd h1.2 (by decide)
theorem zai {s y:List Int} {a b:Int} {i:Nat}:∀ {k j:Nat},j<=k->badR s y a b i k=false->badR s y a b i j=false
 | 0,j,h,hk=>by obtain rfl:j=0:=by omega
                rfl
 | k+1,j,h,hk=>by
  by_cases he:j=k+1
  ·subst he;exact hk
  ·have hk:(badR s y a b i k || _)=false:=hk
   rw [Bool.or_eq_false_iff] at hk
   exact zai (k:=k) (by omega) hk.1
theorem zdd {s y:List Int} {a b:Int} {i k n:Nat} (hk:k < n) (h1:spn s i (i+k)<=b) (h2:seg y i (k+1) > a+spn s i (i+k)):badR s y a b i n=true:=by
 cases hq:badR s y a b i n with
 | true=>rfl
 | false =>
  have h3:(badR s y a b i k || (decide (spn s i (i+k)<=b) && decide (seg y i (k+1) > a+spn s i (i+k))))=false:=zai (j:=k+1) (by omega) hq
  rw [Bool.or_eq_false_iff,decide_eq_true h1,decide_eq_true h2] at h3
  exact absurd h3.2 (by decide)
theorem zm8 {s y:List Int} {a b:Int} {i k:Nat} (h:badR s y a b i k=false) (h2:¬ (spn s i (i+k)<=b /\ seg y i (k+1) > a+spn s i (i+k))):badR s y a b i (k+1)=false:=by
 show (badR s y a b i k || _)=false
 rw [h,Bool.false_or,<- Bool.decide_and,decide_eq_false h2]
theorem zl6 {y:List Int} (h:y.all inY=true) {i:Nat} (hi:i < y.length):0<=el y i /\ el y i<=1048576:=by
 rw [List.all_eq_true] at h
 have:=h (y[i]) (List.getElem_mem hi)
 rw [z4e hi]
 exact of_decide_eq_true this
theorem zm3 {y:List Int} {i:Nat} (hi:i < y.length) (h:inY (el y i)=false):y.all inY=false:=by
 cases hq:y.all inY with
 | false=>rfl
 | true =>
  have:=zl6 hq hi
  unfold inY btB at h
  rw [decide_eq_true this] at h
  exact absurd h (by decide)
theorem zls {y:List Int} (h:y.all inY=true) (i:Nat):∀ k,i+k<=y.length->0<=seg y i k /\ seg y i k<=1048576*k
 | 0,_=>by unfold seg;omega
 | k+1,hk=>by
  have h1:=zls h i k (by omega)
  have h2:=zl6 h (i:=i+k) (by omega)
  unfold seg
  omega
theorem zm4 {y:List Int} (h:∀ i,i < y.length->inY (el y i)=true):y.all inY=true:=by
 rw [List.all_eq_true]
 intro x hx
 obtain ⟨i,hi,rfl⟩:=List.getElem_of_mem hx
 rw [<-z4e hi];exact h i hi
end Go.Proofs.YtbmgeagllpganaaGreatDoor.C
end
