/-
 Part of the proof of TapeRicher: what functions of the program and of the statement come to,walked by the rules. No condition beyond those in each theorem.
-/
import Derived.Test.YtbfnnllgdioccaaGreatDoorTQ
import Derived.Test.YtbfnnllgdioccaaGreatDoorTR
section
open Go PvL Go.Proofs
variable {μ:Md}
set_option linter.unusedVariables false
set_option linter.unusedSimpArgs false
namespace Go.Proofs.YtbfnnllgdioccaaGreatDoor.C
theorem zfb {bs:List Nat} {i:Nat} (h:i < bs.length):bs[i]?=some (bs.getD i 0):=by
 rw [List.getD_eq_getElem?_getD,List.getElem?_eq_getElem h];rfl
theorem zaa {bs:List Nat} (hn:bs.Nodup) {i j:Nat} (hi:i < bs.length) (hj:j < bs.length) (he:bs[i]=bs[j]):i=j:=by
 unfold List.Nodup at hn
 rw [List.pairwise_iff_getElem] at hn
 rcases Nat.lt_trichotomy i j with h|h|h
 ·exact absurd he (hn i j hi hj h)
 ·exact h
 ·exact absurd he.symm (hn j i hj hi h)
set_option maxHeartbeats 4000000 in
theorem zlp {M:Mem} {pb r clk l:Nat} {ty:TypeId} {L:Mk} {bs:List Nat} (hpb:At M pb (.cells true [.map (some r)] ty)) (hm:At M r (.map (encK L) bs clk)) (hok:StOk bs clk L.length) (A:Nat->Prop) (Iv:List Nat->Mem->Prop)
  (hA:∀ i,A i->i ≠ r /\ i ≠ M.next)
  (stab:∀ is M1 M2,Iv is M1->M1.next<=M2.next->(∀ i,i < M1.next->i ≠ M.next->M2.get i=M1.get i)->Iv is M2)
  (step:∀ is i k v M1,is.Nodup->(∀ j ∈ is,j < L.length)->i ∉ is->L[i]?=some (k,v)->M.next < M1.next->Iv is M1->RoundOk Tryz.prog l [kyv k] M1 (fun w M2=>w=.bool true /\ Iv (is ++ [i]) M2 /\ Keep A M1 M2))
  (h0:Iv [] M) :
  CallN Tryz.prog 144 [.func (.yield l) [] [],.ptr (some (pb,0))] M (fun w M'=>∃ is,is.Nodup /\ (∀ i,i < L.length ↔ i ∈ is) /\ Iv is M' /\ M.next<=M'.next):=by
 refine z1w k144 rfl ?_
 dsimp only [x144,zipE,Nat.reduceAdd]
 (repeat' (first|(with_reducible intro _)|refine sv ?_|(refine sc ?_ ?_<;>(intro h;try first|exact h.elim|exact absurd rfl h|(exfalso;omega)))|(refine sg ?_ ?_<;>(intro h;(fail_if_success (have:True:=h));try first|exact h.elim|exact absurd rfl h|(exfalso;omega)))|assumption|exact xm|exact rfl))
 refine z49 (by exact gd) (zn8 rfl hm) ?_
 have hN:New M M.next (.iter (some r) clk [] clk) (M.push (.iter (some r) clk [] clk)):=⟨rfl,rfl⟩
 generalize M.push (.iter (some r) clk [] clk)=M1 at *
 have hit:=At.new_same hN
 have hm1:=At.new_old hN hm
 have hi1:=stab [] M M1 h0 (by rw [hN.next];omega) (fun i hi _=>hN.grow.old i hi)
 have hnx:=hN.next
 have hrl:=hm.2
 generalize hit0:M.next=it at *
 (repeat' (first|(with_reducible intro _)|refine sv ?_|(refine sc ?_ ?_<;>(intro h;try first|exact h.elim|exact absurd rfl h|(exfalso;omega)))|(refine sg ?_ ?_<;>(intro h;(fail_if_success (have:True:=h));try first|exact h.elim|exact absurd rfl h|(exfalso;omega)))|assumption|exact xm|exact rfl))
 refine z7 (fun z E ms M'=>∃ (is:List Nat) (last:Nat),z=L.length - is.length /\ is.Nodup /\ (∀ j ∈ is,j < L.length) /\ (is=[] ∨ last=clk) /\ ms=[] /\ Has E [(0,.func (.yield l) [] []),(5,.ptr (some (it,0)))] /\ At M' it (.iter (some r) clk (is.map fun i=>bs.getD i 0) last) /\ At M' r (.map (encK L) bs clk) /\ Iv is M' /\ it < M'.next)
  ?_ (L.length - 0) _ _ _ ⟨[],clk,rfl,List.nodup_nil,fun _ h=>(nomatch h),.inl rfl,rfl,.cons rfl (.cons rfl .nil),hit,hm1,hi1,by omega⟩
 clear hN hit hm1 hi1 hnx h0 hm hpb
 rintro z E ms M2 ⟨is,last,rfl,hnd,hlt,hla,rfl,hE,hit,hm,hI,hnx⟩
 refine zt hE ?_
 have hes:bs.length=(encK L).length:=by rw [hok.len];simp [encK]
 have hall:allLt clk bs=true:=zc3 hok.lt
 by_cases hl:leftL (is.map fun i=>bs.getD i 0) bs (encK L)=[]
 ·have hst:(is.map fun i=>bs.getD i 0)=[] ∨ encK L=[] ∨ anyLt last bs=true:=by
   rcases hla with rfl|rfl
   ·exact .inl rfl
   ·cases bs with
    | nil=>exact .inr (.inl (List.length_eq_zero_iff.1 (by rw [<-hes];rfl)))
    | cons b bs=>exact .inr (.inr (z89 (x:=b) (by simp) (hok.lt b (by simp))))
  apply z5d
  apply zkw
  refine z49 (by exact gd) (zla rfl hit hm hes hall hst hl) ?_
  (repeat' (first|(with_reducible intro _)|refine sv ?_|(refine sc ?_ ?_<;>(intro h;try first|exact h.elim|exact absurd rfl h|(exfalso;omega)))|(refine sg ?_ ?_<;>(intro h;(fail_if_success (have:True:=h));try first|exact h.elim|exact absurd rfl h|(exfalso;omega)))|assumption|exact xm|exact rfl))
  ((with_reducible first|apply z8|apply z3);exact rx)
  refine ⟨is,hnd,fun i=>⟨fun hi=>?_,fun hi=>hlt i hi⟩,hI,by omega⟩
  have hib:i < bs.length:=by rw [hok.len];exact hi
  have hmem:=zci hl hes (bs[i]) (List.getElem_mem hib)
  obtain ⟨j,hj,hj2⟩:=List.mem_map.1 hmem
  have hjb:j < bs.length:=by rw [hok.len];exact hlt j hj
  have h1:bs[j]=bs[i]:=by
   have h2:=zfb hjb
   rw [List.getElem?_eq_getElem hjb] at h2
   exact (Option.some.inj h2).trans hj2
  have h3:j=i:=zaa hok.nodup hjb hib h1
  rw [<-h3];exact hj
 have hst:(is.map fun i=>bs.getD i 0)=[] ∨ encK L=[] ∨ anyLt last bs=true:=by
  rcases hla with rfl|rfl
  ·exact .inl rfl
  ·cases bs with
   | nil=>exact .inr (.inl (List.length_eq_zero_iff.1 (by rw [<-hes];rfl)))
   | cons b bs=>exact .inr (.inr (z89 (x:=b) (by simp) (hok.lt b (by simp))))
 apply z5d
 apply zkw
 refine zl4 (by exact gd) rfl hit hm hall hst hl ?_
 intro b kk v hmem M3 hU3 e3 hit3
 obtain ⟨i,hi1,hi2,hi3⟩:=z8o hmem
 have hib:i < bs.length:=(List.getElem?_eq_some_iff.1 hi1).1
 have hbi:bs.getD i 0=b:=by
  have h2:=zfb hib
  rw [hi1] at h2
  exact (Option.some.inj h2).symm
 have hil:i < L.length:=by rw [<-hok.len];exact hib
 have hni:i ∉ is:=fun hh=>hi3 (List.mem_map.2 ⟨i,hh,hbi⟩)
 have hrit:r ≠ it:=by omega
 have hm3:=At.upd_ne hU3 hrit hm
 obtain ⟨⟨k,v'⟩,hL⟩:∃ p,L[i]?=some p:=⟨L[i],List.getElem?_eq_getElem hil⟩
 have hkk:kk=kyv k /\ v=v':=by
  have h2:(encK L)[i]?=some (kyv k,v'):=by unfold encK;rw [List.getElem?_map,hL];rfl
  rw [h2] at hi2
  cases hi2
  exact ⟨rfl,rfl⟩
 obtain ⟨rfl,rfl⟩:=hkk
 have hseen:(is.map fun i=>bs.getD i 0) ++ [b]=(is ++ [i]).map fun i=>bs.getD i 0:=by rw [List.map_append,<- hbi];rfl
 have hent:stampL b bs (encK L)=some (kyv k,v):=zao hok.nodup hi1 hi2
 have hI3:=stab is M2 M3 hI (by omega) (fun i hi hne=>z1r hU3 hne)
 have hleft:L.length - (is ++ [i]).length < L.length - is.length:=by
  have:=pig L.length (is ++ [i]) (by
   rw [List.nodup_append]
   exact ⟨hnd,by simp,fun a ha b hb=>by
    obtain rfl:b=i:=by simpa using hb
    rintro rfl;exact hni ha⟩) (fun x hx=>by
   rcases List.mem_append.1 hx with hx|hx
   ·exact hlt x hx
   ·obtain rfl:x=i:=by simpa using hx
    exact hil)
  rw [List.length_append] at this ⊢
  simp only [List.length_cons,List.length_nil] at this ⊢
  omega
 (repeat' (first|(with_reducible intro _)|refine sv ?_|(refine sc ?_ ?_<;>(intro h;try first|exact h.elim|exact absurd rfl h|(exfalso;omega)))|(refine sg ?_ ?_<;>(intro h;(fail_if_success (have:True:=h));try first|exact h.elim|exact absurd rfl h|(exfalso;omega)))|assumption|exact xm|exact rfl))
 refine z49 (by exact gd) (zn0 rfl hit3 hm3 hes hent) ?_
 rw [hseen] at hit3
 clear hU3
 (repeat' (first|(with_reducible intro _)|refine sv ?_|(refine sc ?_ ?_<;>(intro h;try first|exact h.elim|exact absurd rfl h|(exfalso;omega)))|(refine sg ?_ ?_<;>(intro h;(fail_if_success (have:True:=h));try first|exact h.elim|exact absurd rfl h|(exfalso;omega)))|assumption|exact xm|exact rfl))
 rename_i n4 M4 hN4 e4 e4' M5 hU5 e5 hA5
 have hit5:At M5 it (.iter (some r) clk ((is ++ [i]).map fun i=>bs.getD i 0) clk):=xm
 have hm5:At M5 r (.map (encK L) bs clk):=xm
 have hI5:=stab is M3 M5 hI3 (by omega) (fun j hj hne=>by rw [z1r hU5 (by omega),hN4.grow.old j hj])
 clear hN4 hU5
 refine zm (by exact gd) rfl rfl (show AppOk Tryz.prog _ _ M5 _ from step is i k v M5 hnd hlt hni hL (by omega) hI5) ?_
 rintro w M6 ⟨rfl,hI6,hk6⟩
 have hm6:=hm5.keep hk6 (fun h=>(hA _ h).1 rfl)
 have hit6:=hit5.keep hk6 (fun h=>(hA _ h).2 rfl)
 have hl6:=hk6.le
 (repeat' (first|(with_reducible intro _)|refine sv ?_|(refine sc ?_ ?_<;>(intro h;try first|exact h.elim|exact absurd rfl h|(exfalso;omega)))|(refine sg ?_ ?_<;>(intro h;(fail_if_success (have:True:=h));try first|exact h.elim|exact absurd rfl h|(exfalso;omega)))|assumption|exact xm|exact rfl))
 refine ze (L.length - (is ++ [i]).length) hleft ⟨is ++ [i],clk,rfl,?_,?_,.inr rfl,rfl,.cons rfl (.cons rfl .nil),hit6,hm6,hI6,by omega⟩
 ·rw [List.nodup_append]
  exact ⟨hnd,by simp,fun a ha b hb=>by
   obtain rfl:b=i:=by simpa using hb
   rintro rfl;exact hni ha⟩
 ·intro j hj
  rcases List.mem_append.1 hj with hj|hj
  ·exact hlt j hj
  ·obtain rfl:j=i:=by simpa using hj
   exact hil
end Go.Proofs.YtbfnnllgdioccaaGreatDoor.C
end
section
open Go PvL Go.Proofs
variable {μ:Md}
set_option linter.unusedVariables false
set_option linter.unusedSimpArgs false
namespace Go.Proofs.YtbfnnllgdioccaaGreatDoor.C
theorem znq {P:Program} {f:FuncId} {xf:XF} (h:cFn P f=some xf):∃ fd,fnOf P f=some fd:=by
 unfold cFn at h
 split at h
 ·cases h
 ·rename_i fd hfd;exact ⟨fd,hfd⟩
theorem zfk {m:Nat} {k:Ky} {M M':Mem} {ty:TypeId} (hn:New M m (.cells true [I k.1,I k.2] ty) M'):firstL 2 1 (.slice (some (m,0)) 1 true 2) M'=some ([k].flatMap kyc) :=
 z62 (enc:=kyc) (l:=[k]) (fun _ _=>rfl) (fun k' hk'=>z3h (enc:=kyc) (l:=[k]) (At.new_same hn) (fun _ _=>rfl) hk')
def kAt (L:Mk) (i:Nat):Ky:=((L[i]?).map (·.1)).getD (0,0)
abbrev kseq (pb:Nat):LV:=.func (.func 144) [] [.ptr (some (pb,0))]
set_option maxHeartbeats 8000000 in
theorem zaz {M:Mem} {pb r clk:Nat} {ty:TypeId} {L:Mk} {bs:List Nat} (hpb:At M pb (.cells true [.map (some r)] ty)) (hm:At M r (.map (encK L) bs clk)) (hok:StOk bs clk L.length) (hL:L.length<=1000) :
  CallN Tryz.prog 167 [zsl,kseq pb] M (fun w M'=>∃ is:List Nat,is.Nodup /\ (∀ i,i < L.length ↔ i ∈ is) /\ Vec M.next 2 114 kyc M' w (is.map (kAt L)) /\ Grow M M'):=by
 refine z1w k167 rfl ?_
 dsimp only [x167,zipE,Nat.reduceAdd]
 (repeat' (first|(with_reducible intro _)|refine sv ?_|(refine sc ?_ ?_<;>(intro h;try first|exact h.elim|exact absurd rfl h|(exfalso;omega)))|(refine sg ?_ ?_<;>(intro h;(fail_if_success (have:True:=h));try first|exact h.elim|exact absurd rfl h|(exfalso;omega)))|assumption|exact xm|exact rfl))
 rename_i m2 M2 hN2 e2 e2'
 have hm2:At M2 m2 (.cells true [zsl] 177):=xm
 have hg2:=hN2.grow
 have hpb2:=At.grow hg2 hpb
 have hmm2:=At.grow hg2 hm
 have hrl:=hm.2
 clear hN2
 apply zkz
 exact rfl
 exact znq k144
 intro lb d0 ly M16 M17 hlb hd0 e16 e16' hly e17 e17'
 have hg17:Grow M2 M17:=hd0.grow.trans hly.grow
 have hd17:At M17 d0 .defr:=At.new_old hly (At.new_same hd0)
 have hly17:=At.new_same hly
 have hm17:=At.grow hg17 hm2
 refine (zlp (l:=ly) (At.grow hg17 hpb2) (At.grow hg17 hmm2) hok (fun i=>i=m2 ∨ i=ly ∨ M17.next < i) (fun (is:List Nat) M'=>∃ v,At M' m2 (.cells true [v] 177) /\ Vec (M17.next+1) 2 114 kyc M' v (is.map (kAt L)) /\ At M' ly (lb .ready none) /\ At M' d0 .defr /\ Keep (fun i=>i=m2 ∨ i=ly) M17 M') ?_ ?_ ?_ ⟨_,hm17,.inl ⟨rfl,rfl⟩,hly17,hd17,Keep.refl _ _⟩).mono ?_
 ·intro i hi;omega
 ·rintro is M3 M4 ⟨v,h1,h2,h3,h4,h5⟩ hle hg
  refine ⟨v,h1.same hle (hg _ h1.2 (by omega)),h2.imp id (fun ⟨i,g1,g2,g3⟩=>⟨i,g1,g2.same hle (hg _ g2.2 (by omega)),g3⟩),h3.same hle (hg _ h3.2 (by omega)),h4.same hle (hg _ h4.2 (by omega)),⟨Nat.le_trans h5.le hle,fun i hi hf=>?_⟩⟩
  rw [hg i (by have:=h5.le;omega) (by omega)]
  exact h5.old i hi hf
 ·rintro is i k v0 M3 hnd hlt hni hLi hnx ⟨v,h1,h2,h3,h4,h5⟩
  have hkA:kAt L i=k:=by unfold kAt;rw [hLi];rfl
  have hlen:is.length+1<=L.length:=by
   have:=pig L.length (is ++ [i]) (by
    rw [List.nodup_append]
    exact ⟨hnd,by simp,fun a ha b hb=>by
     obtain rfl:b=i:=by simpa using hb
     rintro rfl;exact hni ha⟩) (fun x hx=>by
    rcases List.mem_append.1 hx with hx|hx
    ·exact hlt x hx
    ·obtain rfl:x=i:=by simpa using hx
     exact (List.getElem?_eq_some_iff.1 hLi).1)
   rw [List.length_append] at this
   exact this
  refine zie hlb h3 rfl ?_
  dsimp only [zipP]
  (repeat' (first|(with_reducible intro _)|refine sv ?_|(refine sc ?_ ?_<;>(intro h;try first|exact h.elim|exact absurd rfl h|(exfalso;omega)))|(refine sg ?_ ?_<;>(intro h;(fail_if_success (have:True:=h));try first|exact h.elim|exact absurd rfl h|(exfalso;omega)))|assumption|exact xm|exact rfl))
  rename_i n4 M4 hN4 e4 e4' M5 hU5 e5 hA5 M6 hU6 e6 hA6 n7 M7 hN7 e7 e7'
  have k1:At M7 m2 (.cells true [v] 177):=xm
  have k4:At M7 d0 .defr:=xm
  have k3:At M7 ly (lb .busy none):=xm
  have kk:Keep (fun i=>i=ly) M3 M7:=xk
  have k2:=h2.keep kk (fun i hi=>by omega)
  have hl7:=kk.le
  clear hN4 hU5 hU6 hA5 hA6
  refine z71 (l':=[k]) (by exact gd) k2 rfl rfl rfl (by simp) (by simp;omega) rfl (zfk hN7) (fun _=>rfl) (fun _=>rfl) (by omega) ?_
  intro v8 M8 hv8 e8 hk8
  have g1:=k1.keep hk8 (fun h=>by have:=h.1;omega)
  have g3:=k3.keep hk8 (fun h=>by have:=h.1;omega)
  have g4:=k4.keep hk8 (fun h=>by have:=h.1;omega)
  have gk:Keep (fun i=>i=m2 ∨ i=ly ∨ M17.next < i) M3 M8:=(kk.weaken (fun i hi=>.inr (.inl hi))).trans hk8 (fun i hi=>.inl (.inr (.inr (by have:=hi.1;omega))))
  have gk5:Keep (fun i=>i=m2 ∨ i=ly) M17 M8:=(h5.trans kk (fun i hi=>.inl (.inr hi))).trans hk8 (fun i hi=>.inr (by have:=hi.1;omega))
  clear hN7 kk k1 k2 k3 k4 hk8
  obtain ⟨a8,f8,e8',rfl⟩:=hv8.shape
  (repeat' (first|(with_reducible intro _)|refine sv ?_|(refine sc ?_ ?_<;>(intro h;try first|exact h.elim|exact absurd rfl h|(exfalso;omega)))|(refine sg ?_ ?_<;>(intro h;(fail_if_success (have:True:=h));try first|exact h.elim|exact absurd rfl h|(exfalso;omega)))|assumption|exact xm|exact rfl))
  rename_i M9 hU9 e9 hA9 M10 hU10 e10 hA10
  refine ⟨rfl,⟨_,xm,?_,hA10,xm,(gk5.upd hU9 (.inl (.inl rfl))).upd hU10 (.inl (.inr rfl))⟩,(gk.upd hU9 (.inl (.inl rfl))).upd hU10 (.inl (.inr (.inl rfl)))⟩
  rw [List.map_append]
  show Vec _ _ _ _ _ _ (is.map (kAt L) ++ [kAt L i])
  rw [hkA]
  exact hv8.keep (((Keep.refl (fun i=>i=m2 ∨ i=ly) _).upd hU9 (.inl (.inl rfl))).upd hU10 (.inl (.inr rfl))) (fun i hi=>by omega)
 rintro w M18 ⟨is,hnd,hall,⟨v,h1,h2,h3,h4,h5⟩,hnx⟩
 have hg18:Grow M M18:=Keep.to_grow' (hg2.trans hg17) h5 (fun i hi=>by omega)
 have hl18:=h5.le
 clear h5
 refine zm2 h3 (by simp) fun M19 hu19 e19 a19=>?_
 have g1:=At.upd_ne hu19 (show m2 ≠ ly by omega) h1
 have g4:=At.upd_ne hu19 (show d0 ≠ ly by omega) h4
 have hg19:Grow M M19:=hg18.upd hu19 (by omega)
 have g2:=h2.keep ((Keep.refl (fun i=>i=ly) _).upd hu19 (.inl rfl)) (fun i hi=>by omega)
 clear hu19 h1 h2 h4 a19 h3
 obtain ⟨a8,f8,e8,rfl⟩:=g2.shape
 (repeat' (first|(with_reducible intro _)|refine sv ?_|(refine sc ?_ ?_<;>(intro h;try first|exact h.elim|exact absurd rfl h|(exfalso;omega)))|(refine sg ?_ ?_<;>(intro h;(fail_if_success (have:True:=h));try first|exact h.elim|exact absurd rfl h|(exfalso;omega)))|assumption|exact xm|exact rfl))
 refine zfh (.inr rfl) (by simp [dnat]) (fun d hd=>by simp [dnat] at hd;subst hd;exact g4) fun M22 hm=>⟨_,.tmp rfl .nil,is,hnd,hall,?_,?_⟩
 ·rcases g2 with ⟨h1,h2⟩|⟨i,h1,h2,h3⟩
  ·exact .inl ⟨h1,h2⟩
  ·exact .inr ⟨i,h1,h2.unmark hm (by simp [dnat];omega),by omega⟩
 ·exact hg19.unmark hm (fun d hd=>by simp [dnat] at hd;subst hd;omega)
end Go.Proofs.YtbfnnllgdioccaaGreatDoor.C
end
section
open Go PvL Go.Proofs
variable {μ:Md}
set_option linter.unusedVariables false
set_option linter.unusedSimpArgs false
namespace Go.Proofs.YtbfnnllgdioccaaGreatDoor.C
theorem Sw.mem {n:Nat} {G G':Nat->Ky} (h:Sw 0 n G G') (k:Ky):(∃ t,t < n /\ G' t=k) ↔ ∃ t,t < n /\ G t=k:=by
 constructor
 ·rintro ⟨t,ht,hk⟩
  have:=h.all (p:=fun k=>∃ t,t < n /\ G t=k) (fun t _ ht=>⟨t,ht,rfl⟩) t (Nat.zero_le _) ht
  rw [hk] at this;exact this
 ·induction h with
  | refl=>exact id
  | @step G' i j _ h1 h2 h3 h4 ih =>
   intro hk
   obtain ⟨t,ht,hk⟩:=ih hk
   by_cases hi:t=i
   ·subst hi;exact ⟨j,h4,by rw [sw_j];exact hk⟩
   ·by_cases hj:t=j
    ·subst hj;exact ⟨i,h2,by rw [sw_i];exact hk⟩
    ·exact ⟨t,ht,by rw [z2x hi hj];exact hk⟩
theorem ze6 {ks:List Ky}:(List.range ks.length).map (fun i=>ks.getD i (0,0))=ks:=by
 refine List.ext_getElem (by simp) fun i h1 h2=>?_
 simp only [List.getElem_map,List.getElem_range]
 rw [List.getD_eq_getElem?_getD,List.getElem?_eq_getElem h2];rfl
theorem zlo {M:Mem} {a:Option (Nat × Nat)} {f:Bool} {e:Nat}:CallOk Tryz.prog 186 [.slice a 0 f e,I 0,I 0,cf] M (fun w M'=>M'=M):=by
 refine z9 k186 rfl ?_
 dsimp only [x186,zipE,Nat.reduceAdd]
 (repeat' (first|(with_reducible intro _)|refine sv ?_|refine su ?_|(refine sc ?_ ?_<;>(intro h;try first|exact h.elim|exact absurd rfl h|(exfalso;omega)))|(refine sg ?_ ?_<;>(intro h;(fail_if_success (have:True:=h));try first|exact h.elim|exact absurd rfl h|(exfalso;omega)))|assumption|exact xm|exact rfl))
 ((with_reducible first|apply z8|apply z3);exact rx)
 rfl
theorem zlr {M:Mem} {a:Option (Nat × Nat)} {f:Bool} {e:Nat} {lim:Int}:CallOk Tryz.prog 168 [.slice a 0 f e,I 0,I 0,I lim,cf] M (fun w M'=>M'=M):=by
 refine z9 k168 rfl ?_
 dsimp only [x168,zipE,Nat.reduceAdd]
 (repeat' (first|(with_reducible intro _)|refine sv ?_|refine su ?_|(refine sc ?_ ?_<;>(intro h;try first|exact h.elim|exact absurd rfl h|(exfalso;omega)))|((with_reducible first|apply zm|apply zo|apply zc);exact gd;exact rfl;exact rfl;(first|exact zlo))|(refine sg ?_ ?_<;>(intro h;(fail_if_success (have:True:=h));try first|exact h.elim|exact absurd rfl h|(exfalso;omega)))|assumption|exact xm|exact rfl))
 rename_i hq
 subst hq
 (repeat' (first|(with_reducible intro _)|refine sv ?_|(refine sc ?_ ?_<;>(intro h;try first|exact h.elim|exact absurd rfl h|(exfalso;omega)))|(refine sg ?_ ?_<;>(intro h;(fail_if_success (have:True:=h));try first|exact h.elim|exact absurd rfl h|(exfalso;omega)))|assumption|exact xm|exact rfl))
 ((with_reducible first|apply z8|apply z3);exact rx)
 rfl
set_option maxHeartbeats 4000000 in
theorem zdb {M:Mem} {b:Nat} {v:LV} {ks:List Ky} (hv:Vec b 2 114 kyc M v ks) (hl:ks.length<=200) (hn:ks.Nodup) :
  CallOk Tryz.prog 143 [v,cf] M (fun _ M'=>∃ ks',Vec b 2 114 kyc M' v ks' /\ ks'.Pairwise klt /\ (∀ k,k ∈ ks' ↔ k ∈ ks) /\ ks'.length=ks.length /\ Keep (fun i=>b<=i) M M'):=by
 have cl:=zlh (M:=M) (n:=ks.length) (by omega)
 have hw:=z1t (z:=(ks.length:Int)) (by omega)
 rcases hv with ⟨rfl,rfl⟩|⟨i,rfl,hA,hbi⟩
 ·refine z9 k143 rfl ?_
  dsimp only [x143,zipE,Nat.reduceAdd]
  (repeat' (first|(with_reducible intro _)|refine sv ?_|(refine sc ?_ ?_<;>(intro h;try first|exact h.elim|exact absurd rfl h|(exfalso;omega)))|((with_reducible first|apply zm|apply zo|apply zc);exact gd;exact rfl;exact rfl;(first|exact cl))|(refine sg ?_ ?_<;>(intro h;(fail_if_success (have:True:=h));try first|exact h.elim|exact absurd rfl h|(exfalso;omega)))|assumption|exact xm|exact rfl))
  rename_i hq
  obtain ⟨k,rfl,hk1,hk2,rfl⟩:=hq
  (repeat' (first|(with_reducible intro _)|refine sv ?_|(refine sc ?_ ?_<;>(intro h;try first|exact h.elim|exact absurd rfl h|(exfalso;omega)))|((with_reducible first|apply zm|apply zo|apply zc);exact gd;exact rfl;exact rfl;(first|exact zlr))|(refine sg ?_ ?_<;>(intro h;(fail_if_success (have:True:=h));try first|exact h.elim|exact absurd rfl h|(exfalso;omega)))|assumption|exact xm|exact rfl))
  rename_i hq
  subst hq
  ((with_reducible first|apply z8|apply z3);exact rx)
  exact ⟨[],.inl ⟨rfl,rfl⟩,List.Pairwise.nil,fun _=>Iff.rfl,rfl,Keep.refl _ _⟩
 ·have hT:KT M i ks.length (apE 114) (fun i=>ks.getD i (0,0)):=by
   show At M i (.cells true (tabL kyc (fun i=>ks.getD i (0,0)) ks.length) (apE 114))
   unfold tabL
   rw [ze6];exact hA
  have hij:Inj ks.length (fun i=>ks.getD i (0,0)):=fun x y hx hy hxy=>by
   simp only [List.getD_eq_getElem?_getD,List.getElem?_eq_getElem hx,List.getElem?_eq_getElem hy,Option.getD_some] at hxy
   unfold List.Nodup at hn
   rw [List.pairwise_iff_getElem] at hn
   rcases Nat.lt_trichotomy x y with h|h|h
   ·exact absurd hxy (hn x y hx hy h)
   ·exact h
   ·exact absurd hxy.symm (hn y x hy hx h)
  have hmem:∀ k,(∃ t,t < ks.length /\ ks.getD t (0,0)=k) ↔ k ∈ ks:=fun k=>by
   rw [List.mem_iff_getElem]
   constructor
   ·rintro ⟨t,ht,h⟩;exact ⟨t,ht,by rw [List.getD_eq_getElem?_getD,List.getElem?_eq_getElem ht] at h;exact h⟩
   ·rintro ⟨t,ht,h⟩;exact ⟨t,ht,by rw [List.getD_eq_getElem?_getD,List.getElem?_eq_getElem ht];exact h⟩
  refine z9 k143 rfl ?_
  dsimp only [x143,zipE,Nat.reduceAdd]
  (repeat' (first|(with_reducible intro _)|refine sv ?_|(refine sc ?_ ?_<;>(intro h;try first|exact h.elim|exact absurd rfl h|(exfalso;omega)))|(refine sg ?_ ?_<;>(intro h;(fail_if_success (have:True:=h));try first|exact h.elim|exact absurd rfl h|(exfalso;omega)))|assumption|exact xm|exact rfl))
  rw [hw]
  (repeat' (first|(with_reducible intro _)|refine sv ?_|(refine sc ?_ ?_<;>(intro h;try first|exact h.elim|exact absurd rfl h|(exfalso;omega)))|((with_reducible first|apply zm|apply zo|apply zc);exact gd;exact rfl;exact rfl;(first|exact cl))|(refine sg ?_ ?_<;>(intro h;(fail_if_success (have:True:=h));try first|exact h.elim|exact absurd rfl h|(exfalso;omega)))|assumption|exact xm|exact rfl))
  rename_i hq
  obtain ⟨k,rfl,hk1,hk2,rfl⟩:=hq
  (repeat' (first|(with_reducible intro _)|refine sv ?_|(refine sc ?_ ?_<;>(intro h;try first|exact h.elim|exact absurd rfl h|(exfalso;omega)))|((with_reducible first|apply zm|apply zo|apply zc);exact gd;exact rfl;exact rfl;(first|exact znh (p:=i) (n:=ks.length) (f:=false) (e:=2) (by omega) (ks.length+1) (a:=0) (by omega) hT (Nat.le_refl _) (Nat.zero_le _) hij (.inl rfl) (by omega)))|(refine sg ?_ ?_<;>(intro h;(fail_if_success (have:True:=h));try first|exact h.elim|exact absurd rfl h|(exfalso;omega)))|assumption|exact xm|exact rfl))
  rename_i hq
  obtain ⟨G',hsw,hsr,hT',hkp⟩:=hq
  have hm2:=Sw.mem hsw
  have hij2:=hsw.inj (Nat.le_refl _) hij
  ((with_reducible first|apply z8|apply z3);exact rx)
  refine ⟨(List.range ks.length).map G',.inr ⟨i,by simp,hT',hbi⟩,?_,fun k=>?_,by simp,hkp.weaken (fun j hj=>by omega)⟩
  ·rw [List.pairwise_iff_getElem]
   intro x y hx hy hxy
   simp only [List.length_map,List.length_range] at hx hy
   simp only [List.getElem_map,List.getElem_range]
   rcases zfm (a:=G' x) (b:=G' y) (fun he=>by have:=hij2 x y hx hy he;omega) with h|h
   ·exact h
   ·exact absurd h (hsr x y (Nat.zero_le _) hxy hy)
  ·rw [List.mem_map,<- hmem,<- hm2]
   constructor
   ·rintro ⟨t,ht,h⟩;exact ⟨t,List.mem_range.1 ht,h⟩
   ·rintro ⟨t,ht,h⟩;exact ⟨t,List.mem_range.2 ht,h⟩
end Go.Proofs.YtbfnnllgdioccaaGreatDoor.C
end
section
open Go PvL Go.Proofs
variable {μ:Md}
set_option linter.unusedVariables false
set_option linter.unusedSimpArgs false
namespace Go.Proofs.YtbfnnllgdioccaaGreatDoor.C
theorem zlg {M:Mem} {r:Nat}:CallOk Tryz.prog 113 [.map (some r)] M (MkAt kseq (.cells true [.map (some r)] 107) M):=by
 refine z9 k113 rfl ?_
 dsimp only [x113,zipE,Nat.reduceAdd]
 (repeat' (first|(with_reducible intro _)|refine sv ?_|(refine sc ?_ ?_<;>(intro h;try first|exact h.elim|exact absurd rfl h|(exfalso;omega)))|(refine sg ?_ ?_<;>(intro h;(fail_if_success (have:True:=h));try first|exact h.elim|exact absurd rfl h|(exfalso;omega)))|assumption|exact xm|exact rfl))
 rename_i n1 M1 hN1 e1 e1'
 ((with_reducible first|apply z8|apply z3);exact rx)
 exact ⟨n1,rfl,At.new_same hN1,by omega,by omega,hN1.grow⟩
theorem zcg {L:Mk} {i:Nat} (h:i < L.length):kAt L i=L[i].1:=by unfold kAt;rw [List.getElem?_eq_getElem h];rfl
theorem zkd {L:Mk} {is:List Nat} (hL:(L.map (·.1)).Nodup) (hnd:is.Nodup) (hall:∀ i,i < L.length ↔ i ∈ is):(is.map (kAt L)).Nodup /\ (∀ k,k ∈ is.map (kAt L) ↔ k ∈ L.map (·.1)) /\ (is.map (kAt L)).length<=L.length:=by
 refine ⟨?_,fun k=>?_,?_⟩
 ·unfold List.Nodup at hnd hL ⊢
  rw [List.pairwise_map]
  refine hnd.imp_of_mem fun {i j} hi hj hne he=>?_
  have hi':=(hall i).2 hi
  have hj':=(hall j).2 hj
  rw [zcg hi',zcg hj'] at he
  refine hne (zaa (bs:=(List.range L.length)) List.nodup_range (by simpa using hi') (by simpa using hj') ?_)
  simp only [List.getElem_range]
  rw [List.pairwise_iff_getElem] at hL
  rcases Nat.lt_trichotomy i j with h|h|h
  ·exact absurd (by rw [List.getElem_map,List.getElem_map];exact he) (hL i j (by simpa using hi') (by simpa using hj') h)
  ·exact h
  ·exact absurd (by rw [List.getElem_map,List.getElem_map];exact he.symm) (hL j i (by simpa using hj') (by simpa using hi') h)
 ·rw [List.mem_map,List.mem_map]
  constructor
  ·rintro ⟨i,hi,rfl⟩
   have hi':=(hall i).2 hi
   exact ⟨L[i],List.getElem_mem hi',(zcg hi').symm⟩
  ·rintro ⟨p,hp,rfl⟩
   obtain ⟨i,hi,rfl⟩:=List.mem_iff_getElem.1 hp
   exact ⟨i,(hall i).1 hi,zcg hi⟩
 ·rw [List.length_map]
  exact pig L.length is hnd fun i hi=>(hall i).2 hi
theorem zeo {M:Mem} {pb r clk:Nat} {ty:TypeId} {L:Mk} {bs:List Nat} (hpb:At M pb (.cells true [.map (some r)] ty)) (hm:At M r (.map (encK L) bs clk)) (hok:StOk bs clk L.length) (hL:L.length<=1000) (hN:(L.map (·.1)).Nodup) :
  CallN Tryz.prog 142 [kseq pb] M (fun w M'=>∃ ks:List Ky,ks.Nodup /\ (∀ k,k ∈ ks ↔ k ∈ L.map (·.1)) /\ ks.length<=L.length /\ Vec M.next 2 114 kyc M' w ks /\ Grow M M'):=by
 refine z1w k142 rfl ?_
 dsimp only [x142,zipE,Nat.reduceAdd]
 (repeat' (first|(with_reducible intro _)|refine sv ?_|(refine sc ?_ ?_<;>(intro h;try first|exact h.elim|exact absurd rfl h|(exfalso;omega)))|(refine sg ?_ ?_<;>(intro h;(fail_if_success (have:True:=h));try first|exact h.elim|exact absurd rfl h|(exfalso;omega)))|assumption|exact xm|exact rfl))
 refine z6z (by exact gd) rfl rfl (zaz hpb hm hok hL) ?_
 rintro w M' ⟨is,hnd,hall,hv,hg⟩
 obtain ⟨h1,h2,h3⟩:=zkd hN hnd hall
 obtain ⟨a,f,e,rfl⟩:=hv.shape
 (repeat' (first|(with_reducible intro _)|refine sv ?_|(refine sc ?_ ?_<;>(intro h;try first|exact h.elim|exact absurd rfl h|(exfalso;omega)))|(refine sg ?_ ?_<;>(intro h;(fail_if_success (have:True:=h));try first|exact h.elim|exact absurd rfl h|(exfalso;omega)))|assumption|exact xm|exact rfl))
 ((with_reducible first|apply z8|apply z3);exact rx)
 exact ⟨_,h1,h2,h3,hv,hg⟩
theorem z9j {M:Mem} {pb r clk:Nat} {ty:TypeId} {L:Mk} {bs:List Nat} (hpb:At M pb (.cells true [.map (some r)] ty)) (hm:At M r (.map (encK L) bs clk)) (hok:StOk bs clk L.length) (hL:L.length<=200) (hN:(L.map (·.1)).Nodup) :
  CallN Tryz.prog 112 [kseq pb,cf] M (fun w M'=>∃ ks:List Ky,ks.Pairwise klt /\ (∀ k,k ∈ ks ↔ k ∈ L.map (·.1)) /\ ks.length<=L.length /\ Vec M.next 2 114 kyc M' w ks /\ Grow M M'):=by
 refine z1w k112 rfl ?_
 dsimp only [x112,zipE,Nat.reduceAdd]
 (repeat' (first|(with_reducible intro _)|refine sv ?_|(refine sc ?_ ?_<;>(intro h;try first|exact h.elim|exact absurd rfl h|(exfalso;omega)))|(refine sg ?_ ?_<;>(intro h;(fail_if_success (have:True:=h));try first|exact h.elim|exact absurd rfl h|(exfalso;omega)))|assumption|exact xm|exact rfl))
 refine z6z (by exact gd) rfl rfl (zeo hpb hm hok (by omega) hN) ?_
 rintro w M' ⟨ks,h1,h2,h3,hv,hg⟩
 obtain ⟨a,f,e,rfl⟩:=hv.shape
 (repeat' (first|(with_reducible intro _)|refine sv ?_|(refine sc ?_ ?_<;>(intro h;try first|exact h.elim|exact absurd rfl h|(exfalso;omega)))|((with_reducible first|apply zm|apply zo|apply zc);exact gd;exact rfl;exact rfl;(first|exact zdb hv (by omega) h1))|(refine sg ?_ ?_<;>(intro h;(fail_if_success (have:True:=h));try first|exact h.elim|exact absurd rfl h|(exfalso;omega)))|assumption|exact xm|exact rfl))
 rename_i hq
 obtain ⟨ks',hv',h4,h5,h6,hk⟩:=hq
 have hg2:=Keep.to_grow' hg hk (fun i hi=>hi)
 (repeat' (first|(with_reducible intro _)|refine sv ?_|(refine sc ?_ ?_<;>(intro h;try first|exact h.elim|exact absurd rfl h|(exfalso;omega)))|(refine sg ?_ ?_<;>(intro h;(fail_if_success (have:True:=h));try first|exact h.elim|exact absurd rfl h|(exfalso;omega)))|assumption|exact xm|exact rfl))
 ((with_reducible first|apply z8|apply z3);exact rx)
 exact ⟨ks',h4,fun k=>(h5 k).trans (h2 k),by omega,hv',hg2⟩
abbrev FW:=Ky × Option (Nat × Nat) × Nat × Bool × Nat
abbrev fwc (x:FW):List LV:=[I x.1.1,I x.1.2,.slice x.2.1 x.2.2.1 x.2.2.2.1 x.2.2.2.2]
def FwV (M:Mem) (x:FW) (f:Fr):Prop:=x.1=fky f /\ x.2.2.1=f.2.2.length /\ SlI M x.2.1 f.2.2
inductive FwL (M:Mem):List FW->List Fr->Prop
 | nil:FwL M [] []
 | cons {x:FW} {f:Fr} {xs:List FW} {fs:List Fr} (h:FwV M x f) (h':FwL M xs fs):FwL M (x :: xs) (f :: fs)
theorem FwL.len {M:Mem} {xs:List FW} {fs:List Fr} (h:FwL M xs fs):xs.length=fs.length:=by
 induction h with
 | nil=>rfl
 | cons _ _ ih=>simp [ih]
theorem FwL.snoc {M:Mem} {xs:List FW} {fs:List Fr} {x:FW} {f:Fr} (h:FwL M xs fs) (h':FwV M x f):FwL M (xs ++ [x]) (fs ++ [f]):=by
 induction h with
 | nil=>exact .cons h' .nil
 | cons h _ ih=>exact .cons h ih
theorem FwL.at {M:Mem} {xs:List FW} {fs:List Fr} (h:FwL M xs fs):∀ {k:Nat} (h1:k < xs.length) (h2:k < fs.length),FwV M xs[k] fs[k]:=by
 induction h with
 | nil=>intro k h1;simp at h1
 | cons h _ ih =>
  intro k h1 h2
  cases k with
  | zero=>exact h
  | succ k=>exact ih (by simpa using h1) (by simpa using h2)
theorem FwV.grow {M M':Mem} {x:FW} {f:Fr} (h:FwV M x f) (hg:Grow M M'):FwV M' x f:=⟨h.1,h.2.1,h.2.2.grow hg⟩
theorem FwL.grow {M M':Mem} {xs:List FW} {fs:List Fr} (h:FwL M xs fs) (hg:Grow M M'):FwL M' xs fs:=by
 induction h with
 | nil=>exact .nil
 | cons h _ ih=>exact .cons (h.grow hg) ih
inductive FwL1 (M:Mem):List FW->List Fr->Prop
 | nil:FwL1 M [] []
 | cons {x:FW} {f:Fr} {xs:List FW} {fs:List Fr} (h:FwV M x f) (h1:f.2.2 ≠ []->x.2.2.2.2=1) (h':FwL1 M xs fs):FwL1 M (x :: xs) (f :: fs)
theorem FwL1.l {M:Mem} {xs:List FW} {fs:List Fr} (h:FwL1 M xs fs):FwL M xs fs:=by
 induction h with
 | nil=>exact .nil
 | cons h _ _ ih=>exact .cons h ih
theorem FwL1.snoc {M:Mem} {xs:List FW} {fs:List Fr} {x:FW} {f:Fr} (h:FwL1 M xs fs) (h':FwV M x f) (h1:f.2.2 ≠ []->x.2.2.2.2=1):FwL1 M (xs ++ [x]) (fs ++ [f]):=by
 induction h with
 | nil=>exact .cons h' h1 .nil
 | cons h h2 _ ih=>exact .cons h h2 ih
theorem FwL1.grow {M M':Mem} {xs:List FW} {fs:List Fr} (h:FwL1 M xs fs) (hg:Grow M M'):FwL1 M' xs fs:=by
 induction h with
 | nil=>exact .nil
 | cons h h2 _ ih=>exact .cons (h.grow hg) h2 ih
theorem FwL1.one {M:Mem} {xs:List FW} {fs:List Fr} (h:FwL1 M xs fs):∀ {k:Nat} (h1:k < xs.length) (h2:k < fs.length),fs[k].2.2 ≠ []->xs[k].2.2.2.2=1:=by
 induction h with
 | nil=>intro k h1;simp at h1
 | cons h h2 _ ih =>
  intro k g1 g2
  cases k with
  | zero=>exact h2
  | succ k=>exact ih (by simpa using g1) (by simpa using g2)
theorem zka {b:Nat} {ty:TypeId} {M:Mem} {v:LV} {xs:List FW} {fs:List Fr} (hv:Vec b 3 ty fwc M v xs) (hl1:FwL1 M xs fs) (hne:∀ x ∈ fs,x.2.2 ≠ []):∃ a f e,v=.slice a fs.length f e /\ FsV1 M a fs:=by
 have hl:=hl1.l
 obtain ⟨a,f,e,h1,h2⟩:=hv.rd (fun _ _=>rfl)
 refine ⟨a,f,e,by rw [<-hl.len];exact h1,?_⟩
 rcases h2 with rfl|⟨i,o,rfl,h3⟩
 ·left
  have:=hl.len
  exact List.length_eq_zero_iff.1 (by rw [<-this];rfl)
 ·refine .inr ⟨i,o,rfl,fun k hk=>?_⟩
  have hk':k < xs.length:=by rw [hl.len];exact hk
  have h4:=h3 k hk'
  obtain ⟨g1,g2,g3⟩:=hl.at hk' hk
  have g4:=hl1.one hk' hk (hne _ (List.getElem_mem hk))
  refine ⟨xs[k].2.1,xs[k].2.2.2.1,?_,g3⟩
  have e1:xs[k].1.1=fs[k].1:=congrArg Prod.fst g1
  have e2:xs[k].1.2=fs[k].2.1:=congrArg Prod.snd g1
  rw [<-e1,<- e2,<- g2,<- g4]
  exact h4
theorem zhr {m:Nat} {x:FW} {M M':Mem} {ty:TypeId} (hn:New M m (.cells true (fwc x) ty) M'):firstL 3 1 (.slice (some (m,0)) 1 true 3) M'=some ([x].flatMap fwc) :=
 z62 (enc:=fwc) (l:=[x]) (fun _ _=>rfl) (fun k' hk'=>z3h (enc:=fwc) (l:=[x]) (At.new_same hn) (fun _ _=>rfl) hk')
set_option maxHeartbeats 8000000 in
theorem zhc {M:Mem} {r:Nat} {R:Rk} {J:List Fr} (hR:RkM M r R) (hJ:RJ R J) (hne:∀ x ∈ J,x.2.2 ≠ []) (hlen:R.length<=1000000) :
  CallN Tryz.prog 64 [.map (some r)] M (fun w M'=>((J.length<=128 /\ ∃ a f e,w=.tup [.slice a J.length f e,.bool true] /\ FsV1 M' a J) ∨ (128 < J.length /\ w=.tup [zsl,.bool false])) /\ Grow M M'):=by
 obtain ⟨L,bs,clk,hm,hok,hL⟩:=hR
 have hLl:=hL.len
 have hkeys:=hL.keys
 have hJl:=hJ.len
 have hN:(L.map (·.1)).Nodup:=by rw [hkeys];exact hJ.n
 refine z1w k64 rfl ?_
 dsimp only [x64,zipE,Nat.reduceAdd]
 have hel:(encK L).length=L.length:=by simp [encK]
 by_cases hbig:128 < R.length
 ·(repeat' (first|(with_reducible intro _)|refine sv ?_|(refine sc ?_ ?_<;>(intro h;try first|exact h.elim|exact absurd rfl h|(exfalso;omega)))|(refine sg ?_ ?_<;>(intro h;(fail_if_success (have:True:=h));try first|exact h.elim|exact absurd rfl h|(exfalso;omega)))|assumption|exact xm|exact rfl))
  refine z70 (by exact gd) (zgy rfl hm) ?_
  (repeat' (first|(with_reducible intro _)|refine sv ?_|(refine sc ?_ ?_<;>(intro h;try first|exact h.elim|exact absurd rfl h|(exfalso;omega)))|(refine sg ?_ ?_<;>(intro h;(fail_if_success (have:True:=h));try first|exact h.elim|exact absurd rfl h|(exfalso;omega)))|assumption|exact xm|exact rfl))
  all_goals try (exfalso;omega)
  ((with_reducible first|apply z8|apply z3);exact rx)
  exact ⟨.inr ⟨by omega,rfl⟩,Grow.refl _⟩
 (repeat' (first|(with_reducible intro _)|refine sv ?_|(refine sc ?_ ?_<;>(intro h;try first|exact h.elim|exact absurd rfl h|(exfalso;omega)))|(refine sg ?_ ?_<;>(intro h;(fail_if_success (have:True:=h));try first|exact h.elim|exact absurd rfl h|(exfalso;omega)))|assumption|exact xm|exact rfl))
 refine z70 (by exact gd) (zgy rfl hm) ?_
 (repeat' (first|(with_reducible intro _)|refine sv ?_|(refine sc ?_ ?_<;>(intro h;try first|exact h.elim|exact absurd rfl h|(exfalso;omega)))|((with_reducible first|apply zmr|apply zlt);exact gd;exact rfl;exact rfl;(first|exact zlg))|(refine sg ?_ ?_<;>(intro h;(fail_if_success (have:True:=h));try first|exact h.elim|exact absurd rfl h|(exfalso;omega)))|assumption|exact xm|exact rfl))
 all_goals try (exfalso;omega)
 rename_i pb M1 hpb q1 q1' hg1 q1''
 refine z6z (by exact gd) rfl rfl (z9j hpb (At.grow hg1 hm) hok (by omega) hN) ?_
 rintro w M2 ⟨ks,hsrt,hmem,hkl,hv,hg2⟩
 have hks:=hJ.frames hsrt (fun k=>by rw [hmem,hkeys])
 have hgM2:=hg1.trans hg2
 obtain ⟨a2,f2,e2,rfl,hrd⟩:=hv.rd (fun _ _=>rfl)
 (repeat' (first|(with_reducible intro _)|refine sv ?_|(refine sc ?_ ?_<;>(intro h;try first|exact h.elim|exact absurd rfl h|(exfalso;omega)))|(refine sg ?_ ?_<;>(intro h;(fail_if_success (have:True:=h));try first|exact h.elim|exact absurd rfl h|(exfalso;omega)))|assumption|exact xm|exact rfl))
 have hb0:M2.next=M2.next:=rfl
 refine z7 (fun z E ms M'=>∃ (k:Nat) (xs:List FW) (v:LV),z=ks.length - k /\ k<=ks.length /\ ms=[] /\ Has E [(0,.map (some r)),(12,.slice a2 ks.length f2 e2),(13,I ks.length),(14,I k),(4,v)] /\ Vec M2.next 3 48 fwc M' v xs /\ FwL1 M xs ((ks.take k).map (frK R)) /\ Grow M2 M')
  ?_ (ks.length - 0) _ _ _ ⟨0,[],_,rfl,Nat.zero_le _,rfl,.cons rfl (.cons rfl (.cons rfl (.cons rfl (.cons rfl .nil)))),Vec.nil,.nil,Grow.refl _⟩
 rintro z E ms M3 ⟨k,xs,v,rfl,hk,rfl,hE,hvx,hfx,hg3⟩
 refine zt hE ?_
 obtain ⟨a3,f3,e3,rfl⟩:=hvx.shape
 by_cases hlast:k=ks.length
 ·subst hlast
  rw [List.take_length,hks] at hfx
  have hfx':=hfx.grow (hgM2.trans hg3)
  (repeat' (first|(with_reducible intro _)|refine sv ?_|(refine sc ?_ ?_<;>(intro h;try first|exact h.elim|exact absurd rfl h|(exfalso;omega)))|(refine sg ?_ ?_<;>(intro h;(fail_if_success (have:True:=h));try first|exact h.elim|exact absurd rfl h|(exfalso;omega)))|assumption|exact xm|exact rfl))
  ((with_reducible first|apply z8|apply z3);exact rx)
  obtain ⟨a,f,e,he,hfs⟩:=zka hvx hfx' hne
  exact ⟨.inl ⟨by omega,a,f,e,by rw [he];rfl,hfs⟩,hgM2.trans hg3⟩
 have hlt:k < ks.length:=by omega
 rcases hrd with h0|⟨i2,o2,rfl,hrd⟩
 ·rw [h0] at hlt;exact absurd hlt (Nat.not_lt_zero _)
 have hr3:=(hrd k hlt).grow hg3
 have hkk:=hL.look ks[k]
 have hfr:frK R ks[k]=(ks[k].1,ks[k].2,(lkK R ks[k]).getD []):=rfl
 have htk:(ks.take (k+1)).map (frK R)=(ks.take k).map (frK R) ++ [frK R ks[k]]:=by rw [List.take_succ_eq_append_getElem hlt,List.map_append];rfl
 obtain ⟨av,fv,ev,hve,hv1,hvs⟩:=hkk
 generalize (lkK R ks[k]).getD []=smp at *
 have hmr:=At.grow (hgM2.trans hg3) hm
 have hlke:=hve
 generalize ks[k]=kk at *
 have hxl:xs.length=k:=by rw [hfx.l.len];simp;omega
 (have hrd0:=hr3;repeat' (first|(with_reducible intro _)|refine sv ?_|(refine sc ?_ ?_<;>(intro h;try first|exact h.elim|exact absurd rfl h|(exfalso;omega)))|(refine sg ?_ ?_<;>(intro h;(fail_if_success (have:True:=h));try first|exact h.elim|exact absurd rfl h|(exfalso;omega)))|assumption|exact xm|exact rfl))
 rename_i n4 M4 hN4 q4 q4' M5 hU5 q5 hA5
 have hm5:At M5 r (.map (encK L) bs clk):=by have:=hm.2;have:=hgM2.le;have:=hg3.le;exact xm
 have lk5:∀ {E:Env} {x y:XO} (m:Mem),At m r (.map (encK L) bs clk)->xval E x=some (.map (some r))->xval E y=some (kyv kk)->xstep Tryz.prog (.lkp 114 zsl false x y) E m=some (.val (.slice av smp.length fv ev) m):=fun m hm hx hy=>by
  have:=zft hm hx hy
  rw [hve] at this;exact this
 have hkp5:Keep (fun _=>False) M3 M5:=xk
 have hl5:=hkp5.le
 have hvx5:=hvx.keep hkp5 (fun i hi=>hi.elim)
 have hl3:=hg3.le
 have hg5:Grow M2 M5:=xg
 have hrl:=hm.2
 have hM2:=hgM2.le
 clear hU5 hN4
 (repeat' (first|(with_reducible intro _)|refine sv ?_|(refine sc ?_ ?_<;>(intro h;try first|exact h.elim|exact absurd rfl h|(exfalso;omega)))|(refine sg ?_ ?_<;>(intro h;(fail_if_success (have:True:=h));try first|exact h.elim|exact absurd rfl h|(exfalso;omega)))|assumption|exact xm|exact rfl))
 refine z4v (by exact gd) (lk5 _ hm5 rfl rfl) (fun m=>At m r (.map (encK L) bs clk)) (fun m hm=>lk5 m hm rfl rfl) ?_
 (repeat' (first|(with_reducible intro _)|refine sv ?_|(refine sc ?_ ?_<;>(intro h;try first|exact h.elim|exact absurd rfl h|(exfalso;omega)))|(refine sg ?_ ?_<;>(intro h;(fail_if_success (have:True:=h));try first|exact h.elim|exact absurd rfl h|(exfalso;omega)))|assumption|exact xm|exact rfl))
 rename_i n6 M6 hN6 q6 q6'
 have hvx6:=hvx5.grow hN6.grow
 have hg6:Grow M2 M6:=hg5.trans hN6.grow
 have hfx2:FwL1 M (xs ++ [(kk,av,smp.length,fv,ev)]) ((ks.take (k+1)).map (frK R)):=by
  rw [htk,hfr]
  exact hfx.snoc ⟨rfl,rfl,hvs⟩ hv1
 have hl6:=hg6.le
 refine zf1 (l':=[(kk,av,smp.length,fv,ev)]) (by exact gd) hvx6 rfl rfl rfl (by simp) (by simp;omega) rfl (zhr (x:=(kk,av,smp.length,fv,ev)) hN6) (fun _=>rfl) (fun _=>rfl) (by omega) ?_
 intro v7 M7 hv7 e7 hk7
 have hg7:Grow M2 M7:=Keep.to_grow' hg6 hk7 (fun i hi=>hi.1)
 obtain ⟨a7,f7,e7',rfl⟩:=hv7.shape
 have hob:∀ i,i < M2.next->¬ (M2.next<=i /\ ∃ o n f e,LV.slice a3 xs.length f3 e3=.slice (some (i,o)) n f e):=fun i hi h=>by omega
 (repeat' (first|(with_reducible intro _)|refine sv ?_|(refine sc ?_ ?_<;>(intro h;try first|exact h.elim|exact absurd rfl h|(exfalso;omega)))|(refine sg ?_ ?_<;>(intro h;(fail_if_success (have:True:=h));try first|exact h.elim|exact absurd rfl h|(exfalso;omega)))|assumption|exact xm|exact rfl))
 exact ze (ks.length - (k+1)) (by omega) ⟨k+1,_,_,rfl,by omega,rfl,.cons rfl (.cons rfl (.cons rfl (.cons rfl (.cons rfl .nil)))),hv7,hfx2,hg7⟩
end Go.Proofs.YtbfnnllgdioccaaGreatDoor.C
end
section
open Go PvL Go.Proofs
variable {μ:Md}
set_option linter.unusedVariables false
set_option linter.unusedSimpArgs false
namespace Go.Proofs.YtbfnnllgdioccaaGreatDoor.C
section
variable {P:Program} [Orc P] {sz:Nat} {E:Env} {M:Mem} {K:Env->Mem->Prop} {l:List XG} {g:Option (Nat × Bool)} {st:List Mem} {n:Nat} {xs:List (Nat × Nat × (Mem->Prop))} {ld:List (XG × XK)} {x y z':XO} {r:Nat} {R:Rk} {k:Ky} {v:LV} {smp:List Int}
theorem zhj [Orc Tryz.prog] (hg:GOn E g) (hm:RkM M r R) (hv:SlV M v smp) (hx:xval E x=some (.map (some r))) (hy:xval E y=some (kyv k)) (hz:xval E z'=some v)
  (hk:∀ lb M',Upd M r lb M'->M'.next=M.next->RkM M' r (stK R k smp)->XD Tryz.prog sz ld E M' (M' :: st) (n+1) xs K):XD Tryz.prog sz ((⟨none,.mset 114 x y z',g⟩,.anchor) :: ld) E M st n xs K:=by
 obtain ⟨lb,M',h1,h2,h3⟩:=zmg hm hv hx hy hz
 exact zgu hg h1 (hk lb M' h2 (by rw [h2.eq];exact Mem.next_upd _ _ _) h3)
end
def RkB (R:Rk):Prop:=∀ k,((lkK R k).getD []).length<=64
theorem RkB.nil:RkB []:=fun k=>Nat.zero_le _
theorem RkB.add {R:Rk} (h:RkB R) {f:Fr} (hf:f.2.2.length<=64):RkB (rkA R f):=fun k=>by
 unfold rkA
 rw [zfq]
 split
 ·rw [Option.getD_some,z0h]
  have:=h (fky f)
  omega
 ·exact h k
def FrOk (L:List Fr):Prop:=∀ x ∈ L,frB x=true
theorem FrOk.k {L:List Fr} (h:FrOk L):∀ x ∈ L,FrK x:=fun x hx=>by have:=z65 (h x hx);exact ⟨this.1,this.2.1,this.2.2.1,this.2.2.2.1⟩
theorem z4l {x:Fr} (h:frB x=true):1<=x.2.2.length /\ x.2.2.length<=64:=by
 have:=zf7 (x:=x) (by unfold errF;rw [h];rfl)
 omega
theorem FrOk.rkB {L:List Fr}:∀ {R:Rk},FrOk L->RkB R->RkB (L.foldl rkA R):=by
 induction L with
 | nil=>intro R _ h;exact h
 | cons x L ih=>intro R hL h;exact ih (fun y hy=>hL y (by simp [hy])) (h.add (z4l (hL x (by simp))).2)
theorem zdk {α β:Type} {f:β->α->β} {b:β} {L:List α} {k:Nat} (h:k < L.length):(L.take (k+1)).foldl f b=f ((L.take k).foldl f b) L[k]:=by
 rw [List.take_succ_eq_append_getElem h,List.foldl_append];rfl
theorem Rd1.nem {M:Mem} {i o r:Nat} {v:LV} {es:List (LV × LV)} {bs:List Nat} {c:Nat} (h:Rd1 M i o v) (hm:At M r (.map es bs c)):i ≠ r:=fun e=>by
 subst e
 have h1:=h.1
 unfold load1 atCells at h1
 rw [hm.1] at h1
 cases h1
theorem Rd.nem {M:Mem} {i o n r:Nat} {v:List LV} {es:List (LV × LV)} {bs:List Nat} {c:Nat} (h:Rd M i o n v) (hm:At M r (.map es bs c)):i ≠ r:=fun e=>by
 subst e
 have h1:=h.1
 unfold loadN atCells at h1
 rw [hm.1] at h1
 cases h1
theorem SlI.keepm {M M':Mem} {r:Nat} {es:List (LV × LV)} {bs:List Nat} {c:Nat} {a:Option (Nat × Nat)} {l:List Int} (h:SlI M a l) (hm:At M r (.map es bs c)) (hk:Keep (fun i=>i=r) M M'):SlI M' a l :=
 h.imp id fun ⟨i,o,h1,h2⟩=>⟨i,o,h1,fun k hk'=>(h2 k hk').keep hk (Rd1.nem (h2 k hk') hm)⟩
theorem FsV.keepm {M M':Mem} {r:Nat} {es:List (LV × LV)} {bs:List Nat} {c:Nat} {a:Option (Nat × Nat)} {L:List Fr} (h:FsV M a L) (hm:At M r (.map es bs c)) (hk:Keep (fun i=>i=r) M M'):FsV M' a L :=
 h.imp id fun ⟨i,o,h1,h2⟩=>⟨i,o,h1,fun k hk'=>by
  obtain ⟨b,g,u,h3,h4⟩:=h2 k hk'
  exact ⟨b,g,u,h3.keep hk (Rd.nem h3 hm),SlI.keepm h4 hm hk⟩⟩
set_option maxHeartbeats 8000000 in
theorem zlj {M:Mem} {r:Nat} {R:Rk} {a:Option (Nat × Nat)} {L:List Fr} {f:Bool} {e:Nat} (hR:RkM M r R) (hs:FsV M a L) (hL:FrOk L) (hB:RkB R) (hln:L.length<=1000000) :
  CallOk Tryz.prog 63 [.map (some r),.slice a L.length f e] M (fun _ M'=>RkM M' r (L.foldl rkA R) /\ Keep (fun i=>i=r) M M'):=by
 refine z9 k63 rfl ?_
 dsimp only [x63,zipE,Nat.reduceAdd]
 (repeat' (first|(with_reducible intro _)|refine sv ?_|(refine sc ?_ ?_<;>(intro h;try first|exact h.elim|exact absurd rfl h|(exfalso;omega)))|(refine sg ?_ ?_<;>(intro h;(fail_if_success (have:True:=h));try first|exact h.elim|exact absurd rfl h|(exfalso;omega)))|assumption|exact xm|exact rfl))
 refine z7 (fun z E ms M'=>∃ (k:Nat),z=L.length - k /\ k<=L.length /\ ms=[] /\ Has E [(0,.map (some r)),(6,.slice a L.length f e),(7,I L.length),(8,I k)] /\ RkM M' r ((L.take k).foldl rkA R) /\ RkB ((L.take k).foldl rkA R) /\ FsV M' a L /\ Keep (fun i=>i=r) M M')
  ?_ (L.length - 0) _ _ _ ⟨0,rfl,Nat.zero_le _,rfl,.cons rfl (.cons rfl (.cons rfl (.cons rfl .nil))),hR,hB,hs,Keep.refl _ _⟩
 rintro z E ms M1 ⟨k,rfl,hk,rfl,hE,hR1,hB1,hs1,hk1⟩
 refine zt hE ?_
 by_cases hlast:k=L.length
 ·subst hlast
  rw [List.take_length] at hR1
  (repeat' (first|(with_reducible intro _)|refine sv ?_|(refine sc ?_ ?_<;>(intro h;try first|exact h.elim|exact absurd rfl h|(exfalso;omega)))|(refine sg ?_ ?_<;>(intro h;(fail_if_success (have:True:=h));try first|exact h.elim|exact absurd rfl h|(exfalso;omega)))|assumption|exact xm|exact rfl))
  ((with_reducible first|apply z8|apply z3);exact rx)
  exact ⟨hR1,hk1⟩
 have hlt:k < L.length:=by omega
 obtain ⟨i,o,b,g,u,rfl,hr,hfv⟩:=hs1.rd hlt
 have hfo:=hL (fe L k) (by rw [z2d hlt];exact List.getElem_mem hlt)
 have hfl:=z4l hfo
 have hnext:(L.take (k+1)).foldl rkA R=rkA ((L.take k).foldl rkA R) (fe L k):=by rw [zdk hlt,z2d hlt]
 generalize hRk:(L.take k).foldl rkA R=R1 at *
 generalize hF:fe L k=F at *
 (have hrd0:=hr;repeat' (first|(with_reducible intro _)|refine sv ?_|(refine sc ?_ ?_<;>(intro h;try first|exact h.elim|exact absurd rfl h|(exfalso;omega)))|(refine sg ?_ ?_<;>(intro h;(fail_if_success (have:True:=h));try first|exact h.elim|exact absurd rfl h|(exfalso;omega)))|assumption|exact xm|exact rfl))
 rename_i n2 M2 hN2 q2 q2' M3 hU3 q3 hA3
 have hg13:Grow M1 M3:=xg
 have hs3:=hs1.grow hg13
 have hR3:RkM M3 r R1:=hR1.grow (xg)
 have hfv3:=hfv.grow hg13
 have hkp3:Keep (fun i=>i=r) M M3:=xk
 clear hU3 hN2
 have ck:=fun M' (hg:Grow M3 M')=>zb0 (hfv3.grow hg)
 (repeat' (first|(with_reducible intro _)|refine sv ?_|(refine sc ?_ ?_<;>(intro h;try first|exact h.elim|exact absurd rfl h|(exfalso;omega)))|((with_reducible first|apply zy|apply zw|apply zh);exact gd;exact rfl;exact rfl;(first|exact ck _ (xg)))|(refine sg ?_ ?_<;>(intro h;(fail_if_success (have:True:=h));try first|exact h.elim|exact absurd rfl h|(exfalso;omega)))|assumption|exact xm|exact rfl))
 rename_i M4 hg4 q4 M5 hg5 q5
 have hg35:=hg4.trans hg5
 have hR5:=hR3.grow hg35
 have hs5:=hs3.grow hg35
 have hfv5:=hfv3.grow hg35
 have hA5:=At.grow hg35 hA3
 have hkp5:Keep (fun i=>i=r) M M5:=hkp3.grow hg35
 obtain ⟨Lm,bs,clk,hm5,hok,hLm⟩:=id hR5
 have hlk:=hLm.look (fky F)
 have hbl:=hB1 (fky F)
 have hst:rkA R1 F=stK R1 (fky F) (bothL ((lkK R1 (fky F)).getD []) F.2.2):=rfl
 generalize (lkK R1 (fky F)).getD []=old at *
 obtain ⟨av,fv,ev,hve,hv1,hvs⟩:=hlk
 have lk5:∀ {E:Env} {x y:XO} (m:Mem),At m r (.map (encK Lm) bs clk)->xval E x=some (.map (some r))->xval E y=some (kyv (fky F))->xstep Tryz.prog (.lkp 114 zsl false x y) E m=some (.val (.slice av old.length fv ev) m):=fun m hm hx hy=>by
  have:=zft hm hx hy
  rw [hve] at this;exact this
 have hm3:At M4 n2 (.cells true [I F.1,I F.2.1,.slice b F.2.2.length g u] 48):=At.grow hg4 hA3
 refine z4v (by exact gd) (lk5 _ hm5 rfl rfl) (fun m=>At m r (.map (encK Lm) bs clk)) (fun m hm=>lk5 m hm rfl rfl) ?_
 obtain ⟨_,_,_,hfe,hfs⟩:=id hfv5
 cases hfe
 have cb:=zlk hvs hfs (by omega) (by omega) (fa:=fv) (ea:=ev) (fb:=g) (eb:=u)
 clear hg4 hg5
 (have hrd0:=zai (Rd.of_at (i:=n2) (o:=0+2) hA5 rfl);repeat' (first|(with_reducible intro _)|refine sv ?_|(refine sc ?_ ?_<;>(intro h;try first|exact h.elim|exact absurd rfl h|(exfalso;omega)))|((with_reducible first|apply zm|apply zo|apply zc);exact gd;exact rfl;exact rfl;(first|exact cb))|(refine sg ?_ ?_<;>(intro h;(fail_if_success (have:True:=h));try first|exact h.elim|exact absurd rfl h|(exfalso;omega)))|assumption|exact xm|exact rfl))
 rename_i w6 M6 hq
 obtain ⟨hv6,hg6⟩:=hq
 have hsv6:=SlV.vec hv6
 obtain ⟨a6,f6,e6,rfl,hs6⟩:=SlI.vec hv6
 have hR6:=hR5.grow hg6
 have hFs6:=hs5.grow hg6
 have hm6:=At.grow hg6 hm5
 refine zhj (smp:=bothL old F.2.2) (k:=fky F) (by exact gd) hR6 hsv6 rfl rfl rfl ?_
 intro lb M7 hU7 e7 hR7
 have hk67:Keep (fun i=>i=r) M6 M7:=(Keep.refl _ _).upd hU7 (.inl rfl)
 have hFs7:=FsV.keepm hFs6 hm6 hk67
 have hk7:Keep (fun i=>i=r) M M7:=(hkp5.grow hg6).upd hU7 (.inl rfl)
 rw [<-hst] at hR7
 clear hU7
 (repeat' (first|(with_reducible intro _)|refine sv ?_|(refine sc ?_ ?_<;>(intro h;try first|exact h.elim|exact absurd rfl h|(exfalso;omega)))|(refine sg ?_ ?_<;>(intro h;(fail_if_success (have:True:=h));try first|exact h.elim|exact absurd rfl h|(exfalso;omega)))|assumption|exact xm|exact rfl))
 exact ze (L.length - (k+1)) (by omega) ⟨k+1,rfl,by omega,rfl,.cons rfl (.cons rfl (.cons rfl (.cons rfl .nil))),by rw [hnext];exact hR7,by rw [hnext];exact hB1.add hfl.2,hFs7,hk7⟩
end Go.Proofs.YtbfnnllgdioccaaGreatDoor.C
end
section
open Go PvL Go.Proofs
variable {μ:Md}
set_option linter.unusedVariables false
set_option linter.unusedSimpArgs false
namespace Go.Proofs.YtbfnnllgdioccaaGreatDoor.C
theorem zmj {x:Rl} (h:errRl x=0):FrOk x.2 /\ x.2.length<=128 /\ nmB x.1=true /\ rlK x.2 x.2.length=true:=by
 unfold errRl at h
 cases hb:rlB x with
 | false=>rw [hb] at h;simp at h
 | true =>
  unfold rlB at hb
  simp only [Bool.and_eq_true,decide_eq_true_eq] at hb
  refine ⟨fun f hf=>?_,hb.1.2,hb.1.1,hb.2⟩
  obtain ⟨i,hi,rfl⟩:=List.mem_iff_getElem.1 hf
  have:=zcs hb.2 hi
  rw [z2d hi] at this;exact this
theorem z44 (M:Mem):RlV1 M (.agg [.str ⟨#[]⟩,.slice none 0 true 0]) zRl:=⟨none,true,0,rfl,.inl rfl⟩
theorem RkM.nil {M M':Mem} {r:Nat} (hN:New M r (.map [] [] 0) M'):RkM M' r []:=⟨[],[],0,At.new_same hN,⟨rfl,List.nodup_nil,fun _ h=>nomatch h⟩,.nil⟩
theorem Rd1.ner {M:Mem} {i o n:Nat} {v:Int} {own:Bool} {s:ByteArray} {p:Option (Nat × Nat)} {k:Nat} {f:Bool} {e:Nat} {ty:TypeId} (h:Rd1 M i o (I v)) (hm:At M n (.cells own [.str s,.slice p k f e] ty)):i ≠ n:=fun he=>by
 subst he
 have h1:=h.1
 unfold load1 atCells at h1
 rw [hm.1] at h1
 have h1:PvL.nth [LV.str s,.slice p k f e] o=some (I v):=h1
 match o,h1 with
 | 0,h1=>cases h1
 | 1,h1=>cases h1
 | o+2,h1=>cases h1
theorem Rd.ner {M:Mem} {i o n:Nat} {x y z:LV} {own:Bool} {s:ByteArray} {p:Option (Nat × Nat)} {k:Nat} {f:Bool} {e:Nat} {ty:TypeId} (h:Rd M i o 3 [x,y,z]) (hm:At M n (.cells own [.str s,.slice p k f e] ty)):i ≠ n:=fun he=>by
 subst he
 have h1:=h.1
 unfold loadN atCells at h1
 rw [hm.1] at h1
 have h1:take' 3 (drop' o [LV.str s,.slice p k f e])=some [x,y,z]:=h1
 match o,h1 with
 | 0,h1=>cases h1
 | 1,h1=>cases h1
 | 2,h1=>cases h1
 | o+3,h1=>cases h1
theorem SlI.updr {M M':Mem} {n:Nat} {lb:LB} {own:Bool} {s:ByteArray} {p:Option (Nat × Nat)} {k:Nat} {f:Bool} {e:Nat} {ty:TypeId} {a:Option (Nat × Nat)} {l:List Int} (h:SlI M a l) (hm:At M n (.cells own [.str s,.slice p k f e] ty)) (hu:Upd M n lb M'):SlI M' a l :=
 h.imp id fun ⟨i,o,h1,h2⟩=>⟨i,o,h1,fun k hk'=>Rd1.upd_ne hu (Rd1.ner (h2 k hk') hm) (h2 k hk')⟩
theorem FsV.updr {M M':Mem} {n:Nat} {lb:LB} {own:Bool} {s:ByteArray} {p:Option (Nat × Nat)} {k:Nat} {f:Bool} {e:Nat} {ty:TypeId} {a:Option (Nat × Nat)} {L:List Fr} (h:FsV M a L) (hm:At M n (.cells own [.str s,.slice p k f e] ty)) (hu:Upd M n lb M'):FsV M' a L :=
 h.imp id fun ⟨i,o,h1,h2⟩=>⟨i,o,h1,fun k hk'=>by
  obtain ⟨b,g,u,h3,h4⟩:=h2 k hk'
  exact ⟨b,g,u,Rd.upd_ne hu (Rd.ner h3 hm) h3,SlI.updr h4 hm hu⟩⟩
theorem FsV1.updr {M M':Mem} {n:Nat} {lb:LB} {own:Bool} {s:ByteArray} {p:Option (Nat × Nat)} {k:Nat} {f:Bool} {e:Nat} {ty:TypeId} {a:Option (Nat × Nat)} {L:List Fr} (h:FsV1 M a L) (hm:At M n (.cells own [.str s,.slice p k f e] ty)) (hu:Upd M n lb M'):FsV1 M' a L :=
 h.imp id fun ⟨i,o,h1,h2⟩=>⟨i,o,h1,fun k hk'=>by
  obtain ⟨b,g,h3,h4⟩:=h2 k hk'
  exact ⟨b,g,Rd.upd_ne hu (Rd.ner h3 hm) h3,SlI.updr h4 hm hu⟩⟩
set_option maxHeartbeats 8000000 in
theorem zer {M:Mem} {v w:LV} {x y:Rl} (hv:RlV M v x) (hw:RlV M w y) (hx:RlIn x) (hy:RlIn y) :
  CallN Tryz.prog 23 [v,w] M (fun r M'=>∃ q,r=.tup [q,I (mergeF x y).2] /\ RlV1 M' q (mergeF x y).1 /\ Grow M M'):=by
 have hv0:=hv
 have hw0:=hw
 obtain ⟨a,f,e,rfl,hs⟩:=hv
 obtain ⟨b,f',e',rfl,hs'⟩:=hw
 refine z1w k23 rfl ?_
 dsimp only [x23,zipE,Nat.reduceAdd]
 have hc1:=fun M' hg=>z36 (M:=M') (hv0.grow hg) hx
 have hc2:=fun M' hg=>z36 (M:=M') (hw0.grow hg) hy
 by_cases hex:errRl x=0
 case neg =>
  have hj:mergeF x y=(zRl,errRl x):=by unfold mergeF;rw [if_neg hex]
  rw [hj]
  (repeat' (first|(with_reducible intro _)|refine sv ?_|refine su ?_|(refine sc ?_ ?_<;>(intro h;try first|exact h.elim|exact absurd rfl h|(exfalso;omega)))|((with_reducible first|apply zy|apply zw|apply zh);exact gd;exact rfl;exact rfl;(first|exact hc1 _ (xg)))|(refine sg ?_ ?_<;>(intro h;(fail_if_success (have:True:=h));try first|exact h.elim|exact absurd rfl h|(exfalso;omega)))|assumption|exact xm|exact rfl))
  ((with_reducible first|apply z8|apply z3);exact rx)
  exact ⟨_,rfl,z44 _,xg⟩
 rw [hex] at hc1
 by_cases hey:errRl y=0
 case neg =>
  have hj:mergeF x y=(zRl,errRl y):=by unfold mergeF;rw [if_pos hex,if_neg hey]
  rw [hj]
  (repeat' (first|(with_reducible intro _)|refine sv ?_|refine su ?_|(refine sc ?_ ?_<;>(intro h;try first|exact h.elim|exact absurd rfl h|(exfalso;omega)))|((with_reducible first|apply zy|apply zw|apply zh);exact gd;exact rfl;exact rfl;(first|exact hc1 _ (xg)|exact hc2 _ (xg)))|(refine sg ?_ ?_<;>(intro h;(fail_if_success (have:True:=h));try first|exact h.elim|exact absurd rfl h|(exfalso;omega)))|assumption|exact xm|exact rfl))
  ((with_reducible first|apply z8|apply z3);exact rx)
  exact ⟨_,rfl,z44 _,xg⟩
 rw [hey] at hc2
 obtain ⟨hox,hlx,-,-⟩:=zmj hex
 obtain ⟨hoy,hly,-,-⟩:=zmj hey
 by_cases hnm:x.1=y.1
 case neg =>
  have hj:mergeF x y=(zRl,2):=by unfold mergeF;rw [if_pos hex,if_pos hey,if_neg hnm]
  rw [hj]
  (repeat' (first|(with_reducible intro _)|refine sv ?_|refine su ?_|(refine sc ?_ ?_<;>(intro h;try first|exact h.elim|exact absurd rfl h|(exfalso;omega)))|((with_reducible first|apply zy|apply zw|apply zh);exact gd;exact rfl;exact rfl;(first|exact hc1 _ (xg)|exact hc2 _ (xg)))|(refine sg ?_ ?_<;>(intro h;(fail_if_success (have:True:=h));try first|exact h.elim|exact absurd rfl h|(exfalso;omega)))|assumption|exact xm|exact rfl))
  ·((with_reducible first|apply z8|apply z3);exact rx)
   exact ⟨_,rfl,z44 _,xg⟩
  ·exact absurd (z9d h) hnm
 have hb:(x.1 == y.1)=true:=by rw [hnm];exact z4d _
 have hfo:FrOk (x.2 ++ y.2):=fun z hz=>(List.mem_append.1 hz).elim (hox z) (hoy z)
 have hrj:=znx hfo.k
 have hne9:∀ z ∈ joinedR (x.2 ++ y.2),z.2.2 ≠ []:=fun z hz=>by
  have h1:=z4l (zbb (J:=[]) (fun _ h=>absurd h List.not_mem_nil) hfo z hz)
  intro h2;rw [h2] at h1;exact absurd h1.1 (by decide)
 have hrk:rackF (x.2 ++ y.2)=y.2.foldl rkA (x.2.foldl rkA []):=by unfold rackF;rw [List.foldl_append]
 have hll:(rackF (x.2 ++ y.2)).length<=1000000:=by
  have:∀ (l:List Fr) (R:Rk),(l.foldl rkA R).length<=R.length+l.length:=fun l=>by
   induction l with
   | nil=>intro R;exact Nat.le_refl _
   | cons z l ih =>
    intro R
    have h1:=ih (rkA R z)
    have h2:(rkA R z).length<=R.length+1:=by
     have:=congrArg List.length (zbx R (fky z) (bothL ((lkK R (fky z)).getD []) z.2.2))
     rw [List.length_map] at this
     unfold rkA
     rw [this]
     split<;>simp
    rw [List.foldl_cons,List.length_cons];omega
  have:=this (x.2 ++ y.2) []
  rw [List.length_append] at this
  unfold rackF
  have h0:([]:Rk).length=0:=rfl
  omega
 (repeat' (first|(with_reducible intro _)|refine sv ?_|refine su ?_|(refine sc ?_ ?_<;>(intro h;try first|exact h.elim|exact absurd rfl h|(exfalso;omega)))|((with_reducible first|apply zy|apply zw|apply zh);exact gd;exact rfl;exact rfl;(first|exact hc1 _ (xg)|exact hc2 _ (xg)))|(refine sg ?_ ?_<;>(intro h;(fail_if_success (have:True:=h));try first|exact h.elim|exact absurd rfl h|(exfalso;omega)))|assumption|exact xm|exact rfl))
 ·rw [hb] at h;cases h
 rename_i n1 M1 hN1 q1 q1' n2 M2 hN2 q2 q2' n3 M3 hN3 q3 q3' hz1 n4 M4 hN4 q4 q4' M5 hU5 q5 hA5 M6 hg6 q6 hz2 hz3 n7 M7 hN7 q7 q7' M8 hU8 q8 hA8 M9 hg9 q9 hz4 hz5 n10 M10 hN10 q10 q10'
 have g10:Grow M M10:=xg
 have a1:At M10 n1 (.cells true [.str x.1,.slice a x.2.length f e] 24):=by
  have:At M1 n1 (.cells true [.str x.1,.slice a x.2.length f e] 24):=At.new_same hN1
  exact xm
 have a2:At M10 n2 (.cells true [.str y.1,.slice b y.2.length f' e'] 24):=by
  have:At M2 n2 (.cells true [.str y.1,.slice b y.2.length f' e'] 24):=At.new_same hN2
  exact xm
 have a3:At M10 n3 (.cells true [.str ⟨#[]⟩,.slice none 0 true 0] 24):=xm
 have hR10:=RkM.nil hN10
 have hs10:=hs.grow g10
 have hs10':=hs'.grow g10
 clear hN1 hN2 hN3 hN4 hU5 hA5 hg6 hN7 hU8 hA8 hg9 hN10 hz1 hz2 hz3 hz4 hz5
 (repeat' (first|(with_reducible intro _)|refine sv ?_|(refine sc ?_ ?_<;>(intro h;try first|exact h.elim|exact absurd rfl h|(exfalso;omega)))|((with_reducible first|apply zm|apply zo|apply zc);exact gd;exact rfl;exact rfl;(first|exact zlj hR10 hs10 hox RkB.nil (by omega)))|(refine sg ?_ ?_<;>(intro h;(fail_if_success (have:True:=h));try first|exact h.elim|exact absurd rfl h|(exfalso;omega)))|assumption|exact xm|exact rfl))
 rename_i M11 hq
 obtain ⟨hR11,hk11⟩:=hq
 have hle:=g10.le
 obtain ⟨Lm,bs,clk,hm10,-⟩:=id hR10
 have hs11:=FsV.keepm hs10' hm10 hk11
 have a1:=a1.keep hk11 (show ¬ n1=n10 by omega)
 have a2:=a2.keep hk11 (show ¬ n2=n10 by omega)
 have a3:=a3.keep hk11 (show ¬ n3=n10 by omega)
 have hk10:Keep (fun i=>i=n10) M10 M11:=hk11
 clear hk11 hs10 hs10' hm10 hR10
 (repeat' (first|(with_reducible intro _)|refine sv ?_|(refine sc ?_ ?_<;>(intro h;try first|exact h.elim|exact absurd rfl h|(exfalso;omega)))|((with_reducible first|apply zm|apply zo|apply zc);exact gd;exact rfl;exact rfl;(first|exact zlj hR11 hs11 hoy (hox.rkB RkB.nil) (by omega)))|(refine sg ?_ ?_<;>(intro h;(fail_if_success (have:True:=h));try first|exact h.elim|exact absurd rfl h|(exfalso;omega)))|assumption|exact xm|exact rfl))
 rename_i M12 hq
 obtain ⟨hR12,hk12⟩:=hq
 rw [<-hrk] at hR12
 have a1:=a1.keep hk12 (show ¬ n1=n10 by omega)
 have a2:=a2.keep hk12 (show ¬ n2=n10 by omega)
 have a3:=a3.keep hk12 (show ¬ n3=n10 by omega)
 have g12:Grow M M12:=Keep.to_grow' (Keep.to_grow' g10 hk10 (fun i hi=>by omega)) hk12 (fun i hi=>by omega)
 clear hk10 hk12 hR11 hs11
 (repeat' (first|(with_reducible intro _)|refine sv ?_|(refine sc ?_ ?_<;>(intro h;try first|exact h.elim|exact absurd rfl h|(exfalso;omega)))|(refine sg ?_ ?_<;>(intro h;(fail_if_success (have:True:=h));try first|exact h.elim|exact absurd rfl h|(exfalso;omega)))|assumption|exact xm|exact rfl))
 refine z6z (by exact gd) rfl rfl (zhc hR12 hrj hne9 hll) ?_
 rintro w13 M13 ⟨hres,hg13⟩
 have a1:=At.grow hg13 a1
 have a2:=At.grow hg13 a2
 have a3:=At.grow hg13 a3
 have g13:=g12.trans hg13
 clear g12 hg13
 have hmf:mergeF x y=if (joinedR (x.2 ++ y.2)).length<=128 then ((x.1,joinedR (x.2 ++ y.2)),0) else (zRl,6):=by
  unfold mergeF
  rw [if_pos hex,if_pos hey,if_pos hnm]
 rcases hres with ⟨hj,aj,fj,ej,rfl,hfj⟩|⟨hj,rfl⟩
 ·rw [hmf,if_pos hj]
  (repeat' (first|(with_reducible intro _)|refine sv ?_|(refine sc ?_ ?_<;>(intro h;try first|exact h.elim|exact absurd rfl h|(exfalso;omega)))|(refine sg ?_ ?_<;>(intro h;(fail_if_success (have:True:=h));try first|exact h.elim|exact absurd rfl h|(exfalso;omega)))|assumption|exact xm|exact rfl))
  rename_i M14 hU14 e14 hA14
  have g14:Grow M M14:=g13.upd hU14 (by omega)
  ((with_reducible first|apply z8|apply z3);exact rx)
  exact ⟨_,rfl,⟨aj,fj,ej,rfl,FsV1.updr hfj a3 hU14⟩,g14⟩
 ·rw [hmf,if_neg (by omega)]
  (repeat' (first|(with_reducible intro _)|refine sv ?_|(refine sc ?_ ?_<;>(intro h;try first|exact h.elim|exact absurd rfl h|(exfalso;omega)))|(refine sg ?_ ?_<;>(intro h;(fail_if_success (have:True:=h));try first|exact h.elim|exact absurd rfl h|(exfalso;omega)))|assumption|exact xm|exact rfl))
  ((with_reducible first|apply z8|apply z3);exact rx)
  exact ⟨_,rfl,z44 _,xg⟩
end Go.Proofs.YtbfnnllgdioccaaGreatDoor.C
end
