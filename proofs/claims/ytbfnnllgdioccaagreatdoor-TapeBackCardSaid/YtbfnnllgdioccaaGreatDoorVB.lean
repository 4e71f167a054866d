/-
 Part of the proof of TapeBack. No condition beyond those in each theorem.
-/
import Derived.Test.YtbfnnllgdioccaaGreatDoorVA
import Derived.Test.YtbfnnllgdioccaaGreatDoorQvH
import Derived.Test.YtbfnnllgdioccaaGreatDoorQvG
section
open Go PvL Go.Proofs
set_option linter.unusedSimpArgs false
set_option linter.unusedVariables false
namespace Go.Proofs.YtbfnnllgdioccaaGreatDoor.C
def PlainR {α:Type} (f:α->LV) (x:α) (v:List LV) (U:Nat->Prop) (_:Mem):Prop:=v=[f x] /\ ∀ i,¬ U i
def cdItems (l:List Int) (k:Nat):List Int:=(List.range k).map (cdA l)
theorem z3u (l:List Int) (k:Nat):cdItems l (k+1)=cdItems l k ++ [cdA l k]:=by unfold cdItems;rw [List.range_succ,List.map_append];rfl
theorem z8i {l:List Int} {n k:Nat} (hk:k < n):cdItems l n=cdItems l k ++ cdA l k :: (cdItems l n).drop (k+1):=by
 have h:=List.take_append_drop k (cdItems l n)
 have h1:(cdItems l n).take k=cdItems l k:=by unfold cdItems;rw [<-List.map_take,List.take_range,Nat.min_eq_left (by omega)]
 have h2:(cdItems l n).drop k=cdA l k :: (cdItems l n).drop (k+1):=by
  rw [List.drop_eq_getElem_cons (by unfold cdItems;simpa using hk)]
  congr 1
  unfold cdItems
  simp
 rw [h1,h2] at h
 exact h.symm
theorem zjo {a:Option (Nat × Nat)} {n:Nat} {f:Bool} {e:Nat} (M:Mem):CallOk Tryz.prog 128 [.slice a n f e] M (MkAt (fun p=>.func (.func 153) [] [.ptr (some (p,0))]) (.cells true [.slice a n f e] 27) M):=by
 refine zh k128 rfl ?_
 dsimp only [x128,zipE,Nat.reduceAdd]
 (repeat' (first|(with_reducible intro _)|refine sv ?_|(refine sc ?_ ?_<;>(intro h;try first|exact h.elim|exact absurd rfl h|(exfalso;omega)))|(refine sg ?_ ?_<;>(intro h;(fail_if_success (have:True:=h));try first|exact h.elim|exact absurd rfl h|(exfalso;omega)))|assumption|exact xm|exact rfl))
 rename_i m M1 hN q1 q2
 ((with_reducible first|apply zc|apply z6);exact rx)
 exact ⟨m,rfl,At.new_same hN,by omega,by omega,hN.grow⟩
set_option maxHeartbeats 8000000 in
theorem zl4 {M0:Mem} {p:Nat} {a:Option (Nat × Nat)} {l:List Int} {f:Bool} {e:Nat} (hp:At M0 p (.cells true [.slice a l.length f e] 27)) (hs:SlI M0 a l) (hl:l.length<=64) (hsm:l.all smB=true) :
  YieldsS Tryz.prog 153 [] [.ptr (some (p,0))] (fun i=>i=p ∨ ∃ o,a=some (i,o)) (fun _=>False) (fun _=>True) (cdItems l l.length) (PlainR fun n=>I n) M0:=by
 intro ly AA II DD tk hS hI0
 have hAp:¬ AA p:=hS _ (.inl rfl)
 refine zh k153 rfl ?_
 dsimp only [x153,zipE,Nat.reduceAdd,List.nil_append,List.cons_append]
 (repeat' (first|(with_reducible intro _)|refine sv ?_|(refine sc ?_ ?_<;>(intro h;try first|exact h.elim|exact absurd rfl h|(exfalso;omega)))|(refine sg ?_ ?_<;>(intro h;(fail_if_success (have:True:=h));try first|exact h.elim|exact absurd rfl h|(exfalso;omega)))|assumption|exact xm|exact rfl))
 refine zg (fun z E ms M'=>∃ (k:Nat) (T:Nat->Prop),z=l.length - k /\ k<=l.length /\ ms=[] /\ Has E [(0,.func (.yield ly) [] []),(3,I (lsA l k)),(8,.slice a l.length f e),(9,I l.length),(10,I k)] /\ Keep AA M0 M' /\ (∀ j,T j->M0.next<=j /\ j < M'.next) /\ II (cdItems l k) T M') ?_ l.length _ _ _
  ⟨0,fun _=>False,by omega,by omega,rfl,.cons rfl (.cons rfl (.cons rfl (.cons rfl (.cons rfl .nil)))),Keep.refl _ _,fun j hj=>hj.elim,hI0⟩
 rintro z E ms M1 ⟨k,T1,rfl,hk,rfl,hE,hk1,hT1,hI1⟩
 refine z2v hE ?_
 by_cases hlast:k=l.length
 ·subst hlast
  (repeat' (first|(with_reducible intro _)|refine sv ?_|(refine sc ?_ ?_<;>(intro h;try first|exact h.elim|exact absurd rfl h|(exfalso;omega)))|(refine sg ?_ ?_<;>(intro h;(fail_if_success (have:True:=h));try first|exact h.elim|exact absurd rfl h|(exfalso;omega)))|assumption|exact xm|exact rfl))
  ((with_reducible first|apply zc|apply z6);exact rx)
  exact ⟨hk1.weaken (fun j hj=>.inl hj),trivial,T1,hT1,.inl hI1⟩
 have hlt:k < l.length:=by omega
 obtain ⟨i,o,rfl,hr⟩:=hs.rd hlt
 rw [<-z6b hlt] at hr
 have hAi:¬ AA i:=hS _ (.inr ⟨o,rfl⟩)
 have hr1:=hr.keep hk1 hAi
 have hle:=hk1.le
 have hb:=zfo l k
 have hcd:=zc1 l k
 have hstep:RoundOk Tryz.prog ly [I (cdA l k)] M1 fun w M'=>Keep (fun i=>AA i ∨ T1 i ∨ False) M1 M' /\ ∃ T':Nat->Prop,(∀ i,T' i->(T1 i ∨ False ∨ M1.next<=i) /\ i < M'.next) /\ ((w=.bool true /\ II (cdItems l k ++ [cdA l k]) T' M') ∨ (w=.bool false /\ DD T' M')) :=
  tk.step (cdItems l k) (cdA l k) ((cdItems l l.length).drop (k+1)) [I (cdA l k)] (fun _=>False) T1 M1 (z8i hlt) ⟨rfl,fun _=>id⟩ hle hT1 (fun _ h=>h.elim) hI1
 have hsi:smB (getG l k)=true:=by
  rw [List.all_eq_true] at hsm
  rw [z6b hlt]
  exact hsm _ (List.getElem_mem hlt)
 have hcA:cdA l k=(cdS (getG l k) (lsA l k)).1:=rfl
 have hlA:lsA l (k+1)=(cdS (getG l k) (lsA l k)).2:=rfl
 generalize hv:getG l k=v at *
 generalize hla:lsA l k=la at *
 generalize hcc:cdA l k=cc at *
 unfold cdS at hcA hlA
 by_cases h1:v=40001
 ·rw [if_pos h1] at hcA hlA
  dsimp only at hcA hlA
  subst hcA
  (have hrd0:=hr1;repeat' (first|(with_reducible intro _)|refine sv ?_|(refine sc ?_ ?_<;>(intro h;try first|exact h.elim|exact absurd rfl h|(exfalso;omega)))|(refine sg ?_ ?_<;>(intro h;(fail_if_success (have:True:=h));try first|exact h.elim|exact absurd rfl h|(exfalso;omega)))|assumption|exact xm|exact rfl))
  refine z19 (by exact gd) rfl rfl (show AppOk Tryz.prog _ _ M1 _ from hstep) ?_
  rintro w M2 ⟨hk2,T2,hT2,hw⟩
  have hk02:Keep AA M0 M2:=hk1.trans hk2 (fun i hi=>hi.elim .inl (fun h=>h.elim (fun h=>.inr (hT1 i h).1) False.elim))
  have hT02:∀ j,T2 j->M0.next<=j /\ j < M2.next:=fun j hj=>⟨(hT2 j hj).1.elim (fun h=>(hT1 j h).1) (fun h=>h.elim False.elim (fun h=>by omega)),(hT2 j hj).2⟩
  rcases hw with ⟨rfl,hI2⟩|⟨rfl,hD2⟩
  ·(repeat' (first|(with_reducible intro _)|refine sv ?_|(refine sc ?_ ?_<;>(intro h;try first|exact h.elim|exact absurd rfl h|(exfalso;omega)))|(refine sg ?_ ?_<;>(intro h;(fail_if_success (have:True:=h));try first|exact h.elim|exact absurd rfl h|(exfalso;omega)))|assumption|exact xm|exact rfl))
   exact zw (l.length - (k+1)) (by omega) ⟨k+1,T2,rfl,by omega,rfl,.cons rfl (.cons (by rw [hlA];rfl) (.cons rfl (.cons rfl (.cons rfl .nil)))),hk02,hT02,by rw [z3u,hcc];exact hI2⟩
  ·(repeat' (first|(with_reducible intro _)|refine sv ?_|(refine sc ?_ ?_<;>(intro h;try first|exact h.elim|exact absurd rfl h|(exfalso;omega)))|(refine sg ?_ ?_<;>(intro h;(fail_if_success (have:True:=h));try first|exact h.elim|exact absurd rfl h|(exfalso;omega)))|assumption|exact xm|exact rfl))
   ((with_reducible first|apply zc|apply z6);exact rx)
   exact ⟨hk02.weaken (fun j hj=>.inl hj),trivial,T2,hT02,.inr hD2⟩
 ·rw [if_neg h1] at hcA hlA
  cases hkn:knB v with
  | false =>
   rw [hkn,if_neg (by decide)] at hcA hlA
   dsimp only at hcA hlA
   subst hcA
   have hc:∀ M,CallOk Tryz.prog 47 [I v] M (fun w M'=>w=.bool false /\ M'=M):=fun M=>by rw [<-hkn];exact z5y _ M
   (have hrd0:=hr1;repeat' (first|(with_reducible intro _)|refine sv ?_|(refine sc ?_ ?_<;>(intro h;try first|exact h.elim|exact absurd rfl h|(exfalso;omega)))|((with_reducible first|apply zn|apply zt|apply zk);exact gd;exact rfl;exact rfl;(first|exact hc _))|(refine sg ?_ ?_<;>(intro h;(fail_if_success (have:True:=h));try first|exact h.elim|exact absurd rfl h|(exfalso;omega)))|assumption|exact xm|exact rfl))
   refine z19 (by exact gd) rfl rfl (show AppOk Tryz.prog _ _ M1 _ from hstep) ?_
   rintro w M2 ⟨hk2,T2,hT2,hw⟩
   have hk02:Keep AA M0 M2:=hk1.trans hk2 (fun i hi=>hi.elim .inl (fun h=>h.elim (fun h=>.inr (hT1 i h).1) False.elim))
   have hT02:∀ j,T2 j->M0.next<=j /\ j < M2.next:=fun j hj=>⟨(hT2 j hj).1.elim (fun h=>(hT1 j h).1) (fun h=>h.elim False.elim (fun h=>by omega)),(hT2 j hj).2⟩
   rcases hw with ⟨rfl,hI2⟩|⟨rfl,hD2⟩
   ·(repeat' (first|(with_reducible intro _)|refine sv ?_|(refine sc ?_ ?_<;>(intro h;try first|exact h.elim|exact absurd rfl h|(exfalso;omega)))|(refine sg ?_ ?_<;>(intro h;(fail_if_success (have:True:=h));try first|exact h.elim|exact absurd rfl h|(exfalso;omega)))|assumption|exact xm|exact rfl))
    exact zw (l.length - (k+1)) (by omega) ⟨k+1,T2,rfl,by omega,rfl,.cons rfl (.cons (by rw [hlA];rfl) (.cons rfl (.cons rfl (.cons rfl .nil)))),hk02,hT02,by rw [z3u,hcc];exact hI2⟩
   ·(repeat' (first|(with_reducible intro _)|refine sv ?_|(refine sc ?_ ?_<;>(intro h;try first|exact h.elim|exact absurd rfl h|(exfalso;omega)))|(refine sg ?_ ?_<;>(intro h;(fail_if_success (have:True:=h));try first|exact h.elim|exact absurd rfl h|(exfalso;omega)))|assumption|exact xm|exact rfl))
    ((with_reducible first|apply zc|apply z6);exact rx)
    exact ⟨hk02.weaken (fun j hj=>.inl hj),trivial,T2,hT02,.inr hD2⟩
  | true =>
   rw [hkn,if_pos rfl] at hcA hlA
   dsimp only at hcA hlA
   have hvb:-32767<=v /\ v<=32767:=of_decide_eq_true hkn
   have hc:∀ M,CallOk Tryz.prog 47 [I v] M (fun w M'=>w=.bool true /\ M'=M):=fun M=>by rw [<-hkn];exact z5y _ M
   by_cases h2:v - la < 0
   ·rw [if_pos h2] at hcA
    subst hcA
    (have hrd0:=hr1;repeat' (first|(with_reducible intro _)|refine sv ?_|(refine sc ?_ ?_<;>(intro h;try first|exact h.elim|exact absurd rfl h|(exfalso;omega)))|((with_reducible first|apply zn|apply zt|apply zk);exact gd;exact rfl;exact rfl;(first|exact hc _))|(refine sg ?_ ?_<;>(intro h;(fail_if_success (have:True:=h));try first|exact h.elim|exact absurd rfl h|(exfalso;omega)))|assumption|exact xm|exact rfl))
    all_goals try (exfalso;omega)
    refine z19 (by exact gd) rfl rfl (show AppOk Tryz.prog _ _ M1 _ from hstep) ?_
    rintro w M2 ⟨hk2,T2,hT2,hw⟩
    have hk02:Keep AA M0 M2:=hk1.trans hk2 (fun i hi=>hi.elim .inl (fun h=>h.elim (fun h=>.inr (hT1 i h).1) False.elim))
    have hT02:∀ j,T2 j->M0.next<=j /\ j < M2.next:=fun j hj=>⟨(hT2 j hj).1.elim (fun h=>(hT1 j h).1) (fun h=>h.elim False.elim (fun h=>by omega)),(hT2 j hj).2⟩
    rcases hw with ⟨rfl,hI2⟩|⟨rfl,hD2⟩
    ·(repeat' (first|(with_reducible intro _)|refine sv ?_|(refine sc ?_ ?_<;>(intro h;try first|exact h.elim|exact absurd rfl h|(exfalso;omega)))|(refine sg ?_ ?_<;>(intro h;(fail_if_success (have:True:=h));try first|exact h.elim|exact absurd rfl h|(exfalso;omega)))|assumption|exact xm|exact rfl))
     exact zw (l.length - (k+1)) (by omega) ⟨k+1,T2,rfl,by omega,rfl,.cons rfl (.cons (by rw [hlA];rfl) (.cons rfl (.cons rfl (.cons rfl .nil)))),hk02,hT02,by rw [z3u,hcc];exact hI2⟩
    ·(repeat' (first|(with_reducible intro _)|refine sv ?_|(refine sc ?_ ?_<;>(intro h;try first|exact h.elim|exact absurd rfl h|(exfalso;omega)))|(refine sg ?_ ?_<;>(intro h;(fail_if_success (have:True:=h));try first|exact h.elim|exact absurd rfl h|(exfalso;omega)))|assumption|exact xm|exact rfl))
     ((with_reducible first|apply zc|apply z6);exact rx)
     exact ⟨hk02.weaken (fun j hj=>.inl hj),trivial,T2,hT02,.inr hD2⟩
   ·rw [if_neg h2] at hcA
    subst hcA
    (have hrd0:=hr1;repeat' (first|(with_reducible intro _)|refine sv ?_|(refine sc ?_ ?_<;>(intro h;try first|exact h.elim|exact absurd rfl h|(exfalso;omega)))|((with_reducible first|apply zn|apply zt|apply zk);exact gd;exact rfl;exact rfl;(first|exact hc _))|(refine sg ?_ ?_<;>(intro h;(fail_if_success (have:True:=h));try first|exact h.elim|exact absurd rfl h|(exfalso;omega)))|assumption|exact xm|exact rfl))
    all_goals try (exfalso;omega)
    refine z19 (by exact gd) rfl rfl (show AppOk Tryz.prog _ _ M1 _ from hstep) ?_
    rintro w M2 ⟨hk2,T2,hT2,hw⟩
    have hk02:Keep AA M0 M2:=hk1.trans hk2 (fun i hi=>hi.elim .inl (fun h=>h.elim (fun h=>.inr (hT1 i h).1) False.elim))
    have hT02:∀ j,T2 j->M0.next<=j /\ j < M2.next:=fun j hj=>⟨(hT2 j hj).1.elim (fun h=>(hT1 j h).1) (fun h=>h.elim False.elim (fun h=>by omega)),(hT2 j hj).2⟩
    rcases hw with ⟨rfl,hI2⟩|⟨rfl,hD2⟩
    ·(repeat' (first|(with_reducible intro _)|refine sv ?_|(refine sc ?_ ?_<;>(intro h;try first|exact h.elim|exact absurd rfl h|(exfalso;omega)))|(refine sg ?_ ?_<;>(intro h;(fail_if_success (have:True:=h));try first|exact h.elim|exact absurd rfl h|(exfalso;omega)))|assumption|exact xm|exact rfl))
     exact zw (l.length - (k+1)) (by omega) ⟨k+1,T2,rfl,by omega,rfl,.cons rfl (.cons (by rw [hlA];rfl) (.cons rfl (.cons rfl (.cons rfl .nil)))),hk02,hT02,by rw [z3u,hcc];exact hI2⟩
    ·(repeat' (first|(with_reducible intro _)|refine sv ?_|(refine sc ?_ ?_<;>(intro h;try first|exact h.elim|exact absurd rfl h|(exfalso;omega)))|(refine sg ?_ ?_<;>(intro h;(fail_if_success (have:True:=h));try first|exact h.elim|exact absurd rfl h|(exfalso;omega)))|assumption|exact xm|exact rfl))
     ((with_reducible first|apply zc|apply z6);exact rx)
     exact ⟨hk02.weaken (fun j hj=>.inl hj),trivial,T2,hT02,.inr hD2⟩
end Go.Proofs.YtbfnnllgdioccaaGreatDoor.C
end
section
open Go PvL Go.Proofs
set_option linter.unusedSimpArgs false
set_option linter.unusedVariables false
variable {μ:Md}
namespace Go.Proofs.YtbfnnllgdioccaaGreatDoor.C
abbrev u8c (b:UInt8):List LV:=[byteL b]
theorem z0j:∀ l:List UInt8,bytesC l=l.flatMap u8c
 | []=>rfl
 | b :: l=>by show byteL b :: bytesC l=[byteL b] ++ l.flatMap u8c;rw [z0j l];rfl
theorem z3l (l:List UInt8):allFlat (bytesC l)=true:=by rw [z0j];exact z11 (fun _ _=>rfl)
theorem zp {M:Mem} {p:Nat} {own:Bool} {l:List UInt8} {ty:TypeId} {f:Bool} (h:At M p (.cells own (bytesC l) ty)):firstL 1 l.length (.slice (some (p,0)) l.length f 1) M=some (bytesC l):=by
 rw [z0j] at h ⊢
 exact z68 (enc:=u8c) (fun _ _=>rfl) (fun k hk=>z3j (enc:=u8c) h (fun _ _=>rfl) hk)
theorem zi1 {M:Mem} {p:Nat} {own:Bool} {l:List UInt8} {ty:TypeId} (h:At M p (.cells own (bytesC l) ty)):Rd M p 0 l.length (bytesC l):=by
 refine Rd.of_at h ?_
 show take' l.length (bytesC l)=_
 have:∀ l:List UInt8,take' l.length (bytesC l)=some (bytesC l):=fun l=>by
  induction l with
  | nil=>rfl
  | cons b l ih =>
   show ob (take' l.length (bytesC l)) _=_
   rw [ih];rfl
 exact this l
def ApB (b:Nat) (M:Mem) (v:LV) (l:List UInt8):Prop:=∃ f ty,v=.slice (some (b,0)) l.length f 1 /\ At M b (.cells true (bytesC l) ty) /\ (f=true ∨ ty=apE 5)
theorem ApB.lt {b:Nat} {M:Mem} {v:LV} {l:List UInt8} (h:ApB b M v l):b < M.next:=by
 obtain ⟨f,ty,_,h2,_⟩:=h
 exact h2.2
theorem ApB.keep {b:Nat} {M M':Mem} {v:LV} {l:List UInt8} {F:Nat->Prop} (h:ApB b M v l) (hk:Keep F M M') (hF:¬ F b):ApB b M' v l:=by
 obtain ⟨f,ty,h1,h2,h3⟩:=h
 exact ⟨f,ty,h1,h2.keep hk hF,h3⟩
theorem ApB.grow {b:Nat} {M M':Mem} {v:LV} {l:List UInt8} (h:ApB b M v l) (hg:Grow M M'):ApB b M' v l:=by
 obtain ⟨f,ty,h1,h2,h3⟩:=h
 exact ⟨f,ty,h1,h2.grow hg,h3⟩
theorem ApB.same {b:Nat} {M M':Mem} {v:LV} {l:List UInt8} (h:ApB b M v l) (hle:M.next<=M'.next) (hg:M'.get b=M.get b):ApB b M' v l:=by
 obtain ⟨f,ty,h1,h2,h3⟩:=h
 exact ⟨f,ty,h1,h2.same hle hg,h3⟩
theorem ApB.bstr {b:Nat} {M:Mem} {v:LV} {l:List UInt8} (h:ApB b M v l) {E:Env} {x:XO} (hx:xval E x=some v):xstep Tryz.prog (.bstr x) E M=some (.val (.str (strL l)) M):=by
 obtain ⟨f,ty,rfl,h2,h3⟩:=h
 exact zku hx (zi1 h2)
section
variable {P:Program} [Orc P] {sz:Nat} {E:Env} {M:Mem} {K:Env->Mem->Prop} {ll:List XG} {d:Nat} {g:Option (Nat × Bool)} {sx0 x:XO} {b:Nat} {v:LV} {l l':List UInt8} {z:List LV} {xv:LV} {st:List Mem} {k:Nat} {xs:List (Nat × Nat × (Mem->Prop))} {ld:List (XG × XK)}
theorem ApB.app (hv:ApB b M v l) (hs:xval E sx0=some v) (hx:xval E x=some xv) (hn:lenOfL xv=some l'.length) (h0:0 < l'.length) (hl:l.length+l'.length<=1000000000000) (hz:z.length=1) (hw:firstL 1 l'.length xv M=some (bytesC l')) :
  ∃ v' M',xstep P (.app 5 1 1 z sx0 x) E M=some (.val v' M') /\ ApB M.next M' v' (l ++ l') /\ M'.next=M.next+1 /\ Keep (fun j=>j=b) M M':=by
 obtain ⟨f,ty,rfl,h2,h3⟩:=hv
 have hz2:(Nat.ble 1 1 && (Nat.ble 1 1 && Nat.beq z.length 1))=true:=by rw [hz];rfl
 have hfm:bytesC (l ++ l')=bytesC l ++ bytesC l':=by rw [z0j,z0j,z0j,List.flatMap_append]
 have ho:=zp (f:=f) h2
 have hroom:(2*(l.length+l'.length)+2048)*1<=140737488355328:=by omega
 cases f with
 | true =>
  have hN:New M M.next (.cells true (bytesC l ++ bytesC l') (apE 5)) (M.push (.cells true (bytesC l ++ bytesC l') (apE 5))):=⟨rfl,rfl⟩
  exact ⟨_,_,z4z hs hx hn h0 hroom hz2 ho hw (z3l _) (.inr rfl),⟨_,_,by rw [List.length_append],by rw [hfm];exact At.new_same hN,.inr rfl⟩,rfl,hN.grow.to_keep _⟩
 | false =>
  obtain rfl:ty=apE 5:=h3.resolve_left (by decide)
  have hK:Kill M b M.next (.cells true (bytesC l ++ bytesC l') (apE 5)) ((M.upd b none).push (.cells true (bytesC l ++ bytesC l') (apE 5))):=⟨rfl,rfl⟩
  exact ⟨_,_,z3k hs hx hn h0 hroom hz2 ho hw (z3l _) h2 (by rw [show Nat.beq (apE 5) (apE 5)=true by simp,Bool.or_true]),⟨_,_,by rw [List.length_append],by rw [hfm];exact hK.same,.inr rfl⟩,hK.next,hK.keep⟩
theorem zat (hg:GOn E g) (hv:ApB b M v l) (hs:xval E sx0=some v) (hx:xval E x=some xv) (hn:lenOfL xv=some l'.length) (h0:0 < l'.length) (hl:l.length+l'.length<=1000000000000) (hz:z.length=1) (hw:firstL 1 l'.length xv M=some (bytesC l'))
  (hk:∀ v' M',ApB M.next M' v' (l ++ l')->M'.next=M.next+1->Keep (fun j=>j=b) M M'->XW μ P sz ll ((d,v') :: E) M' K):XW μ P sz (⟨some d,.app 5 1 1 z sx0 x,g⟩ :: ll) E M K:=by
 obtain ⟨v',M',h1,h2,h3,h4⟩:=hv.app (P:=P) hs hx hn h0 hl hz hw
 exact zmv hg h1 (hk v' M' h2 h3 h4)
theorem zjv (hg:GOn E g) (hv:ApB b M v l) (hs:xval E sx0=some v) (hx:xval E x=some xv) (hn:lenOfL xv=some l'.length) (h0:0 < l'.length) (hl:l.length+l'.length<=1000000000000) (hz:z.length=1) (hw:firstL 1 l'.length xv M=some (bytesC l'))
  (hk:∀ v' M',ApB M.next M' v' (l ++ l')->M'.next=M.next+1->Keep (fun j=>j=b) M M'->XD P sz ld ((d,v') :: E) M' (M' :: st) (k+1) xs K):XD P sz ((⟨some d,.app 5 1 1 z sx0 x,g⟩,.anchor) :: ld) E M st k xs K:=by
 obtain ⟨v',M',h1,h2,h3,h4⟩:=hv.app (P:=P) hs hx hn h0 hl hz hw
 exact zin hg h1 (hk v' M' h2 h3 h4)
end
theorem zet (l:List Int) (n:Nat):(cdItems l n).flatMap (fun c=>cdN c.toNat)=cdsL l n:=by
 unfold cdItems cdsL
 rw [List.flatMap_map]
end Go.Proofs.YtbfnnllgdioccaaGreatDoor.C
end
section
open Go PvL Go.Proofs
set_option linter.unusedSimpArgs false
set_option linter.unusedVariables false
namespace Go.Proofs.YtbfnnllgdioccaaGreatDoor.C
theorem zca {α β:Type} {g:α->List β} {B:Nat}:∀ {l:List α},(∀ c ∈ l,(g c).length<=B)->(l.flatMap g).length<=B*l.length
 | [],_=>by simp
 | c :: l,h=>by
  rw [List.flatMap_cons,List.length_append,List.length_cons,Nat.mul_add,Nat.mul_one]
  have h1:=h c List.mem_cons_self
  have h2:=zca (g:=g) (B:=B) (l:=l) (fun c hc=>h c (List.mem_cons_of_mem _ hc))
  omega
set_option maxHeartbeats 16000000 in
theorem zh7 {M:Mem} {v:LV} {x:Fr} (hv:FrV M v x) (hx:frB x=true):CallOk Tryz.prog 80 [v] M (fun w M'=>∃ b,ApB b M' w (pkL x) /\ M.next<=b /\ Grow M M'):=by
 obtain ⟨a,f,e,rfl,hs⟩:=hv
 obtain ⟨s,c,l⟩:=x
 have hbd:=z5a hx
 dsimp only at hbd hs ⊢
 obtain ⟨hs1,hs2,hc1,hc2,hsm⟩:=hbd
 have hln:1<=l.length /\ l.length<=64 /\ l.all smB=true:=by
  unfold smsB btB at hsm
  simp only [Bool.and_eq_true,decide_eq_true_eq] at hsm
  exact ⟨by omega,by omega,hsm.2⟩
 obtain ⟨s,rfl⟩:∃ n:Nat,s=(n:Int):=⟨s.toNat,by omega⟩
 obtain ⟨c,rfl⟩:∃ n:Nat,c=(n:Int):=⟨c.toNat,by omega⟩
 have hpk:pkL ((s:Int),(c:Int),l)=chkL ((([165,90] ++ twoL s) ++ [u8 c,u8 l.length]) ++ cdsL l l.length):=rfl
 rw [hpk]
 refine zh k80 rfl ?_
 dsimp only [x80,zipE,Nat.reduceAdd]
 (repeat' (first|(with_reducible intro _)|refine sv ?_|(refine sc ?_ ?_<;>(intro h;try first|exact h.elim|exact absurd rfl h|(exfalso;omega)))|((with_reducible first|apply zd0|apply zc7);exact gd;exact rfl;exact rfl;(first|exact zjq s (by omega) _))|(refine sg ?_ ?_<;>(intro h;(fail_if_success (have:True:=h));try first|exact h.elim|exact absurd rfl h|(exfalso;omega)))|assumption|exact xm|exact rfl))
 rename_i m1 M1 hN1 q1 q2 m5 M5 hN5 q3 q4 p8 M8 hA8 l8 l8' hg8 le8
 have ha1:At M8 m1 (.cells true [I s,I c,.slice a l.length f e] 48):=xm
 have hb8:ApB m5 M8 (.slice (some (m5,0)) 2 true 1) [165,90]:=ApB.grow (M:=M5) ⟨true,_,rfl,At.new_same hN5,.inl rfl⟩ hg8
 have hgM8:Grow M M8:=xg
 refine zat (l':=twoL s) (by exact gd) hb8 rfl rfl rfl (by simp [twoL]) (by simp [twoL]) rfl (zp (f:=true) hA8) ?_
 intro v9 M9 hb9 e9 hk9
 have hgM9:Grow M M9:=Keep.to_grow' hgM8 hk9 (fun i hi=>by omega)
 have ha9:=ha1.keep hk9 (by omega)
 obtain ⟨f9,ty9,rfl,ht9⟩:=id hb9
 (repeat' (first|(with_reducible intro _)|refine sv ?_|(refine sc ?_ ?_<;>(intro h;try first|exact h.elim|exact absurd rfl h|(exfalso;omega)))|(refine sg ?_ ?_<;>(intro h;(fail_if_success (have:True:=h));try first|exact h.elim|exact absurd rfl h|(exfalso;omega)))|assumption|exact xm|exact rfl))
 rename_i m3 M10 hN10 u1 u2 M11 hU11 u3 hA11 n12 M12 hN12 u4 u5
 have hg912:Grow M9 M12:=xg
 have hb12:=hb9.grow hg912
 have ha12:=At.grow hg912 ha9
 have hm12:At M12 m3 (.cells true [.slice (some (M8.next,0)) ([165,90] ++ twoL s).length f9 1] 129):=xm
 rw [show [LV.int .u8 (c:Int),LV.int .u8 (l.length:Int)]=bytesC [u8 c,u8 l.length] from by show _=[byteL (u8 c),byteL (u8 l.length)];rw [z5u (by omega),z5u (by omega)]] at hN12
 have hgM12:=hgM9.trans hg912
 have l8m:=hb9.lt
 refine zat (l':=[u8 c,u8 l.length]) (by exact gd) hb12 rfl rfl rfl (by simp) (by simp [twoL]) rfl (zp (f:=true) (At.new_same hN12)) ?_
 intro v13 M13 hb13 e13 hk13
 have hgM13:Grow M M13:=Keep.to_grow' hgM12 hk13 (fun i hi=>by have:=hgM8.le;omega)
 have ha13:=ha12.keep hk13 (by omega)
 have hm13:=hm12.keep hk13 (by omega)
 generalize hHd:([165,90] ++ twoL s) ++ [u8 c,u8 l.length]=hd at *
 have hhl:hd.length=6:=by rw [<-hHd];simp [twoL]
 generalize hb0:M12.next=b0 at *
 have hM8:=hgM8.le
 clear hN1 hN5 hA8 hg8 hk9 hN10 hU11 hA11 hN12 hk13 hb12 ht9 hb9 hg912 ha12 hm12 hb8 ha1 ha9
 obtain ⟨f13,ty13,rfl,ht13⟩:=id hb13
 (repeat' (first|(with_reducible intro _)|refine sv ?_|(refine sc ?_ ?_<;>(intro h;try first|exact h.elim|exact absurd rfl h|(exfalso;omega)))|((with_reducible first|apply zd0|apply zc7);exact gd;exact rfl;exact rfl;(first|exact zjo _))|(refine sg ?_ ?_<;>(intro h;(fail_if_success (have:True:=h));try first|exact h.elim|exact absurd rfl h|(exfalso;omega)))|assumption|exact xm|exact rfl))
 rename_i M14 hU14 e14 hA14 p15 M15 hA15 l15 l15' hg15 le15
 have hb14:ApB b0 M14 (.slice (some (b0,0)) hd.length f13 1) hd:=by
  obtain ⟨f,ty,h1,h2,h3⟩:=hb13
  exact ⟨f,ty,h1,At.upd_ne hU14 (by omega) h2,h3⟩
 have hb15:=hb14.grow hg15
 have hm15:=At.grow hg15 hA14
 have hgM14:Grow M M14:=hgM13.upd hU14 (by omega)
 have hgM15:=hgM14.trans hg15
 have hlb0:=hb13.lt
 clear hU14 hA14 hg15 hb14 hb13 ht13 ha13 hm13 hgM14
 apply zmq
 exact rfl
 intro lb d0 ly M16 M17 hlb hd0 e16 e16' hly e17 e17'
 have hg1517:Grow M15 M17:=hd0.grow.trans hly.grow
 have hgM17:=hgM15.trans hg1517
 have hs17:=hs.grow hgM17
 have hy:=zl4 (At.grow hg1517 hA15) hs17 hln.2.1 hln.2.2
 have hd17:At M17 d0 .defr:=At.new_old hly (At.new_same hd0)
 refine (hy ly (fun i=>i=m3 ∨ i=b0 ∨ i=ly) (fun dn T M'=>∃ v b,At M' m3 (.cells true [v] 129) /\ ApB b M' v (hd ++ dn.flatMap fun c=>cdN c.toNat) /\ (b=b0 ∨ T b) /\ At M' ly (lb .ready none) /\ At M' d0 .defr /\ Keep (fun i=>i=m3 ∨ i=b0 ∨ i=ly) M17 M' /\ dn.length<=64) (fun _ _=>False) ⟨?_,?_,fun T M M' h=>h.elim,?_⟩ ?_ ⟨_,b0,At.grow hg1517 hm15,by rw [List.flatMap_nil,List.append_nil];exact hb15.grow hg1517,.inl rfl,At.new_same hly,hd17,Keep.refl _ _,Nat.zero_le _⟩).mono ?_
 ·rintro i (rfl|rfl|rfl)<;>omega
 ·rintro dn T Mx My ⟨v,b,h1,h2,h3,h4,h5,h6,h7⟩ hle hg
  have hgo:∀ i,i < M17.next->My.get i=Mx.get i:=fun i hi=>hg i (.inl ⟨hi,id⟩)
  refine ⟨v,b,h1.same hle (hgo _ (by omega)),h2.same hle ?_,h3,h4.same hle (hgo _ (by omega)),h5.same hle (hgo _ (by omega)),⟨Nat.le_trans h6.le hle,fun i hi hf=>by rw [hgo i hi];exact h6.old i hi hf⟩,h7⟩
  rcases h3 with rfl|h3
  ·exact hgo _ (by omega)
  ·exact hg _ (.inr h3)
 ·rintro dn c' rest v' U T Mx hits ⟨rfl,hU⟩ hN0 hT hUd ⟨v,b,h1,h2,h3,h4,h5,h6,h7⟩
  have hcm:c' ∈ cdItems l l.length:=by rw [hits];simp
  have hcb:0<=c' /\ c'<=131070:=by
   unfold cdItems at hcm
   obtain ⟨k,_,rfl⟩:=List.mem_map.1 hcm
   exact zc1 l k
  have hdl:dn.length+1<=64:=by
   have:=congrArg List.length hits
   rw [List.length_append,List.length_cons] at this
   unfold cdItems at this
   rw [List.length_map,List.length_range] at this
   omega
  obtain ⟨N,rfl⟩:∃ N:Nat,c'=(N:Int):=⟨c'.toNat,by omega⟩
  have hbl:(dn.flatMap fun c=>cdN c.toNat).length<=1100*dn.length:=zca (fun c hc=>by
   have hcm2:c ∈ cdItems l l.length:=by rw [hits];exact List.mem_append_left _ hc
   unfold cdItems at hcm2
   obtain ⟨k,_,rfl⟩:=List.mem_map.1 hcm2
   have:=zc1 l k
   have:=z8j (cdA l k).toNat
   omega)
  have hfold:(dn ++ [(N:Int)]).flatMap (fun c=>cdN c.toNat)=(dn.flatMap fun c=>cdN c.toNat) ++ cdN N:=by rw [List.flatMap_append];simp
  rw [hfold]
  have hcdl:=z8j N
  generalize hbase:hd ++ (dn.flatMap fun c=>cdN c.toNat)=base at *
  have hbasel:base.length<=100000:=by rw [<-hbase,List.length_append];omega
  have hbM:=h2.lt
  have hlyM:=h4.2
  refine zi5 hlb h4 rfl ?_
  dsimp only [zipP]
  (repeat' (first|(with_reducible intro _)|refine sv ?_|(refine sc ?_ ?_<;>(intro h;try first|exact h.elim|exact absurd rfl h|(exfalso;omega)))|(refine sg ?_ ?_<;>(intro h;(fail_if_success (have:True:=h));try first|exact h.elim|exact absurd rfl h|(exfalso;omega)))|assumption|exact xm|exact rfl))
  rename_i MB hUB eB hlyB
  have hbl2:b ≠ ly /\ (b=b0 ∨ M17.next<=b):=by
   rcases h3 with rfl|h3
   ·exact ⟨by omega,.inl rfl⟩
   ·have:=(hT b h3).1
    exact ⟨by omega,.inr this⟩
  have k1:=At.upd_ne hUB (show m3 ≠ ly by omega) h1
  have k2:ApB b MB v base:=by
   obtain ⟨f,ty,g1,g2,g3⟩:=h2
   exact ⟨f,ty,g1,At.upd_ne hUB hbl2.1 g2,g3⟩
  have k5:=At.upd_ne hUB (show d0 ≠ ly by omega) h5
  have hKB:Keep (fun i=>i=m3 ∨ i=b0 ∨ i=ly ∨ T i) Mx MB:=(Keep.refl _ _).upd hUB (.inl (.inr (.inr (.inl rfl))))
  have hle6:=h6.le
  clear hUB
  refine zg (fun z E ms M'=>∃ (m:Nat) (pre:List UInt8) (v2:LV) (b2:Nat),z=m /\ m<=N /\ ms=[] /\ Has E [(3,.ptr (some (m3,0))),(4,I m)] /\ At M' m3 (.cells true [v2] 129) /\ ApB b2 M' v2 (base ++ pre) /\ pre ++ cdN m=cdN N /\ (b2=b0 ∨ T b2 ∨ Mx.next<=b2) /\ (b2=b0 ∨ M17.next<=b2) /\ At M' ly (lb .busy none) /\ At M' d0 .defr /\ Keep (fun i=>i=m3 ∨ i=b0 ∨ i=ly ∨ T i) Mx M')
   ?_ N _ _ _ ⟨N,[],v,b,rfl,Nat.le_refl _,rfl,.cons rfl (.cons rfl .nil),k1,by rw [List.append_nil];exact k2,rfl,h3.elim .inl (fun h=>.inr (.inl h)),hbl2.2,hlyB,k5,hKB⟩
  rintro z E ms MC ⟨m,pre,v2,b2,hz,hm,rfl,hE,r1,r2,hpre,hb2,hb2',rly,rd0,hKC⟩
  refine z2v hE ?_
  obtain ⟨f2,ty2,rfl,hat2⟩:=id r2
  have hprel:pre.length<=2000:=by
   have:=congrArg List.length hpre
   rw [List.length_append] at this
   omega
  have hb2l:=r2.lt
  have hleC:=hKC.le
  have hFb:b2=m3 ∨ b2=b0 ∨ b2=ly ∨ T b2 ∨ Mx.next<=b2:=hb2.elim (fun h=>.inr (.inl h)) (fun h=>.inr (.inr (.inr h)))
  by_cases h128:128<=m
  ·have hd1:(m:Int) / 128=((m / 128:Nat):Int):=by omega
   have hd2:(m:Int) % 128+128=((m % 128+128:Nat):Int):=by omega
   have hge:=zc3 h128
   (repeat' (first|(with_reducible intro _)|refine sv ?_|(refine sc ?_ ?_<;>(intro h;try first|exact h.elim|exact absurd rfl h|(exfalso;omega)))|(refine sg ?_ ?_<;>(intro h;(fail_if_success (have:True:=h));try first|exact h.elim|exact absurd rfl h|(exfalso;omega)))|assumption|exact xm|exact rfl))
   rename_i nD MD hND eD eD'
   rw [hd2,z3q (by omega)] at hND
   have r2D:=r2.grow hND.grow
   refine zat (l':=[u8 (m % 128+128)]) (by exact gd) r2D rfl rfl rfl (by simp) (by simp;omega) rfl (zp (f:=true) (At.new_same hND)) ?_
   intro v3 ME hbE eE hkE
   have hKE:Keep (fun i=>i=m3 ∨ i=b0 ∨ i=ly ∨ T i) Mx ME:=(hKC.new hND).trans hkE (fun i hi=>by
    subst hi
    rcases hb2 with h|h|h
    ·exact .inl (.inr (.inl h))
    ·exact .inl (.inr (.inr (.inr h)))
    ·exact .inr h)
   have gm3:=(At.new_old hND r1).keep hkE (show ¬ m3=b2 by omega)
   have gly:=(At.new_old hND rly).keep hkE (show ¬ ly=b2 by omega)
   have gd0:=(At.new_old hND rd0).keep hkE (show ¬ d0=b2 by omega)
   clear hkE
   obtain ⟨f3,ty3,rfl,ht3,ht3'⟩:=id hbE
   (repeat' (first|(with_reducible intro _)|refine sv ?_|(refine sc ?_ ?_<;>(intro h;try first|exact h.elim|exact absurd rfl h|(exfalso;omega)))|(refine sg ?_ ?_<;>(intro h;(fail_if_success (have:True:=h));try first|exact h.elim|exact absurd rfl h|(exfalso;omega)))|assumption|exact xm|exact rfl))
   rename_i MF hUF eF hmF
   exact zw (m / 128) (by omega) ⟨m / 128,pre ++ [u8 (m % 128+128)],_,MD.next,rfl,by omega,rfl,.cons rfl (.cons (by rw [<-hd1];rfl) .nil),hmF,by rw [<-List.append_assoc];exact ⟨_,_,rfl,At.upd_ne hUF (by omega) ht3,ht3'⟩,by rw [List.append_assoc,<- hpre,hge];rfl,.inr (.inr (by omega)),.inr (by omega),At.upd_ne hUF (by omega) gly,At.upd_ne hUF (by omega) gd0,hKE.upd hUF (.inl (.inl rfl))⟩
  ·have hlt:=z9n (show m < 128 by omega)
   (repeat' (first|(with_reducible intro _)|refine sv ?_|(refine sc ?_ ?_<;>(intro h;try first|exact h.elim|exact absurd rfl h|(exfalso;omega)))|(refine sg ?_ ?_<;>(intro h;(fail_if_success (have:True:=h));try first|exact h.elim|exact absurd rfl h|(exfalso;omega)))|assumption|exact xm|exact rfl))
   rename_i nD MD hND eD eD'
   rw [z3q (by omega)] at hND
   have r2D:=r2.grow hND.grow
   refine zat (l':=[u8 m]) (by exact gd) r2D rfl rfl rfl (by simp) (by simp;omega) rfl (zp (f:=true) (At.new_same hND)) ?_
   intro v3 ME hbE eE hkE
   have hKE:Keep (fun i=>i=m3 ∨ i=b0 ∨ i=ly ∨ T i) Mx ME:=(hKC.new hND).trans hkE (fun i hi=>by
    subst hi
    rcases hb2 with h|h|h
    ·exact .inl (.inr (.inl h))
    ·exact .inl (.inr (.inr (.inr h)))
    ·exact .inr h)
   have gm3:=(At.new_old hND r1).keep hkE (show ¬ m3=b2 by omega)
   have gly:=(At.new_old hND rly).keep hkE (show ¬ ly=b2 by omega)
   have gd0:=(At.new_old hND rd0).keep hkE (show ¬ d0=b2 by omega)
   clear hkE
   obtain ⟨f3,ty3,rfl,ht3,ht3'⟩:=id hbE
   (repeat' (first|(with_reducible intro _)|refine sv ?_|(refine sc ?_ ?_<;>(intro h;try first|exact h.elim|exact absurd rfl h|(exfalso;omega)))|(refine sg ?_ ?_<;>(intro h;(fail_if_success (have:True:=h));try first|exact h.elim|exact absurd rfl h|(exfalso;omega)))|assumption|exact xm|exact rfl))
   rename_i MF hUF eF hmF MG hUG eG hlyG
   refine ⟨((hKE.upd hUF (.inl (.inl rfl))).upd hUG (.inl (.inr (.inr (.inl rfl))))).weaken (fun i hi=>?_),fun i=>i=MD.next,fun i hi=>⟨.inr (.inr (by omega)),by omega⟩,.inl ⟨rfl,_,MD.next,At.upd_ne hUG (by omega) hmF,?_,.inr rfl,hlyG,At.upd_ne hUG (by omega) (At.upd_ne hUF (by omega) gd0),?_,?_⟩⟩
   ·rcases hi with h|h|h|h
    ·exact .inl (.inl h)
    ·exact .inl (.inr (.inl h))
    ·exact .inl (.inr (.inr h))
    ·exact .inr (.inl h)
   ·have e1:hd ++ ((dn.flatMap fun c=>cdN c.toNat) ++ cdN N)=base ++ pre ++ [u8 m]:=by rw [<-hbase,<- hpre,hlt];simp
    rw [e1]
    exact ⟨_,_,rfl,At.upd_ne hUG (by omega) (At.upd_ne hUF (by omega) ht3),ht3'⟩
   ·refine h6.trans ((hKE.upd hUF (.inl (.inl rfl))).upd hUG (.inl (.inr (.inr (.inl rfl))))) (fun i hi=>?_)
    rcases hi with h|h|h|h
    ·exact .inl (.inl h)
    ·exact .inl (.inr (.inl h))
    ·exact .inl (.inr (.inr h))
    ·exact .inr (hT i h).1
   ·rw [List.length_append];exact hdl
 ·rintro i (rfl|⟨o,hi⟩)
  ·rintro (h|h|h)<;>omega
  ·obtain ⟨i',o',he,hr⟩:=hs.rd (k:=0) (by omega)
   rw [hi] at he
   obtain ⟨rfl,rfl⟩:i=i' /\ o=o':=by injection he with q;injection q with q1 q2;exact ⟨q1,q2⟩
   have:=hr.2
   rintro (h|h|h)<;>omega
 ·rintro w18 M18 ⟨hk18,_,T',hT',⟨v,b,h1,h2,h3,h4,h5,h6,h7⟩|h⟩
  ·rw [zet] at h2
   have hbl2:b ≠ ly /\ (b=b0 ∨ M17.next<=b) /\ M.next<=b:=by
    have:=hgM17.le
    rcases h3 with rfl|h3
    ·exact ⟨by omega,.inl rfl,by omega⟩
    ·have:=(hT' b h3).1
     exact ⟨by omega,.inr this,by omega⟩
   have hcl:=z8k l l.length
   generalize hBy:hd ++ cdsL l l.length=By at *
   have hByl:By.length<=100000:=by rw [<-hBy,List.length_append];omega
   have hg18:Grow M M18:=Keep.to_grow' hgM17 h6 (fun i hi=>by rcases hi with h|h|h<;>omega)
   have le18:=h6.le
   clear hk18 h6
   refine zls h4 (by simp) fun M19 hu19 e19 a19=>?_
   have hb19:ApB b M19 v By:=by
    obtain ⟨f,ty,g1,g2,g3⟩:=h2
    exact ⟨f,ty,g1,At.upd_ne hu19 hbl2.1 g2,g3⟩
   have hm19:=At.upd_ne hu19 (show m3 ≠ ly by omega) h1
   have hd19:=At.upd_ne hu19 (show d0 ≠ ly by omega) h5
   have hg19:Grow M M19:=hg18.upd hu19 (by have:=hgM15.le;omega)
   have hcr:=z37 (strL By) By.length
   obtain ⟨n,hn⟩:∃ n:Nat,crcK (strL By) By.length=(n:Int):=⟨(crcK (strL By) By.length).toNat,by omega⟩
   have hck:chkL By=By ++ twoL n:=by unfold chkL;rw [hn];rfl
   rw [hck]
   have cc:=zh4 (strL By) (by rw [z4g];omega)
   rw [z4g,hn] at cc
   have hbl:=hb19.lt
   clear hu19 h1 h2 h5 a19 h4
   obtain ⟨f9',ty9',rfl,hat9⟩:=id hb19
   (repeat' (first|(with_reducible intro _)|refine sv ?_|(refine sc ?_ ?_<;>(intro h;try first|exact h.elim|exact absurd rfl h|(exfalso;omega)))|(refine sg ?_ ?_<;>(intro h;(fail_if_success (have:True:=h));try first|exact h.elim|exact absurd rfl h|(exfalso;omega)))|assumption|exact xm|exact rfl))
   refine z74 (by exact gd) (ApB.bstr hb19 rfl) (fun m=>ApB b m (.slice (some (b,0)) By.length f9' 1) By) (fun m hm=>ApB.bstr hm rfl) ?_
   (repeat' (first|(with_reducible intro _)|refine sv ?_|(refine sc ?_ ?_<;>(intro h;try first|exact h.elim|exact absurd rfl h|(exfalso;omega)))|((with_reducible first|apply zn|apply zt|apply zk);exact gd;exact rfl;exact rfl;(first|exact cc _))|((with_reducible first|apply zd0|apply zc7);exact gd;exact rfl;exact rfl;(first|exact zjq n (by omega) _))|(refine sg ?_ ?_<;>(intro h;(fail_if_success (have:True:=h));try first|exact h.elim|exact absurd rfl h|(exfalso;omega)))|assumption|exact xm|exact rfl))
   rename_i p20 M20 hA20 l20 l20' hg20 le20
   have hb20:=hb19.grow hg20
   have hm20:=At.grow hg20 hm19
   have hd20:=At.grow hg20 hd19
   refine zjv (l':=twoL n) (by exact gd) hb20 rfl rfl rfl (by simp [twoL]) (by simp [twoL];omega) rfl (zp (f:=true) hA20) ?_
   intro v21 M21 hb21 e21 hk21
   have hd21:=hd20.keep hk21 (by omega)
   have hg21:Grow M M21:=Keep.to_grow' (hg19.trans hg20) hk21 (fun i hi=>by omega)
   clear hk21
   (repeat' (first|(with_reducible intro _)|refine sv ?_|(refine sc ?_ ?_<;>(intro h;try first|exact h.elim|exact absurd rfl h|(exfalso;omega)))|(refine sg ?_ ?_<;>(intro h;(fail_if_success (have:True:=h));try first|exact h.elim|exact absurd rfl h|(exfalso;omega)))|assumption|exact xm|exact rfl))
   refine zfd (.inr rfl) (by simp [dnat]) (fun d hd=>by simp [dnat] at hd;subst hd;exact hd21) fun M22 hm=>⟨_,.tmp rfl .nil,M20.next,?_,?_,?_⟩
   ·obtain ⟨f,ty,rfl,g2,g3⟩:=hb21
    exact ⟨f,ty,rfl,g2.unmark hm (by simp [dnat];omega),g3⟩
   ·have:=(hg19.trans hg20).le
    omega
   ·exact hg21.unmark hm (fun d hd=>by simp [dnat] at hd;subst hd;have:=hgM15.le;omega)
  ·exact h.elim
end Go.Proofs.YtbfnnllgdioccaaGreatDoor.C
end
section
open Go PvL
set_option linter.unusedSimpArgs false
set_option linter.unusedVariables false
namespace Go.Proofs.YtbfnnllgdioccaaGreatDoor.C
def tabL {α:Type} (enc:α->List LV) (G:Nat->α) (n:Nat):List LV:=((List.range n).map G).flatMap enc
abbrev Ky:=Int × Int
abbrev kyc (k:Ky):List LV:=[I k.1,I k.2]
def klt (a b:Ky):Prop:=a.1 < b.1 ∨ (a.1=b.1 /\ a.2 < b.2)
instance (a b:Ky):Decidable (klt a b):=by unfold klt;infer_instance
theorem z2b (a:Ky):¬ klt a a:=by unfold klt;omega
theorem z42 {a b c:Ky} (h:klt a b) (h':klt b c):klt a c:=by unfold klt at *;omega
theorem za6 {a b c:Ky} (h:¬ klt b a) (h':¬ klt c b):¬ klt c a:=by unfold klt at *;omega
theorem zcf {a b:Ky} (h:klt a b):¬ klt b a:=by unfold klt at *;omega
theorem zk1 {a b:Ky} (h:a ≠ b):klt a b ∨ klt b a:=by
 unfold klt
 have:¬ (a.1=b.1 /\ a.2=b.2):=fun ⟨h1,h2⟩=>h (Prod.ext h1 h2)
 omega
def sw (G:Nat->Ky) (i j:Nat):Nat->Ky:=fun t=>if t=j then G i else if t=i then G j else G t
theorem sw_j (G:Nat->Ky) (i j:Nat):sw G i j j=G i:=by unfold sw;rw [if_pos rfl]
theorem sw_i (G:Nat->Ky) (i j:Nat):sw G i j i=G j:=by
 unfold sw
 by_cases h:i=j
 ·subst h;rw [if_pos rfl]
 ·rw [if_neg h,if_pos rfl]
theorem z72 {G:Nat->Ky} {i j t:Nat} (h1:t ≠ i) (h2:t ≠ j):sw G i j t=G t:=by unfold sw;rw [if_neg h2,if_neg h1]
inductive Sw (a b:Nat) (G:Nat->Ky):(Nat->Ky)->Prop
 | refl:Sw a b G G
 | step {G':Nat->Ky} {i j:Nat} (h:Sw a b G G') (h1:a<=i) (h2:i < b) (h3:a<=j) (h4:j < b):Sw a b G (sw G' i j)
theorem Sw.trans {a b:Nat} {G G1 G2:Nat->Ky} (h:Sw a b G G1) (h':Sw a b G1 G2):Sw a b G G2:=by
 induction h' with
 | refl=>exact h
 | step _ h1 h2 h3 h4 ih=>exact .step ih h1 h2 h3 h4
theorem Sw.wider {a b a' b':Nat} {G G1:Nat->Ky} (h:Sw a b G G1) (ha:a'<=a) (hb:b<=b'):Sw a' b' G G1:=by
 induction h with
 | refl=>exact .refl
 | step _ h1 h2 h3 h4 ih=>exact .step ih (by omega) (by omega) (by omega) (by omega)
theorem Sw.one {a b i j:Nat} {G:Nat->Ky} (h1:a<=i) (h2:i < b) (h3:a<=j) (h4:j < b):Sw a b G (sw G i j):=.step .refl h1 h2 h3 h4
theorem Sw.out {a b:Nat} {G G':Nat->Ky} (h:Sw a b G G') {t:Nat} (ht:t < a ∨ b<=t):G' t=G t:=by
 induction h with
 | refl=>rfl
 | step _ h1 h2 h3 h4 ih=>rw [z72 (by omega) (by omega),ih]
theorem Sw.all {a b:Nat} {G G':Nat->Ky} (h:Sw a b G G') {p:Ky->Prop} (hp:∀ t,a<=t->t < b->p (G t)):∀ t,a<=t->t < b->p (G' t):=by
 induction h with
 | refl=>exact hp
 | step _ h1 h2 h3 h4 ih =>
  intro t ht1 ht2
  unfold sw
  split
  ·exact ih _ h1 h2
  ·split
   ·exact ih _ h3 h4
   ·exact ih _ ht1 ht2
def Inj (n:Nat) (G:Nat->Ky):Prop:=∀ i j,i < n->j < n->G i=G j->i=j
theorem Sw.inj {a b n:Nat} {G G':Nat->Ky} (h:Sw a b G G') (hb:b<=n) (hi:Inj n G):Inj n G':=by
 induction h with
 | refl=>exact hi
 | @step G' i j _ h1 h2 h3 h4 ih =>
  intro x y hx hy hxy
  unfold sw at hxy
  by_cases hxj:x=j
  ·by_cases hyj:y=j
   ·omega
   ·rw [if_pos hxj,if_neg hyj] at hxy
    by_cases hyi:y=i
    ·rw [if_pos hyi] at hxy;have:=ih _ _ (by omega) (by omega) hxy;omega
    ·rw [if_neg hyi] at hxy;have:=ih _ _ (by omega) hy hxy;omega
  ·rw [if_neg hxj] at hxy
   by_cases hxi:x=i
   ·rw [if_pos hxi] at hxy
    by_cases hyj:y=j
    ·rw [if_pos hyj] at hxy;have:=ih _ _ (by omega) (by omega) hxy;omega
    ·rw [if_neg hyj] at hxy
     by_cases hyi:y=i
     ·omega
     ·rw [if_neg hyi] at hxy;have:=ih _ _ (by omega) hy hxy;omega
   ·rw [if_neg hxi] at hxy
    by_cases hyj:y=j
    ·rw [if_pos hyj] at hxy;have:=ih _ _ hx (by omega) hxy;omega
    ·rw [if_neg hyj] at hxy
     by_cases hyi:y=i
     ·rw [if_pos hyi] at hxy;have:=ih _ _ hx (by omega) hxy;omega
     ·rw [if_neg hyi] at hxy;exact ih _ _ hx hy hxy
def Srt (a b:Nat) (G:Nat->Ky):Prop:=∀ i j,a<=i->i < j->j < b->¬ klt (G j) (G i)
def Ins (a b j:Nat) (G:Nat->Ky):Prop:=∀ p q,a<=p->p < q->q < b->q ≠ j->¬ klt (G q) (G p)
theorem Ins.start {a i:Nat} {G:Nat->Ky} (h:Srt a i G):Ins a (i+1) i G:=fun p q h1 h2 h3 h4=>h p q h1 h2 (by omega)
theorem Ins.step {a b j:Nat} {G:Nat->Ky} (h:Ins a b (j+1) G) (hj:a<=j) (hlt:klt (G (j+1)) (G j)):Ins a b j (sw G (j+1) j):=by
 intro p q h1 h2 h3 h4
 by_cases hq1:q=j+1
 ·subst hq1
  rw [sw_i]
  by_cases hp:p=j
  ·subst hp;rw [sw_j];exact zcf hlt
  ·rw [z72 (by omega) (by omega)]
   exact h p j h1 (by omega) (by omega) (by omega)
 ·by_cases hq:q<=j
  ·rw [z72 (by omega) (by omega),z72 (by omega) (by omega)]
   exact h p q h1 h2 h3 hq1
  ·rw [show sw G (j+1) j q=G q from z72 (by omega) (by omega)]
   by_cases hp1:p=j+1
   ·subst hp1;rw [sw_i];exact h j q hj (by omega) h3 (by omega)
   ·by_cases hp:p=j
    ·subst hp;rw [sw_j];exact h (p+1) q (by omega) (by omega) h3 (by omega)
    ·rw [z72 hp1 hp];exact h p q h1 h2 h3 (by omega)
theorem Ins.done {a b j:Nat} {G:Nat->Ky} (h:Ins a b j G) (hd:j<=a ∨ ¬ klt (G j) (G (j - 1))):Srt a b G:=by
 intro p q h1 h2 h3
 by_cases hq:q=j
 ·subst hq
  rcases hd with hd|hd
  ·omega
  ·by_cases hp:p=q - 1
   ·subst hp;exact hd
   ·exact za6 (h p (q - 1) h1 (by omega) (by omega) (by omega)) hd
 ·exact h p q h1 h2 h3 hq
end Go.Proofs.YtbfnnllgdioccaaGreatDoor.C
end
section
open Go PvL Go.Proofs
set_option linter.unusedSimpArgs false
set_option linter.unusedVariables false
namespace Go.Proofs.YtbfnnllgdioccaaGreatDoor.C
abbrev zFr:Fr:=(0,0,[])
def joinF (x y:Fr):Fr × Int :=
 if errF x=0 then (if errF y=0 then (if x.1=y.1 /\ x.2.1=y.2.1 then ((x.1,x.2.1,bothL x.2.2 y.2.2),0) else (zFr,2)) else (zFr,errF y)) else (zFr,errF x)
theorem zf3 {x:Fr} (h:errF x=0):0<=x.1 /\ x.1<=60000 /\ 0<=x.2.1 /\ x.2.1<=23 /\ 1<=x.2.2.length /\ x.2.2.length<=64 /\ x.2.2.all smB=true:=by
 unfold errF at h
 cases hb:frB x with
 | false=>rw [hb] at h;simp at h
 | true =>
  unfold frB smsB btB at hb
  simp only [Bool.and_eq_true,decide_eq_true_eq] at hb
  obtain ⟨⟨h1,h2⟩,⟨h3,h4⟩,⟨h5,h6⟩,h7⟩:=hb
  exact ⟨h1,h2,h3,h4,by omega,by omega,h7⟩
theorem zf8 (a b:List Int) (k:Nat):getG (bothL a b) k=joinI (getG a k) (getG b k):=by
 by_cases hk:k < max a.length b.length
 ·rw [z6b (by rw [z3o];exact hk)]
  unfold bothL
  simp
 ·rw [zb8 (by rw [z3o];omega),zb8 (l:=a) (by omega),zb8 (l:=b) (by omega)];rfl
theorem zh1 {a b:List Int} (hl:a.length=b.length) (h:∀ k,getG a k=getG b k):a=b:=by
 refine List.ext_getElem hl fun k h1 h2=>?_
 have:=h k
 rw [z6b h1,z6b h2] at this;exact this
theorem zmj {n:Int} (h:smB n=true):-32767<=n /\ n<=40001:=by
 unfold smB knB at h
 simp only [Bool.or_eq_true,decide_eq_true_eq] at h
 omega
theorem zo2 {x:Fr} (h:errF x=0):FrIn x:=by
 obtain ⟨h1,h2,h3,h4,h5,h6,h7⟩:=zf3 h
 refine ⟨⟨by omega,by omega⟩,⟨by omega,by omega⟩,by omega,fun n hn=>?_⟩
 have:=zmj (List.all_eq_true.1 h7 n hn)
 exact ⟨by omega,by omega⟩
def joinOk (x y:Fr):Prop:=errF x=0 /\ errF y=0 /\ x.1=y.1 /\ x.2.1=y.2.1
abbrev jo (x y:Fr):Fr:=(x.1,x.2.1,bothL x.2.2 y.2.2)
end Go.Proofs.YtbfnnllgdioccaaGreatDoor.C
end
section
open Go PvL
set_option linter.unusedSimpArgs false
set_option linter.unusedVariables false
namespace Go.Proofs.YtbfnnllgdioccaaGreatDoor.C
abbrev Rk:=List (Ky × List Int)
abbrev fky (x:Fr):Ky:=(x.1,x.2.1)
def lkK:Rk->Ky->Option (List Int)
 | [],_=>none
 |(a,b) :: L,k=>if k=a then some b else lkK L k
def stK:Rk->Ky->List Int->Rk
 | [],k,v=>[(k,v)]
 |(a,b) :: L,k,v=>if k=a then (k,v) :: L else (a,b) :: stK L k v
theorem zfl:∀ (L:Rk) (k:Ky) (v:List Int) (k':Ky),lkK (stK L k v) k'=if k'=k then some v else lkK L k'
 | [],k,v,k'=>rfl
 |(a,b) :: L,k,v,k'=>by
  unfold stK
  by_cases h:k=a
  ·subst h
   rw [if_pos rfl]
   show (if k'=k then some v else lkK L k')=if k'=k then some v else (if k'=k then some b else lkK L k')
   by_cases h2:k'=k
   ·rw [if_pos h2,if_pos h2]
   ·rw [if_neg h2,if_neg h2,if_neg h2]
  ·rw [if_neg h]
   show (if k'=a then some b else lkK (stK L k v) k')=if k'=k then some v else (if k'=a then some b else lkK L k')
   rw [zfl L k v k']
   by_cases h2:k'=a
   ·subst h2
    rw [if_pos rfl,if_neg (fun h3=>h h3.symm),if_pos rfl]
   ·rw [if_neg h2,if_neg h2]
theorem zge:∀ (L:Rk) (k:Ky) (v:List Int),(stK L k v).map (·.1)=if (lkK L k).isSome then L.map (·.1) else L.map (·.1) ++ [k]
 | [],k,v=>rfl
 |(a,b) :: L,k,v=>by
  unfold stK
  by_cases h:k=a
  ·subst h
   rw [if_pos rfl]
   have:lkK ((k,b) :: L) k=some b:=by show (if k=k then some b else lkK L k)=_;rw [if_pos rfl]
   rw [this];rfl
  ·have e:lkK ((a,b) :: L) k=lkK L k:=by show (if k=a then some b else lkK L k)=_;rw [if_neg h]
   rw [if_neg h,e,List.map_cons,zge L k v]
   split<;>rfl
theorem zfm:∀ (L:Rk) (k:Ky),(lkK L k).isSome=true ↔ k ∈ L.map (·.1)
 | [],k=>by simp [lkK]
 |(a,b) :: L,k=>by
  by_cases h:k=a
  ·subst h
   have:lkK ((k,b) :: L) k=some b:=by show (if k=k then some b else lkK L k)=_;rw [if_pos rfl]
   rw [this];simp
  ·have e:lkK ((a,b) :: L) k=lkK L k:=by show (if k=a then some b else lkK L k)=_;rw [if_neg h]
   rw [e,zfm L k];simp [h]
def RkN (L:Rk):Prop:=(L.map (·.1)).Nodup
theorem RkN.st {L:Rk} (h:RkN L) (k:Ky) (v:List Int):RkN (stK L k v):=by
 unfold RkN at *
 rw [zge]
 split
 ·exact h
 ·rename_i hn
  have:k ∉ L.map (·.1):=fun hk=>hn ((zfm L k).2 hk)
  rw [List.nodup_append]
  exact ⟨h,by simp,fun a ha b hb=>by
   obtain rfl:b=k:=by simpa using hb
   rintro rfl;exact this ha⟩
def rkA (R:Rk) (f:Fr):Rk:=stK R (fky f) (bothL ((lkK R (fky f)).getD []) f.2.2)
def addR:List Fr->Fr->List Fr
 | [],f=>[f]
 | g :: l,f=>if keyI g=keyI f then (g.1,g.2.1,bothL g.2.2 f.2.2) :: l else if keyI g > keyI f then f :: g :: l else g :: addR l f
def joinedR (l:List Fr):List Fr:=l.foldl addR []
def rackF (l:List Fr):Rk:=l.foldl rkA []
theorem z9i (l:List Int):bothL [] l=l:=by
 refine zh1 ?_ fun k=>?_
 ·rw [z3o];simp
 ·rw [zf8]
  have:getG [] k=40000:=rfl
  rw [this]
  unfold joinI
  split
  ·rename_i h;rcases h with h|h
   ·exact h
   ·exact h.symm
  ·rw [if_pos rfl]
def FrK (x:Fr):Prop:=0<=x.1 /\ x.1<=60000 /\ 0<=x.2.1 /\ x.2.1<=23
theorem z8s {x y:Fr} (hx:FrK x) (hy:FrK y):keyI x < keyI y ↔ klt (fky x) (fky y):=by unfold FrK keyI klt at *;dsimp only;omega
theorem zff {x y:Fr} (hx:FrK x) (hy:FrK y):keyI x=keyI y ↔ fky x=fky y:=by
 unfold FrK keyI at *
 constructor
 ·intro h;exact Prod.ext (by dsimp only;omega) (by dsimp only;omega)
 ·intro h
  have h1:(fky x).1=(fky y).1:=congrArg Prod.fst h
  have h2:(fky x).2=(fky y).2:=congrArg Prod.snd h
  dsimp only at h1 h2
  omega
def lkJ:List Fr->Ky->Option (List Int)
 | [],_=>none
 | x :: l,k=>if k=fky x then some x.2.2 else lkJ l k
theorem z8t (x:Fr) (l:List Fr) (k:Ky):lkJ (x :: l) k=if k=fky x then some x.2.2 else lkJ l k:=rfl
theorem zfj:∀ (J:List Fr) (k:Ky),(lkJ J k).isSome=true ↔ k ∈ J.map fky
 | [],k=>by simp [lkJ]
 | x :: J,k=>by
  rw [z8t]
  by_cases h:k=fky x
  ·rw [if_pos h];simp [h]
  ·rw [if_neg h,zfj J k];simp [h]
def SrtJ (J:List Fr):Prop:=J.Pairwise fun x y=>klt (fky x) (fky y)
theorem zfk {J:List Fr} {k:Ky} (h:∀ x ∈ J,klt k (fky x)):lkJ J k=none:=by
 induction J with
 | nil=>rfl
 | cons x J ih =>
  rw [z8t,if_neg (fun e=>z2b (fky x) (by have:=h x (by simp);rw [e] at this;exact this))]
  exact ih fun y hy=>h y (by simp [hy])
theorem zed:∀ {J:List Fr} {f:Fr},SrtJ J->(∀ x ∈ J,FrK x)->FrK f->SrtJ (addR J f) /\ (∀ x ∈ addR J f,FrK x) /\ (∀ k,lkJ (addR J f) k=if k=fky f then some (bothL ((lkJ J (fky f)).getD []) f.2.2) else lkJ J k) /\ (∀ x ∈ addR J f,fky x=fky f ∨ ∃ y ∈ J,fky y=fky x)
 | [],f,_,_,hf=>by
  have hm:∀ {x},x ∈ addR [] f->x=f:=fun {x} hx=>by
   have hx:x ∈ [f]:=hx
   simpa using hx
  refine ⟨?_,fun x hx=>?_,fun k=>?_,fun x hx=>?_⟩
  ·show List.Pairwise _ [f]
   simp
  ·rw [hm hx];exact hf
  ·show lkJ [f] k=if k=fky f then some (bothL [] f.2.2) else none
   rw [z9i];rfl
  ·rw [hm hx];exact .inl rfl
 | g :: l,f,hs,hk,hf=>by
  have hg:=hk g (by simp)
  have hs':SrtJ l:=(List.pairwise_cons.1 hs).2
  have hgl:=(List.pairwise_cons.1 hs).1
  unfold addR
  by_cases he:keyI g=keyI f
  ·rw [if_pos he]
   have hke:=(zff hg hf).1 he
   refine ⟨List.pairwise_cons.2 ⟨hgl,hs'⟩,fun x hx=>?_,fun k=>?_,fun x hx=>?_⟩
   ·rcases List.mem_cons.1 hx with rfl|hx
    ·exact hg
    ·exact hk x (by simp [hx])
   ·rw [z8t,z8t,z8t,if_pos hke.symm,Option.getD_some]
    by_cases h:k=fky f
    ·rw [if_pos h,if_pos (show k=(g.1,g.2.1) by rw [h];exact hke.symm)]
    ·rw [if_neg h,if_neg (show ¬ k=(g.1,g.2.1) from fun e=>h (by rw [e];exact hke)),if_neg (fun e=>h (by rw [e];exact hke))]
   ·rcases List.mem_cons.1 hx with rfl|hx
    ·exact .inl hke
    ·exact .inr ⟨x,by simp [hx],rfl⟩
  ·rw [if_neg he]
   by_cases hgt:keyI g > keyI f
   ·rw [if_pos hgt]
    have hlt:=(z8s hf hg).1 hgt
    have hall:∀ x ∈ g :: l,klt (fky f) (fky x):=fun x hx=>by
     rcases List.mem_cons.1 hx with rfl|hx
     ·exact hlt
     ·exact z42 hlt (hgl x hx)
    refine ⟨List.pairwise_cons.2 ⟨hall,hs⟩,fun x hx=>?_,fun k=>?_,fun x hx=>?_⟩
    ·rcases List.mem_cons.1 hx with rfl|hx
     ·exact hf
     ·exact hk x hx
    ·rw [zfk hall,Option.getD_none,z9i];rfl
    ·rcases List.mem_cons.1 hx with rfl|hx
     ·exact .inl rfl
     ·exact .inr ⟨x,hx,rfl⟩
   ·rw [if_neg hgt]
    have hlt:=(z8s hg hf).1 (by omega)
    have hne:¬ fky f=fky g:=fun e=>he ((zff hg hf).2 e.symm)
    obtain ⟨i1,i2,i3,i4⟩:=zed (J:=l) (f:=f) hs' (fun x hx=>hk x (by simp [hx])) hf
    refine ⟨List.pairwise_cons.2 ⟨fun x hx=>?_,i1⟩,fun x hx=>?_,fun k=>?_,fun x hx=>?_⟩
    ·rcases i4 x hx with h|⟨y,hy,h⟩
     ·rw [h];exact hlt
     ·rw [<-h];exact hgl y hy
    ·rcases List.mem_cons.1 hx with rfl|hx
     ·exact hg
     ·exact i2 x hx
    ·rw [z8t,i3,z8t,z8t,if_neg hne]
     by_cases h:k=fky g
     ·rw [if_pos h,if_neg (fun e=>hne (by rw [<-e];exact h)),if_pos h]
     ·rw [if_neg h,if_neg h]
    ·rcases List.mem_cons.1 hx with rfl|hx
     ·exact .inr ⟨x,by simp,rfl⟩
     ·rcases i4 x hx with h|⟨y,hy,h⟩
      ·exact .inl h
      ·exact .inr ⟨y,by simp [hy],h⟩
structure RJ (R:Rk) (J:List Fr):Prop where
 n:RkN R
 s:SrtJ J
 k:∀ x ∈ J,FrK x
 e:∀ k,lkK R k=lkJ J k
theorem RJ.nil:RJ [] []:={ n:=List.nodup_nil,s:=List.Pairwise.nil,k:=fun _ h=>(nomatch h),e:=fun _=>rfl }
theorem RJ.add {R:Rk} {J:List Fr} (h:RJ R J) {f:Fr} (hf:FrK f):RJ (rkA R f) (addR J f):=by
 obtain ⟨h1,h2,h3,h4⟩:=zed h.s h.k hf
 refine ⟨h.n.st _ _,h1,h2,fun k=>?_⟩
 unfold rkA
 rw [zfl,h3 k,h.e,h.e]
theorem RJ.all {l:List Fr}:∀ {R:Rk} {J:List Fr},RJ R J->(∀ x ∈ l,FrK x)->RJ (l.foldl rkA R) (l.foldl addR J):=by
 induction l with
 | nil=>intro R J h _;exact h
 | cons f l ih=>intro R J h hl;exact ih (h.add (hl f (by simp))) fun x hx=>hl x (by simp [hx])
theorem zgc:∀ {a b:List Ky},a.Pairwise klt->b.Pairwise klt->(∀ k,k ∈ a ↔ k ∈ b)->a=b
 | [],[],_,_,_=>rfl
 | [],y :: b,_,_,h=>by have:=(h y).2 (by simp);simp at this
 | x :: a,[],_,_,h=>by have:=(h x).1 (by simp);simp at this
 | x :: a,y :: b,ha,hb,h=>by
  have ha':=List.pairwise_cons.1 ha
  have hb':=List.pairwise_cons.1 hb
  have hxy:x=y:=by
   rcases List.mem_cons.1 ((h x).1 (by simp)) with e|hx
   ·exact e
   rcases List.mem_cons.1 ((h y).2 (by simp)) with e|hy
   ·exact e.symm
   ·exact absurd (z42 (ha'.1 y hy) (hb'.1 x hx)) (z2b x)
  subst hxy
  rw [zgc ha'.2 hb'.2 fun k=>?_]
  have h1:=h k
  simp only [List.mem_cons] at h1
  constructor
  ·intro hk
   rcases h1.1 (.inr hk) with e|e
   ·subst e;exact absurd (ha'.1 k hk) (z2b k)
   ·exact e
  ·intro hk
   rcases h1.2 (.inr hk) with e|e
   ·subst e;exact absurd (hb'.1 k hk) (z2b k)
   ·exact e
theorem RJ.keys {R:Rk} {J:List Fr} (h:RJ R J) (k:Ky):k ∈ R.map (·.1) ↔ k ∈ J.map fky:=by rw [<-zfm,<- zfj,h.e]
theorem SrtJ.keys {J:List Fr} (h:SrtJ J):(J.map fky).Pairwise klt:=by unfold SrtJ at h;rw [List.pairwise_map];exact h
def frK (R:Rk) (k:Ky):Fr:=(k.1,k.2,(lkK R k).getD [])
theorem ziw:∀ {J:List Fr},SrtJ J->∀ x ∈ J,lkJ J (fky x)=some x.2.2
 | y :: J,hs,x,hx=>by
  have hs':=List.pairwise_cons.1 hs
  rw [z8t]
  rcases List.mem_cons.1 hx with rfl|hx
  ·rw [if_pos rfl]
  ·rw [if_neg (fun e=>z2b (fky y) (by have:=hs'.1 x hx;rw [e] at this;exact this))]
   exact ziw hs'.2 x hx
theorem RJ.frames {R:Rk} {J:List Fr} (h:RJ R J) {ks:List Ky} (hs:ks.Pairwise klt) (hm:∀ k,k ∈ ks ↔ k ∈ R.map (·.1)):ks.map (frK R)=J:=by
 have e:ks=J.map fky:=zgc hs h.s.keys fun k=>by rw [hm,h.keys]
 subst e
 rw [List.map_map]
 conv=>rhs;rw [<-List.map_id J]
 refine List.map_congr_left fun x hx=>?_
 show frK R (fky x)=x
 unfold frK
 rw [h.e,ziw h.s x hx];rfl
theorem RJ.len {R:Rk} {J:List Fr} (h:RJ R J):R.length=J.length:=by
 have h1:(J.map fky).Nodup:=h.s.keys.imp fun hk e=>by subst e;exact z2b _ hk
 have hle:∀ {a b:List Ky},a.Nodup->(∀ k ∈ a,k ∈ b)->a.length<=b.length:=by
  intro a
  induction a with
  | nil=>intro b _ _;exact Nat.zero_le _
  | cons x a ih =>
   intro b hn hs
   have hn':=List.nodup_cons.1 hn
   have:=ih (b:=b.erase x) hn'.2 fun k hk=>(List.mem_erase_of_ne (fun e=>hn'.1 (by rw [<-e];exact hk))).2 (hs k (by simp [hk]))
   rw [List.length_erase_of_mem (hs x (by simp))] at this
   have h2:0 < b.length:=List.length_pos_of_mem (hs x (by simp))
   rw [List.length_cons];omega
 have h2:=hle h.n fun k hk=>(h.keys k).1 hk
 have h3:=hle h1 fun k hk=>(h.keys k).2 hk
 simp only [List.length_map] at h2 h3
 omega
end Go.Proofs.YtbfnnllgdioccaaGreatDoor.C
end
