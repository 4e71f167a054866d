/-
 Part of the proof of TapeMended. No condition beyond those in each theorem.
-/
import Derived.Test.YtbfnnllgdioccaaGreatDoorSA
import Derived.Test.YtbfnnllgdioccaaGreatDoorPvH
import Derived.Test.YtbfnnllgdioccaaGreatDoorPvG
import Derived.Test.YtbfnnllgdioccaaGreatDoorTX
section
open Go PvL Go.Proofs
set_option linter.unusedSimpArgs false
set_option linter.unusedVariables false
namespace Go.Proofs.YtbfnnllgdioccaaGreatDoor.C
def PlainR{α:Type}(f:α->LV)(x:α)(v:List LV)(U:Nat->Prop)(_:Mem):Prop:=v=[f x] /\ ∀ i,¬ U i
def cdItems(l:List Int)(k:Nat):List Int:=(List.range k).map (cdA l)
theorem z5e(l:List Int)(k:Nat):cdItems l (k+1)=cdItems l k ++ [cdA l k]:=by unfold cdItems;rw[List.range_succ,List.map_append];rfl
theorem zag{l:List Int}{n k:Nat}(hk:k < n):cdItems l n=cdItems l k ++ cdA l k ::(cdItems l n).drop (k+1):=by
 have h:=List.take_append_drop k (cdItems l n)
 have h1:(cdItems l n).take k=cdItems l k:=by unfold cdItems;rw[<-List.map_take,List.take_range,Nat.min_eq_left (by omega)]
 have h2:(cdItems l n).drop k=cdA l k ::(cdItems l n).drop (k+1):=by
  rw[List.drop_eq_getElem_cons (by unfold cdItems;simpa using hk)]
  congr 1
  unfold cdItems
  simp
 rw[h1,h2] at h
 exact h.symm
theorem zn1{a:Option (Nat × Nat)}{n:Nat}{f:Bool}{e:Nat}(M:Mem):za Tryz.prog 128 [.slice a n f e] M (MkAt (fun p=>.func (.func 153) [] [.ptr (some (p,0))]) (.cells true [.slice a n f e] 27) M):=by
 refine zc k128 rfl ?_
 dsimp only[x128,zM,zO,zI,zF,zS,zB,zL,zE,zN,zW,zC,zipE,Nat.reduceAdd]
 repeat' first|with_reducible intro _|refine sv ?_|refine sc ?_ ?_<;>(intro h;try exact sz h)|refine sg ?_ ?_<;>(intro h;first|exact sz h|refine sy h ?_)|exact sq|fail
 rename_i m M1 hN q1 q2
 refine kf ?_
 exact⟨m,rfl,At.new_same hN,by omega,by omega,hN.grow⟩
set_option maxHeartbeats 8000000 in
theorem zop{M0:Mem}{p:Nat}{a:Option (Nat × Nat)}{l:List Int}{f:Bool}{e:Nat}(hp:At M0 p (.cells true [.slice a l.length f e] 27))(hs:SlI M0 a l)(hl:l.length<=64)(hsm:l.all smB=true) :
  YieldsS Tryz.prog 153 [] [.ptr (some (p,0))] (fun i=>i=p ∨ ∃ o,a=some (i,o)) (fun _=>False) (fun _=>True) (cdItems l l.length) (PlainR fun n=>I n) M0:=by
 intro ly AA II DD tk hS hI0
 have hAp:¬ AA p:=hS _ (.inl rfl)
 refine zc k153 rfl ?_
 dsimp only[x153,zM,zO,zI,zF,zS,zB,zL,zE,zN,zW,zC,zipE,Nat.reduceAdd,List.nil_append,List.cons_append]
 repeat' first|with_reducible intro _|refine sv ?_|refine sc ?_ ?_<;>(intro h;try exact sz h)|refine sg ?_ ?_<;>(intro h;first|exact sz h|refine sy h ?_)|exact sq|fail
 refine z9 (fun z E ms M'=>∃(k:Nat) (T:Nat->Prop),z=l.length - k /\ k<=l.length /\ ms=[] /\ Has E [(0,.func (.yield ly) [] []),(3,I (lsA l k)),(8,.slice a l.length f e),(9,I l.length),(10,I k)] /\ Keep AA M0 M' /\ (∀ j,T j->M0.next<=j /\ j < M'.next) /\ II (cdItems l k) T M') ?_ l.length _ _ _
  ⟨0,fun _=>False,by omega,by omega,rfl,.cons rfl (.cons rfl (.cons rfl (.cons rfl (.cons rfl .nil)))),Keep.refl _ _,fun j hj=>hj.elim,hI0⟩
 rintro z E ms M1 ⟨k,T1,rfl,hk,rfl,hE,hk1,hT1,hI1⟩
 refine z0b hE ?_
 by_cases hlast:k=l.length
 ·subst hlast
  repeat' first|with_reducible intro _|refine sv ?_|refine sc ?_ ?_<;>(intro h;try exact sz h)|refine sg ?_ ?_<;>(intro h;first|exact sz h|refine sy h ?_)|exact sq|fail
  refine kf ?_
  exact⟨hk1.weaken (fun j hj=>.inl hj),trivial,T1,hT1,.inl hI1⟩
 have hlt:k < l.length:=by omega
 obtain⟨i,o,rfl,hr⟩:=hs.rd hlt
 rw[<-z4x hlt] at hr
 have hAi:¬ AA i:=hS _ (.inr ⟨o,rfl⟩)
 have hr1:=hr.keep hk1 hAi
 have hle:=hk1.le
 have hb:=zi5 l k
 have hcd:=zea l k
 have hstep:RoundOk Tryz.prog ly [I (cdA l k)] M1 fun w M'=>Keep (fun i=>AA i ∨ T1 i ∨ False) M1 M' /\ ∃ T':Nat->Prop,(∀ i,T' i->(T1 i ∨ False ∨ M1.next<=i) /\ i < M'.next) /\ ((w=.bool true /\ II (cdItems l k ++ [cdA l k]) T' M') ∨(w=.bool false /\ DD T' M')) :=
  tk.step (cdItems l k) (cdA l k) ((cdItems l l.length).drop (k+1)) [I (cdA l k)] (fun _=>False) T1 M1 (zag hlt) ⟨rfl,fun _=>id⟩ hle hT1 (fun _ h=>h.elim) hI1
 have hsi:smB (getG l k)=true:=by
  rw[List.all_eq_true] at hsm
  rw[z4x hlt]
  exact hsm _ (List.getElem_mem hlt)
 have hcA:cdA l k=(cdS (getG l k) (lsA l k)).1:=rfl
 have hlA:lsA l (k+1)=(cdS (getG l k) (lsA l k)).2:=rfl
 generalize hv:getG l k=v at *
 generalize hla:lsA l k=la at *
 generalize hcc:cdA l k=cc at *
 unfold cdS at hcA hlA
 by_cases h1:v=40001
 ·rw[if_pos h1] at hcA hlA
  dsimp only at hcA hlA
  subst hcA
  (have hrd0:=hr1;repeat' (first|(with_reducible intro _)|refine sv ?_|(refine sc ?_ ?_<;>(intro h;try exact sz h))|refine sg ?_ ?_<;>(intro h;first|exact sz h|refine sy h ?_)|exact sq|fail))
  refine zu (by exact gd) rfl rfl (show AppOk Tryz.prog _ _ M1 _ from hstep) ?_
  rintro w M2 ⟨hk2,T2,hT2,hw⟩
  have hk02:Keep AA M0 M2:=hk1.trans hk2 (fun i hi=>hi.elim .inl (fun h=>h.elim (fun h=>.inr (hT1 i h).1) False.elim))
  have hT02:∀ j,T2 j->M0.next<=j /\ j < M2.next:=fun j hj=>⟨(hT2 j hj).1.elim (fun h=>(hT1 j h).1) (fun h=>h.elim False.elim (fun h=>by omega)),(hT2 j hj).2⟩
  rcases hw with⟨rfl,hI2⟩|⟨rfl,hD2⟩
  ·repeat' first|with_reducible intro _|refine sv ?_|refine sc ?_ ?_<;>(intro h;try exact sz h)|refine sg ?_ ?_<;>(intro h;first|exact sz h|refine sy h ?_)|exact sq|fail
   exact zf (l.length - (k+1)) (by omega) ⟨k+1,T2,rfl,by omega,rfl,.cons rfl (.cons (by rw[hlA];rfl) (.cons rfl (.cons rfl (.cons rfl .nil)))),hk02,hT02,by rw[z5e,hcc];exact hI2⟩
  ·repeat' first|with_reducible intro _|refine sv ?_|refine sc ?_ ?_<;>(intro h;try exact sz h)|refine sg ?_ ?_<;>(intro h;first|exact sz h|refine sy h ?_)|exact sq|fail
   refine kf ?_
   exact⟨hk02.weaken (fun j hj=>.inl hj),trivial,T2,hT02,.inr hD2⟩
 ·rw[if_neg h1] at hcA hlA
  cases hkn:knB v with
  | false =>
   rw[hkn,if_neg (by decide)] at hcA hlA
   dsimp only at hcA hlA
   subst hcA
   have hc:∀ M,za Tryz.prog 47 [I v] M (fun w M'=>w=.bool false /\ M'=M):=fun M=>by rw[<-hkn];exact z7h _ M
   (have hrd0:=hr1;repeat' (first|(with_reducible intro _)|refine sv ?_|(refine sc ?_ ?_<;>(intro h;try exact sz h))|((with_reducible first|apply z02|apply z0e|apply d_same0);exact gd;exact rfl;exact rfl;(first|exact hc _))|refine sg ?_ ?_<;>(intro h;first|exact sz h|refine sy h ?_)|exact sq|fail))
   refine zu (by exact gd) rfl rfl (show AppOk Tryz.prog _ _ M1 _ from hstep) ?_
   rintro w M2 ⟨hk2,T2,hT2,hw⟩
   have hk02:Keep AA M0 M2:=hk1.trans hk2 (fun i hi=>hi.elim .inl (fun h=>h.elim (fun h=>.inr (hT1 i h).1) False.elim))
   have hT02:∀ j,T2 j->M0.next<=j /\ j < M2.next:=fun j hj=>⟨(hT2 j hj).1.elim (fun h=>(hT1 j h).1) (fun h=>h.elim False.elim (fun h=>by omega)),(hT2 j hj).2⟩
   rcases hw with⟨rfl,hI2⟩|⟨rfl,hD2⟩
   ·repeat' first|with_reducible intro _|refine sv ?_|refine sc ?_ ?_<;>(intro h;try exact sz h)|refine sg ?_ ?_<;>(intro h;first|exact sz h|refine sy h ?_)|exact sq|fail
    exact zf (l.length - (k+1)) (by omega) ⟨k+1,T2,rfl,by omega,rfl,.cons rfl (.cons (by rw[hlA];rfl) (.cons rfl (.cons rfl (.cons rfl .nil)))),hk02,hT02,by rw[z5e,hcc];exact hI2⟩
   ·repeat' first|with_reducible intro _|refine sv ?_|refine sc ?_ ?_<;>(intro h;try exact sz h)|refine sg ?_ ?_<;>(intro h;first|exact sz h|refine sy h ?_)|exact sq|fail
    refine kf ?_
    exact⟨hk02.weaken (fun j hj=>.inl hj),trivial,T2,hT02,.inr hD2⟩
  | true =>
   rw[hkn,if_pos rfl] at hcA hlA
   dsimp only at hcA hlA
   have hvb:-32767<=v /\ v<=32767:=of_decide_eq_true hkn
   have hc:∀ M,za Tryz.prog 47 [I v] M (fun w M'=>w=.bool true /\ M'=M):=fun M=>by rw[<-hkn];exact z7h _ M
   by_cases h2:v - la < 0
   ·rw[if_pos h2] at hcA
    subst hcA
    (have hrd0:=hr1;repeat' (first|(with_reducible intro _)|refine sv ?_|(refine sc ?_ ?_<;>(intro h;try exact sz h))|((with_reducible first|apply z02|apply z0e|apply d_same0);exact gd;exact rfl;exact rfl;(first|exact hc _))|refine sg ?_ ?_<;>(intro h;first|exact sz h|refine sy h ?_)|exact sq|fail))
    all_goals try(exfalso;omega)
    refine zu (by exact gd) rfl rfl (show AppOk Tryz.prog _ _ M1 _ from hstep) ?_
    rintro w M2 ⟨hk2,T2,hT2,hw⟩
    have hk02:Keep AA M0 M2:=hk1.trans hk2 (fun i hi=>hi.elim .inl (fun h=>h.elim (fun h=>.inr (hT1 i h).1) False.elim))
    have hT02:∀ j,T2 j->M0.next<=j /\ j < M2.next:=fun j hj=>⟨(hT2 j hj).1.elim (fun h=>(hT1 j h).1) (fun h=>h.elim False.elim (fun h=>by omega)),(hT2 j hj).2⟩
    rcases hw with⟨rfl,hI2⟩|⟨rfl,hD2⟩
    ·repeat' first|with_reducible intro _|refine sv ?_|refine sc ?_ ?_<;>(intro h;try exact sz h)|refine sg ?_ ?_<;>(intro h;first|exact sz h|refine sy h ?_)|exact sq|fail
     exact zf (l.length - (k+1)) (by omega) ⟨k+1,T2,rfl,by omega,rfl,.cons rfl (.cons (by rw[hlA];rfl) (.cons rfl (.cons rfl (.cons rfl .nil)))),hk02,hT02,by rw[z5e,hcc];exact hI2⟩
    ·repeat' first|with_reducible intro _|refine sv ?_|refine sc ?_ ?_<;>(intro h;try exact sz h)|refine sg ?_ ?_<;>(intro h;first|exact sz h|refine sy h ?_)|exact sq|fail
     refine kf ?_
     exact⟨hk02.weaken (fun j hj=>.inl hj),trivial,T2,hT02,.inr hD2⟩
   ·rw[if_neg h2] at hcA
    subst hcA
    (have hrd0:=hr1;repeat' (first|(with_reducible intro _)|refine sv ?_|(refine sc ?_ ?_<;>(intro h;try exact sz h))|((with_reducible first|apply z02|apply z0e|apply d_same0);exact gd;exact rfl;exact rfl;(first|exact hc _))|refine sg ?_ ?_<;>(intro h;first|exact sz h|refine sy h ?_)|exact sq|fail))
    all_goals try(exfalso;omega)
    refine zu (by exact gd) rfl rfl (show AppOk Tryz.prog _ _ M1 _ from hstep) ?_
    rintro w M2 ⟨hk2,T2,hT2,hw⟩
    have hk02:Keep AA M0 M2:=hk1.trans hk2 (fun i hi=>hi.elim .inl (fun h=>h.elim (fun h=>.inr (hT1 i h).1) False.elim))
    have hT02:∀ j,T2 j->M0.next<=j /\ j < M2.next:=fun j hj=>⟨(hT2 j hj).1.elim (fun h=>(hT1 j h).1) (fun h=>h.elim False.elim (fun h=>by omega)),(hT2 j hj).2⟩
    rcases hw with⟨rfl,hI2⟩|⟨rfl,hD2⟩
    ·repeat' first|with_reducible intro _|refine sv ?_|refine sc ?_ ?_<;>(intro h;try exact sz h)|refine sg ?_ ?_<;>(intro h;first|exact sz h|refine sy h ?_)|exact sq|fail
     exact zf (l.length - (k+1)) (by omega) ⟨k+1,T2,rfl,by omega,rfl,.cons rfl (.cons (by rw[hlA];rfl) (.cons rfl (.cons rfl (.cons rfl .nil)))),hk02,hT02,by rw[z5e,hcc];exact hI2⟩
    ·repeat' first|with_reducible intro _|refine sv ?_|refine sc ?_ ?_<;>(intro h;try exact sz h)|refine sg ?_ ?_<;>(intro h;first|exact sz h|refine sy h ?_)|exact sq|fail
     refine kf ?_
     exact⟨hk02.weaken (fun j hj=>.inl hj),trivial,T2,hT02,.inr hD2⟩
end Go.Proofs.YtbfnnllgdioccaaGreatDoor.C
end
section
open Go PvL Go.Proofs
set_option linter.unusedSimpArgs false
set_option linter.unusedVariables false
variable {μ:Md}
namespace Go.Proofs.YtbfnnllgdioccaaGreatDoor.C
abbrev u8c(b:UInt8):List LV:=[byteL b]
theorem z1k:∀ l:List UInt8,zp l=l.flatMap u8c
 | []=>rfl
 | b :: l=>by show byteL b :: zp l=[byteL b] ++ l.flatMap u8c;rw[z1k l];rfl
theorem z56(l:List UInt8):zd (zp l)=true:=by rw[z1k];exact z2b (fun _ _=>rfl)
theorem z1s{M:Mem}{p:Nat}{own:Bool}{l:List UInt8}{ty:TypeId}{f:Bool}(h:At M p (.cells own (zp l) ty)):z0g 1 l.length (.slice (some (p,0)) l.length f 1) M=some (zp l):=by
 rw[z1k] at h ⊢
 exact z3t (enc:=u8c) (fun _ _=>rfl) (fun k hk=>z1v (enc:=u8c) h (fun _ _=>rfl) hk)
theorem zkv{M:Mem}{p:Nat}{own:Bool}{l:List UInt8}{ty:TypeId}(h:At M p (.cells own (zp l) ty)):Rd M p 0 l.length (zp l):=by
 refine Rd.of_at h ?_
 show take' l.length (zp l)=_
 have:∀ l:List UInt8,take' l.length (zp l)=some (zp l):=fun l=>by
  induction l with
  | nil=>rfl
  | cons b l ih =>
   show ob (take' l.length (zp l)) _=_
   rw[ih];rfl
 exact this l
def ApB(b:Nat)(M:Mem)(v:LV)(l:List UInt8):Prop:=∃ f ty,v=.slice (some (b,0)) l.length f 1 /\ At M b (.cells true (zp l) ty) /\ (f=true ∨ ty=apE 5)
theorem ApB.lt{b:Nat}{M:Mem}{v:LV}{l:List UInt8}(h:ApB b M v l):b < M.next:=by
 obtain⟨f,ty,_,h2,_⟩:=h
 exact h2.2
theorem ApB.grow{b:Nat}{M M':Mem}{v:LV}{l:List UInt8}(h:ApB b M v l)(hg:Grow M M'):ApB b M' v l:=by
 obtain⟨f,ty,h1,h2,h3⟩:=h
 exact⟨f,ty,h1,h2.grow hg,h3⟩
theorem ApB.same{b:Nat}{M M':Mem}{v:LV}{l:List UInt8}(h:ApB b M v l)(hle:M.next<=M'.next)(hg:M'.get b=M.get b):ApB b M' v l:=by
 obtain⟨f,ty,h1,h2,h3⟩:=h
 exact⟨f,ty,h1,h2.same hle hg,h3⟩
theorem ApB.bstr{b:Nat}{M:Mem}{v:LV}{l:List UInt8}(h:ApB b M v l){E:Env}{x:XO}(hx:xval E x=some v):ze Tryz.prog (.bstr x) E M=some (.val (.str (strL l)) M):=by
 obtain⟨f,ty,rfl,h2,h3⟩:=h
 exact zod hx (zkv h2)
section
variable {P:Program} [Orc P] {sz:Nat} {E:Env} {M:Mem} {K:Env->Mem->Prop} {ll:List XG} {d:Nat} {g:Option (Nat × Bool)} {sx0 x:XO} {b:Nat} {v:LV} {l l':List UInt8} {z:List LV} {xv:LV} {st:List Mem} {k:Nat} {xs:List (Nat × Nat × (Mem->Prop))} {ld:List (XG × XK)}
theorem ApB.app(hv:ApB b M v l)(hs:xval E sx0=some v)(hx:xval E x=some xv)(hn:z17 xv=some l'.length)(h0:0 < l'.length)(hl:l.length+l'.length<=1000000000000)(hz:z.length=1)(hw:z0g 1 l'.length xv M=some (zp l')) :
  ∃ v' M',ze P (.app 5 1 1 z sx0 x) E M=some (.val v' M') /\ ApB M.next M' v' (l ++ l') /\ M'.next=M.next+1 /\ Keep (fun j=>j=b) M M':=by
 obtain⟨f,ty,rfl,h2,h3⟩:=hv
 have hz2:(Nat.ble 1 1 && (Nat.ble 1 1 && Nat.beq z.length 1))=true:=by rw[hz];rfl
 have hfm:zp (l ++ l')=zp l ++ zp l':=by rw[z1k,z1k,z1k,List.flatMap_append]
 have ho:=z1s (f:=f) h2
 have hroom:(2*(l.length+l'.length)+2048)*1<=140737488355328:=by omega
 cases f with
 | true =>
  have hN:New M M.next (.cells true (zp l ++ zp l') (apE 5)) (M.push (.cells true (zp l ++ zp l') (apE 5))):=⟨rfl,rfl⟩
  exact⟨_,_,z6i hs hx hn h0 hroom hz2 ho hw (z56 _) (.inr rfl),⟨_,_,by rw[List.length_append],by rw[hfm];exact At.new_same hN,.inr rfl⟩,rfl,hN.grow.to_keep _⟩
 | false =>
  obtain rfl:ty=apE 5:=h3.resolve_left (by decide)
  have hK:Kill M b M.next (.cells true (zp l ++ zp l') (apE 5)) ((M.upd b none).push (.cells true (zp l ++ zp l') (apE 5))):=⟨rfl,rfl⟩
  exact⟨_,_,z55 hs hx hn h0 hroom hz2 ho hw (z56 _) h2 (by rw[show Nat.beq (apE 5) (apE 5)=true by simp,Bool.or_true]),⟨_,_,by rw[List.length_append],by rw[hfm];exact hK.same,.inr rfl⟩,hK.next,hK.keep⟩
theorem zlf(hg:GOn E g)(hv:ApB b M v l)(hs:xval E sx0=some v)(hx:xval E x=some xv)(hn:z17 xv=some l'.length)(h0:0 < l'.length)(hl:l.length+l'.length<=1000000000000)(hz:z.length=1)(hw:z0g 1 l'.length xv M=some (zp l'))
  (hk:∀ v' M',ApB M.next M' v' (l ++ l')->M'.next=M.next+1->Keep (fun j=>j=b) M M'->XW μ P sz ll ((d,v') :: E) M' K):XW μ P sz (⟨some d,.app 5 1 1 z sx0 x,g⟩ :: ll) E M K:=by
 obtain⟨v',M',h1,h2,h3,h4⟩:=hv.app (P:=P) hs hx hn h0 hl hz hw
 exact zj8 hg h1 (hk v' M' h2 h3 h4)
theorem zrb(hg:GOn E g)(hv:ApB b M v l)(hs:xval E sx0=some v)(hx:xval E x=some xv)(hn:z17 xv=some l'.length)(h0:0 < l'.length)(hl:l.length+l'.length<=1000000000000)(hz:z.length=1)(hw:z0g 1 l'.length xv M=some (zp l'))
  (hk:∀ v' M',ApB M.next M' v' (l ++ l')->M'.next=M.next+1->Keep (fun j=>j=b) M M'->XD P sz ld ((d,v') :: E) M' (M' :: st) (k+1) xs K):XD P sz ((⟨some d,.app 5 1 1 z sx0 x,g⟩,.anchor) :: ld) E M st k xs K:=by
 obtain⟨v',M',h1,h2,h3,h4⟩:=hv.app (P:=P) hs hx hn h0 hl hz hw
 exact zlx hg h1 (hk v' M' h2 h3 h4)
end
theorem zh7(l:List Int)(n:Nat):(cdItems l n).flatMap (fun c=>cdN c.toNat)=cdsL l n:=by
 unfold cdItems cdsL
 rw[List.flatMap_map]
end Go.Proofs.YtbfnnllgdioccaaGreatDoor.C
end
section
open Go PvL Go.Proofs
set_option linter.unusedSimpArgs false
set_option linter.unusedVariables false
namespace Go.Proofs.YtbfnnllgdioccaaGreatDoor.C
theorem zek{α β:Type}{g:α->List β}{B:Nat}:∀ {l:List α},(∀ c ∈ l,(g c).length<=B)->(l.flatMap g).length<=B*l.length
 | [],_=>by simp
 | c :: l,h=>by
  rw[List.flatMap_cons,List.length_append,List.length_cons,Nat.mul_add,Nat.mul_one]
  have h1:=h c List.mem_cons_self
  have h2:=zek (g:=g) (B:=B) (l:=l) (fun c hc=>h c (List.mem_cons_of_mem _ hc))
  omega
set_option maxHeartbeats 16000000 in
theorem zjx{M:Mem}{v:LV}{x:Fr}(hv:FrV M v x)(hx:frB x=true):za Tryz.prog 80 [v] M (fun w M'=>∃ b,ApB b M' w (pkL x) /\ M.next<=b /\ Grow M M'):=by
 obtain⟨a,f,e,rfl,hs⟩:=hv
 obtain⟨s,c,l⟩:=x
 have hbd:=z6q hx
 dsimp only at hbd hs ⊢
 obtain⟨hs1,hs2,hc1,hc2,hsm⟩:=hbd
 have hln:1<=l.length /\ l.length<=64 /\ l.all smB=true:=by
  unfold smsB btB at hsm
  simp only[Bool.and_eq_true,decide_eq_true_eq] at hsm
  exact⟨by omega,by omega,hsm.2⟩
 obtain⟨s,rfl⟩:∃ n:Nat,s=(n:Int):=⟨s.toNat,by omega⟩
 obtain⟨c,rfl⟩:∃ n:Nat,c=(n:Int):=⟨c.toNat,by omega⟩
 have hpk:pkL ((s:Int),(c:Int),l)=chkL ((([165,90] ++ twoL s) ++ [u8 c,u8 l.length]) ++ cdsL l l.length):=rfl
 rw[hpk]
 refine zc k80 rfl ?_
 dsimp only[x80,zM,zO,zI,zF,zS,zB,zL,zA,zE,zN,zW,zC,zipE,Nat.reduceAdd]
 repeat' first|with_reducible intro _|refine sv ?_|refine sc ?_ ?_<;>(intro h;try exact sz h)|((with_reducible first|apply zfc|apply zeg);exact gd;exact rfl;exact rfl;(first|exact zpf s (by omega) _))|refine sg ?_ ?_<;>(intro h;first|exact sz h|refine sy h ?_)|exact sq|fail
 rename_i m1 M1 hN1 q1 q2 m5 M5 hN5 q3 q4 p8 M8 hA8 l8 l8' hg8 le8
 have ha1:At M8 m1 (.cells true [I s,I c,.slice a l.length f e] 48):=xm
 have hb8:ApB m5 M8 (.slice (some (m5,0)) 2 true 1) [165,90]:=ApB.grow (M:=M5) ⟨true,_,rfl,At.new_same hN5,.inl rfl⟩ hg8
 have hgM8:Grow M M8:=xg
 refine zlf (l':=twoL s) (by exact gd) hb8 rfl rfl rfl (by simp[twoL]) (by simp[twoL]) rfl (z1s (f:=true) hA8) ?_
 intro v9 M9 hb9 e9 hk9
 have hgM9:Grow M M9:=Keep.to_grow' hgM8 hk9 (fun i hi=>by omega)
 have ha9:=ha1.keep hk9 (by omega)
 obtain⟨f9,ty9,rfl,ht9⟩:=id hb9
 repeat' first|with_reducible intro _|refine sv ?_|refine sc ?_ ?_<;>(intro h;try exact sz h)|refine sg ?_ ?_<;>(intro h;first|exact sz h|refine sy h ?_)|exact sq|fail
 rename_i m3 M10 hN10 u1 u2 M11 hU11 u3 hA11 n12 M12 hN12 u4 u5
 have hg912:Grow M9 M12:=xg
 have hb12:=hb9.grow hg912
 have ha12:=At.grow hg912 ha9
 have hm12:At M12 m3 (.cells true [.slice (some (M8.next,0)) ([165,90] ++ twoL s).length f9 1] 129):=xm
 rw[show [LV.int .u8 (c:Int),LV.int .u8 (l.length:Int)]=zp [u8 c,u8 l.length] from by show _=[byteL (u8 c),byteL (u8 l.length)];rw[z7d (by omega),z7d (by omega)]] at hN12
 have hgM12:=hgM9.trans hg912
 have l8m:=hb9.lt
 refine zlf (l':=[u8 c,u8 l.length]) (by exact gd) hb12 rfl rfl rfl (by simp) (by simp[twoL]) rfl (z1s (f:=true) (At.new_same hN12)) ?_
 intro v13 M13 hb13 e13 hk13
 have hgM13:Grow M M13:=Keep.to_grow' hgM12 hk13 (fun i hi=>by have:=hgM8.le;omega)
 have ha13:=ha12.keep hk13 (by omega)
 have hm13:=hm12.keep hk13 (by omega)
 generalize hHd:([165,90] ++ twoL s) ++ [u8 c,u8 l.length]=hd at *
 have hhl:hd.length=6:=by rw[<-hHd];simp[twoL]
 generalize hb0:M12.next=b0 at *
 have hM8:=hgM8.le
 clear hN1 hN5 hA8 hg8 hk9 hN10 hU11 hA11 hN12 hk13 hb12 ht9 hb9 hg912 ha12 hm12 hb8 ha1 ha9
 obtain⟨f13,ty13,rfl,ht13⟩:=id hb13
 repeat' first|with_reducible intro _|refine sv ?_|refine sc ?_ ?_<;>(intro h;try exact sz h)|((with_reducible first|apply zfc|apply zeg);exact gd;exact rfl;exact rfl;(first|exact zn1 _))|refine sg ?_ ?_<;>(intro h;first|exact sz h|refine sy h ?_)|exact sq|fail
 rename_i M14 hU14 e14 hA14 p15 M15 hA15 l15 l15' hg15 le15
 have hb14:ApB b0 M14 (.slice (some (b0,0)) hd.length f13 1) hd:=by
  obtain⟨f,ty,h1,h2,h3⟩:=hb13
  exact⟨f,ty,h1,At.upd_ne hU14 (by omega) h2,h3⟩
 have hb15:=hb14.grow hg15
 have hm15:=At.grow hg15 hA14
 have hgM14:Grow M M14:=hgM13.upd hU14 (by omega)
 have hgM15:=hgM14.trans hg15
 have hlb0:=hb13.lt
 clear hU14 hA14 hg15 hb14 hb13 ht13 ha13 hm13 hgM14
 apply zqb
 exact rfl
 intro lb d0 ly M16 M17 hlb hd0 e16 e16' hly e17 e17'
 have hg1517:Grow M15 M17:=hd0.grow.trans hly.grow
 have hgM17:=hgM15.trans hg1517
 have hs17:=hs.grow hgM17
 have hy:=zop (At.grow hg1517 hA15) hs17 hln.2.1 hln.2.2
 have hd17:At M17 d0 .defr:=At.new_old hly (At.new_same hd0)
 refine(hy ly (fun i=>i=m3 ∨ i=b0 ∨ i=ly) (fun dn T M'=>∃ v b,At M' m3 (.cells true [v] 129) /\ ApB b M' v (hd ++ dn.flatMap fun c=>cdN c.toNat) /\ (b=b0 ∨ T b) /\ At M' ly (lb .ready none) /\ At M' d0 .defr /\ Keep (fun i=>i=m3 ∨ i=b0 ∨ i=ly) M17 M' /\ dn.length<=64) (fun _ _=>False) ⟨?_,?_,fun T M M' h=>h.elim,?_⟩ ?_ ⟨_,b0,At.grow hg1517 hm15,by rw[List.flatMap_nil,List.append_nil];exact hb15.grow hg1517,.inl rfl,At.new_same hly,hd17,Keep.refl _ _,Nat.zero_le _⟩).mono ?_
 ·rintro i (rfl|rfl|rfl)<;>omega
 ·rintro dn T Mx My ⟨v,b,h1,h2,h3,h4,h5,h6,h7⟩ hle hg
  have hgo:∀ i,i < M17.next->My.get i=Mx.get i:=fun i hi=>hg i (.inl ⟨hi,id⟩)
  refine⟨v,b,h1.same hle (hgo _ (by omega)),h2.same hle ?_,h3,h4.same hle (hgo _ (by omega)),h5.same hle (hgo _ (by omega)),⟨Nat.le_trans h6.le hle,fun i hi hf=>by rw[hgo i hi];exact h6.old i hi hf⟩,h7⟩
  rcases h3 with rfl|h3
  ·exact hgo _ (by omega)
  ·exact hg _ (.inr h3)
 ·rintro dn c' rest v' U T Mx hits ⟨rfl,hU⟩ hN0 hT hUd ⟨v,b,h1,h2,h3,h4,h5,h6,h7⟩
  have hcm:c' ∈ cdItems l l.length:=by rw[hits];simp
  have hcb:0<=c' /\ c'<=131070:=by
   unfold cdItems at hcm
   obtain⟨k,_,rfl⟩:=List.mem_map.1 hcm
   exact zea l k
  have hdl:dn.length+1<=64:=by
   have:=congrArg List.length hits
   rw[List.length_append,List.length_cons] at this
   unfold cdItems at this
   rw[List.length_map,List.length_range] at this
   omega
  obtain⟨N,rfl⟩:∃ N:Nat,c'=(N:Int):=⟨c'.toNat,by omega⟩
  have hbl:(dn.flatMap fun c=>cdN c.toNat).length<=1100*dn.length:=zek (fun c hc=>by
   have hcm2:c ∈ cdItems l l.length:=by rw[hits];exact List.mem_append_left _ hc
   unfold cdItems at hcm2
   obtain⟨k,_,rfl⟩:=List.mem_map.1 hcm2
   have:=zea l k
   have:=zah (cdA l k).toNat
   omega)
  have hfold:(dn ++ [(N:Int)]).flatMap (fun c=>cdN c.toNat)=(dn.flatMap fun c=>cdN c.toNat) ++ cdN N:=by rw[List.flatMap_append];simp
  rw[hfold]
  have hcdl:=zah N
  generalize hbase:hd ++(dn.flatMap fun c=>cdN c.toNat)=base at *
  have hbasel:base.length<=100000:=by rw[<-hbase,List.length_append];omega
  have hbM:=h2.lt
  have hlyM:=h4.2
  refine zf6 hlb h4 rfl ?_
  dsimp only[zipP]
  repeat' first|with_reducible intro _|refine sv ?_|refine sc ?_ ?_<;>(intro h;try exact sz h)|refine sg ?_ ?_<;>(intro h;first|exact sz h|refine sy h ?_)|exact sq|fail
  rename_i MB hUB eB hlyB
  have hbl2:b ≠ ly /\ (b=b0 ∨ M17.next<=b):=by
   rcases h3 with rfl|h3
   ·exact⟨by omega,.inl rfl⟩
   ·have:=(hT b h3).1
    exact⟨by omega,.inr this⟩
  have k1:=At.upd_ne hUB (show m3 ≠ ly by omega) h1
  have k2:ApB b MB v base:=by
   obtain⟨f,ty,g1,g2,g3⟩:=h2
   exact⟨f,ty,g1,At.upd_ne hUB hbl2.1 g2,g3⟩
  have k5:=At.upd_ne hUB (show d0 ≠ ly by omega) h5
  have hKB:Keep (fun i=>i=m3 ∨ i=b0 ∨ i=ly ∨ T i) Mx MB:=(Keep.refl _ _).upd hUB (.inl (.inr (.inr (.inl rfl))))
  have hle6:=h6.le
  clear hUB
  refine z9 (fun z E ms M'=>∃(m:Nat) (pre:List UInt8) (v2:LV) (b2:Nat),z=m /\ m<=N /\ ms=[] /\ Has E [(3,.ptr (some (m3,0))),(4,I m)] /\ At M' m3 (.cells true [v2] 129) /\ ApB b2 M' v2 (base ++ pre) /\ pre ++ cdN m=cdN N /\ (b2=b0 ∨ T b2 ∨ Mx.next<=b2) /\ (b2=b0 ∨ M17.next<=b2) /\ At M' ly (lb .busy none) /\ At M' d0 .defr /\ Keep (fun i=>i=m3 ∨ i=b0 ∨ i=ly ∨ T i) Mx M')
   ?_ N _ _ _ ⟨N,[],v,b,rfl,Nat.le_refl _,rfl,.cons rfl (.cons rfl .nil),k1,by rw[List.append_nil];exact k2,rfl,h3.elim .inl (fun h=>.inr (.inl h)),hbl2.2,hlyB,k5,hKB⟩
  rintro z E ms MC ⟨m,pre,v2,b2,hz,hm,rfl,hE,r1,r2,hpre,hb2,hb2',rly,rd0,hKC⟩
  refine z0b hE ?_
  obtain⟨f2,ty2,rfl,hat2⟩:=id r2
  have hprel:pre.length<=2000:=by
   have:=congrArg List.length hpre
   rw[List.length_append] at this
   omega
  have hb2l:=r2.lt
  have hleC:=hKC.le
  have hFb:b2=m3 ∨ b2=b0 ∨ b2=ly ∨ T b2 ∨ Mx.next<=b2:=hb2.elim (fun h=>.inr (.inl h)) (fun h=>.inr (.inr (.inr h)))
  by_cases h128:128<=m
  ·have hd1:(m:Int) / 128=((m / 128:Nat):Int):=by omega
   have hd2:(m:Int) % 128+128=((m % 128+128:Nat):Int):=by omega
   have hge:=zec h128
   repeat' first|with_reducible intro _|refine sv ?_|refine sc ?_ ?_<;>(intro h;try exact sz h)|refine sg ?_ ?_<;>(intro h;first|exact sz h|refine sy h ?_)|exact sq|fail
   rename_i nD MD hND eD eD'
   rw[hd2,ze7 (by omega)] at hND
   have r2D:=r2.grow hND.grow
   refine zlf (l':=[u8 (m % 128+128)]) (by exact gd) r2D rfl rfl rfl (by simp) (by simp;omega) rfl (z1s (f:=true) (At.new_same hND)) ?_
   intro v3 ME hbE eE hkE
   have hKE:Keep (fun i=>i=m3 ∨ i=b0 ∨ i=ly ∨ T i) Mx ME:=(hKC.new hND).trans hkE (fun i hi=>by
    subst hi
    rcases hb2 with h|h|h
    ·exact .inl (.inr (.inl h))
    ·exact .inl (.inr (.inr (.inr h)))
    ·exact .inr h)
   have gm3:=(At.new_old hND r1).keep hkE (show ¬ m3=b2 by omega)
   have gly:=(At.new_old hND rly).keep hkE (show ¬ ly=b2 by omega)
   have gd0:=(At.new_old hND rd0).keep hkE (show ¬ d0=b2 by omega)
   clear hkE
   obtain⟨f3,ty3,rfl,ht3,ht3'⟩:=id hbE
   repeat' first|with_reducible intro _|refine sv ?_|refine sc ?_ ?_<;>(intro h;try exact sz h)|refine sg ?_ ?_<;>(intro h;first|exact sz h|refine sy h ?_)|exact sq|fail
   rename_i MF hUF eF hmF
   exact zf (m / 128) (by omega) ⟨m / 128,pre ++ [u8 (m % 128+128)],_,MD.next,rfl,by omega,rfl,.cons rfl (.cons (by rw[<-hd1];rfl) .nil),hmF,by rw[<-List.append_assoc];exact⟨_,_,rfl,At.upd_ne hUF (by omega) ht3,ht3'⟩,by rw[List.append_assoc,<- hpre,hge];rfl,.inr (.inr (by omega)),.inr (by omega),At.upd_ne hUF (by omega) gly,At.upd_ne hUF (by omega) gd0,hKE.upd hUF (.inl (.inl rfl))⟩
  ·have hlt:=zbo (show m < 128 by omega)
   repeat' first|with_reducible intro _|refine sv ?_|refine sc ?_ ?_<;>(intro h;try exact sz h)|refine sg ?_ ?_<;>(intro h;first|exact sz h|refine sy h ?_)|exact sq|fail
   rename_i nD MD hND eD eD'
   rw[ze7 (by omega)] at hND
   have r2D:=r2.grow hND.grow
   refine zlf (l':=[u8 m]) (by exact gd) r2D rfl rfl rfl (by simp) (by simp;omega) rfl (z1s (f:=true) (At.new_same hND)) ?_
   intro v3 ME hbE eE hkE
   have hKE:Keep (fun i=>i=m3 ∨ i=b0 ∨ i=ly ∨ T i) Mx ME:=(hKC.new hND).trans hkE (fun i hi=>by
    subst hi
    rcases hb2 with h|h|h
    ·exact .inl (.inr (.inl h))
    ·exact .inl (.inr (.inr (.inr h)))
    ·exact .inr h)
   have gm3:=(At.new_old hND r1).keep hkE (show ¬ m3=b2 by omega)
   have gly:=(At.new_old hND rly).keep hkE (show ¬ ly=b2 by omega)
   have gd0:=(At.new_old hND rd0).keep hkE (show ¬ d0=b2 by omega)
   clear hkE
   obtain⟨f3,ty3,rfl,ht3,ht3'⟩:=id hbE
   repeat' first|with_reducible intro _|refine sv ?_|refine sc ?_ ?_<;>(intro h;try exact sz h)|refine sg ?_ ?_<;>(intro h;first|exact sz h|refine sy h ?_)|exact sq|fail
   rename_i MF hUF eF hmF MG hUG eG hlyG
   refine⟨((hKE.upd hUF (.inl (.inl rfl))).upd hUG (.inl (.inr (.inr (.inl rfl))))).weaken (fun i hi=>?_),fun i=>i=MD.next,fun i hi=>⟨.inr (.inr (by omega)),by omega⟩,.inl ⟨rfl,_,MD.next,At.upd_ne hUG (by omega) hmF,?_,.inr rfl,hlyG,At.upd_ne hUG (by omega) (At.upd_ne hUF (by omega) gd0),?_,?_⟩⟩
   ·rcases hi with h|h|h|h
    ·exact .inl (.inl h)
    ·exact .inl (.inr (.inl h))
    ·exact .inl (.inr (.inr h))
    ·exact .inr (.inl h)
   ·have e1:hd ++((dn.flatMap fun c=>cdN c.toNat) ++ cdN N)=base ++ pre ++ [u8 m]:=by rw[<-hbase,<- hpre,hlt];simp
    rw[e1]
    exact⟨_,_,rfl,At.upd_ne hUG (by omega) (At.upd_ne hUF (by omega) ht3),ht3'⟩
   ·refine h6.trans ((hKE.upd hUF (.inl (.inl rfl))).upd hUG (.inl (.inr (.inr (.inl rfl))))) (fun i hi=>?_)
    rcases hi with h|h|h|h
    ·exact .inl (.inl h)
    ·exact .inl (.inr (.inl h))
    ·exact .inl (.inr (.inr h))
    ·exact .inr (hT i h).1
   ·rw[List.length_append];exact hdl
 ·rintro i (rfl|⟨o,hi⟩)
  ·rintro(h|h|h)<;>omega
  ·obtain⟨i',o',he,hr⟩:=hs.rd (k:=0) (by omega)
   rw[hi] at he
   obtain⟨rfl,rfl⟩:i=i' /\ o=o':=by injection he with q;injection q with q1 q2;exact⟨q1,q2⟩
   have:=hr.2
   rintro(h|h|h)<;>omega
 ·rintro w18 M18 ⟨hk18,_,T',hT',⟨v,b,h1,h2,h3,h4,h5,h6,h7⟩|h⟩
  ·rw[zh7] at h2
   have hbl2:b ≠ ly /\ (b=b0 ∨ M17.next<=b) /\ M.next<=b:=by
    have:=hgM17.le
    rcases h3 with rfl|h3
    ·exact⟨by omega,.inl rfl,by omega⟩
    ·have:=(hT' b h3).1
     exact⟨by omega,.inr this,by omega⟩
   have hcl:=zai l l.length
   generalize hBy:hd ++ cdsL l l.length=By at *
   have hByl:By.length<=100000:=by rw[<-hBy,List.length_append];omega
   have hg18:Grow M M18:=Keep.to_grow' hgM17 h6 (fun i hi=>by rcases hi with h|h|h<;>omega)
   have le18:=h6.le
   clear hk18 h6
   refine zm4 h4 (by simp) fun M19 hu19 e19 a19=>?_
   have hb19:ApB b M19 v By:=by
    obtain⟨f,ty,g1,g2,g3⟩:=h2
    exact⟨f,ty,g1,At.upd_ne hu19 hbl2.1 g2,g3⟩
   have hm19:=At.upd_ne hu19 (show m3 ≠ ly by omega) h1
   have hd19:=At.upd_ne hu19 (show d0 ≠ ly by omega) h5
   have hg19:Grow M M19:=hg18.upd hu19 (by have:=hgM15.le;omega)
   have hcr:=z7l (strL By) By.length
   obtain⟨n,hn⟩:∃ n:Nat,crcK (strL By) By.length=(n:Int):=⟨(crcK (strL By) By.length).toNat,by omega⟩
   have hck:chkL By=By ++ twoL n:=by unfold chkL;rw[hn];rfl
   rw[hck]
   have cc:=zmx (strL By) (by rw[zct];omega)
   rw[zct,hn] at cc
   have hbl:=hb19.lt
   clear hu19 h1 h2 h5 a19 h4
   obtain⟨f9',ty9',rfl,hat9⟩:=id hb19
   repeat' first|with_reducible intro _|refine sv ?_|refine sc ?_ ?_<;>(intro h;try exact sz h)|refine sg ?_ ?_<;>(intro h;first|exact sz h|refine sy h ?_)|exact sq|fail
   refine z54 (by exact gd) (ApB.bstr hb19 rfl) (fun m=>ApB b m (.slice (some (b,0)) By.length f9' 1) By) (fun m hm=>ApB.bstr hm rfl) ?_
   repeat' first|with_reducible intro _|refine sv ?_|refine sc ?_ ?_<;>(intro h;try exact sz h)|((with_reducible first|apply z02|apply z0e|apply d_same0);exact gd;exact rfl;exact rfl;(first|exact cc _))|((with_reducible first|apply zfc|apply zeg);exact gd;exact rfl;exact rfl;(first|exact zpf n (by omega) _))|refine sg ?_ ?_<;>(intro h;first|exact sz h|refine sy h ?_)|exact sq|fail
   rename_i p20 M20 hA20 l20 l20' hg20 le20
   have hb20:=hb19.grow hg20
   have hm20:=At.grow hg20 hm19
   have hd20:=At.grow hg20 hd19
   refine zrb (l':=twoL n) (by exact gd) hb20 rfl rfl rfl (by simp[twoL]) (by simp[twoL];omega) rfl (z1s (f:=true) hA20) ?_
   intro v21 M21 hb21 e21 hk21
   have hd21:=hd20.keep hk21 (by omega)
   have hg21:Grow M M21:=Keep.to_grow' (hg19.trans hg20) hk21 (fun i hi=>by omega)
   clear hk21
   repeat' first|with_reducible intro _|refine sv ?_|refine sc ?_ ?_<;>(intro h;try exact sz h)|refine sg ?_ ?_<;>(intro h;first|exact sz h|refine sy h ?_)|exact sq|fail
   refine zc6 (.inr rfl) (by simp[dnat]) (fun d hd=>by simp[dnat] at hd;subst hd;exact hd21) fun M22 hm=>⟨_,.tmp rfl .nil,M20.next,?_,?_,?_⟩
   ·obtain⟨f,ty,rfl,g2,g3⟩:=hb21
    exact⟨f,ty,rfl,g2.unmark hm (by simp[dnat];omega),g3⟩
   ·have:=(hg19.trans hg20).le
    omega
   ·exact hg21.unmark hm (fun d hd=>by simp[dnat] at hd;subst hd;have:=hgM15.le;omega)
  ·exact h.elim
end Go.Proofs.YtbfnnllgdioccaaGreatDoor.C
end
section
open Go PvL
set_option linter.unusedSimpArgs false
set_option linter.unusedVariables false
namespace Go.Proofs.YtbfnnllgdioccaaGreatDoor.C
theorem zds:∀ l:List LV,zy l 0 []=some l
 | []=>rfl
 | _ :: _=>rfl
theorem z8m:∀(vs rest ws:List LV),ws.length=vs.length->zy (vs ++ rest) 0 ws=some (ws ++ rest)
 | [],rest,[],_=>by rw[List.nil_append];exact zds _
 | v :: vs,rest,w :: ws,h=>by
  show ob (zy (vs ++ rest) 0 ws) (fun l=>some (w :: l))=_
  rw[z8m vs rest ws (by simpa using h)]
  rfl
theorem z53:∀(pre l vs:List LV) (k:Nat) (r:List LV),zy l k vs=some r->vs ≠ []->zy (pre ++ l) (pre.length+k) vs=some (pre ++ r)
 | [],l,vs,k,r,h,_=>by rw[List.length_nil,Nat.zero_add];exact h
 | p :: pre,l,[],k,r,h,hv=>absurd rfl hv
 | p :: pre,l,v :: vs,k,r,h,hv=>by
  rw[show(p :: pre).length+k=(pre.length+k)+1 from by rw[List.length_cons];omega]
  show ob (zy (pre ++ l) (pre.length+k) (v :: vs)) (fun l=>some (p :: l))=_
  rw[z53 pre l (v :: vs) k r h hv]
  rfl
theorem z6w{α:Type}{enc:α->List LV}{sz:Nat}(henc:∀ x,(enc x).length=sz)(h0:0 < sz):∀(l:List α) (k:Nat) (v:α),k < l.length->zy (l.flatMap enc) (k*sz) (enc v)=some ((l.set k v).flatMap enc)
 | [],k,v,h=>absurd h (Nat.not_lt_zero _)
 | x :: l,0,v,h=>by
  rw[Nat.zero_mul,List.set_cons_zero,List.flatMap_cons,List.flatMap_cons]
  exact z8m _ _ _ (by rw[henc,henc])
 | x :: l,k+1,v,h=>by
  rw[List.set_cons_succ,List.flatMap_cons,List.flatMap_cons,show(k+1)*sz=(enc x).length+k*sz from by rw[henc,Nat.add_mul,Nat.one_mul,Nat.add_comm]]
  refine z53 _ _ _ _ _ (z6w henc h0 l k v (by simpa using h)) fun he=>?_
  have:=henc v
  rw[he] at this
  simp at this
  omega
def tabL{α:Type}(enc:α->List LV)(G:Nat->α)(n:Nat):List LV:=((List.range n).map G).flatMap enc
theorem zl6{α:Type}{enc:α->List LV}{sz:Nat}(henc:∀ x,(enc x).length=sz)(h0:0 < sz){G G':Nat->α}{n k:Nat}(hk:k < n)(h:∀ i,i < n->i ≠ k->G' i=G i):zy (tabL enc G n) (k*sz) (enc (G' k))=some (tabL enc G' n):=by
 unfold tabL
 rw[z6w henc h0 _ _ _ (by simpa using hk)]
 congr 2
 refine List.ext_getElem (by simp) fun i h1 h2=>?_
 rw[List.getElem_set]
 by_cases he:k=i
 ·subst he;simp
 ·rw[if_neg he]
  simp only[List.getElem_map,List.getElem_range]
  exact(h i (by simpa using h2) (fun h=>he h.symm)).symm
theorem zo2{α:Type}{enc:α->List LV}{sz:Nat}(henc:∀ x,(enc x).length=sz){G:Nat->α}{n k:Nat}{M:Mem}{i:Nat}{own:Bool}{ty:TypeId}(ha:At M i (.cells own (tabL enc G n) ty))(hk:k < n):Rd M i (0+k*sz) sz (enc (G k)):=by
 have:=z1v (enc:=enc) (l:=(List.range n).map G) (sz:=sz) ha (fun x _=>henc x) (k:=k) (by simpa using hk)
 simpa using this
abbrev Ky:=Int × Int
abbrev kyc(k:Ky):List LV:=[I k.1,I k.2]
def klt(a b:Ky):Prop:=a.1 < b.1 ∨(a.1=b.1 /\ a.2 < b.2)
instance (a b:Ky):Decidable (klt a b):=by unfold klt;infer_instance
theorem z0k(a b:Ky):cmpK a b < 0 ↔ klt a b:=by
 unfold cmpK cmpI8 klt
 by_cases h1:a.1 < b.1
 ·simp[h1]
 ·by_cases h2:b.1 < a.1
  ·have:¬ a.1=b.1:=by omega
   simp[h1,h2,this]
  ·have:a.1=b.1:=by omega
   simp only[this,Int.lt_irrefl,if_false,ne_eq,not_true,false_or,true_and]
   by_cases h3:a.2 < b.2
   ·simp[h3]
   ·by_cases h4:b.2 < a.2<;>simp[h3,h4]
theorem z1p(a:Ky):¬ klt a a:=by unfold klt;omega
theorem z5m{a b c:Ky}(h:klt a b)(h':klt b c):klt a c:=by unfold klt at *;omega
theorem z82{a b c:Ky}(h:¬ klt b a)(h':¬ klt c b):¬ klt c a:=by unfold klt at *;omega
theorem z83{a b:Ky}(h:klt a b):¬ klt b a:=by unfold klt at *;omega
theorem zhx{a b:Ky}(h:a ≠ b):klt a b ∨ klt b a:=by
 unfold klt
 have:¬(a.1=b.1 /\ a.2=b.2):=fun⟨h1,h2⟩=>h (Prod.ext h1 h2)
 omega
def sw(G:Nat->Ky)(i j:Nat):Nat->Ky:=fun t=>if t=j then G i else if t=i then G j else G t
theorem sw_j(G:Nat->Ky)(i j:Nat):sw G i j j=G i:=by unfold sw;rw[if_pos rfl]
theorem sw_i(G:Nat->Ky)(i j:Nat):sw G i j i=G j:=by
 unfold sw
 by_cases h:i=j
 ·subst h;rw[if_pos rfl]
 ·rw[if_neg h,if_pos rfl]
theorem z4i{G:Nat->Ky}{i j t:Nat}(h1:t ≠ i)(h2:t ≠ j):sw G i j t=G t:=by unfold sw;rw[if_neg h2,if_neg h1]
inductive Sw (a b:Nat) (G:Nat->Ky):(Nat->Ky)->Prop
 | refl:Sw a b G G
 | step {G':Nat->Ky} {i j:Nat} (h:Sw a b G G') (h1:a<=i) (h2:i < b) (h3:a<=j) (h4:j < b):Sw a b G (sw G' i j)
theorem Sw.trans{a b:Nat}{G G1 G2:Nat->Ky}(h:Sw a b G G1)(h':Sw a b G1 G2):Sw a b G G2:=by
 induction h' with
 | refl=>exact h
 | step _ h1 h2 h3 h4 ih=>exact .step ih h1 h2 h3 h4
theorem Sw.wider{a b a' b':Nat}{G G1:Nat->Ky}(h:Sw a b G G1)(ha:a'<=a)(hb:b<=b'):Sw a' b' G G1:=by
 induction h with
 | refl=>exact .refl
 | step _ h1 h2 h3 h4 ih=>exact .step ih (by omega) (by omega) (by omega) (by omega)
theorem Sw.one{a b i j:Nat}{G:Nat->Ky}(h1:a<=i)(h2:i < b)(h3:a<=j)(h4:j < b):Sw a b G (sw G i j):=.step .refl h1 h2 h3 h4
theorem Sw.out{a b:Nat}{G G':Nat->Ky}(h:Sw a b G G'){t:Nat}(ht:t < a ∨ b<=t):G' t=G t:=by
 induction h with
 | refl=>rfl
 | step _ h1 h2 h3 h4 ih=>rw[z4i (by omega) (by omega),ih]
theorem Sw.all{a b:Nat}{G G':Nat->Ky}(h:Sw a b G G'){p:Ky->Prop}(hp:∀ t,a<=t->t < b->p (G t)):∀ t,a<=t->t < b->p (G' t):=by
 induction h with
 | refl=>exact hp
 | step _ h1 h2 h3 h4 ih =>
  intro t ht1 ht2
  unfold sw
  split
  ·exact ih _ h1 h2
  ·split
   ·exact ih _ h3 h4
   ·exact ih _ ht1 ht2
def Inj(n:Nat)(G:Nat->Ky):Prop:=∀ i j,i < n->j < n->G i=G j->i=j
theorem Sw.inj{a b n:Nat}{G G':Nat->Ky}(h:Sw a b G G')(hb:b<=n)(hi:Inj n G):Inj n G':=by
 induction h with
 | refl=>exact hi
 | @step G' i j _ h1 h2 h3 h4 ih =>
  intro x y hx hy hxy
  unfold sw at hxy
  by_cases hxj:x=j
  ·by_cases hyj:y=j
   ·omega
   ·rw[if_pos hxj,if_neg hyj] at hxy
    by_cases hyi:y=i
    ·rw[if_pos hyi] at hxy;have:=ih _ _ (by omega) (by omega) hxy;omega
    ·rw[if_neg hyi] at hxy;have:=ih _ _ (by omega) hy hxy;omega
  ·rw[if_neg hxj] at hxy
   by_cases hxi:x=i
   ·rw[if_pos hxi] at hxy
    by_cases hyj:y=j
    ·rw[if_pos hyj] at hxy;have:=ih _ _ (by omega) (by omega) hxy;omega
    ·rw[if_neg hyj] at hxy
     by_cases hyi:y=i
     ·omega
     ·rw[if_neg hyi] at hxy;have:=ih _ _ (by omega) hy hxy;omega
   ·rw[if_neg hxi] at hxy
    by_cases hyj:y=j
    ·rw[if_pos hyj] at hxy;have:=ih _ _ hx (by omega) hxy;omega
    ·rw[if_neg hyj] at hxy
     by_cases hyi:y=i
     ·rw[if_pos hyi] at hxy;have:=ih _ _ hx (by omega) hxy;omega
     ·rw[if_neg hyi] at hxy;exact ih _ _ hx hy hxy
def Srt(a b:Nat)(G:Nat->Ky):Prop:=∀ i j,a<=i->i < j->j < b->¬ klt (G j) (G i)
theorem Srt.short{a b:Nat}{G:Nat->Ky}(h:b<=a+1):Srt a b G:=fun i j h1 h2 h3=>by omega
def Ins(a b j:Nat)(G:Nat->Ky):Prop:=∀ p q,a<=p->p < q->q < b->q ≠ j->¬ klt (G q) (G p)
theorem Ins.start{a i:Nat}{G:Nat->Ky}(h:Srt a i G):Ins a (i+1) i G:=fun p q h1 h2 h3 h4=>h p q h1 h2 (by omega)
theorem Ins.step{a b j:Nat}{G:Nat->Ky}(h:Ins a b (j+1) G)(hj:a<=j)(hlt:klt (G (j+1)) (G j)):Ins a b j (sw G (j+1) j):=by
 intro p q h1 h2 h3 h4
 by_cases hq1:q=j+1
 ·subst hq1
  rw[sw_i]
  by_cases hp:p=j
  ·subst hp;rw[sw_j];exact z83 hlt
  ·rw[z4i (by omega) (by omega)]
   exact h p j h1 (by omega) (by omega) (by omega)
 ·by_cases hq:q<=j
  ·rw[z4i (by omega) (by omega),z4i (by omega) (by omega)]
   exact h p q h1 h2 h3 hq1
  ·rw[show sw G (j+1) j q=G q from z4i (by omega) (by omega)]
   by_cases hp1:p=j+1
   ·subst hp1;rw[sw_i];exact h j q hj (by omega) h3 (by omega)
   ·by_cases hp:p=j
    ·subst hp;rw[sw_j];exact h (p+1) q (by omega) (by omega) h3 (by omega)
    ·rw[z4i hp1 hp];exact h p q h1 h2 h3 (by omega)
theorem Ins.done{a b j:Nat}{G:Nat->Ky}(h:Ins a b j G)(hd:j<=a ∨ ¬ klt (G j) (G (j - 1))):Srt a b G:=by
 intro p q h1 h2 h3
 by_cases hq:q=j
 ·subst hq
  rcases hd with hd|hd
  ·omega
  ·by_cases hp:p=q - 1
   ·subst hp;exact hd
   ·exact z82 (h p (q - 1) h1 (by omega) (by omega) (by omega)) hd
 ·exact h p q h1 h2 h3 hq
end Go.Proofs.YtbfnnllgdioccaaGreatDoor.C
end
section
open Go PvL Go.Proofs
set_option linter.unusedSimpArgs false
set_option linter.unusedVariables false
namespace Go.Proofs.YtbfnnllgdioccaaGreatDoor.C
abbrev zFr:Fr:=(0,0,[])
def joinF(x y:Fr):Fr × Int :=
 if errF x=0 then(if errF y=0 then(if x.1=y.1 /\ x.2.1=y.2.1 then((x.1,x.2.1,z0s x.2.2 y.2.2),0) else(zFr,2)) else(zFr,errF y)) else(zFr,errF x)
theorem znb{x:Fr}(h:errF x=0):0<=x.1 /\ x.1<=60000 /\ 0<=x.2.1 /\ x.2.1<=23 /\ 1<=x.2.2.length /\ x.2.2.length<=64 /\ x.2.2.all smB=true:=by
 unfold errF at h
 cases hb:frB x with
 | false=>rw[hb] at h;simp at h
 | true =>
  unfold frB smsB btB at hb
  simp only[Bool.and_eq_true,decide_eq_true_eq] at hb
  obtain⟨⟨h1,h2⟩,⟨h3,h4⟩,⟨h5,h6⟩,h7⟩:=hb
  exact⟨h1,h2,h3,h4,by omega,by omega,h7⟩
theorem zg1(a:Int):joinI a a=a:=by unfold joinI;simp
theorem zg0(a b:Int):joinI a b=joinI b a:=by unfold joinI;split<;>split<;>(try split)<;>omega
theorem zdf(a b c:Int):joinI (joinI a b) c=joinI a (joinI b c):=by
 unfold joinI
 by_cases h1:a=b<;>by_cases h2:b=40000<;>by_cases h3:a=40000<;>by_cases h4:c=40000<;>by_cases h5:b=c<;>by_cases h6:a=c<;>simp_all<;>(split<;>simp_all)
theorem z3w(a b:List Int)(k:Nat):getG (z0s a b) k=joinI (getG a k) (getG b k):=by
 by_cases hk:k < max a.length b.length
 ·rw[z4x (by rw[z1h];exact hk)]
  unfold z0s
  simp
 ·rw[z7w (by rw[z1h];omega),z7w (l:=a) (by omega),z7w (l:=b) (by omega)];rfl
theorem z72{a b:List Int}(hl:a.length=b.length)(h:∀ k,getG a k=getG b k):a=b:=by
 refine List.ext_getElem hl fun k h1 h2=>?_
 have:=h k
 rw[z4x h1,z4x h2] at this;exact this
theorem zfi(a b:List Int):z0s a b=z0s b a :=
 z72 (by rw[z1h,z1h];omega) fun k=>by rw[z3w,z3w,zg0]
theorem z92(a:List Int):z0s a a=a :=
 z72 (by rw[z1h];omega) fun k=>by rw[z3w,zg1]
theorem z4r(a b c:List Int):z0s (z0s a b) c=z0s a (z0s b c) :=
 z72 (by simp only[z1h];omega) fun k=>by simp only[z3w];exact zdf _ _ _
theorem zmc{l:List Int}(h:l.all smB=true)(k:Nat):smB (getG l k)=true:=by
 by_cases hk:k < l.length
 ·rw[z4x hk];exact List.all_eq_true.1 h _ (List.getElem_mem hk)
 ·rw[z7w (by omega)];rfl
theorem zo0{a b:Int}(ha:smB a=true)(hb:smB b=true):smB (joinI a b)=true:=by
 unfold joinI
 split
 ·exact ha
 ·split
  ·exact hb
  ·rfl
theorem znz{a b:List Int}(ha:a.all smB=true)(hb:b.all smB=true):(z0s a b).all smB=true:=by
 rw[List.all_eq_true]
 intro x hx
 unfold z0s at hx
 obtain⟨k,_,rfl⟩:=List.mem_map.1 hx
 exact zo0 (zmc ha k) (zmc hb k)
def joinOk(x y:Fr):Prop:=errF x=0 /\ errF y=0 /\ x.1=y.1 /\ x.2.1=y.2.1
abbrev jo(x y:Fr):Fr:=(x.1,x.2.1,z0s x.2.2 y.2.2)
end Go.Proofs.YtbfnnllgdioccaaGreatDoor.C
end
section
open Go PvL
set_option linter.unusedSimpArgs false
set_option linter.unusedVariables false
namespace Go.Proofs.YtbfnnllgdioccaaGreatDoor.C
abbrev Rk:=List (Ky × List Int)
abbrev fky(x:Fr):Ky:=(x.1,x.2.1)
def lkK:Rk->Ky->Option (List Int)
 | [],_=>none
 |(a,b) :: L,k=>if k=a then some b else lkK L k
def stK:Rk->Ky->List Int->Rk
 | [],k,v=>[(k,v)]
 |(a,b) :: L,k,v=>if k=a then(k,v) :: L else(a,b) :: stK L k v
theorem zi0:∀(L:Rk) (k:Ky) (v:List Int) (k':Ky),lkK (stK L k v) k'=if k'=k then some v else lkK L k'
 | [],k,v,k'=>rfl
 |(a,b) :: L,k,v,k'=>by
  unfold stK
  by_cases h:k=a
  ·subst h
   rw[if_pos rfl]
   show(if k'=k then some v else lkK L k')=if k'=k then some v else(if k'=k then some b else lkK L k')
   by_cases h2:k'=k
   ·rw[if_pos h2,if_pos h2]
   ·rw[if_neg h2,if_neg h2,if_neg h2]
  ·rw[if_neg h]
   show(if k'=a then some b else lkK (stK L k v) k')=if k'=k then some v else(if k'=a then some b else lkK L k')
   rw[zi0 L k v k']
   by_cases h2:k'=a
   ·subst h2
    rw[if_pos rfl,if_neg (fun h3=>h h3.symm),if_pos rfl]
   ·rw[if_neg h2,if_neg h2]
theorem zdx:∀(L:Rk) (k:Ky) (v:List Int),(stK L k v).map (·.1)=if (lkK L k).isSome then L.map (·.1) else L.map (·.1) ++ [k]
 | [],k,v=>rfl
 |(a,b) :: L,k,v=>by
  unfold stK
  by_cases h:k=a
  ·subst h
   rw[if_pos rfl]
   have:lkK ((k,b) :: L) k=some b:=by show(if k=k then some b else lkK L k)=_;rw[if_pos rfl]
   rw[this];rfl
  ·have e:lkK ((a,b) :: L) k=lkK L k:=by show(if k=a then some b else lkK L k)=_;rw[if_neg h]
   rw[if_neg h,e,List.map_cons,zdx L k v]
   split<;>rfl
theorem zi1:∀(L:Rk) (k:Ky),(lkK L k).isSome=true ↔ k ∈ L.map (·.1)
 | [],k=>by simp[lkK]
 |(a,b) :: L,k=>by
  by_cases h:k=a
  ·subst h
   have:lkK ((k,b) :: L) k=some b:=by show(if k=k then some b else lkK L k)=_;rw[if_pos rfl]
   rw[this];simp
  ·have e:lkK ((a,b) :: L) k=lkK L k:=by show(if k=a then some b else lkK L k)=_;rw[if_neg h]
   rw[e,zi1 L k];simp[h]
def RkN(L:Rk):Prop:=(L.map (·.1)).Nodup
theorem RkN.st{L:Rk}(h:RkN L)(k:Ky)(v:List Int):RkN (stK L k v):=by
 unfold RkN at *
 rw[zdx]
 split
 ·exact h
 ·rename_i hn
  have:k ∉ L.map (·.1):=fun hk=>hn ((zi1 L k).2 hk)
  rw[List.nodup_append]
  exact⟨h,by simp,fun a ha b hb=>by
   obtain rfl:b=k:=by simpa using hb
   rintro rfl;exact this ha⟩
def rkA(R:Rk)(f:Fr):Rk:=stK R (fky f) (z0s ((lkK R (fky f)).getD []) f.2.2)
def addR:List Fr->Fr->List Fr
 | [],f=>[f]
 | g :: l,f=>if keyI g=keyI f then(g.1,g.2.1,z0s g.2.2 f.2.2) :: l else if keyI g > keyI f then f :: g :: l else g :: addR l f
def z1e(l:List Fr):List Fr:=l.foldl addR []
def rackF(l:List Fr):Rk:=l.foldl rkA []
theorem z7b(l:List Int):z0s [] l=l:=by
 refine z72 ?_ fun k=>?_
 ·rw[z1h];simp
 ·rw[z3w]
  have:getG [] k=40000:=rfl
  rw[this]
  unfold joinI
  split
  ·rename_i h;rcases h with h|h
   ·exact h
   ·exact h.symm
  ·rw[if_pos rfl]
def FrK(x:Fr):Prop:=0<=x.1 /\ x.1<=60000 /\ 0<=x.2.1 /\ x.2.1<=23
theorem zdi{x y:Fr}(hx:FrK x)(hy:FrK y):keyI x < keyI y ↔ klt (fky x) (fky y):=by unfold FrK keyI klt at *;dsimp only;omega
theorem zht{x y:Fr}(hx:FrK x)(hy:FrK y):keyI x=keyI y ↔ fky x=fky y:=by
 unfold FrK keyI at *
 constructor
 ·intro h;exact Prod.ext (by dsimp only;omega) (by dsimp only;omega)
 ·intro h
  have h1:(fky x).1=(fky y).1:=congrArg Prod.fst h
  have h2:(fky x).2=(fky y).2:=congrArg Prod.snd h
  dsimp only at h1 h2
  omega
def lkJ:List Fr->Ky->Option (List Int)
 | [],_=>none
 | x :: l,k=>if k=fky x then some x.2.2 else lkJ l k
theorem z8x(x:Fr)(l:List Fr)(k:Ky):lkJ (x :: l) k=if k=fky x then some x.2.2 else lkJ l k:=rfl
theorem zap:∀(J:List Fr) (k:Ky),(lkJ J k).isSome=true ↔ k ∈ J.map fky
 | [],k=>by simp[lkJ]
 | x :: J,k=>by
  rw[z8x]
  by_cases h:k=fky x
  ·rw[if_pos h];simp[h]
  ·rw[if_neg h,zap J k];simp[h]
def SrtJ(J:List Fr):Prop:=J.Pairwise fun x y=>klt (fky x) (fky y)
theorem zhz{J:List Fr}{k:Ky}(h:∀ x ∈ J,klt k (fky x)):lkJ J k=none:=by
 induction J with
 | nil=>rfl
 | cons x J ih =>
  rw[z8x,if_neg (fun e=>z1p (fky x) (by have:=h x (by simp);rw[e] at this;exact this))]
  exact ih fun y hy=>h y (by simp[hy])
theorem za5:∀ {J:List Fr} {f:Fr},SrtJ J->(∀ x ∈ J,FrK x)->FrK f->SrtJ (addR J f) /\ (∀ x ∈ addR J f,FrK x) /\ (∀ k,lkJ (addR J f) k=if k=fky f then some (z0s ((lkJ J (fky f)).getD []) f.2.2) else lkJ J k) /\ (∀ x ∈ addR J f,fky x=fky f ∨ ∃ y ∈ J,fky y=fky x)
 | [],f,_,_,hf=>by
  have hm:∀ {x},x ∈ addR [] f->x=f:=fun {x} hx=>by
   have hx:x ∈ [f]:=hx
   simpa using hx
  refine⟨?_,fun x hx=>?_,fun k=>?_,fun x hx=>?_⟩
  ·show List.Pairwise _ [f]
   simp
  ·rw[hm hx];exact hf
  ·show lkJ [f] k=if k=fky f then some (z0s [] f.2.2) else none
   rw[z7b];rfl
  ·rw[hm hx];exact .inl rfl
 | g :: l,f,hs,hk,hf=>by
  have hg:=hk g (by simp)
  have hs':SrtJ l:=(List.pairwise_cons.1 hs).2
  have hgl:=(List.pairwise_cons.1 hs).1
  unfold addR
  by_cases he:keyI g=keyI f
  ·rw[if_pos he]
   have hke:=(zht hg hf).1 he
   refine⟨List.pairwise_cons.2 ⟨hgl,hs'⟩,fun x hx=>?_,fun k=>?_,fun x hx=>?_⟩
   ·rcases List.mem_cons.1 hx with rfl|hx
    ·exact hg
    ·exact hk x (by simp[hx])
   ·rw[z8x,z8x,z8x,if_pos hke.symm,Option.getD_some]
    by_cases h:k=fky f
    ·rw[if_pos h,if_pos (show k=(g.1,g.2.1) by rw[h];exact hke.symm)]
    ·rw[if_neg h,if_neg (show ¬ k=(g.1,g.2.1) from fun e=>h (by rw[e];exact hke)),if_neg (fun e=>h (by rw[e];exact hke))]
   ·rcases List.mem_cons.1 hx with rfl|hx
    ·exact .inl hke
    ·exact .inr ⟨x,by simp[hx],rfl⟩
  ·rw[if_neg he]
   by_cases hgt:keyI g > keyI f
   ·rw[if_pos hgt]
    have hlt:=(zdi hf hg).1 hgt
    have hall:∀ x ∈ g :: l,klt (fky f) (fky x):=fun x hx=>by
     rcases List.mem_cons.1 hx with rfl|hx
     ·exact hlt
     ·exact z5m hlt (hgl x hx)
    refine⟨List.pairwise_cons.2 ⟨hall,hs⟩,fun x hx=>?_,fun k=>?_,fun x hx=>?_⟩
    ·rcases List.mem_cons.1 hx with rfl|hx
     ·exact hf
     ·exact hk x hx
    ·rw[zhz hall,Option.getD_none,z7b];rfl
    ·rcases List.mem_cons.1 hx with rfl|hx
     ·exact .inl rfl
     ·exact .inr ⟨x,hx,rfl⟩
   ·rw[if_neg hgt]
    have hlt:=(zdi hg hf).1 (by omega)
    have hne:¬ fky f=fky g:=fun e=>he ((zht hg hf).2 e.symm)
    obtain⟨i1,i2,i3,i4⟩:=za5 (J:=l) (f:=f) hs' (fun x hx=>hk x (by simp[hx])) hf
    refine⟨List.pairwise_cons.2 ⟨fun x hx=>?_,i1⟩,fun x hx=>?_,fun k=>?_,fun x hx=>?_⟩
    ·rcases i4 x hx with h|⟨y,hy,h⟩
     ·rw[h];exact hlt
     ·rw[<-h];exact hgl y hy
    ·rcases List.mem_cons.1 hx with rfl|hx
     ·exact hg
     ·exact i2 x hx
    ·rw[z8x,i3,z8x,z8x,if_neg hne]
     by_cases h:k=fky g
     ·rw[if_pos h,if_neg (fun e=>hne (by rw[<-e];exact h)),if_pos h]
     ·rw[if_neg h,if_neg h]
    ·rcases List.mem_cons.1 hx with rfl|hx
     ·exact .inr ⟨x,by simp,rfl⟩
     ·rcases i4 x hx with h|⟨y,hy,h⟩
      ·exact .inl h
      ·exact .inr ⟨y,by simp[hy],h⟩
structure RJ (R:Rk) (J:List Fr):Prop where
 n:RkN R
 s:SrtJ J
 k:∀ x ∈ J,FrK x
 e:∀ k,lkK R k=lkJ J k
theorem RJ.nil:RJ [] []:={ n:=List.nodup_nil,s:=List.Pairwise.nil,k:=fun _ h=>(nomatch h),e:=fun _=>rfl }
theorem RJ.add{R:Rk}{J:List Fr}(h:RJ R J){f:Fr}(hf:FrK f):RJ (rkA R f) (addR J f):=by
 obtain⟨h1,h2,h3,h4⟩:=za5 h.s h.k hf
 refine⟨h.n.st _ _,h1,h2,fun k=>?_⟩
 unfold rkA
 rw[zi0,h3 k,h.e,h.e]
theorem RJ.all{l:List Fr}:∀ {R:Rk} {J:List Fr},RJ R J->(∀ x ∈ l,FrK x)->RJ (l.foldl rkA R) (l.foldl addR J):=by
 induction l with
 | nil=>intro R J h _;exact h
 | cons f l ih=>intro R J h hl;exact ih (h.add (hl f (by simp))) fun x hx=>hl x (by simp[hx])
theorem zq5{l:List Fr}(hl:∀ x ∈ l,FrK x):RJ (rackF l) (z1e l):=RJ.nil.all hl
theorem pig:∀(n:Nat) (l:List Nat),l.Nodup->(∀ x ∈ l,x < n)->l.length<=n
 | 0,l,_,h=>by
  cases l with
  | nil=>exact Nat.le_refl _
  | cons x l=>exact absurd (h x (by simp)) (Nat.not_lt_zero _)
 | n+1,l,hn,h=>by
  by_cases hm:n ∈ l
  ·have h1:=pig n (l.erase n) (hn.erase n) fun x hx=>by
    have h2:=(hn.mem_erase_iff).1 hx
    have h3:=h x h2.2
    have h4:=h2.1
    omega
   rw[List.length_erase_of_mem hm] at h1
   omega
  ·exact Nat.le_succ_of_le (pig n l hn fun x hx=>by
    have h1:=h x hx
    have h2:x ≠ n:=fun e=>hm (e ▸ hx)
    omega)
theorem zdw:∀ {a b:List Ky},a.Pairwise klt->b.Pairwise klt->(∀ k,k ∈ a ↔ k ∈ b)->a=b
 | [],[],_,_,_=>rfl
 | [],y :: b,_,_,h=>by have:=(h y).2 (by simp);simp at this
 | x :: a,[],_,_,h=>by have:=(h x).1 (by simp);simp at this
 | x :: a,y :: b,ha,hb,h=>by
  have ha':=List.pairwise_cons.1 ha
  have hb':=List.pairwise_cons.1 hb
  have hxy:x=y:=by
   rcases List.mem_cons.1 ((h x).1 (by simp)) with e|hx
   ·exact e
   rcases List.mem_cons.1 ((h y).2 (by simp)) with e|hy
   ·exact e.symm
   ·exact absurd (z5m (ha'.1 y hy) (hb'.1 x hx)) (z1p x)
  subst hxy
  rw[zdw ha'.2 hb'.2 fun k=>?_]
  have h1:=h k
  simp only[List.mem_cons] at h1
  constructor
  ·intro hk
   rcases h1.1 (.inr hk) with e|e
   ·subst e;exact absurd (ha'.1 k hk) (z1p k)
   ·exact e
  ·intro hk
   rcases h1.2 (.inr hk) with e|e
   ·subst e;exact absurd (hb'.1 k hk) (z1p k)
   ·exact e
theorem RJ.keys{R:Rk}{J:List Fr}(h:RJ R J)(k:Ky):k ∈ R.map (·.1) ↔ k ∈ J.map fky:=by rw[<-zi1,<- zap,h.e]
theorem SrtJ.keys{J:List Fr}(h:SrtJ J):(J.map fky).Pairwise klt:=by unfold SrtJ at h;rw[List.pairwise_map];exact h
def frK(R:Rk)(k:Ky):Fr:=(k.1,k.2,(lkK R k).getD [])
theorem zca:∀ {J:List Fr},SrtJ J->∀ x ∈ J,lkJ J (fky x)=some x.2.2
 | y :: J,hs,x,hx=>by
  have hs':=List.pairwise_cons.1 hs
  rw[z8x]
  rcases List.mem_cons.1 hx with rfl|hx
  ·rw[if_pos rfl]
  ·rw[if_neg (fun e=>z1p (fky y) (by have:=hs'.1 x hx;rw[e] at this;exact this))]
   exact zca hs'.2 x hx
theorem RJ.frames{R:Rk}{J:List Fr}(h:RJ R J){ks:List Ky}(hs:ks.Pairwise klt)(hm:∀ k,k ∈ ks ↔ k ∈ R.map (·.1)):ks.map (frK R)=J:=by
 have e:ks=J.map fky:=zdw hs h.s.keys fun k=>by rw[hm,h.keys]
 subst e
 rw[List.map_map]
 conv=>rhs;rw[<-List.map_id J]
 refine List.map_congr_left fun x hx=>?_
 show frK R (fky x)=x
 unfold frK
 rw[h.e,zca h.s x hx];rfl
theorem RJ.len{R:Rk}{J:List Fr}(h:RJ R J):R.length=J.length:=by
 have h1:(J.map fky).Nodup:=h.s.keys.imp fun hk e=>by subst e;exact z1p _ hk
 have hle:∀ {a b:List Ky},a.Nodup->(∀ k ∈ a,k ∈ b)->a.length<=b.length:=by
  intro a
  induction a with
  | nil=>intro b _ _;exact Nat.zero_le _
  | cons x a ih =>
   intro b hn hs
   have hn':=List.nodup_cons.1 hn
   have:=ih (b:=b.erase x) hn'.2 fun k hk=>(List.mem_erase_of_ne (fun e=>hn'.1 (by rw[<-e];exact hk))).2 (hs k (by simp[hk]))
   rw[List.length_erase_of_mem (hs x (by simp))] at this
   have h2:0 < b.length:=List.length_pos_of_mem (hs x (by simp))
   rw[List.length_cons];omega
 have h2:=hle h.n fun k hk=>(h.keys k).1 hk
 have h3:=hle h1 fun k hk=>(h.keys k).2 hk
 simp only[List.length_map] at h2 h3
 omega
end Go.Proofs.YtbfnnllgdioccaaGreatDoor.C
end
section
open Go PvL Go.Proofs
variable {μ:Md}
set_option linter.unusedVariables false
set_option linter.unusedSimpArgs false
namespace Go.Proofs.YtbfnnllgdioccaaGreatDoor.C
abbrev kyv(k:Ky):LV:=.agg [I k.1,I k.2]
abbrev zsl:LV:=.slice none 0 true 0
abbrev Mk:=List (Ky × LV)
def encK(L:Mk):List (LV × LV):=L.map fun p=>(kyv p.1,p.2)
def lkM:Mk->Ky->Option LV
 | [],_=>none
 |(a,b) :: L,k=>if k=a then some b else lkM L k
def stV:Mk->Ky->LV->Mk
 | [],k,v=>[(k,v)]
 |(a,b) :: L,k,v=>if k=a then(k,v) :: L else(a,b) :: stV L k v
theorem zki(a:Ky)(b:LV)(L:Mk)(k:Ky):lkM ((a,b) :: L) k=if k=a then some b else lkM L k:=rfl
theorem zgj(a:Ky)(b:LV)(L:Mk)(k:Ky)(v:LV):stV ((a,b) :: L) k v=if k=a then(k,v) :: L else(a,b) :: stV L k v:=rfl
theorem zk6{P:Program}{t e:TypeId}(hu:P.underlying t=some (.array 2 e))(hi:P.underlying e=some (.int .i64))(hs:szOf P e=some 1)(ha:aggSz P e=some none)(a b c d:Int) :
  eqL P Op.maxDepth t (.agg [I a,I b]) (.agg [I c,I d])=some (decide (a=c) && decide (b=d)):=by
 have he:∀ x y:Int,eqL P (Op.maxDepth - 1) e (I x) (I y)=some (decide (x=y)):=fun x y=>by
  show eqL P (Op.maxDepth - 2+1) e (I x) (I y)=_
  unfold eqL
  rw[hi]
  show guard' (kEq .i64 .i64) (some (ieq x y))=_
  rw[z2s.2 rfl,z6,z3x]
  rfl
 have hp:∀(i:Nat) (xs ys:List LV) (x y:Int),nth xs i=some (I x)->nth ys i=some (I y)->eqPart P (eqL P (Op.maxDepth - 1)) e i xs ys=some (decide (x=y)):=fun i xs ys x y h1 h2=>by
  unfold eqPart
  rw[ha,z0,z3h,h1,z0,h2,z0];exact he x y
 show eqL P (Op.maxDepth - 1+1) t _ _=_
 unfold eqL
 rw[hu]
 show ob (szOf P e) _=_
 rw[hs,z0]
 show andO (eqPart P (eqL P (Op.maxDepth - 1)) e 0 [I a,I b] [I c,I d]) (andO (eqPart P (eqL P (Op.maxDepth - 1)) e 1 [I a,I b] [I c,I d]) (some true))=_
 rw[hp 0 _ _ a c rfl rfl,hp 1 _ _ b d rfl rfl]
 unfold andO
 rw[z0,z0]
 by_cases h1:a=c<;>by_cases h2:b=d<;>simp[h1,h2,ifb]
theorem zna(a b c d:Int):eqL Tryz.prog Op.maxDepth 114 (.agg [I a,I b]) (.agg [I c,I d])=some (decide (a=c) && decide (b=d)) :=
 zk6 (e:=3) (by kernel_rfl) (by kernel_rfl) (by kernel_rfl) (by kernel_rfl) a b c d
theorem zm1(a b:Ky):eqL Tryz.prog Op.maxDepth 114 (kyv a) (kyv b)=some (decide (a=b)):=by
 refine(zna a.1 a.2 b.1 b.2).trans ?_
 by_cases h:a=b
 ·subst h;simp
 ·rw[decide_eq_false h]
  have:¬(a.1=b.1 /\ a.2=b.2):=fun⟨h1,h2⟩=>h (Prod.ext h1 h2)
  by_cases h1:a.1=b.1
  ·have h2:¬ a.2=b.2:=fun h2=>this ⟨h1,h2⟩
   simp[h2]
  ·simp[h1]
theorem zpi(a:Ky)(b:LV)(L:Mk):encK ((a,b) :: L)=(kyv a,b) :: encK L:=rfl
theorem z67{P:Program}{kt:TypeId}(heq:∀ a b:Ky,eqL P Op.maxDepth kt (kyv a) (kyv b)=some (decide (a=b)))(k a:Ky)(b:LV)(L:Mk)(i:Nat):findL P kt (kyv k) (encK ((a,b) :: L)) i=if k=a then some (some (i,kyv a,b)) else findL P kt (kyv k) (encK L) (i+1):=by
 rw[zpi]
 generalize encK L=es
 have hk:=heq k a
 generalize kyv k=kv at *
 generalize kyv a=av at *
 show ob (eqL P Op.maxDepth kt kv av) (fun b'=>ifb b' (some (some (i,av,b))) (findL P kt kv es (i+1)))=_
 rw[hk,z0]
 by_cases hab:k=a
 ·rw[decide_eq_true hab,zh,if_pos hab]
 ·rw[decide_eq_false hab,z8,if_neg hab]
theorem z7s{P:Program}{kt:TypeId}(heq:∀ a b:Ky,eqL P Op.maxDepth kt (kyv a) (kyv b)=some (decide (a=b)))(k:Ky):∀(L:Mk) (i:Nat),lkM L k=none->findL P kt (kyv k) (encK L) i=some none /\ ∀ v,encK L ++ [(kyv k,v)]=encK (stV L k v)
 | [],i,_=>⟨rfl,fun v=>rfl⟩
 |(a,b) :: L,i,h=>by
  rw[zki] at h
  by_cases hka:k=a
  ·rw[if_pos hka] at h;cases h
  ·rw[if_neg hka] at h
   obtain⟨h1,h2⟩:=z7s heq k L (i+1) h
   constructor
   ·rw[z67 heq,if_neg hka,h1]
   ·intro v
    rw[zgj,if_neg hka]
    show(kyv a,b) ::(encK L ++ [(kyv k,v)])=(kyv a,b) :: encK (stV L k v)
    rw[h2 v]
theorem z7t{P:Program}{kt:TypeId}(heq:∀ a b:Ky,eqL P Op.maxDepth kt (kyv a) (kyv b)=some (decide (a=b)))(k:Ky):∀(L:Mk) (i:Nat) (b:LV),lkM L k=some b->∃ j,findL P kt (kyv k) (encK L) i=some (some (i+j,kyv k,b)) /\ ∀ v,setVal (encK L) j (kyv k) v=encK (stV L k v)
 | [],i,b,h=>by cases h
 |(a,c) :: L,i,b,h=>by
  rw[zki] at h
  by_cases hka:k=a
  ·rw[if_pos hka] at h
   obtain rfl:=Option.some.inj h
   subst hka
   refine⟨0,?_,fun v=>?_⟩
   ·rw[z67 heq,if_pos rfl,Nat.add_zero]
   ·rw[zgj,if_pos rfl];rfl
  ·rw[if_neg hka] at h
   obtain⟨j,h1,h2⟩:=z7t heq k L (i+1) b h
   refine⟨j+1,?_,fun v=>?_⟩
   ·rw[z67 heq,if_neg hka,h1,Nat.add_assoc,Nat.add_comm 1 j]
   ·rw[zgj,if_neg hka]
    show(kyv a,c) :: setVal (encK L) j (kyv k) v=(kyv a,c) :: encK (stV L k v)
    rw[h2 v]
theorem z9a(k:Ky)(L:Mk)(i:Nat)(h:lkM L k=none):findL Tryz.prog 114 (kyv k) (encK L) i=some none /\ ∀ v,encK L ++ [(kyv k,v)]=encK (stV L k v):=z7s zm1 k L i h
theorem z9b(k:Ky)(L:Mk)(i:Nat)(b:LV)(h:lkM L k=some b):∃ j,findL Tryz.prog 114 (kyv k) (encK L) i=some (some (i+j,kyv k,b)) /\ ∀ v,setVal (encK L) j (kyv k) v=encK (stV L k v):=z7t zm1 k L i b h
theorem zhu(k:Ky):keyOk Tryz.prog 10000 114 (kyv k)=true:=by kernel_rfl
structure StOk (bs:List Nat) (clk n:Nat):Prop where
 len:bs.length=n
 nodup:bs.Nodup
 lt:∀ b ∈ bs,b < clk
def SlV(M:Mem)(v:LV)(l:List Int):Prop:=∃ a f e,v=.slice a l.length f e /\ (l ≠ []->e=1) /\ SlI M a l
inductive RkL (M:Mem):Mk->Rk->Prop
 | nil:RkL M [] []
 | cons {k:Ky} {v:LV} {l:List Int} {L:Mk} {R:Rk} (h:SlV M v l) (h':RkL M L R):RkL M ((k,v) :: L) ((k,l) :: R)
def RkM(M:Mem)(r:Nat)(R:Rk):Prop:=∃ L bs clk,At M r (.map (encK L) bs clk) /\ StOk bs clk L.length /\ RkL M L R
variable {M M':Mem} {L:Mk} {R:Rk} {r:Nat} {k:Ky}
theorem SlV.grow{v:LV}{l:List Int}(h:SlV M v l)(hg:Grow M M'):SlV M' v l:=by
 obtain⟨a,f,e,h1,h0,h2⟩:=h
 exact⟨a,f,e,h1,h0,h2.grow hg⟩
theorem SlV.nil:SlV M zsl []:=⟨none,true,0,rfl,fun h=>absurd rfl h,.inl rfl⟩
theorem SlV.vec{b:Nat}{ty:TypeId}{v:LV}{l:List Int}(h:Vec b 1 ty intc M v l):SlV M v l:=by
 rcases h with⟨rfl,rfl⟩|⟨i,rfl,h2,h3⟩
 ·exact SlV.nil
 ·exact⟨_,_,_,rfl,fun _=>rfl,.inr ⟨i,0,rfl,fun k hk=>z6u (z1v (enc:=intc) h2 (fun _ _=>rfl) hk)⟩⟩
theorem RkL.grow(h:RkL M L R)(hg:Grow M M'):RkL M' L R:=by
 induction h with
 | nil=>exact .nil
 | cons h _ ih=>exact .cons (h.grow hg) ih
theorem RkL.len(h:RkL M L R):L.length=R.length:=by
 induction h with
 | nil=>rfl
 | cons h _ ih=>simp[ih]
theorem RkL.keys(h:RkL M L R):L.map (·.1)=R.map (·.1):=by
 induction h with
 | nil=>rfl
 | cons h _ ih=>simp[ih]
theorem RkL.look(h:RkL M L R)(k:Ky):SlV M ((lkM L k).getD zsl) ((lkK R k).getD []):=by
 induction h with
 | nil=>exact SlV.nil
 | @cons k' v l L R h _ ih =>
  rw[zki]
  show SlV M _ ((if k=k' then some l else lkK R k).getD [])
  by_cases hk:k=k'
  ·rw[if_pos hk,if_pos hk];exact h
  ·rw[if_neg hk,if_neg hk];exact ih
theorem RkL.put(h:RkL M L R)(k:Ky){v:LV}{l:List Int}(hv:SlV M v l):RkL M (stV L k v) (stK R k l):=by
 induction h with
 | nil=>exact .cons hv .nil
 | @cons k' v' l' L R h hL ih =>
  rw[zgj]
  show RkL M _ (if k=k' then(k,l) :: R else(k',l') :: stK R k l)
  by_cases hk:k=k'
  ·rw[if_pos hk,if_pos hk];exact .cons hv hL
  ·rw[if_neg hk,if_neg hk];exact .cons h ih
theorem RkM.lt(h:RkM M r R):r < M.next:=by
 obtain⟨L,bs,clk,h1,h2,h3⟩:=h
 exact h1.2
theorem Rd1.updm{i o:Nat}{v:LV}{es es':List (LV × LV)}{bs bs':List Nat}{c c':Nat}(h:Rd1 M i o v)(hm:At M r (.map es bs c))(hu:Upd M r (.map es' bs' c') M'):Rd1 M' i o v:=by
 refine Rd1.upd_ne hu (fun e=>?_) h
 subst e
 have h1:=h.1
 unfold load1 atCells at h1
 rw[hm.1] at h1
 cases h1
theorem SlV.updm{v:LV}{l:List Int}{es es':List (LV × LV)}{bs bs':List Nat}{c c':Nat}(h:SlV M v l)(hm:At M r (.map es bs c))(hu:Upd M r (.map es' bs' c') M'):SlV M' v l:=by
 obtain⟨a,f,e,h1,h0,h2⟩:=h
 exact⟨a,f,e,h1,h0,h2.imp id fun⟨i,o,h3,h4⟩=>⟨i,o,h3,fun k hk=>Rd1.updm (h4 k hk) hm hu⟩⟩
theorem RkL.updm{es es':List (LV × LV)}{bs bs':List Nat}{c c':Nat}(h:RkL M L R)(hm:At M r (.map es bs c))(hu:Upd M r (.map es' bs' c') M'):RkL M' L R:=by
 induction h with
 | nil=>exact .nil
 | cons h _ ih=>exact .cons (h.updm hm hu) ih
variable {E:Env} {x y z':XO}
theorem zi3{bs:List Nat}{clk:Nat}(hm:At M r (.map (encK L) bs clk))(hx:xval E x=some (.map (some r)))(hy:xval E y=some (kyv k)):ze Tryz.prog (.lkp 114 zsl false x y) E M=some (.val ((lkM L k).getD zsl) M):=by
 show ob (xval E x) _=_
 rw[hx,z0,hy,z0,zhu,z6]
 show atMap M r _=_
 unfold atMap
 rw[hm.1,z0]
 show ob (findL Tryz.prog 114 (kyv k) (encK L) 0) _=_
 cases hl:lkM L k with
 | none=>rw[(z9a k L 0 hl).1];rfl
 | some b =>
  obtain⟨j,h1,_⟩:=z9b k L 0 b hl
  rw[h1];rfl
theorem ziz(L:Mk)(k:Ky)(v:LV):(stV L k v).length=if (lkM L k).isSome then L.length else L.length+1:=by
 induction L with
 | nil=>rfl
 | cons p L ih =>
  obtain⟨a,b⟩:=p
  rw[zgj,zki]
  by_cases h:k=a
  ·rw[if_pos h,if_pos h];rfl
  ·rw[if_neg h,if_neg h,List.length_cons,ih]
   split<;>simp
theorem zjg{P:Program}{es:List (LV × LV)}{bs:List Nat}{clk:Nat}(hx:xval E x=some (.map (some r)))(hm:At M r (.map es bs clk)):ze P (.len .map x) E M=some (.val (I es.length) M):=by
 show ob (xval E x) _=_
 rw[hx,z0]
 show ob (atMap M r fun es _ _=>mkN es.length) _=_
 unfold atMap
 rw[hm.1]
 show ob (mkN es.length) (rv M)=_
 unfold mkN
 rw[z1d];rfl
theorem zao{seen:List Nat}:∀ {bs:List Nat} {es:List (LV × LV)} {b:Nat} {kk v:LV},(b,kk,v) ∈ leftL seen bs es->∃ i:Nat,bs[i]?=some b /\ es[i]?=some (kk,v) /\ b ∉ seen
 | [],_,_,_,_,h=>nomatch h
 | c :: bs,[],_,_,_,h=>nomatch h
 | c :: bs,e :: es,b,kk,v,h=>by
  have h:(b,kk,v) ∈ ifb (memN c seen) (leftL seen bs es) ((c,e) :: leftL seen bs es):=h
  cases hm:memN c seen with
  | true =>
   rw[hm,zh] at h
   obtain⟨i,h1,h2,h3⟩:=zao h
   exact⟨i+1,h1,h2,h3⟩
  | false =>
   rw[hm,z8] at h
   rcases List.mem_cons.1 h with h|h
   ·cases h
    exact⟨0,rfl,rfl,fun hh=>by rw[z8a.2 hh] at hm;cases hm⟩
   ·obtain⟨i,h1,h2,h3⟩:=zao h
    exact⟨i+1,h1,h2,h3⟩
theorem zes{seen:List Nat}:∀ {bs:List Nat} {es:List (LV × LV)},leftL seen bs es=[]->bs.length=es.length->∀ b ∈ bs,b ∈ seen
 | [],_,_,_,b,hb=>nomatch hb
 | c :: bs,[],_,hl,_,_=>by simp at hl
 | c :: bs,e :: es,h,hl,b,hb=>by
  have h:ifb (memN c seen) (leftL seen bs es) ((c,e) :: leftL seen bs es)=[]:=h
  cases hm:memN c seen with
  | false=>rw[hm,z8] at h;cases h
  | true =>
   rw[hm,zh] at h
   rcases List.mem_cons.1 hb with rfl|hb
   ·exact z8a.1 hm
   ·exact zes h (by simpa using hl) b hb
theorem zcr{n:Nat}:∀ {bs:List Nat} {es:List (LV × LV)} {i:Nat} {e:LV × LV},bs.Nodup->bs[i]?=some n->es[i]?=some e->stampL n bs es=some e
 | [],_,i,_,_,h,_=>by simp at h
 | c :: bs,[],i,_,_,_,h=>by simp at h
 | c :: bs,f :: es,0,e,hn,h1,h2=>by
  obtain rfl:c=n:=by simpa using h1
  obtain rfl:f=e:=by simpa using h2
  show ifb (Nat.beq c c) (some f) _=_
  rw[show Nat.beq c c=true by simp];rfl
 | c :: bs,f :: es,i+1,e,hn,h1,h2=>by
  have hn':=List.nodup_cons.1 hn
  have hne:¬ c=n:=by
   rintro rfl
   exact hn'.1 (List.mem_of_getElem? (i:=i) (by simpa using h1))
  show ifb (Nat.beq c n) (some f) (stampL n bs es)=_
  rw[show Nat.beq c n=false by cases hb:Nat.beq c n;rfl;exact absurd (Nat.eq_of_beq_eq_true hb) hne,z8]
  exact zcr hn'.2 (by simpa using h1) (by simpa using h2)
theorem ze3{n:Nat}:∀ {l:List Nat},(∀ x ∈ l,x < n)->allLt n l=true
 | [],_=>rfl
 | x :: l,h=>by
  show ifb (Nat.ble (Nat.succ x) n) (allLt n l) false=true
  rw[Nat.ble_eq_true_of_le (h x (by simp)),zh]
  exact ze3 fun y hy=>h y (by simp[hy])
theorem za8{n x:Nat}:∀ {l:List Nat},x ∈ l->x < n->anyLt n l=true
 | [],h,_=>nomatch h
 | y :: l,h,hx=>by
  show ifb (Nat.ble (Nat.succ y) n) true (anyLt n l)=true
  cases hb:Nat.ble (Nat.succ y) n with
  | true=>rfl
  | false =>
   rw[z8]
   rcases List.mem_cons.1 h with rfl|h
   ·rw[Nat.ble_eq_true_of_le hx] at hb;cases hb
   ·exact za8 h hx
end Go.Proofs.YtbfnnllgdioccaaGreatDoor.C
end
section
open Go PvL
set_option linter.unusedSimpArgs false
set_option linter.unusedVariables false
namespace Go.Proofs.YtbfnnllgdioccaaGreatDoor.C
def PL(a b i j:Nat)(G:Nat->Ky):Prop:=a < i /\ i<=j+1 /\ j < b /\ (∀ p,a < p->p < i->klt (G p) (G a)) /\ ∀ p,j < p->p < b->¬ klt (G p) (G a)
theorem PL.start{a b:Nat}{G:Nat->Ky}(h:a < b):PL a b (a+1) (b - 1) G:=⟨by omega,by omega,by omega,fun p h1 h2=>by omega,fun p h1 h2=>by omega⟩
theorem PL.up{a b i j:Nat}{G:Nat->Ky}(h:PL a b i j G)(hij:i<=j)(hl:klt (G i) (G a)):PL a b (i+1) j G :=
 ⟨by have:=h.1;omega,by omega,h.2.2.1,fun p h1 h2=>by
  by_cases hp:p=i
  ·subst hp;exact hl
  ·exact h.2.2.2.1 p h1 (by omega),h.2.2.2.2⟩
theorem PL.down{a b i j:Nat}{G:Nat->Ky}(h:PL a b i (j+1) G)(hij:i<=j+1)(hl:¬ klt (G (j+1)) (G a)):PL a b i j G :=
 ⟨h.1,hij,by have:=h.2.2.1;omega,h.2.2.2.1,fun p h1 h2=>by
  by_cases hp:p=j+1
  ·subst hp;exact hl
  ·exact h.2.2.2.2 p (by omega) h2⟩
theorem PL.swap{a b i j:Nat}{G:Nat->Ky}(h:PL a b i j G)(hij:i<=j)(h1:¬ klt (G i) (G a))(h2:klt (G j) (G a)):i < j /\ PL a b (i+1) (j - 1) (sw G i j):=by
 have hne:i ≠ j:=by rintro rfl;exact h1 h2
 have hai:=h.1
 have ha:sw G i j a=G a:=z4i (by omega) (by omega)
 refine⟨by omega,by omega,by omega,by have:=h.2.2.1;omega,fun p h3 h4=>?_,fun p h3 h4=>?_⟩
 ·rw[ha]
  by_cases hp:p=i
  ·subst hp;rw[sw_i];exact h2
  ·rw[z4i hp (by omega)];exact h.2.2.2.1 p h3 (by omega)
 ·rw[ha]
  by_cases hp:p=j
  ·subst hp;rw[sw_j];exact h1
  ·rw[z4i (by omega) hp];exact h.2.2.2.2 p (by omega) h4
def Parted(a b m:Nat)(G:Nat->Ky):Prop:=a<=m /\ m < b /\ (∀ p,a<=p->p < m->klt (G p) (G m)) /\ ∀ p,m < p->p < b->¬ klt (G p) (G m)
theorem PL.done{a b i j:Nat}{G:Nat->Ky}(h:PL a b i j G)(hij:j < i):Parted a b j (sw G j a):=by
 obtain⟨h1,h2,h3,h4,h5⟩:=h
 refine⟨by omega,h3,fun p g1 g2=>?_,fun p g1 g2=>?_⟩
 ·rw[sw_i]
  by_cases hp:p=a
  ·subst hp;rw[sw_j];exact h4 j (by omega) (by omega)
  ·rw[z4i (by omega) hp];exact h4 p (by omega) (by omega)
 ·rw[sw_i,z4i (by omega) (by omega)]
  exact h5 p g1 g2
def Lo(a b:Nat)(G:Nat->Ky):Prop:=a=0 ∨ ∀ t,a<=t->t < b->klt (G (a - 1)) (G t)
theorem Lo.sub{a b b':Nat}{G:Nat->Ky}(h:Lo a b G)(hb:b'<=b):Lo a b' G:=h.elim .inl fun h=>.inr fun t h1 h2=>h t h1 (by omega)
theorem Lo.sw{a b a' b':Nat}{G G':Nat->Ky}(h:Lo a b G)(hw:Sw a' b' G G')(ha:a<=a')(hb:b'<=b):Lo a b G':=by
 rcases h with h|h
 ·exact .inl h
 by_cases ha0:a=0
 ·exact .inl ha0
 refine .inr ?_
 rw[hw.out (t:=a - 1) (by omega)]
 exact(hw.wider ha hb).all (p:=fun k=>klt (G (a - 1)) k) h
def Out(a b a' b':Nat)(G:Nat->Ky):Prop:=∀ x y,a<=x->x < y->y < b->(x < a' ∨ b'<=y)->¬ klt (G y) (G x)
theorem Out.start{a b:Nat}{G:Nat->Ky}:Out a b a b G:=fun x y h1 h2 h3 h4=>by omega
theorem Out.sw{a b a' b':Nat}{G G':Nat->Ky}(h:Out a b a' b' G)(hw:Sw a' b' G G')(ha:a<=a')(hb:b'<=b):Out a b a' b' G':=by
 intro x y h1 h2 h3 h4
 by_cases hx:x < a' ∨ b'<=x
 ·rw[hw.out hx]
  by_cases hy:y < a' ∨ b'<=y
  ·rw[hw.out hy];exact h x y h1 h2 h3 h4
  ·exact hw.all (p:=fun k=>¬ klt k (G x)) (fun t h5 h6=>h x t h1 (by omega) (by omega) (by omega)) y (by omega) (by omega)
 ·rw[hw.out (t:=y) (by omega)]
  exact hw.all (p:=fun k=>¬ klt (G y) k) (fun t h5 h6=>h t y (by omega) (by omega) h3 (by omega)) x (by omega) (by omega)
theorem Out.fin{a b a' b':Nat}{G:Nat->Ky}(h:Out a b a' b' G)(hs:Srt a' b' G):Srt a b G:=fun x y h1 h2 h3=>by
 by_cases hx:x < a' ∨ b'<=y
 ·exact h x y h1 h2 h3 hx
 ·exact hs x y (by omega) h2 (by omega)
theorem Parted.sw{a b m:Nat}{G G':Nat->Ky}(h:Parted a b m G){a' b':Nat}(hw:Sw a' b' G G')(hr:(a<=a' /\ b'<=m) ∨(m+1<=a' /\ b'<=b)):Parted a b m G':=by
 obtain⟨h1,h2,h3,h4⟩:=h
 refine⟨h1,h2,?_,?_⟩
 ·intro p g1 g2
  rw[hw.out (t:=m) (by omega)]
  rcases hr with hr|hr
  ·exact(hw.wider hr.1 hr.2).all (p:=fun k=>klt k (G m)) h3 p g1 g2
  ·rw[hw.out (t:=p) (by omega)];exact h3 p g1 g2
 ·intro p g1 g2
  rw[hw.out (t:=m) (by omega)]
  rcases hr with hr|hr
  ·rw[hw.out (t:=p) (by omega)];exact h4 p g1 g2
  ·exact(hw.wider hr.1 hr.2).all (p:=fun k=>¬ klt k (G m)) (fun t g1 g2=>h4 t (by omega) g2) p (by omega) g2
theorem Out.left{a b a' b' m:Nat}{G G':Nat->Ky}(h:Out a b a' b' G)(hp:Parted a' b' m G)(hw:Sw a' m G G')(hs:Srt a' m G')(ha:a<=a')(hb:b'<=b):Out a b (m+1) b' G':=by
 have hm:=hp.1
 have hm2:=hp.2.1
 have hp':=hp.sw hw (.inl ⟨Nat.le_refl _,Nat.le_refl _⟩)
 have h':=h.sw (hw.wider (Nat.le_refl _) (by omega)) ha hb
 obtain⟨-,-,q3,q4⟩:=hp'
 intro x y h1 h2 h3 h4
 by_cases hx:x < a' ∨ b'<=y
 ·exact h' x y h1 h2 h3 hx
 have hxm:x<=m:=by omega
 by_cases hxe:x=m
 ·subst hxe;exact q4 y h2 (by omega)
 by_cases hy:y < m
 ·exact hs x y (by omega) h2 hy
 by_cases hye:y=m
 ·subst hye;exact z83 (q3 x (by omega) (by omega))
 ·exact fun hk=>q4 y (by omega) (by omega) (z5m hk (q3 x (by omega) (by omega)))
theorem Out.right{a b a' b' m:Nat}{G G':Nat->Ky}(h:Out a b a' b' G)(hp:Parted a' b' m G)(hw:Sw (m+1) b' G G')(hs:Srt (m+1) b' G')(ha:a<=a')(hb:b'<=b):Out a b a' m G':=by
 have hm:=hp.1
 have hm2:=hp.2.1
 have hp':=hp.sw hw (.inr ⟨Nat.le_refl _,Nat.le_refl _⟩)
 have h':=h.sw (hw.wider (by omega) (Nat.le_refl _)) ha hb
 obtain⟨-,-,q3,q4⟩:=hp'
 intro x y h1 h2 h3 h4
 by_cases hx:x < a' ∨ b'<=y
 ·exact h' x y h1 h2 h3 hx
 have hym:m<=y:=by omega
 by_cases hxe:x=m
 ·subst hxe;exact q4 y h2 (by omega)
 by_cases hx2:m < x
 ·exact hs x y (by omega) h2 (by omega)
 by_cases hye:y=m
 ·subst hye;exact z83 (q3 x (by omega) (by omega))
 ·exact fun hk=>q4 y (by omega) (by omega) (z5m hk (q3 x (by omega) (by omega)))
theorem Parted.lo{a b m n:Nat}{G:Nat->Ky}(h:Parted a b m G)(hi:Inj n G)(hb:b<=n):Lo (m+1) b G:=.inr fun t h1 h2=>by
 rw[show m+1 - 1=m by omega]
 have h3:=h.2.2.2 t (by omega) h2
 have hm2:=h.2.1
 rcases zhx (a:=G m) (b:=G t) (fun e=>absurd (hi m t (by omega) (by omega) e) (by omega)) with h4|h4
 ·exact h4
 ·exact absurd h4 h3
theorem Srt.pre{a i:Nat}{G:Nat->Ky}(h:Srt a i G){j:Nat}(hj:j<=i):Srt a j G:=fun x y h1 h2 h3=>h x y h1 h2 (by omega)
theorem Srt.swr{a i b:Nat}{G G':Nat->Ky}(h:Srt a i G){a':Nat}(hw:Sw a' b G G')(ha:i<=a'):Srt a i G':=fun x y h1 h2 h3=>by
 rw[hw.out (t:=x) (by omega),hw.out (t:=y) (by omega)]
 exact h x y h1 h2 h3
end Go.Proofs.YtbfnnllgdioccaaGreatDoor.C
end
section
open Go PvL Go.Proofs
set_option linter.unusedSimpArgs false
set_option linter.unusedVariables false
namespace Go.Proofs.YtbfnnllgdioccaaGreatDoor.C
abbrev cf:LV:=.func (.func 68) [] []
abbrev KT(M:Mem)(p n:Nat)(ty:TypeId)(G:Nat->Ky):Prop:=At M p (.cells true (tabL kyc G n) ty)
theorem z0p{M:Mem}{p n k:Nat}{ty:TypeId}{G:Nat->Ky}(h:KT M p n ty G)(hk:k < n):Rd M p (0+k*2) 2 [I (G k).1,I (G k).2]:=zo2 (enc:=kyc) (fun _=>rfl) h hk
theorem z0h{n k:Nat}{G:Nat->Ky}(hk:k < n)(x:Ky):zy (tabL kyc G n) (0+k*2) [I x.1,I x.2]=some (tabL kyc (fun t=>if t=k then x else G t) n):=by
 have:=zl6 (enc:=kyc) (sz:=2) (G:=G) (G':=fun t=>if t=k then x else G t) (n:=n) (k:=k) (fun _=>rfl) (by omega) hk (fun i _ hi=>by simp[hi])
 simpa using this
set_option maxHeartbeats 4000000 in
theorem zr7{M:Mem}{p n a b:Nat}{f:Bool}{e:Nat}{ty:TypeId}{G:Nat->Ky}(hA:KT M p n ty G)(hb:b<=n)(hab:a<=b)(hn:n<=1000) :
  za Tryz.prog 186 [.slice (some (p,0)) n f e,I a,I b,cf] M (fun w M'=>∃ G',Sw a b G G' /\ Srt a b G' /\ KT M' p n ty G' /\ Keep (fun i=>i=p) M M'):=by
 refine zc k186 rfl ?_
 dsimp only[x186,zM,zO,zI,zF,zS,zB,zL,zE,zN,zW,zC,zipE,Nat.reduceAdd]
 repeat' first|with_reducible intro _|refine sv ?_|refine sc ?_ ?_<;>(intro h;try exact sz h)|refine sg ?_ ?_<;>(intro h;first|exact sz h|refine sy h ?_)|exact sq|fail
 refine z9 (fun z E ms M'=>∃(i:Nat) (G':Nat->Ky),z=b+1 - i /\ a+1<=i /\ (i<=b ∨ i=a+1) /\ ms=[] /\ Has E [(0,.slice (some (p,0)) n f e),(1,I a),(2,I b),(3,cf),(8,I i)] /\ Sw a b G G' /\ Srt a i G' /\ KT M' p n ty G' /\ Keep (fun i=>i=p) M M')
  ?_ (b+1 - (a+1)) _ _ _ ⟨a+1,G,rfl,by omega,.inr rfl,rfl,.cons rfl (.cons rfl (.cons rfl (.cons rfl (.cons rfl .nil)))),.refl,Srt.short (by omega),hA,Keep.refl _ _⟩
 rintro z E ms M1 ⟨i,G1,rfl,hi,hib,rfl,hE,hw1,hs1,hA1,hk1⟩
 refine z0b hE ?_
 by_cases hlast:b<=i
 ·repeat' first|with_reducible intro _|refine sv ?_|refine sc ?_ ?_<;>(intro h;try exact sz h)|refine sg ?_ ?_<;>(intro h;first|exact sz h|refine sy h ?_)|exact sq|fail
  all_goals try(exfalso;omega)
  refine kf ?_
  exact⟨G1,hw1,fun x y h1 h2 h3=>hs1 x y h1 h2 (by omega),hA1,hk1⟩
 have hlt:i < b:=by omega
 repeat' first|with_reducible intro _|refine sv ?_|refine sc ?_ ?_<;>(intro h;try exact sz h)|refine sg ?_ ?_<;>(intro h;first|exact sz h|refine sy h ?_)|exact sq|fail
 all_goals try(exfalso;omega)
 refine z9 (fun z E ms M'=>∃(G':Nat->Ky),a<=z /\ z<=i /\ ms=[] /\ Has E [(0,.slice (some (p,0)) n f e),(1,I a),(2,I b),(3,cf),(8,I i),(9,I z)] /\ Sw a b G G' /\ Ins a (i+1) z G' /\ KT M' p n ty G' /\ Keep (fun i=>i=p) M M')
  ?_ i _ _ _ ⟨G1,by omega,Nat.le_refl _,rfl,.cons rfl (.cons rfl (.cons rfl (.cons rfl (.cons rfl (.cons rfl .nil))))),hw1,Ins.start hs1,hA1,hk1⟩
 rintro j E ms M2 ⟨G2,hj1,hj2,rfl,hE,hw2,hs2,hA2,hk2⟩
 refine z0b hE ?_
 by_cases hja:j=a
 ·subst hja
  repeat' first|with_reducible intro _|refine sv ?_|refine sc ?_ ?_<;>(intro h;try exact sz h)|refine sg ?_ ?_<;>(intro h;first|exact sz h|refine sy h ?_)|exact sq|fail
  all_goals try(exfalso;omega)
  refine zf (b+1 - (i+1)) (by omega) ⟨i+1,G2,rfl,by omega,by omega,rfl,.cons rfl (.cons rfl (.cons rfl (.cons rfl (.cons rfl .nil)))),hw2,hs2.done (.inl (Nat.le_refl _)),hA2,hk2⟩
 obtain⟨j',rfl⟩:∃ j',j=j' + 1:=⟨j - 1,by omega⟩
 have hz:(((j' + 1:Nat):Int) - 1).toNat=j':=by omega
 have hr1:=z0p hA2 (show j' + 1 < n by omega)
 have hr2:=z0p hA2 (show j' < n by omega)
 rw[<-hz] at hr2
 rw[hz] at hr2
 have hr3:Rd M2 p (0+(((j' + 1:Nat):Int) - 1).toNat*2) 2 [I (G2 j').1,I (G2 j').2]:=by rw[hz];exact hr2
 have co:=fun M'=>z1l (G2 (j' + 1)).1 (G2 (j' + 1)).2 (G2 j').1 (G2 j').2 M'
 have hlt9:=z0k (G2 (j' + 1)) (G2 j')
 (have hrd0:=hr1;have hrd1:=hr3;repeat' (first|(with_reducible intro _)|refine sv ?_|(refine sc ?_ ?_<;>(intro h;try exact sz h))|((with_reducible first|apply z13|apply z14|apply d_pure0);exact gd;exact rfl;exact rfl;(first|exact co _))|refine sg ?_ ?_<;>(intro h;first|exact sz h|refine sy h ?_)|exact sq|fail))
 ·rename_i hgt M5 hg5 q5
  have hA5:KT M5 p n ty G2:=hA2.grow hg5
  refine d_st (by exact gd) rfl rfl hA5 rfl rfl (z0h (by omega) (G2 j')) ?_
  intro M6 hU6 e6 hA6
  repeat' first|with_reducible intro _|refine sv ?_|refine sc ?_ ?_<;>(intro h;try exact sz h)|refine sg ?_ ?_<;>(intro h;first|exact sz h|refine sy h ?_)|exact sq|fail
  refine d_st (by exact gd) rfl rfl hA6 rfl rfl (by rw[hz];exact z0h (by omega) (G2 (j' + 1))) ?_
  intro M7 hU7 e7 hA7
  have hk7:Keep (fun i=>i=p) M M7:=xk
  have hlt8:=hlt9.1 h
  repeat' first|with_reducible intro _|refine sv ?_|refine sc ?_ ?_<;>(intro h;try exact sz h)|refine sg ?_ ?_<;>(intro h;first|exact sz h|refine sy h ?_)|exact sq|fail
  refine zf j' (by omega) ⟨sw G2 (j' + 1) j',by omega,by omega,rfl,.cons rfl (.cons rfl (.cons rfl (.cons rfl (.cons rfl (.cons ?_ .nil))))),.step hw2 (by omega) (by omega) (by omega) (by omega),hs2.step (by omega) hlt8,hA7,hk7⟩
  show some (I _)=some (I _)
  rw[show((j' + 1:Nat):Int) - 1=j' by omega]
 ·rename_i hgt M5 hg5 q5
  have hA5:KT M5 p n ty G2:=hA2.grow hg5
  have hk5:Keep (fun i=>i=p) M M5:=xk
  refine zf (b+1 - (i+1)) (by omega) ⟨i+1,G2,rfl,by omega,by omega,rfl,.cons rfl (.cons rfl (.cons rfl (.cons rfl (.cons rfl .nil)))),hw2,hs2.done (.inr (fun hk=>absurd (hlt9.2 hk) (Int.not_lt.2 h))),hA5,hk5⟩
