/-
 Part of the proof of CourseAccepted: what functions of the program and of the statement come to,walked by the rules. No condition beyond those in each theorem.
-/
import Derived.Test.YtpccafeedfpbaaaGreatRows
import Derived.Test.YtpccafeedfpbaaaGreatQvE
import Derived.Test.YtpccafeedfpbaaaGreatUP
import Derived.Test.YtpccafeedfpbaaaGreatUO
import Derived.Test.YtpccafeedfpbaaaGreatYW
import Derived.WalkKit
import Derived.ProofKit
import Derived.OpenShut
namespace Go.Proofs.YtpccafeedfpbaaaGreat.C
open Go PvL Go.Proofs Go.ChangeShapes Go.WideShapes Go.ChangeAt Go.RowKit
set_option linter.unusedVariables false
theorem own:ownKnob Tryz.prog.godebug=none:=by kernel_rfl
theorem za4 {f:FuncId} {l:List LV} {v:LV} (h:Orc.ask Tryz.prog f l=some v):f=16 /\ l=[] /\ v=.bool true:=by
 cases l with
 | cons a l=>cases h
 | nil =>
  have h:(bif Nat.beq f 16 then some (LV.bool true) else none)=some v:=h
  cases hb:Nat.beq f 16 with
  | false=>rw [hb] at h;cases h
  | true=>rw [hb] at h;cases h;exact ⟨Nat.eq_of_beq_eq_true hb,rfl,rfl⟩
theorem orcOk:OrcOk Tryz.prog where
 fn f l v h:=by obtain ⟨rfl,rfl,rfl⟩:=za4 h;exact ke16.fn
 sim f l v h m:=by obtain ⟨rfl,rfl,rfl⟩:=za4 h;exact zn7 ke16 rfl rfl rfl rfl m
theorem law1 {m:Mem} {x:TA [(crSh,true),(clSh,true),((.sl ptSh),false)]} {avs:List LV} (hE:EncA m [(crSh,true),(clSh,true),((.sl ptSh),false)] x avs):CallOk Tryz.prog 10 avs m fun v _=>v=.bool true:=by
 obtain ⟨cs1,v1,_,rfl,h1,hv1,cs2,v2,_,rfl,h2,hv2,cs3,v3,_,rfl,h3,hv3,rfl⟩:=hE
 obtain rfl:=hv1
 obtain rfl:=hv2
 obtain ⟨A,rfl,hM⟩:=zoj h1
 obtain ⟨aJ,fJ,rfl,hJ,hJl⟩:=zh2 h2
 obtain ⟨aI,fI,rfl,hI,hIl⟩:=z6m (enc:=ptc) (fun _ _=>z2g) h3
 cases hv3
 exact z5u hM hJ (Nat.le_trans hJl (by decide)) hI (Nat.le_trans hIl (by decide))
set_option maxRecDepth 100000 in
theorem lifted (os:Os) (started:os.Started) (H:Type) (enc:TypeId × Value->H) :
  ReturnsInHanded {} Tryz.checked os 10 .any (Go.Proofs.YtpccafeedfpbaaaGreat.Rows.courseAcceptedSpec.pre6 enc Tryz.prog Tryz.f10 Go.Proofs.YtpccafeedfpbaaaGreat.Rows.courseAcceptedRow.domain false) (Go.Proofs.YtpccafeedfpbaaaGreat.Rows.courseAcceptedSpec.post enc Tryz.prog Tryz.f10 false true false false):=by
 refine returnsInHanded_of_change_sized (C:=Tryz.checked) own started (by kernel_rfl) Tryz.func10
  (ChangeSpec.witness6 (enc:=enc) (C:=Tryz.checked) false ⟨#[],#[.agg #[.slice none 0 0,.slice none 0 0,.slice none 0 0,.int .i64 0,.int .i64 0,.int .i64 0,.int .i64 0,.int .i64 0,.int .i64 0,.int .i64 0,.int .i64 0,.int .i64 0,.int .i64 0,.int .i64 0,.int .i64 0,.int .i64 0,.slice none 0 0],.agg #[.bool false,.int .i64 0,.int .i64 0,.slice none 0 0,.int .i64 0],.slice none 0 0],[]⟩ 8 (by kernel_rfl) (by kernel_rfl) (by kernel_rfl) (by kernel_rfl)) ?_
 intro W base args ds gs before hval0 hW hcnd hsz0 _
 have hval:∀ (j:Nat) t v,Tryz.f10.params[j]?=some t->args[j]?=some v->Value.okWide Tryz.prog W .any base t v:=hval0
 have hW':=hW
 obtain ⟨p,q,hA0,hV,rfl,hfz,hnd⟩:=hW
 obtain ⟨hgs,_⟩:=trodVars_none hV
 have hA:DataW.TrodAll enc Tryz.prog W 0 (fun _=>true) true Tryz.f10.params.toList args.toList ds p:=hA0
 have hp:Tryz.f10.params.toList=[35,57,42]:=by kernel_rfl
 have hA2:=hA
 rw [hp] at hA2
 have hsz:=zkr hsz0 rfl hgs
 rw [hp] at hsz
 refine (zhi (f:=10) mix orcOk (l:=[(crSh,true),(clSh,true),((.sl ptSh),false)]) (by kernel_rfl) (fun m x av hB hE=>law1 hE) hA2 hsz (fun j t v h h'=>⟨_,_,hval j t v (by rw [<-hp] at h;simpa using h) h'⟩)).mono fun e W' ⟨he,hg,hk⟩=>?_
 subst he
 obtain ⟨_,_,d0,ds0,_,_,_,e0,_,_,r0⟩:=trodAll_cons hA2
 obtain ⟨_,_,d1,ds1,_,_,_,e1,_,_,r1⟩:=trodAll_cons r0
 obtain ⟨_,_,d2,ds2,_,_,_,e2,_,_,r2⟩:=trodAll_cons r1
 obtain ⟨_,eN,_⟩:=trodAll_nil r2
 have hds:ds=[d0,d1,d2]:=by rw [e0,e1,e2,eN]
 refine ⟨_,rfl,zk6 hW' rfl (by rw [hds];rfl) (tb:=4) (by kernel_rfl) (by kernel_rfl) (fun t ht=>?_) (by kernel_rfl) hg hk⟩
 rw [hp] at ht
 rcases List.mem_cons.1 ht with rfl|ht
 ·exact ⟨by kernel_rfl,of_decide_eq_true (by kernel_rfl)⟩
 rcases List.mem_cons.1 ht with rfl|ht
 ·exact ⟨by kernel_rfl,of_decide_eq_true (by kernel_rfl)⟩
 ·obtain rfl:=List.mem_singleton.1 ht
  exact ⟨by kernel_rfl,of_decide_eq_true (by kernel_rfl)⟩
set_option maxRecDepth 100000 in
theorem over:Go.Proofs.YtpccafeedfpbaaaGreat.Rows.courseAcceptedRow.holds Go.Proofs.YtpccafeedfpbaaaGreat.Tryz.pinned (OpenSpec.ofChange Go.Proofs.YtpccafeedfpbaaaGreat.Rows.courseAcceptedSpec) :=
 OpenClaim.holds_of_wide 10 Tryz.f10 rfl rfl rfl rfl rfl rfl rfl ⟨rfl,rfl,rfl,rfl,rfl⟩ rfl rfl rfl rfl rfl (by kernel_rfl) Tryz.func10 (by kernel_rfl)
  (of_decide_eq_true (by kernel_rfl)) (by unfold Func.isWrapper;first|(rw [if_pos (by decide +kernel)];kernel_rfl)|(rw [if_neg (by decide +kernel)];exact ⟨rfl,rfl⟩))
  (fun os started H enc _=>lifted os started H enc)
theorem proved:Go.Proofs.YtpccafeedfpbaaaGreat.Rows.CourseAcceptedSaid :=
 over
end Go.Proofs.YtpccafeedfpbaaaGreat.C
