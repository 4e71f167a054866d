/-
 Part of the proof of CourseBests: what functions of the program and of the statement come to, walked by the rules. No condition beyond those in each theorem.
-/
import Derived.Test.YtpccafeedfpbaaaGreatRows
import Derived.Test.YtpccafeedfpbaaaGreatQvE
import Derived.Test.YtpccafeedfpbaaaGreatUO
import Derived.Test.YtpccafeedfpbaaaGreatUE
import Derived.Test.YtpccafeedfpbaaaGreatYW
import Derived.WalkKit
import Derived.ProofKit
import Derived.OpenShut
namespace Go.Proofs.YtpccafeedfpbaaaGreat.C
open Go PvL Go.Proofs Go.ChangeShapes Go.WideShapes Go.ChangeAt Go.RowKit
set_option linter.unusedVariables false
theorem own : ownKnob Tryz.prog.godebug = none := by kernel_rfl
theorem z9z {f : FuncId} {l : List LV} {v : LV} (h : Orc.ask Tryz.prog f l = some v) : f = 16 /\ l = [] /\ v = .bool true := by
 cases l with
 | cons a l => cases h
 | nil =>
  have h : (bif Nat.beq f 16 then some (LV.bool true) else none) = some v := h
  cases hb : Nat.beq f 16 with
  | false => rw [hb] at h; cases h
  | true => rw [hb] at h; cases h; exact ⟨Nat.eq_of_beq_eq_true hb, rfl, rfl⟩
theorem orcOk : OrcOk Tryz.prog where
 fn f l v h := by obtain ⟨rfl, rfl, rfl⟩ := z9z h; exact ke16.fn
 sim f l v h m := by obtain ⟨rfl, rfl, rfl⟩ := z9z h; exact zmg ke16 rfl rfl rfl rfl m
theorem law1 {m : Mem} {x : TA [(crSh, true)]} {avs : List LV} (hE : EncA m [(crSh, true)] x avs) : CallOk Tryz.prog 5 avs m fun v _ => v = .bool true := by
 obtain ⟨cs1, v1, _, rfl, h1, hv1, rfl⟩ := hE
 obtain rfl := hv1
 obtain ⟨A, rfl, hM⟩ := znr h1
 exact z8t hM
set_option maxRecDepth 100000 in
theorem lifted (os : Os) (started : os.Started) (H : Type) (enc : TypeId × Value -> H) :
  ReturnsInHanded {} Tryz.checked os 5 .any (Go.Proofs.YtpccafeedfpbaaaGreat.Rows.courseBestsSpec.pre6 enc Tryz.prog Tryz.f5 Go.Proofs.YtpccafeedfpbaaaGreat.Rows.courseBestsRow.domain false) (Go.Proofs.YtpccafeedfpbaaaGreat.Rows.courseBestsSpec.post enc Tryz.prog Tryz.f5 false true false false) := by
 refine returnsInHanded_of_change_sized (C := Tryz.checked) own started (by kernel_rfl) Tryz.func5
  (ChangeSpec.witness6 (enc := enc) (C := Tryz.checked) false ⟨#[], #[.agg #[.slice none 0 0, .slice none 0 0, .slice none 0 0, .int .i64 0, .int .i64 0, .int .i64 0, .int .i64 0, .int .i64 0, .int .i64 0, .int .i64 0, .int .i64 0, .int .i64 0, .int .i64 0, .int .i64 0, .int .i64 0, .int .i64 0, .slice none 0 0]], []⟩ 8 (by kernel_rfl) (by kernel_rfl) (by kernel_rfl) (by kernel_rfl)) ?_
 intro W base args ds gs before hval0 hW hcnd hsz0 _
 have hval : ∀ (j : Nat) t v, Tryz.f5.params[j]? = some t -> args[j]? = some v -> Value.okWide Tryz.prog W .any base t v := hval0
 have hW' := hW
 obtain ⟨p, q, hA0, hV, rfl, hfz, hnd⟩ := hW
 obtain ⟨hgs, _⟩ := trodVars_none hV
 have hA : DataW.TrodAll enc Tryz.prog W 0 (fun _ => true) true Tryz.f5.params.toList args.toList ds p := hA0
 have hp : Tryz.f5.params.toList = [35] := by kernel_rfl
 have hA2 := hA
 rw [hp] at hA2
 have hsz := zkd hsz0 rfl hgs
 rw [hp] at hsz
 refine (zhc (f := 5) mix orcOk (l := [(crSh, true)]) (by kernel_rfl) (fun m x av hB hE => law1 hE) hA2 hsz (fun j t v h h' => ⟨_, _, hval j t v (by rw [<- hp] at h; simpa using h) h'⟩)).mono fun e W' ⟨he, hg, hk⟩ => ?_
 subst he
 obtain ⟨_, _, d0, ds0, _, _, _, e0, _, _, r0⟩ := trodAll_cons hA2
 obtain ⟨_, eN, _⟩ := trodAll_nil r0
 have hds : ds = [d0] := by rw [e0, eN]
 refine ⟨_, rfl, zju hW' rfl (by rw [hds]; rfl) (tb := 4) (by kernel_rfl) (by kernel_rfl) (fun t ht => ?_) (by kernel_rfl) hg hk⟩
 rw [hp] at ht
 ·obtain rfl := List.mem_singleton.1 ht
  exact ⟨by kernel_rfl, of_decide_eq_true (by kernel_rfl)⟩
set_option maxRecDepth 100000 in
theorem over : Go.Proofs.YtpccafeedfpbaaaGreat.Rows.courseBestsRow.holds Go.Proofs.YtpccafeedfpbaaaGreat.Tryz.pinned (OpenSpec.ofChange Go.Proofs.YtpccafeedfpbaaaGreat.Rows.courseBestsSpec) :=
 OpenClaim.holds_of_wide 5 Tryz.f5 rfl rfl rfl rfl rfl rfl rfl ⟨rfl, rfl, rfl, rfl, rfl⟩ rfl rfl rfl rfl rfl (by kernel_rfl) Tryz.func5 (by kernel_rfl)
  (of_decide_eq_true (by kernel_rfl)) (by unfold Func.isWrapper; first | (rw [if_pos (by decide +kernel)]; kernel_rfl) | (rw [if_neg (by decide +kernel)]; exact ⟨rfl, rfl⟩))
  (fun os started H enc _ => lifted os started H enc)
theorem proved : Go.Proofs.YtpccafeedfpbaaaGreat.Rows.CourseBestsSaid :=
 over
end Go.Proofs.YtpccafeedfpbaaaGreat.C
