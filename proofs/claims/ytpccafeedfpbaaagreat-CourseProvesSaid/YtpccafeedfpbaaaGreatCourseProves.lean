/-
 Part of the proof of CourseProves: what functions of the program and of the statement come to, walked by the rules. No condition beyond those in each theorem.
-/
import Derived.Test.YtpccafeedfpbaaaGreatRows
import Derived.Test.YtpccafeedfpbaaaGreatPvE
import Derived.Test.YtpccafeedfpbaaaGreatTO
import Derived.Test.YtpccafeedfpbaaaGreatZW
import Derived.WalkKit
import Derived.ProofKit
import Derived.OpenShut
namespace Go.Proofs.YtpccafeedfpbaaaGreat.C
open Go PvL Go.Proofs Go.ChangeShapes Go.WideShapes Go.ChangeAt Go.RowKit
set_option linter.unusedVariables false
theorem own : ownKnob Tryz.prog.godebug = none := by kernel_rfl
theorem ask_works {f : FuncId} {l : List LV} {v : LV} (h : Orc.ask Tryz.prog f l = some v) : f = 16 /\ l = [] /\ v = .bool true := by
 cases l with
 | cons a l => cases h
 | nil =>
  have h : (bif Nat.beq f 16 then some (LV.bool true) else none) = some v := h
  cases hb : Nat.beq f 16 with
  | false => rw [hb] at h; cases h
  | true => rw [hb] at h; cases h; exact ⟨Nat.eq_of_beq_eq_true hb, rfl, rfl⟩
theorem orcOk : OrcOk Tryz.prog where
 fn f l v h := by obtain ⟨rfl, rfl, rfl⟩ := ask_works h; exact ke16.fn
 sim f l v h m := by obtain ⟨rfl, rfl, rfl⟩ := ask_works h; exact orc_sim ke16 rfl rfl rfl rfl m
theorem law1 {m : Mem} {x : TA [(crSh, true), (clSh, true)]} {avs : List LV} (hE : EncA m [(crSh, true), (clSh, true)] x avs) : CallOk Tryz.prog 7 avs m fun v _ => v = .bool true := by
 obtain ⟨cs1, v1, _, rfl, h1, hv1, cs2, v2, _, rfl, h2, hv2, rfl⟩ := hE
 obtain rfl := hv1
 obtain rfl := hv2
 obtain ⟨A, rfl, hM⟩ := enc_cr h1
 obtain ⟨aI, fI, rfl, hI, hIl⟩ := enc_claim h2
 exact c_CourseProves hM hI (Nat.le_trans hIl (by decide))
set_option maxRecDepth 100000 in
theorem lifted (os : Os) (started : os.Started) (H : Type) (enc : TypeId × Value -> H) :
  ReturnsInHanded {} Tryz.checked os 7 .any (Go.Proofs.YtpccafeedfpbaaaGreat.Rows.courseProvesSpec.pre6 enc Tryz.prog Tryz.f7 Go.Proofs.YtpccafeedfpbaaaGreat.Rows.courseProvesRow.domain false) (Go.Proofs.YtpccafeedfpbaaaGreat.Rows.courseProvesSpec.post enc Tryz.prog Tryz.f7 false true false false) := by
 refine returnsInHanded_of_change_sized (C := Tryz.checked) own started (by kernel_rfl) Tryz.func7
  (ChangeSpec.witness6 (enc := enc) (C := Tryz.checked) false ⟨#[], #[.agg #[.slice none 0 0, .slice none 0 0, .slice none 0 0, .int .i64 0, .int .i64 0, .int .i64 0, .int .i64 0, .int .i64 0, .int .i64 0, .int .i64 0, .int .i64 0, .int .i64 0, .int .i64 0, .int .i64 0, .int .i64 0, .int .i64 0, .slice none 0 0], .agg #[.bool false, .int .i64 0, .int .i64 0, .slice none 0 0, .int .i64 0]], []⟩ 8 (by kernel_rfl) (by kernel_rfl) (by kernel_rfl) (by kernel_rfl)) ?_
 intro W base args ds gs before hval0 hW hcnd hsz0 _
 have hval : ∀ (j : Nat) t v, Tryz.f7.params[j]? = some t -> args[j]? = some v -> Value.okWide Tryz.prog W .any base t v := hval0
 have hW' := hW
 obtain ⟨p, q, hA0, hV, rfl, hfz, hnd⟩ := hW
 obtain ⟨hgs, _⟩ := trodVars_none hV
 have hA : DataW.TrodAll enc Tryz.prog W 0 (fun _ => true) true Tryz.f7.params.toList args.toList ds p := hA0
 have hp : Tryz.f7.params.toList = [35, 57] := by kernel_rfl
 have hA2 := hA
 rw [hp] at hA2
 have hsz := sized_of hsz0 rfl hgs
 rw [hp] at hsz
 refine (law_calls (f := 7) mix orcOk (l := [(crSh, true), (clSh, true)]) (by kernel_rfl) (fun m x av hB hE => law1 hE) hA2 hsz (fun j t v h h' => ⟨_, _, hval j t v (by rw [<- hp] at h; simpa using h) h'⟩)).mono fun e W' ⟨he, hg, hk⟩ => ?_
 subst he
 obtain ⟨_, _, d0, ds0, _, _, _, e0, _, _, r0⟩ := trodAll_cons hA2
 obtain ⟨_, _, d1, ds1, _, _, _, e1, _, _, r1⟩ := trodAll_cons r0
 obtain ⟨_, eN, _⟩ := trodAll_nil r1
 have hds : ds = [d0, d1] := by rw [e0, e1, eN]
 refine ⟨_, rfl, law_post hW' rfl (by rw [hds]; rfl) (tb := 4) (by kernel_rfl) (by kernel_rfl) (fun t ht => ?_) (by kernel_rfl) hg hk⟩
 rw [hp] at ht
 rcases List.mem_cons.1 ht with rfl | ht
 ·exact ⟨by kernel_rfl, of_decide_eq_true (by kernel_rfl)⟩
 ·obtain rfl := List.mem_singleton.1 ht
  exact ⟨by kernel_rfl, of_decide_eq_true (by kernel_rfl)⟩
set_option maxRecDepth 100000 in
theorem over : Go.Proofs.YtpccafeedfpbaaaGreat.Rows.courseProvesRow.holds Go.Proofs.YtpccafeedfpbaaaGreat.Tryz.pinned (OpenSpec.ofChange Go.Proofs.YtpccafeedfpbaaaGreat.Rows.courseProvesSpec) :=
 OpenClaim.holds_of_wide 7 Tryz.f7 rfl rfl rfl rfl rfl rfl rfl ⟨rfl, rfl, rfl, rfl, rfl⟩ rfl rfl rfl rfl rfl (by kernel_rfl) Tryz.func7 (by kernel_rfl)
  (of_decide_eq_true (by kernel_rfl)) (by unfold Func.isWrapper; first | (rw [if_pos (by decide +kernel)]; kernel_rfl) | (rw [if_neg (by decide +kernel)]; exact ⟨rfl, rfl⟩))
  (fun os started H enc _ => lifted os started H enc)
theorem proved : Go.Proofs.YtpccafeedfpbaaaGreat.Rows.CourseProvesSaid :=
 over
end Go.Proofs.YtpccafeedfpbaaaGreat.C
