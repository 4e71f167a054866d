/-
  Part of the proof of CourseKnown: what functions of the program and of the statement come to, walked by the rules. No condition beyond those in each theorem.
-/
import Derived.Test.YtgipddabhcmgjabRows
import Derived.Test.YtgipddabhcmgjabPvE
import Derived.Test.YtgipddabhcmgjabK14
import Derived.WalkKit
import Derived.ProofKit
import Derived.OpenShut
namespace Go.Proofs.Ytgipddabhcmgjab.C
open Go PvL Go.Proofs Go.ChangeShapes Go.WideShapes Go.ChangeAt Go.RowKit
set_option linter.unusedVariables false
instance : Orc Try.prog := ⟨fun f l => match l with | [] => bif Nat.beq f 6 then some (.bool true) else none | _ => none⟩
theorem own : ownKnob Try.prog.godebug = none := by kernel_rfl
theorem ask_known {f : FuncId} {l : List LV} {v : LV} (h : Orc.ask Try.prog f l = some v) : f = 6 ∧ l = [] ∧ v = .bool true := by
  cases l with
  | cons a l => cases h
  | nil =>
    have h : (bif Nat.beq f 6 then some (LV.bool true) else none) = some v := h
    cases hb : Nat.beq f 6 with
    | false => rw [hb] at h; cases h
    | true => rw [hb] at h; cases h; exact ⟨Nat.eq_of_beq_eq_true hb, rfl, rfl⟩
theorem orcOk : OrcOk Try.prog where
  fn f l v h := by obtain ⟨rfl, rfl, rfl⟩ := ask_known h; exact k14.fn
  sim f l v h m := by obtain ⟨rfl, rfl, rfl⟩ := ask_known h; exact orc_sim k14 rfl rfl rfl rfl m
theorem c_known (M : Mem) : CallOk Try.prog 6 [] M (fun w M' => w = .bool true) := ⟨_, _, om_ask rfl M, rfl⟩
set_option maxRecDepth 100000 in
theorem lifted (os : Os) (started : os.Started) (H : Type) (enc : TypeId × Value → H) :
    ReturnsInHanded {} Try.checked os 6 .any (Go.Proofs.Ytgipddabhcmgjab.Rows.courseKnownSpec.pre6 enc Try.prog Try.f6 Go.Proofs.Ytgipddabhcmgjab.Rows.courseKnownRow.domain false) (Go.Proofs.Ytgipddabhcmgjab.Rows.courseKnownSpec.post enc Try.prog Try.f6 false true false false) := by
  refine returnsInHanded_of_change_sized (C := Try.checked) own started (by kernel_rfl) Try.func6
    (ChangeSpec.witness6 (enc := enc) (C := Try.checked) false ⟨#[], #[], []⟩ 8 (by kernel_rfl) (by kernel_rfl) (by kernel_rfl) (by kernel_rfl)) ?_
  intro W base args ds gs before hval0 hW hcnd hsz0 _
  have hW' := hW
  obtain ⟨p, q, hA0, hV, rfl, hfz, hnd⟩ := hW
  obtain ⟨hgs, _⟩ := trodVars_none hV
  have hA : DataW.TrodAll enc Try.prog W 0 (fun _ => true) true Try.f6.params.toList args.toList ds p := hA0
  have hp : Try.f6.params.toList = [] := by kernel_rfl
  have hA2 := hA
  rw [hp] at hA2
  have hsz := sized_of hsz0 rfl hgs
  rw [hp] at hsz
  refine (law_calls (f := 6) mix14 orcOk (l := []) (by kernel_rfl) (fun m x av hB hE => ?_) hA2 hsz (fun j t v h h' => by simp at h)).mono fun e W' ⟨he, hg, hk⟩ => ?_
  · obtain rfl : av = [] := hE
    exact c_known m
  · subst he
    obtain ⟨_, e3, _⟩ := trodAll_nil hA2
    refine ⟨_, rfl, law_post hW' rfl (by rw [e3]; rfl) (tb := 4) (by kernel_rfl) (by kernel_rfl) (fun t ht => ?_) (by kernel_rfl) hg hk⟩
    rw [hp] at ht
    cases ht
set_option maxRecDepth 100000 in
theorem over : Go.Proofs.Ytgipddabhcmgjab.Rows.courseKnownRow.holds Go.Proofs.Ytgipddabhcmgjab.Try.pinned (OpenSpec.ofChange Go.Proofs.Ytgipddabhcmgjab.Rows.courseKnownSpec) :=
  OpenClaim.holds_of_wide 6 Try.f6 rfl rfl rfl rfl rfl rfl rfl ⟨rfl, rfl, rfl, rfl, rfl⟩ rfl rfl rfl rfl rfl (by kernel_rfl) Try.func6 (by kernel_rfl)
    (of_decide_eq_true (by kernel_rfl)) (by unfold Func.isWrapper; first | (rw [if_pos (by decide +kernel)]; kernel_rfl) | (rw [if_neg (by decide +kernel)]; exact ⟨rfl, rfl⟩))
    (fun os started H enc _ => lifted os started H enc)
theorem proved : Go.Proofs.Ytgipddabhcmgjab.Rows.CourseKnownSaid :=
  over
end Go.Proofs.Ytgipddabhcmgjab.C
