/-
  Part of the proof of CourseTimes: what functions of the program and of the statement come to, walked by the rules. No condition beyond those in each theorem.
-/
import Derived.Test.YtpccafeedfpbaaaGreatTI
section
open Go PvL Go.Proofs
set_option linter.unusedSimpArgs false
set_option linter.unusedVariables false
namespace Go.Proofs.YtpccafeedfpbaaaGreat.C
abbrev earF (nq nt ne nx : Nat) : LV := .func (.func 116) [] [.ptr (some (nq, 0)), .ptr (some (nt, 0)), .ptr (some (ne, 0)), .ptr (some (nx, 0))]
def TbOk (s : Cr) (t : List Int) : Prop := t.length = 2 * s.lines.length * 2 ^ s.lines.length /\ ∀ v ∈ t, -1 <= v /\ v <= 1048576
theorem ear_bd {s : Cr} (hs : CrOk s) {t : List Int} {set c : Nat} (hc : c < 2 * s.lines.length) {e : Int} (he : e ∈ earL s t set c) : 0 <= e /\ e <= 1048576 := by
  unfold earL at he
  obtain ⟨x, hx, h⟩ := List.mem_filterMap.1 he
  obtain ⟨b, hb, rfl⟩ := Option.map_eq_some_iff.1 h
  have := goF_bd hs (div_lt hc) hb
  omega
theorem TbOk.step {s : Cr} (hs : CrOk s) {t : List Int} {set c : Nat} (h : TbOk s t) (hc : c < 2 * s.lines.length) : TbOk s (tabStep s set t c) := by
  unfold tabStep
  cases hm : minL (earL s t set c) with
  | none => exact h
  | some e =>
    have he := ear_bd hs hc (minL_some hm).1
    refine ⟨by dsimp only; rw [List.length_set]; exact h.1, fun v hv => ?_⟩
    rcases List.mem_or_eq_of_mem_set hv with hv | rfl
    · exact h.2 v hv
    · omega
theorem TbOk.steps {s : Cr} (hs : CrOk s) {set : Nat} : ∀ (l : List Nat) {t : List Int}, TbOk s t -> (∀ c ∈ l, c < 2 * s.lines.length) -> TbOk s (l.foldl (tabStep s set) t)
  | [], t, h, _ => h
  | c :: l, t, h, hl => TbOk.steps hs l (h.step hs (hl c (List.mem_cons_self ..))) fun d hd => hl d (List.mem_cons_of_mem _ hd)
theorem TbOk.zero (s : Cr) : TbOk s (tab0 s) := by
  unfold tab0
  exact ⟨List.length_replicate .., fun v hv => by obtain rfl := (List.mem_replicate.1 hv).2; exact ⟨by decide, by decide⟩⟩
theorem TbOk.rows {s : Cr} (hs : CrOk s) : ∀ k, TbOk s ((List.range k).foldl (tabSet s) (tab0 s))
  | 0 => TbOk.zero s
  | k + 1 => by
    rw [List.range_succ, List.foldl_append]
    exact TbOk.steps hs _ (TbOk.rows hs k) fun c hc => (mem_shoots.1 hc).1
end Go.Proofs.YtpccafeedfpbaaaGreat.C
end
