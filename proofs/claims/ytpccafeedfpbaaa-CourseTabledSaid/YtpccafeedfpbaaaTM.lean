/-
  Part of the proof of CourseTabled: what functions of the program and of the statement come to, walked by the rules. No condition beyond those in each theorem.
-/
import Derived.Test.YtpccafeedfpbaaaTS
import Derived.Test.YtpccafeedfpbaaaTL
open PvL
set_option linter.unusedVariables false
namespace Go.Proofs.Ytpccafeedfpbaaa.C
/-! the search, and what Best finds -/
theorem end_fold {s : Cr} : ∀ (l : List Nat) (e : Int), -1 ≤ e → (l.foldl (endS s) e = e ∨ ∃ c ∈ l, l.foldl (endS s) e = TT s (allN s) c ∧ 0 ≤ TT s (allN s) c) ∧ (0 ≤ e → 0 ≤ l.foldl (endS s) e ∧ l.foldl (endS s) e ≤ e) ∧ ∀ c ∈ l, 0 ≤ TT s (allN s) c → 0 ≤ l.foldl (endS s) e ∧ l.foldl (endS s) e ≤ TT s (allN s) c
  | [], e, _ => ⟨.inl rfl, fun h => ⟨h, Int.le_refl _⟩, fun c hc => by cases hc⟩
  | a :: l, e, he => by
    rw [List.foldl_cons]
    have hst : (endS s e a = e ∧ (0 ≤ TT s (allN s) a → 0 ≤ e ∧ e ≤ TT s (allN s) a)) ∨ (endS s e a = TT s (allN s) a ∧ 0 ≤ TT s (allN s) a ∧ (0 ≤ e → TT s (allN s) a ≤ e)) := by
      unfold endS
      split
      · rename_i h; exact .inr ⟨rfl, h.1, fun _ => by omega⟩
      · rename_i h; exact .inl ⟨rfl, fun h' => by omega⟩
    obtain ⟨h1, h2, h3⟩ := end_fold l (endS s e a) (by rcases hst with h | h <;> omega)
    refine ⟨?_, fun h => ?_, fun c hc h => ?_⟩
    · rcases h1 with h1 | ⟨c, hc, h1⟩
      · rcases hst with h | h
        · exact .inl (by rw [h1, h.1])
        · exact .inr ⟨a, List.mem_cons_self .., by rw [h1, h.1], h.2.1⟩
      · exact .inr ⟨c, List.mem_cons_of_mem _ hc, h1⟩
    · have := h2 (by rcases hst with h | h <;> omega)
      rcases hst with h | h <;> omega
    · rcases List.mem_cons.1 hc with rfl | hc
      · have := h2 (by rcases hst with h' | h' <;> omega)
        rcases hst with h' | h' <;> omega
      · exact h3 c hc h
/-! orders as lists of lines with ways -/
/-- a number as a line with a way -/
def unN (c : Nat) : Int × Int := ((c / 2 : Nat), (c % 2 : Nat))
end Go.Proofs.Ytpccafeedfpbaaa.C
