/-
  What the two Turned and the two Octant come to, for any numbers. No condition.
-/
import Derived.Test.YtkkcpebemcbomaaGreatRows
import Derived.WalkKit
import Derived.ProofKit
import Derived.OpenShut
import Derived.Handy
namespace Go.Proofs.YtkkcpebemcbomaaGreat.octants
open Go.ChangeShapes Go.WideShapes Go.ChangeAt Go.RowKit
set_option linter.unusedVariables false
def te (a b : Int) : Int := if 0 ≤ a ∧ a ≤ 7 ∧ 0 ≤ b ∧ b ≤ 7 then 0 else 7
def tn (a b : Int) : Int := if 0 ≤ a ∧ a ≤ 7 ∧ 0 ≤ b ∧ b ≤ 7 then (if a ≤ b then (if b - a ≤ 4 then b - a else 8 - (b - a)) else (if a - b ≤ 4 then a - b else 8 - (a - b))) else 0
theorem w64 {n : Int} (h : -9223372036854775808 ≤ n) (h' : n ≤ 9223372036854775807) : wrap64 n = n := by unfold wrap64; omega
theorem m8 {a b : Int} (h : 0 ≤ a) (h' : a ≤ 7) (g : 0 ≤ b) (g' : b ≤ 7) : (wrap64 (wrap64 (b - a) + 8)).tmod 8 = if a ≤ b then b - a else b - a + 8 := by
  rw [w64 (n := b - a) (by omega) (by omega), w64 (by omega) (by omega), Int.tmod_eq_emod_of_nonneg (by omega)]
  split <;> omega
theorem t_out {a b : Int} (h : a < 0 ∨ 7 < a ∨ b < 0 ∨ 7 < b) : 0 = tn a b ∧ 7 = te a b := by
  unfold tn te; constructor <;> rw [if_neg (by omega)]
theorem t_in {a b r : Int} (h1 : 0 ≤ a) (h2 : a ≤ 7) (h3 : 0 ≤ b) (h4 : (!decide (b ≤ 7)) = false) (hr : r = if a ≤ b then (if b - a ≤ 4 then b - a else 8 - (b - a)) else (if a - b ≤ 4 then a - b else 8 - (a - b))) : r = tn a b ∧ 0 = te a b := by
  have h4 : b ≤ 7 := by simpa using h4
  have hc : 0 ≤ a ∧ a ≤ 7 ∧ 0 ≤ b ∧ b ≤ 7 := ⟨h1, h2, h3, h4⟩
  unfold tn te; rw [if_pos hc, if_pos hc]; exact ⟨hr, rfl⟩
theorem le7 {b : Int} (h4 : (!decide (b ≤ 7)) = false) : b ≤ 7 := by simpa using h4
theorem gt7 {b : Int} (h4 : (!decide (b ≤ 7)) = true) : 7 < b := by simpa using h4
theorem c5 (a b : Int) (w : World) : Calls Tryz.prog 5 #[.int .i64 a, .int .i64 b] w fun e w' => e = .returned (.tuple #[.int .i64 (tn a b), .int .i64 (te a b)]) ∧ w' = w := by
  go_enter Tryz.func5, Tryz.ntmps5
  go_wp2
  all_goals go_ret2
  all_goals refine ⟨?_, rfl⟩
  all_goals simp
  · exact t_out (.inr (.inr (.inr (gt7 ‹_›))))
  · rename_i h1 h2 h3 h4
    have h5' := le7 h4
    rw [m8 h1 h2 h3 h5'] at h ⊢
    refine t_in h1 h2 h3 h4 ?_
    rw [w64 (by split <;> omega) (by split <;> omega)] at h ⊢
    split <;> rename_i hc <;> simp only [hc, if_true, if_false] at h ⊢ <;> split <;> omega
  · rename_i h1 h2 h3 h4
    have h5' := le7 h4
    rw [m8 h1 h2 h3 h5'] at h ⊢
    refine t_in h1 h2 h3 h4 ?_
    rw [w64 (by split <;> omega) (by split <;> omega)] at h
    split <;> rename_i hc <;> simp only [hc, if_true, if_false] at h ⊢ <;> split <;> omega
  · exact t_out (.inr (.inr (.inl ‹_›)))
  · exact t_out (.inr (.inl ‹_›))
  · exact t_out (.inl ‹_›)
theorem c6 (a b : Int) (w : World) : Calls Tryz.prog 6 #[.int .i64 a, .int .i64 b] w fun e w' => e = .returned (.tuple #[.int .i64 (tn a b), .int .i64 (te a b)]) ∧ w' = w := by
  go_enter Tryz.func6, Tryz.ntmps6
  go_wp2
  all_goals go_ret2
  all_goals refine ⟨?_, rfl⟩
  all_goals simp
  all_goals first
    | exact t_out (.inr (.inr (.inr (gt7 ‹_›))))
    | exact t_out (.inr (.inr (.inl ‹_›)))
    | exact t_out (.inr (.inl ‹_›))
    | exact t_out (.inl ‹_›)
    | (rename_i h1 h2 h3 h4 h5
       have h5' := le7 h4
       refine t_in h1 h2 h3 h4 ?_
       have e1 : wrap64 (a - b) = a - b := w64 (by omega) (by omega)
       have e2 : wrap64 (-(a - b)) = -(a - b) := w64 (by omega) (by omega)
       simp only [e1, e2] at h h5 ⊢
       rw [w64 (by split <;> omega) (by split <;> omega)] at h5
       try rw [w64 (by omega) (by omega)]
       split at h5 <;> split <;> split <;> omega)
def octs (x y : Int) : Int := if 0 ≤ y ∧ 0 ≤ x - y then 0 else if 0 ≤ x ∧ x - y ≤ 0 then 1 else if x ≤ 0 ∧ 0 ≤ x + y then 2 else if 0 ≤ y ∧ x + y ≤ 0 then 3 else if y ≤ 0 ∧ x - y ≤ 0 then 4 else if x ≤ 0 ∧ 0 ≤ x - y then 5 else if 0 ≤ x ∧ x + y ≤ 0 then 6 else 7
def octv (x y : Int) : Int := if -131072 ≤ x ∧ x ≤ 131072 ∧ -131072 ≤ y ∧ y ≤ 131072 then octs x y else 0
theorem c8 (x y : Int) (w : World) : Calls Tryz.prog 8 #[.agg #[.int .i64 x, .int .i64 y]] w fun e w' => e = .returned (.int .i64 (octv x y)) ∧ Grown w w' := by
  go_enter Tryz.func8, Tryz.ntmps8
  go_wp2
  all_goals go_ret
  all_goals refine ⟨?_, by repeat (first | exact Grown.refl _ | apply Grown.drew | apply Grown.alloc)⟩
  all_goals simp
  all_goals first
    | (have hy : 131072 < y := by simpa using ‹(!decide (y ≤ 131072)) = true›
       unfold octv; rw [if_neg (by omega)])
    | (have hy : y ≤ 131072 := by simpa using ‹(!decide (y ≤ 131072)) = false›
       have e1 : wrap64 (x - y) = x - y := w64 (by omega) (by omega)
       have e2 : wrap64 (x + y) = x + y := w64 (by omega) (by omega)
       unfold octv octs
       simp only [e1, e2] at *
       repeat (first | rw [if_pos (by omega)] | rw [if_neg (by omega)]))
    | (unfold octv; rw [if_neg (by omega)])
theorem hle {y : Int} (h : (!decide (y ≤ 131072)) = false) : y ≤ 131072 := by simpa using h
theorem hgt {y : Int} (h : (!decide (y ≤ 131072)) = true) : 131072 < y := by simpa using h
theorem idx0 (c0 c1 c2 c3 c4 c5 c6 : Value) (w : World) : (Instr.index 34 (.agg #[c0, c1, c2, c3, c4, c5, c6]) (.int .i64 0)).run Tryz.prog w = .ok c0 w := by kernel_rfl
theorem idx1 (c0 c1 c2 c3 c4 c5 c6 : Value) (w : World) : (Instr.index 34 (.agg #[c0, c1, c2, c3, c4, c5, c6]) (.int .i64 1)).run Tryz.prog w = .ok c1 w := by kernel_rfl
theorem idx2 (c0 c1 c2 c3 c4 c5 c6 : Value) (w : World) : (Instr.index 34 (.agg #[c0, c1, c2, c3, c4, c5, c6]) (.int .i64 2)).run Tryz.prog w = .ok c2 w := by kernel_rfl
theorem idx3 (c0 c1 c2 c3 c4 c5 c6 : Value) (w : World) : (Instr.index 34 (.agg #[c0, c1, c2, c3, c4, c5, c6]) (.int .i64 3)).run Tryz.prog w = .ok c3 w := by kernel_rfl
theorem idx4 (c0 c1 c2 c3 c4 c5 c6 : Value) (w : World) : (Instr.index 34 (.agg #[c0, c1, c2, c3, c4, c5, c6]) (.int .i64 4)).run Tryz.prog w = .ok c4 w := by kernel_rfl
theorem idx5 (c0 c1 c2 c3 c4 c5 c6 : Value) (w : World) : (Instr.index 34 (.agg #[c0, c1, c2, c3, c4, c5, c6]) (.int .i64 5)).run Tryz.prog w = .ok c5 w := by kernel_rfl
theorem idx6 (c0 c1 c2 c3 c4 c5 c6 : Value) (w : World) : (Instr.index 34 (.agg #[c0, c1, c2, c3, c4, c5, c6]) (.int .i64 6)).run Tryz.prog w = .ok c6 w := by kernel_rfl
set_option maxRecDepth 100000 in
set_option maxHeartbeats 40000000 in
theorem c7 (x y : Int) (w : World) : Calls Tryz.prog 7 #[.agg #[.int .i64 x, .int .i64 y]] w fun e w' => e = .returned (.int .i64 (octv x y)) ∧ Grown w w' := by
  go_enter Tryz.func7, Tryz.ntmps7
  go_wp2
  rotate_left 1
  · have hy := hle ‹_›
    have e1 : wrap64 (x - y) = x - y := w64 (by omega) (by omega)
    have e2 : wrap64 (x + y) = x + y := w64 (by omega) (by omega)
    go_region
    go_wp2
    all_goals (have i0 := idx0; have i1 := idx1; have i2 := idx2; have i3 := idx3; have i4 := idx4; have i5 := idx5; have i6 := idx6; go_rounds 8)
    all_goals go_ret
    all_goals refine ⟨?_, by repeat (first | exact Grown.refl _ | apply Grown.drew | apply Grown.alloc)⟩
    all_goals simp
    all_goals (unfold octv octs; repeat (first | rw [if_pos (by omega)] | rw [if_neg (by omega)]))
  all_goals go_ret
  all_goals refine ⟨?_, by repeat (first | exact Grown.refl _ | apply Grown.drew | apply Grown.alloc)⟩
  all_goals simp
  all_goals first
    | (have hy := hgt ‹_›
       unfold octv; rw [if_neg (by omega)])
    | (unfold octv; rw [if_neg (by omega)])
end Go.Proofs.YtkkcpebemcbomaaGreat.octants
