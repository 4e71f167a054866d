/-
  Part of the proof of CourseRounds: what functions of the program and of the statement come to, walked by the rules. No condition beyond those in each theorem.
-/
import Derived.Test.YtgipddabhcmgjaaWA
import Derived.Test.YtgipddabhcmgjaaPvD
import Derived.Test.YtgipddabhcmgjaaSA
import Derived.Test.YtgipddabhcmgjaaWB
section
open Go PvL Go.Proofs
set_option linter.unusedVariables false
set_option linter.unusedSimpArgs false
namespace Go.Proofs.Ytgipddabhcmgjaa.C
/-- the cells of a hull -/
abbrev hullc (o : Option Rg) : List LV := [I (o.getD zRg).1.1, I (o.getD zRg).1.2, I (o.getD zRg).2.1.1, I (o.getD zRg).2.1.2, I (o.getD zRg).2.2.1.1, I (o.getD zRg).2.2.1.2, I (o.getD zRg).2.2.2.1, I (o.getD zRg).2.2.2.2, .bool o.isSome]
end Go.Proofs.Ytgipddabhcmgjaa.C
end
section
open Go PvL Go.Proofs
set_option linter.unusedVariables false
set_option linter.unusedSimpArgs false
namespace Go.Proofs.Ytgipddabhcmgjaa.C
theorem rowAt_sm {r : Rg} (hr : Sm 400000 r) {k : Nat} (hk : k < rowsN r) : SmP 1000000 (r.1.1 + (k : Int), (rowOf r (r.1.1 + (k : Int))).2.1) ∧ SmP 1000000 (r.1.1 + (k : Int), (rowOf r (r.1.1 + (k : Int))).2.2) := by
  unfold rowsN at hk
  have := row_sm hr (x := r.1.1 + (k : Int)) (by omega) (by omega)
  have e : (rowOf r (r.1.1 + (k : Int))).1 = r.1.1 + (k : Int) := rfl
  unfold SmP
  dsimp only
  omega
end Go.Proofs.Ytgipddabhcmgjaa.C
end
section
open Go PvL Go.Proofs
set_option linter.unusedVariables false
set_option linter.unusedSimpArgs false
namespace Go.Proofs.Ytgipddabhcmgjaa.C
theorem hstep_none (p : Pt) : hstep none p = some (ofP p) := by
  unfold hstep map4 spanB ofP iMin iMax
  dsimp only [Option.getD]
  have h1 : ∀ x : Int, min x x = x := fun x => by omega
  have h2 : ∀ x : Int, max x x = x := fun x => by omega
  simp only [h1, h2]
/-- a row cut by a side -/
def leftF (t : Int × Int × Int) (q : Pt × Pt) : Int × Int × Int := (t.1, (clip1 t.1 (t.2.1, t.2.2) q).1, (clip1 t.1 (t.2.1, t.2.2) q).2)
end Go.Proofs.Ytgipddabhcmgjaa.C
end
section
open Go PvL Go.Proofs
set_option linter.unusedVariables false
set_option linter.unusedSimpArgs false
namespace Go.Proofs.Ytgipddabhcmgjaa.C
/-! roots -/
def pw (j : Nat) : Int := ((2 ^ j : Nat) : Int)
theorem pw_succ (j : Nat) : pw (j + 1) = 2 * pw j := by unfold pw; rw [Nat.pow_succ]; omega
theorem pw_pos (j : Nat) : 0 < pw j := by unfold pw; have : 0 < 2 ^ j := Nat.pow_pos (by omega); omega
theorem pw_le {j k : Nat} (h : j ≤ k) : pw j ≤ pw k := by unfold pw; have := Nat.pow_le_pow_right (n := 2) (by omega) h; omega
def p2 : Nat → Int | 0 => 0 | j + 1 => pw j
theorem p2_half (j : Nat) : p2 (j + 1) / 2 = p2 j := by
  cases j with
  | zero => decide
  | succ j => show pw (j + 1) / 2 = pw j; rw [pw_succ]; omega
set_option maxHeartbeats 1000000 in
theorem c_root (n : Int) (hn : 0 ≤ n ∧ n ≤ 1099511627776) (M : Mem) : CallOk Try.prog 52 [I n] M (fun w M' => w = I (sqF n) ∧ M' = M) := by
  refine call_in k52 rfl ?_
  dsimp only [x52, zipE, Nat.reduceAdd]
  (repeat' (first | (with_reducible intro _) | refine sv ?_ | (refine sc ?_ ?_ <;> (intro h; try first | exact h.elim | exact absurd rfl h | (exfalso; omega))) | (refine sg ?_ ?_ <;> (intro h; (fail_if_success (have : True := h)); try first | exact h.elim | exact absurd rfl h | (exfalso; omega))) | assumption | exact xm | exact rfl))
  refine w_loop_ind (fun m E ms M' => ∃ (j : Nat) (r : Int), m = j ∧ j ≤ 21 ∧ ms = [] ∧ Has E [(0, I n), (3, I r), (4, I (p2 j))] ∧ M' = M ∧ 0 ≤ r ∧ r ≤ 1048576 ∧ r * r ≤ n ∧ n < (r + pw j) * (r + pw j)) ?_ 21 _ _ _
    ⟨21, 0, rfl, by omega, rfl, .cons rfl (.cons rfl (.cons rfl .nil)), rfl, by omega, by omega, by omega, ?_⟩
  rotate_left
  · rw [show pw 21 = 2097152 from rfl]; omega
  rintro j E ms M1 ⟨_, r, rfl, hj, rfl, hE, rfl, h0, hr, h1, h2⟩
  refine w_has hE ?_
  cases j with
  | zero =>
    rw [show pw 0 = 1 from rfl] at h2
    rw [show p2 0 = 0 from rfl]
    (repeat' (first | (with_reducible intro _) | refine sv ?_ | (refine sc ?_ ?_ <;> (intro h; try first | exact h.elim | exact absurd rfl h | (exfalso; omega))) | (refine sg ?_ ?_ <;> (intro h; (fail_if_success (have : True := h)); try first | exact h.elim | exact absurd rfl h | (exfalso; omega))) | assumption | exact xm | exact rfl))
    ((with_reducible first | apply k_fun | apply k_fun_norm); exact rx)
    exact ⟨congrArg I (sqF_uniq h0 h1 h2), rfl⟩
  | succ j =>
    have hh := p2_half j
    have hpj := pw_pos j
    have hle : pw j ≤ 1048576 := pw_le (k := 20) (by omega)
    have hs := pw_succ j
    rw [hs] at h2
    rw [show p2 (j + 1) = pw j from rfl] at hh ⊢
    have hb := mul_bd (a := r + pw j) (b := r + pw j) (A := 2097152) (B := 2097152) (by omega) (by omega)
    have e2 : r + pw j + pw j = r + 2 * pw j := by omega
    (repeat' (first | (with_reducible intro _) | refine sv ?_ | (refine sc ?_ ?_ <;> (intro h; try first | exact h.elim | exact absurd rfl h | (exfalso; omega))) | (refine sg ?_ ?_ <;> (intro h; (fail_if_success (have : True := h)); try first | exact h.elim | exact absurd rfl h | (exfalso; omega))) | assumption | exact xm | exact rfl))
    · refine k_step j (by omega) ⟨j, r + pw j, rfl, by omega, rfl, .cons rfl (.cons rfl (.cons (by rw [← hh]; rfl) .nil)), rfl, by omega, ?_, by assumption, by rw [e2]; exact h2⟩
      have := sq_lt (a := r + pw j) (b := 1048577) (by omega) (by omega)
      omega
    · exact k_step j (by omega) ⟨j, r, rfl, by omega, rfl, .cons rfl (.cons rfl (.cons (by rw [← hh]; rfl) .nil)), rfl, h0, hr, h1, by assumption⟩
def rootE (n : Int) : Int := if 0 ≤ n ∧ n ≤ 1099511627776 then 0 else 7
theorem c_Root (n : Int) (hn : 0 ≤ n ∧ n ≤ 1099511627776) (M : Mem) : CallOk Try.prog 25 [I n] M (fun w M' => w = .tup [I (sqF n), I 0] ∧ M' = M) := by
  refine call_in k25 rfl ?_
  dsimp only [x25, zipE, Nat.reduceAdd]
  (repeat' (first | (with_reducible intro _) | refine sv ?_ | (refine sc ?_ ?_ <;> (intro h; try first | exact h.elim | exact absurd rfl h | (exfalso; omega))) | ((with_reducible first | apply x_same | apply d_same); exact gd; exact rfl; exact rfl; (first | exact c_rwithin _ _ _ _ | exact c_root _ hn _)) | (refine sg ?_ ?_ <;> (intro h; (fail_if_success (have : True := h)); try first | exact h.elim | exact absurd rfl h | (exfalso; omega))) | assumption | exact xm | exact rfl))
  ((with_reducible first | apply k_fun | apply k_fun_norm); exact rx)
  exact ⟨rfl, rfl⟩
end Go.Proofs.Ytgipddabhcmgjaa.C
end
section
open Go PvL Go.Proofs
set_option linter.unusedVariables false
set_option linter.unusedSimpArgs false
namespace Go.Proofs.Ytgipddabhcmgjaa.C
theorem clip1_bd {x : Int} {t : Int × Int} {q : Pt × Pt} (hx : -32768 ≤ x ∧ x ≤ 32768) (h1 : PlP q.1) (h2 : PlP q.2) (ht : -6442450944 ≤ t.1 ∧ t.1 ≤ 6442450944) : -6442450944 ≤ (clip1 x t q).1 ∧ (clip1 x t q).1 ≤ 6442450944 := by
  obtain ⟨b1, b2, b3, b4⟩ := side_bd hx h1 h2
  unfold clip1
  split
  · rename_i hk
    have := fdiv_bd (a := -(sideN x q)) (b := sideK q) (B := 6442450944) (by omega) (by omega)
    rw [fdiv_pos hk] at this
    unfold iMax
    dsimp only
    omega
  · split
    · exact ht
    · split
      · exact ht
      · exact ht
theorem clips_bd {x : Int} (hx : -32768 ≤ x ∧ x ≤ 32768) : ∀ (qs : List (Pt × Pt)) (t : Int × Int), (∀ q ∈ qs, PlP q.1 ∧ PlP q.2) → (-6442450944 ≤ t.1 ∧ t.1 ≤ 6442450944) → -6442450944 ≤ (clips x t qs).1 ∧ (clips x t qs).1 ≤ 6442450944
  | [], t, _, h => h
  | q :: qs, t, hq, h => clips_bd hx qs (clip1 x t q) (fun q' h' => hq q' (List.mem_cons_of_mem _ h')) (clip1_bd hx (hq q List.mem_cons_self).1 (hq q List.mem_cons_self).2 h)
end Go.Proofs.Ytgipddabhcmgjaa.C
end
section
open Go PvL Go.Proofs
set_option linter.unusedVariables false
set_option linter.unusedSimpArgs false
namespace Go.Proofs.Ytgipddabhcmgjaa.C
set_option maxHeartbeats 1000000 in
theorem c_windows {a : Option (Nat × Nat)} {f : Bool} {l : List Bd} {M : Mem} (hl : SlA 2 bdc M a l) (hlen : l.length ≤ 1000000000000000) : CallOk Try.prog 83 [.slice a l.length f 2] M (fun w M' => w = .bool (winB l) ∧ Grow M M') := by
  refine call_in k83 rfl ?_
  dsimp only [x83, zipE, Nat.reduceAdd]
  (repeat' (first | (with_reducible intro _) | refine sv ?_ | (refine sc ?_ ?_ <;> (intro h; try first | exact h.elim | exact absurd rfl h | (exfalso; omega))) | (refine sg ?_ ?_ <;> (intro h; (fail_if_success (have : True := h)); try first | exact h.elim | exact absurd rfl h | (exfalso; omega))) | assumption | exact xm | exact rfl))
  refine w_loop_ind (fun n E ms M' => ∃ k : Nat, n = l.length - k ∧ k ≤ l.length ∧ ms = [] ∧ Has E [(0, .slice a l.length f 2), (5, .slice a l.length f 2), (6, I l.length), (7, I k)] ∧ Grow M M' ∧ ∀ j, j < k → winAt l j)
    ?_ l.length _ _ _ ⟨0, by omega, by omega, rfl, .cons rfl (.cons rfl (.cons rfl (.cons rfl .nil))), xg, fun j hj => absurd hj (Nat.not_lt_zero _)⟩
  rintro n E ms M1 ⟨k, rfl, hk, rfl, hE, hg, hall⟩
  have hle := hg.le
  refine w_has hE ?_
  by_cases hlast : k = l.length
  · subst hlast
    (repeat' (first | (with_reducible intro _) | refine sv ?_ | (refine sc ?_ ?_ <;> (intro h; try first | exact h.elim | exact absurd rfl h | (exfalso; omega))) | (refine sg ?_ ?_ <;> (intro h; (fail_if_success (have : True := h)); try first | exact h.elim | exact absurd rfl h | (exfalso; omega))) | assumption | exact xm | exact rfl))
    ((with_reducible first | apply k_fun | apply k_fun_norm); exact rx)
    refine ⟨?_, xg⟩
    by_cases h4 : l.length ≤ 4
    · rw [winB_t (win_iff.2 ⟨h4, hall⟩)]
      exact congrArg LV.bool (decide_eq_true (by omega))
    · rw [winB_f (fun hh => h4 (win_iff.1 hh).1)]
      exact congrArg LV.bool (decide_eq_false (by omega))
  have hlt : k < l.length := by omega
  obtain ⟨i, o, rfl, hr⟩ := hl.resolve_left (fun h => by subst h; simp at hlt)
  have hr0 : Rd M1 i (o + k * 2) 2 (bdc l[k]) := (hr k hlt).grow hg
  have hno : ¬ winAt l k → winB l = false := fun h => winB_f fun hh => h ((win_iff.1 hh).2 k hlt)
  have hyes : winAt l k → ∀ j, j < k + 1 → winAt l j := fun h j hj => by
    by_cases hjk : j = k
    · subst hjk; exact h
    · exact hall j (by omega)
  unfold winAt at hno hyes
  rw [getD_eq hlt] at hno hyes
  have hat := hr0.2
  by_cases hk0 : k = 0
  · subst hk0
    (have hrd0 := hr0; repeat' (first | (with_reducible intro _) | refine sv ?_ | (refine sc ?_ ?_ <;> (intro h; try first | exact h.elim | exact absurd rfl h | (exfalso; omega))) | ((with_reducible first | apply x_same | apply d_same); exact gd; exact rfl; exact rfl; (first | exact c_within _ _ _ _)) | (refine sg ?_ ?_ <;> (intro h; (fail_if_success (have : True := h)); try first | exact h.elim | exact absurd rfl h | (exfalso; omega))) | assumption | exact xm | exact rfl))
    all_goals first
      | (refine k_step (l.length - (0 + 1)) (by omega) ⟨0 + 1, rfl, by omega, rfl, .cons rfl (.cons rfl (.cons rfl (.cons rfl .nil))), xg, hyes (by omega)⟩; done)
      | (((with_reducible first | apply k_fun | apply k_fun_norm); exact rx)
         refine ⟨?_, xg⟩
         rw [hno (by omega)]; rfl)
  · have hlt1 : k - 1 < l.length := by omega
    have hr1 : Rd M1 i (o + (k - 1) * 2) 2 (bdc l[k - 1]) := (hr (k - 1) hlt1).grow hg
    have hr1' : Rd1 M1 i (o + ((k : Int) - 1).toNat * 2 + 1) (I (l[k - 1]'hlt1).2) := by
      rw [show ((k : Int) - 1).toNat = k - 1 by omega]; exact hr1.nth rfl
    rw [getD_eq hlt1] at hno hyes
    (have hrd0 := hr0; have hrd1 := hr1'; repeat' (first | (with_reducible intro _) | refine sv ?_ | (refine sc ?_ ?_ <;> (intro h; try first | exact h.elim | exact absurd rfl h | (exfalso; omega))) | ((with_reducible first | apply x_same | apply d_same); exact gd; exact rfl; exact rfl; (first | exact c_within _ _ _ _)) | (refine sg ?_ ?_ <;> (intro h; (fail_if_success (have : True := h)); try first | exact h.elim | exact absurd rfl h | (exfalso; omega))) | assumption | exact xm | exact rfl))
    all_goals first
      | (refine k_step (l.length - (k + 1)) (by omega) ⟨k + 1, rfl, by omega, rfl, .cons rfl (.cons rfl (.cons rfl (.cons rfl .nil))), xg, hyes (by omega)⟩; done)
      | (((with_reducible first | apply k_fun | apply k_fun_norm); exact rx)
         refine ⟨?_, xg⟩
         rw [hno (by omega)]; rfl)
end Go.Proofs.Ytgipddabhcmgjaa.C
end
section
open Go PvL Go.Proofs
set_option linter.unusedVariables false
set_option linter.unusedSimpArgs false
namespace Go.Proofs.Ytgipddabhcmgjaa.C
/-- slices.ContainsFunc over elements of one cell: f over the k-th element says p k -/
theorem anyR_iff {n : Nat} {p : Nat → Bool} : (List.range n).any p = true ↔ ∃ k, k < n ∧ p k = true := by
  rw [List.any_eq_true]
  exact ⟨fun ⟨k, h1, h2⟩ => ⟨k, List.mem_range.1 h1, h2⟩, fun ⟨k, h1, h2⟩ => ⟨k, List.mem_range.2 h1, h2⟩⟩
set_option maxHeartbeats 1000000 in
theorem c_IndexFunc_sPt {a : Option (Nat × Nat)} {n : Nat} {f : Bool} {e : Nat} {g : FuncId} {fi ca : List LV} {M : Mem} (elem : Nat → LV) (p : Nat → Bool) (hn : n ≤ 1000000000000000)
    (hread : ∀ k, k < n → ∃ i o, a = some (i, o) ∧ Rd1 M i (o + k * 1) (elem k)) (hp : ∀ k, k < n → ∀ M', Grow M M' → CallOk Try.prog g (fi ++ [elem k] ++ ca) M' (fun w M'' => w = .bool (p k) ∧ Grow M' M'')) :
    CallOk Try.prog 74 [.slice a n f e, .func (.func g) fi ca] M (fun w M' => ∃ r : Int, w = I r ∧ (0 ≤ r ↔ (List.range n).any p = true) ∧ Grow M M') := by
  refine call_in k74 rfl ?_
  dsimp only [x74, zipE, Nat.reduceAdd]
  (repeat' (first | (with_reducible intro _) | refine sv ?_ | (refine sc ?_ ?_ <;> (intro h; try first | exact h.elim | exact absurd rfl h | (exfalso; omega))) | (refine sg ?_ ?_ <;> (intro h; (fail_if_success (have : True := h)); try first | exact h.elim | exact absurd rfl h | (exfalso; omega))) | assumption | exact xm | exact rfl))
  refine w_loop_ind (fun m E ms M' => ∃ k : Nat, m = n - k ∧ k ≤ n ∧ ms = [] ∧ Has E [(0, .slice a n f e), (1, .func (.func g) fi ca), (7, I n), (8, I k)] ∧ Grow M M' ∧ ∀ j, j < k → p j = false)
    ?_ n _ _ _ ⟨0, by omega, by omega, rfl, .cons rfl (.cons rfl (.cons rfl (.cons rfl .nil))), xg, fun j hj => absurd hj (Nat.not_lt_zero _)⟩
  rintro m E ms M1 ⟨k, rfl, hk, rfl, hE, hg, hall⟩
  have hle := hg.le
  refine w_has hE ?_
  by_cases hlast : k = n
  · subst hlast
    (repeat' (first | (with_reducible intro _) | refine sv ?_ | (refine sc ?_ ?_ <;> (intro h; try first | exact h.elim | exact absurd rfl h | (exfalso; omega))) | (refine sg ?_ ?_ <;> (intro h; (fail_if_success (have : True := h)); try first | exact h.elim | exact absurd rfl h | (exfalso; omega))) | assumption | exact xm | exact rfl))
    ((with_reducible first | apply k_fun | apply k_fun_norm); exact rx)
    refine ⟨-1, rfl, ?_, xg⟩
    rw [anyR_iff]
    exact ⟨fun h => by omega, fun ⟨j, h1, h2⟩ => by rw [hall j h1] at h2; cases h2⟩
  have hlt : k < n := by omega
  obtain ⟨i, o, rfl, hr⟩ := hread k hlt
  have hr0 := hr.grow hg
  have hc := hp k hlt M1 hg
  cases hpk : p k with
  | true =>
    rw [hpk] at hc
    (have hrd0 := hr0; repeat' (first | (with_reducible intro _) | refine sv ?_ | (refine sc ?_ ?_ <;> (intro h; try first | exact h.elim | exact absurd rfl h | (exfalso; omega))) | ((with_reducible first | apply x_pure | apply d_pure); exact gd; exact rfl; exact rfl; (first | exact hc)) | (refine sg ?_ ?_ <;> (intro h; (fail_if_success (have : True := h)); try first | exact h.elim | exact absurd rfl h | (exfalso; omega))) | assumption | exact xm | exact rfl))
    ((with_reducible first | apply k_fun | apply k_fun_norm); exact rx)
    refine ⟨k, rfl, ?_, xg⟩
    rw [anyR_iff]
    exact ⟨fun _ => ⟨k, hlt, hpk⟩, fun _ => by omega⟩
  | false =>
    rw [hpk] at hc
    (have hrd0 := hr0; repeat' (first | (with_reducible intro _) | refine sv ?_ | (refine sc ?_ ?_ <;> (intro h; try first | exact h.elim | exact absurd rfl h | (exfalso; omega))) | ((with_reducible first | apply x_pure | apply d_pure); exact gd; exact rfl; exact rfl; (first | exact hc)) | (refine sg ?_ ?_ <;> (intro h; (fail_if_success (have : True := h)); try first | exact h.elim | exact absurd rfl h | (exfalso; omega))) | assumption | exact xm | exact rfl))
    refine k_step (n - (k + 1)) (by omega) ⟨k + 1, rfl, by omega, rfl, .cons rfl (.cons rfl (.cons rfl (.cons rfl .nil))), xg, fun j hj => ?_⟩
    by_cases hjk : j = k
    · subst hjk; exact hpk
    · exact hall j (by omega)
theorem c_ContainsFunc_sPt {a : Option (Nat × Nat)} {n : Nat} {f : Bool} {e : Nat} {g : FuncId} {fi ca : List LV} {M : Mem} (elem : Nat → LV) (p : Nat → Bool) (hn : n ≤ 1000000000000000)
    (hread : ∀ k, k < n → ∃ i o, a = some (i, o) ∧ Rd1 M i (o + k * 1) (elem k)) (hp : ∀ k, k < n → ∀ M', Grow M M' → CallOk Try.prog g (fi ++ [elem k] ++ ca) M' (fun w M'' => w = .bool (p k) ∧ Grow M' M'')) :
    CallOk Try.prog 60 [.slice a n f e, .func (.func g) fi ca] M (fun w M' => w = .bool ((List.range n).any p) ∧ Grow M M') := by
  refine call_in k60 rfl ?_
  dsimp only [x60, zipE, Nat.reduceAdd]
  have hc := c_IndexFunc_sPt (f := f) (e := e) elem p hn hread hp
  (repeat' (first | (with_reducible intro _) | refine sv ?_ | (refine sc ?_ ?_ <;> (intro h; try first | exact h.elim | exact absurd rfl h | (exfalso; omega))) | ((with_reducible first | apply x_call | apply d_call | apply x_call0); exact gd; exact rfl; exact rfl; (first | exact hc)) | (refine sg ?_ ?_ <;> (intro h; (fail_if_success (have : True := h)); try first | exact h.elim | exact absurd rfl h | (exfalso; omega))) | assumption | exact xm | exact rfl))
  rename_i hq
  obtain ⟨r, rfl, hr, hg⟩ := hq
  (repeat' (first | (with_reducible intro _) | refine sv ?_ | (refine sc ?_ ?_ <;> (intro h; try first | exact h.elim | exact absurd rfl h | (exfalso; omega))) | (refine sg ?_ ?_ <;> (intro h; (fail_if_success (have : True := h)); try first | exact h.elim | exact absurd rfl h | (exfalso; omega))) | assumption | exact xm | exact rfl))
  ((with_reducible first | apply k_fun | apply k_fun_norm); exact rx)
  refine ⟨?_, hg⟩
  exact congrArg LV.bool (by rw [Bool.eq_iff_iff, decide_eq_true_iff]; exact hr)
set_option maxHeartbeats 1000000 in
theorem c_IndexFunc_Pt {a : Option (Nat × Nat)} {n : Nat} {f : Bool} {e : Nat} {g : FuncId} {fi ca : List LV} {M : Mem} (elem : Nat → List LV) (p : Nat → Bool) (hn : n ≤ 1000000000000000)
    (hread : ∀ k, k < n → ∃ i o, a = some (i, o) ∧ Rd M i (o + k * 2) 2 (elem k)) (hp : ∀ k, k < n → ∀ M', Grow M M' → CallOk Try.prog g (fi ++ [.agg (elem k)] ++ ca) M' (fun w M'' => w = .bool (p k) ∧ Grow M' M'')) :
    CallOk Try.prog 100 [.slice a n f e, .func (.func g) fi ca] M (fun w M' => ∃ r : Int, w = I r ∧ (0 ≤ r ↔ (List.range n).any p = true) ∧ Grow M M') := by
  refine call_in k100 rfl ?_
  dsimp only [x100, zipE, Nat.reduceAdd]
  (repeat' (first | (with_reducible intro _) | refine sv ?_ | (refine sc ?_ ?_ <;> (intro h; try first | exact h.elim | exact absurd rfl h | (exfalso; omega))) | (refine sg ?_ ?_ <;> (intro h; (fail_if_success (have : True := h)); try first | exact h.elim | exact absurd rfl h | (exfalso; omega))) | assumption | exact xm | exact rfl))
  refine w_loop_ind (fun m E ms M' => ∃ k : Nat, m = n - k ∧ k ≤ n ∧ ms = [] ∧ Has E [(0, .slice a n f e), (1, .func (.func g) fi ca), (7, I n), (8, I k)] ∧ Grow M M' ∧ ∀ j, j < k → p j = false)
    ?_ n _ _ _ ⟨0, by omega, by omega, rfl, .cons rfl (.cons rfl (.cons rfl (.cons rfl .nil))), xg, fun j hj => absurd hj (Nat.not_lt_zero _)⟩
  rintro m E ms M1 ⟨k, rfl, hk, rfl, hE, hg, hall⟩
  have hle := hg.le
  refine w_has hE ?_
  by_cases hlast : k = n
  · subst hlast
    (repeat' (first | (with_reducible intro _) | refine sv ?_ | (refine sc ?_ ?_ <;> (intro h; try first | exact h.elim | exact absurd rfl h | (exfalso; omega))) | (refine sg ?_ ?_ <;> (intro h; (fail_if_success (have : True := h)); try first | exact h.elim | exact absurd rfl h | (exfalso; omega))) | assumption | exact xm | exact rfl))
    ((with_reducible first | apply k_fun | apply k_fun_norm); exact rx)
    refine ⟨-1, rfl, ?_, xg⟩
    rw [anyR_iff]
    exact ⟨fun h => by omega, fun ⟨j, h1, h2⟩ => by rw [hall j h1] at h2; cases h2⟩
  have hlt : k < n := by omega
  obtain ⟨i, o, rfl, hr⟩ := hread k hlt
  have hr0 := hr.grow hg
  have hc := hp k hlt M1 hg
  cases hpk : p k with
  | true =>
    rw [hpk] at hc
    (have hrd0 := hr0; repeat' (first | (with_reducible intro _) | refine sv ?_ | (refine sc ?_ ?_ <;> (intro h; try first | exact h.elim | exact absurd rfl h | (exfalso; omega))) | ((with_reducible first | apply x_pure | apply d_pure); exact gd; exact rfl; exact rfl; (first | exact hc)) | (refine sg ?_ ?_ <;> (intro h; (fail_if_success (have : True := h)); try first | exact h.elim | exact absurd rfl h | (exfalso; omega))) | assumption | exact xm | exact rfl))
    ((with_reducible first | apply k_fun | apply k_fun_norm); exact rx)
    refine ⟨k, rfl, ?_, xg⟩
    rw [anyR_iff]
    exact ⟨fun _ => ⟨k, hlt, hpk⟩, fun _ => by omega⟩
  | false =>
    rw [hpk] at hc
    (have hrd0 := hr0; repeat' (first | (with_reducible intro _) | refine sv ?_ | (refine sc ?_ ?_ <;> (intro h; try first | exact h.elim | exact absurd rfl h | (exfalso; omega))) | ((with_reducible first | apply x_pure | apply d_pure); exact gd; exact rfl; exact rfl; (first | exact hc)) | (refine sg ?_ ?_ <;> (intro h; (fail_if_success (have : True := h)); try first | exact h.elim | exact absurd rfl h | (exfalso; omega))) | assumption | exact xm | exact rfl))
    refine k_step (n - (k + 1)) (by omega) ⟨k + 1, rfl, by omega, rfl, .cons rfl (.cons rfl (.cons rfl (.cons rfl .nil))), xg, fun j hj => ?_⟩
    by_cases hjk : j = k
    · subst hjk; exact hpk
    · exact hall j (by omega)
theorem c_ContainsFunc_Pt {a : Option (Nat × Nat)} {n : Nat} {f : Bool} {e : Nat} {g : FuncId} {fi ca : List LV} {M : Mem} (elem : Nat → List LV) (p : Nat → Bool) (hn : n ≤ 1000000000000000)
    (hread : ∀ k, k < n → ∃ i o, a = some (i, o) ∧ Rd M i (o + k * 2) 2 (elem k)) (hp : ∀ k, k < n → ∀ M', Grow M M' → CallOk Try.prog g (fi ++ [.agg (elem k)] ++ ca) M' (fun w M'' => w = .bool (p k) ∧ Grow M' M'')) :
    CallOk Try.prog 85 [.slice a n f e, .func (.func g) fi ca] M (fun w M' => w = .bool ((List.range n).any p) ∧ Grow M M') := by
  refine call_in k85 rfl ?_
  dsimp only [x85, zipE, Nat.reduceAdd]
  have hc := c_IndexFunc_Pt (f := f) (e := e) elem p hn hread hp
  (repeat' (first | (with_reducible intro _) | refine sv ?_ | (refine sc ?_ ?_ <;> (intro h; try first | exact h.elim | exact absurd rfl h | (exfalso; omega))) | ((with_reducible first | apply x_call | apply d_call | apply x_call0); exact gd; exact rfl; exact rfl; (first | exact hc)) | (refine sg ?_ ?_ <;> (intro h; (fail_if_success (have : True := h)); try first | exact h.elim | exact absurd rfl h | (exfalso; omega))) | assumption | exact xm | exact rfl))
  rename_i hq
  obtain ⟨r, rfl, hr, hg⟩ := hq
  (repeat' (first | (with_reducible intro _) | refine sv ?_ | (refine sc ?_ ?_ <;> (intro h; try first | exact h.elim | exact absurd rfl h | (exfalso; omega))) | (refine sg ?_ ?_ <;> (intro h; (fail_if_success (have : True := h)); try first | exact h.elim | exact absurd rfl h | (exfalso; omega))) | assumption | exact xm | exact rfl))
  ((with_reducible first | apply k_fun | apply k_fun_norm); exact rx)
  refine ⟨?_, hg⟩
  exact congrArg LV.bool (by rw [Bool.eq_iff_iff, decide_eq_true_iff]; exact hr)
set_option maxHeartbeats 1000000 in
theorem c_IndexFunc_int {a : Option (Nat × Nat)} {n : Nat} {f : Bool} {e : Nat} {g : FuncId} {fi ca : List LV} {M : Mem} (elem : Nat → LV) (p : Nat → Bool) (hn : n ≤ 1000000000000000)
    (hread : ∀ k, k < n → ∃ i o, a = some (i, o) ∧ Rd1 M i (o + k * 1) (elem k)) (hp : ∀ k, k < n → ∀ M', Grow M M' → CallOk Try.prog g (fi ++ [elem k] ++ ca) M' (fun w M'' => w = .bool (p k) ∧ Grow M' M'')) :
    CallOk Try.prog 56 [.slice a n f e, .func (.func g) fi ca] M (fun w M' => ∃ r : Int, w = I r ∧ (0 ≤ r ↔ (List.range n).any p = true) ∧ Grow M M') := by
  refine call_in k56 rfl ?_
  dsimp only [x56, zipE, Nat.reduceAdd]
  (repeat' (first | (with_reducible intro _) | refine sv ?_ | (refine sc ?_ ?_ <;> (intro h; try first | exact h.elim | exact absurd rfl h | (exfalso; omega))) | (refine sg ?_ ?_ <;> (intro h; (fail_if_success (have : True := h)); try first | exact h.elim | exact absurd rfl h | (exfalso; omega))) | assumption | exact xm | exact rfl))
  refine w_loop_ind (fun m E ms M' => ∃ k : Nat, m = n - k ∧ k ≤ n ∧ ms = [] ∧ Has E [(0, .slice a n f e), (1, .func (.func g) fi ca), (7, I n), (8, I k)] ∧ Grow M M' ∧ ∀ j, j < k → p j = false)
    ?_ n _ _ _ ⟨0, by omega, by omega, rfl, .cons rfl (.cons rfl (.cons rfl (.cons rfl .nil))), xg, fun j hj => absurd hj (Nat.not_lt_zero _)⟩
  rintro m E ms M1 ⟨k, rfl, hk, rfl, hE, hg, hall⟩
  have hle := hg.le
  refine w_has hE ?_
  by_cases hlast : k = n
  · subst hlast
    (repeat' (first | (with_reducible intro _) | refine sv ?_ | (refine sc ?_ ?_ <;> (intro h; try first | exact h.elim | exact absurd rfl h | (exfalso; omega))) | (refine sg ?_ ?_ <;> (intro h; (fail_if_success (have : True := h)); try first | exact h.elim | exact absurd rfl h | (exfalso; omega))) | assumption | exact xm | exact rfl))
    ((with_reducible first | apply k_fun | apply k_fun_norm); exact rx)
    refine ⟨-1, rfl, ?_, xg⟩
    rw [anyR_iff]
    exact ⟨fun h => by omega, fun ⟨j, h1, h2⟩ => by rw [hall j h1] at h2; cases h2⟩
  have hlt : k < n := by omega
  obtain ⟨i, o, rfl, hr⟩ := hread k hlt
  have hr0 := hr.grow hg
  have hc := hp k hlt M1 hg
  cases hpk : p k with
  | true =>
    rw [hpk] at hc
    (have hrd0 := hr0; repeat' (first | (with_reducible intro _) | refine sv ?_ | (refine sc ?_ ?_ <;> (intro h; try first | exact h.elim | exact absurd rfl h | (exfalso; omega))) | ((with_reducible first | apply x_pure | apply d_pure); exact gd; exact rfl; exact rfl; (first | exact hc)) | (refine sg ?_ ?_ <;> (intro h; (fail_if_success (have : True := h)); try first | exact h.elim | exact absurd rfl h | (exfalso; omega))) | assumption | exact xm | exact rfl))
    ((with_reducible first | apply k_fun | apply k_fun_norm); exact rx)
    refine ⟨k, rfl, ?_, xg⟩
    rw [anyR_iff]
    exact ⟨fun _ => ⟨k, hlt, hpk⟩, fun _ => by omega⟩
  | false =>
    rw [hpk] at hc
    (have hrd0 := hr0; repeat' (first | (with_reducible intro _) | refine sv ?_ | (refine sc ?_ ?_ <;> (intro h; try first | exact h.elim | exact absurd rfl h | (exfalso; omega))) | ((with_reducible first | apply x_pure | apply d_pure); exact gd; exact rfl; exact rfl; (first | exact hc)) | (refine sg ?_ ?_ <;> (intro h; (fail_if_success (have : True := h)); try first | exact h.elim | exact absurd rfl h | (exfalso; omega))) | assumption | exact xm | exact rfl))
    refine k_step (n - (k + 1)) (by omega) ⟨k + 1, rfl, by omega, rfl, .cons rfl (.cons rfl (.cons rfl (.cons rfl .nil))), xg, fun j hj => ?_⟩
    by_cases hjk : j = k
    · subst hjk; exact hpk
    · exact hall j (by omega)
theorem c_ContainsFunc_int {a : Option (Nat × Nat)} {n : Nat} {f : Bool} {e : Nat} {g : FuncId} {fi ca : List LV} {M : Mem} (elem : Nat → LV) (p : Nat → Bool) (hn : n ≤ 1000000000000000)
    (hread : ∀ k, k < n → ∃ i o, a = some (i, o) ∧ Rd1 M i (o + k * 1) (elem k)) (hp : ∀ k, k < n → ∀ M', Grow M M' → CallOk Try.prog g (fi ++ [elem k] ++ ca) M' (fun w M'' => w = .bool (p k) ∧ Grow M' M'')) :
    CallOk Try.prog 39 [.slice a n f e, .func (.func g) fi ca] M (fun w M' => w = .bool ((List.range n).any p) ∧ Grow M M') := by
  refine call_in k39 rfl ?_
  dsimp only [x39, zipE, Nat.reduceAdd]
  have hc := c_IndexFunc_int (f := f) (e := e) elem p hn hread hp
  (repeat' (first | (with_reducible intro _) | refine sv ?_ | (refine sc ?_ ?_ <;> (intro h; try first | exact h.elim | exact absurd rfl h | (exfalso; omega))) | ((with_reducible first | apply x_call | apply d_call | apply x_call0); exact gd; exact rfl; exact rfl; (first | exact hc)) | (refine sg ?_ ?_ <;> (intro h; (fail_if_success (have : True := h)); try first | exact h.elim | exact absurd rfl h | (exfalso; omega))) | assumption | exact xm | exact rfl))
  rename_i hq
  obtain ⟨r, rfl, hr, hg⟩ := hq
  (repeat' (first | (with_reducible intro _) | refine sv ?_ | (refine sc ?_ ?_ <;> (intro h; try first | exact h.elim | exact absurd rfl h | (exfalso; omega))) | (refine sg ?_ ?_ <;> (intro h; (fail_if_success (have : True := h)); try first | exact h.elim | exact absurd rfl h | (exfalso; omega))) | assumption | exact xm | exact rfl))
  ((with_reducible first | apply k_fun | apply k_fun_norm); exact rx)
  refine ⟨?_, hg⟩
  exact congrArg LV.bool (by rw [Bool.eq_iff_iff, decide_eq_true_iff]; exact hr)
end Go.Proofs.Ytgipddabhcmgjaa.C
end
section
open Go PvL Go.Proofs
set_option linter.unusedVariables false
set_option linter.unusedSimpArgs false
namespace Go.Proofs.Ytgipddabhcmgjaa.C
theorem SlL.elems {α : Type} {sz : Nat} {enc : α → List LV} {M : Mem} {a : Option (Nat × Nat)} {ll : List (List α)} (h : SlL sz enc M a ll) :
    ∃ (ea : Nat → Option (Nat × Nat)) (ef : Nat → Bool), ∀ k (hk : k < ll.length), (∃ i o, a = some (i, o) ∧ Rd1 M i (o + k * 1) (.slice (ea k) ll[k].length (ef k) sz)) ∧ SlA sz enc M (ea k) ll[k] ∧ ll[k].length ≤ 1000000000000000 := by
  have key : ∀ k : Nat, ∃ (x : Option (Nat × Nat) × Bool), ∀ hk : k < ll.length, (∃ i o, a = some (i, o) ∧ Rd1 M i (o + k * 1) (.slice x.1 ll[k].length x.2 sz)) ∧ SlA sz enc M x.1 ll[k] ∧ ll[k].length ≤ 1000000000000000 := fun k => by
    by_cases hk : k < ll.length
    · obtain ⟨i, o, h1, h2⟩ := h.resolve_left (fun e => by subst e; simp at hk)
      obtain ⟨a', f', g1, g2, g3⟩ := h2 k hk
      exact ⟨(a', f'), fun _ => ⟨⟨i, o, h1, g1⟩, g2, g3⟩⟩
    · exact ⟨(none, true), fun hk' => absurd hk' hk⟩
  have ⟨g, hg⟩ := Classical.axiomOfChoice key
  exact ⟨fun k => (g k).1, fun k => (g k).2, fun k hk => hg k hk⟩
theorem c_cruise1 {a : Option (Nat × Nat)} {f : Bool} {l : List Pt} {M : Mem} (hl : SlA 2 ptc M a l) (hlen : l.length ≤ 1000000000000000) : CallOk Try.prog 84 [.slice a l.length f 2] M (fun w M' => w = .bool (decide (eFd l ≠ 0)) ∧ Grow M M') := by
  refine call_in k84 rfl ?_
  dsimp only [x84, zipE, Nat.reduceAdd]
  have hcf := fun M' (hg : Grow M M') => c_CheckField (f := f) (hl.grow hg) hlen
  (repeat' (first | (with_reducible intro _) | refine sv ?_ | (refine sc ?_ ?_ <;> (intro h; try first | exact h.elim | exact absurd rfl h | (exfalso; omega))) | ((with_reducible first | apply x_pure | apply d_pure); exact gd; exact rfl; exact rfl; (first | exact hcf _ (xg))) | (refine sg ?_ ?_ <;> (intro h; (fail_if_success (have : True := h)); try first | exact h.elim | exact absurd rfl h | (exfalso; omega))) | assumption | exact xm | exact rfl))
  ((with_reducible first | apply k_fun | apply k_fun_norm); exact rx)
  exact ⟨rfl, xg⟩
theorem c_cruise2 (p : Pt) (M : Mem) : CallOk Try.prog 86 [ptv p] M (fun w M' => w = .bool (decide (ePt p.1 p.2 ≠ 0)) ∧ Grow M M') := by
  refine call_in k86 rfl ?_
  dsimp only [x86, zipE, Nat.reduceAdd]
  (repeat' (first | (with_reducible intro _) | refine sv ?_ | (refine sc ?_ ?_ <;> (intro h; try first | exact h.elim | exact absurd rfl h | (exfalso; omega))) | ((with_reducible first | apply x_pure | apply d_pure); exact gd; exact rfl; exact rfl; (first | exact c_CheckPoint _ _ _)) | (refine sg ?_ ?_ <;> (intro h; (fail_if_success (have : True := h)); try first | exact h.elim | exact absurd rfl h | (exfalso; omega))) | assumption | exact xm | exact rfl))
  ((with_reducible first | apply k_fun | apply k_fun_norm); exact rx)
  exact ⟨rfl, xg⟩
theorem c_valid (p : Pt × Int) (M : Mem) : CallOk Try.prog 22 [.agg [I p.1.1, I p.1.2, I p.2]] M (fun w M' => w = .bool (decide (PlP p.1 ∧ 0 ≤ p.2 ∧ p.2 ≤ 7)) ∧ Grow M M') := by
  refine call_in k22 rfl ?_
  dsimp only [x22, zipE, Nat.reduceAdd]
  by_cases hp : PlP p.1
  · have he : ePt p.1.1 p.1.2 = 0 := if_pos hp
    (repeat' (first | (with_reducible intro _) | refine sv ?_ | (refine sc ?_ ?_ <;> (intro h; try first | exact h.elim | exact absurd rfl h | (exfalso; omega))) | ((with_reducible first | apply x_same | apply d_same); exact gd; exact rfl; exact rfl; (first | exact c_within _ _ _ _)) | ((with_reducible first | apply x_pure | apply d_pure); exact gd; exact rfl; exact rfl; (first | exact c_CheckPoint _ _ _)) | (refine sg ?_ ?_ <;> (intro h; (fail_if_success (have : True := h)); try first | exact h.elim | exact absurd rfl h | (exfalso; omega))) | assumption | exact xm | exact rfl))
    all_goals ((with_reducible first | apply k_fun | apply k_fun_norm); exact rx)
    all_goals refine ⟨?_, xg⟩
    all_goals exact lb_iff ⟨fun h => ⟨hp, h⟩, fun h => h.2⟩
  · have he : ePt p.1.1 p.1.2 = 10 := if_neg hp
    (repeat' (first | (with_reducible intro _) | refine sv ?_ | (refine sc ?_ ?_ <;> (intro h; try first | exact h.elim | exact absurd rfl h | (exfalso; omega))) | ((with_reducible first | apply x_pure | apply d_pure); exact gd; exact rfl; exact rfl; (first | exact c_CheckPoint _ _ _)) | (refine sg ?_ ?_ <;> (intro h; (fail_if_success (have : True := h)); try first | exact h.elim | exact absurd rfl h | (exfalso; omega))) | assumption | exact xm | exact rfl))
    all_goals ((with_reducible first | apply k_fun | apply k_fun_norm); exact rx)
    all_goals refine ⟨?_, xg⟩
    all_goals exact lb_f (fun h => hp h.1)
theorem tightF_ok {r : Rg} (h : RgOk r ∧ (tightO r).isSome = true) : (tightF r).2 = 0 := by
  unfold tightF
  rw [if_pos h.1]
  obtain ⟨t, ht⟩ := Option.isSome_iff_exists.1 h.2
  rw [ht]
theorem tightF_no {r : Rg} (h : ¬ (RgOk r ∧ (tightO r).isSome = true)) : (tightF r).2 ≠ 0 := by
  unfold tightF
  by_cases h1 : RgOk r
  · rw [if_pos h1]
    cases ht : tightO r with
    | none => decide
    | some t => exact absurd ⟨h1, by rw [ht]; rfl⟩ h
  · rw [if_neg h1]; decide
set_option maxHeartbeats 8000000 in
theorem c_cruise {A : CrA} {s : Cr} {M : Mem} (hM : CrM M A s) : CallOk Try.prog 63 [crv A s] M (fun w M' => w = .bool (crB s) ∧ Grow M M') := by
  refine call_in k63 rfl ?_
  dsimp only [x63, zipE, Nat.reduceAdd]
  obtain ⟨aL, fL, aF, fF, aB, fB, aO, fO⟩ := A
  have hnl := hM.nl
  have hnf := hM.nf
  have hnb := hM.nb
  have hno := hM.no
  by_cases h0 : (1 ≤ s.lines.length ∧ s.lines.length ≤ 5) ∧ s.fields.length ≤ 4 ∧ s.buoys.length ≤ 4 ∧ s.opn.length = s.lines.length
  rotate_left
  · have hb : crB s = false := crB_f fun hc => h0 ⟨⟨hc.n1, hc.n5⟩, hc.nf, hc.nb, hc.no⟩
    have h1 : ¬ ((1 ≤ (s.lines.length : Int) ∧ (s.lines.length : Int) ≤ 5) ∧ (s.fields.length : Int) ≤ 4 ∧ (s.buoys.length : Int) ≤ 4 ∧ (s.opn.length : Int) = s.lines.length) := by omega
    (repeat' (first | (with_reducible intro _) | refine sv ?_ | (refine sc ?_ ?_ <;> (intro h; try first | exact h.elim | exact absurd rfl h | (exfalso; omega))) | ((with_reducible first | apply x_same | apply d_same); exact gd; exact rfl; exact rfl; (first | exact c_within _ _ _ _)) | (refine sg ?_ ?_ <;> (intro h; (fail_if_success (have : True := h)); try first | exact h.elim | exact absurd rfl h | (exfalso; omega))) | assumption | exact xm | exact rfl))
    all_goals first
      | (exfalso; omega)
      | (((with_reducible first | apply k_fun | apply k_fun_norm); exact rx)
         exact ⟨by rw [hb]; rfl, xg⟩)
  have h1 : (1 ≤ (s.lines.length : Int) ∧ (s.lines.length : Int) ≤ 5) ∧ (s.fields.length : Int) ≤ 4 ∧ (s.buoys.length : Int) ≤ 4 ∧ (s.opn.length : Int) = s.lines.length := by omega
  (repeat' (first | (with_reducible intro _) | refine sv ?_ | (refine sc ?_ ?_ <;> (intro h; try first | exact h.elim | exact absurd rfl h | (exfalso; omega))) | ((with_reducible first | apply x_same | apply d_same); exact gd; exact rfl; exact rfl; (first | exact c_within _ _ _ _)) | (refine sg ?_ ?_ <;> (intro h; (fail_if_success (have : True := h)); try first | exact h.elim | exact absurd rfl h | (exfalso; omega))) | assumption | exact xm | exact rfl))
  rename_i n1 M1 hn1 e1 e2 _ _ _
  refine w_loop_ind (fun n E ms M' => ∃ k : Nat, n = s.lines.length - k ∧ k ≤ s.lines.length ∧ ms = [] ∧ Has E [(1, .ptr (some (n1, 0))), (34, .slice aL s.lines.length fL 4), (35, I s.lines.length), (36, I k)] ∧ Grow M M' ∧ M1.next ≤ M'.next ∧ At M' n1 (.cells true (crc ⟨aL, fL, aF, fF, aB, fB, aO, fO⟩ s) 35) ∧
      ∀ j (hj : j < s.lines.length), j < k → LineOk s.lines[j] ∧ WinOk (s.opn[j]'(by omega))) ?_ s.lines.length _ _ _
    ⟨0, by omega, by omega, rfl, .cons rfl (.cons rfl (.cons rfl (.cons rfl .nil))), xg, by omega, xm, fun j hj h => absurd h (Nat.not_lt_zero _)⟩
  rintro n E ms M2 ⟨k, rfl, hk, rfl, hE, hG, hle1, a1, hall⟩
  have hle := hG.le
  refine w_has hE ?_
  by_cases hlast : k = s.lines.length
  rotate_left
  · have hlt : k < s.lines.length := by omega
    have hlt2 : k < s.opn.length := by omega
    obtain ⟨i, o, rfl, hr⟩ := (show SlA 4 legc M aL s.lines from hM.lines).resolve_left (fun e => by rw [e] at hlt; simp at hlt)
    obtain ⟨i2, o2, rfl, hr2⟩ := (show SlL 2 bdc M aO s.opn from hM.opn).resolve_left (fun e => by rw [e] at hlt2; simp at hlt2)
    obtain ⟨a', f', g1, g2, g3⟩ := hr2 k hlt2
    have r1 : Rd M2 i (o + k * 4) 4 (legc s.lines[k]) := (hr k hlt).grow hG
    have r2 : Rd1 M2 i2 (o2 + k * 1) (.slice a' s.opn[k].length f' 2) := g1.grow hG
    have hw := fun M' (hg : Grow M M') => c_windows (f := f') (g2.grow hg) g3
    have hi1 := r1.2
    have hi2 := r2.2
    have hbad : ¬ (LineOk s.lines[k] ∧ WinOk s.opn[k]) → crB s = false := fun hn => crB_f fun hc => hn ⟨hc.lines _ (List.getElem_mem hlt), hc.opn _ (List.getElem_mem hlt2)⟩
    have hgood : LineOk s.lines[k] ∧ WinOk s.opn[k] → ∀ j (hj : j < s.lines.length), j < k + 1 → LineOk s.lines[j] ∧ WinOk (s.opn[j]'(by omega)) := fun hg j hj h => by
      by_cases hjk : j = k
      · subst hjk; exact hg
      · exact hall j hj (by omega)
    clear hall
    by_cases q1 : PlP s.lines[k].1
    · have e1 : ePt s.lines[k].1.1 s.lines[k].1.2 = 0 := if_pos q1
      by_cases q2 : PlP s.lines[k].2
      · have e2 : ePt s.lines[k].2.1 s.lines[k].2.2 = 0 := if_pos q2
        by_cases q3 : s.lines[k].1.1 = s.lines[k].2.1 ∧ s.lines[k].1.2 = s.lines[k].2.2
        · have hb := hbad fun hh => hh.1.2.2 (Prod.ext q3.1 q3.2)
          (have hrd0 := r1; have hrd1 := r2; repeat' (first | (with_reducible intro _) | refine sv ?_ | (refine sc ?_ ?_ <;> (intro h; try first | exact h.elim | exact absurd rfl h | (exfalso; omega))) | ((with_reducible first | apply x_pure | apply d_pure); exact gd; exact rfl; exact rfl; (first | exact c_CheckPoint _ _ _)) | (refine sg ?_ ?_ <;> (intro h; (fail_if_success (have : True := h)); try first | exact h.elim | exact absurd rfl h | (exfalso; omega))) | assumption | exact xm | exact rfl))
          all_goals ((with_reducible first | apply k_fun | apply k_fun_norm); exact rx)
          all_goals exact ⟨by rw [hb]; rfl, xg⟩
        · by_cases q4 : WinOk s.opn[k]
          · rw [winB_t q4] at hw
            have hg := hgood ⟨⟨q1, q2, fun e => q3 (by rw [e]; exact ⟨rfl, rfl⟩)⟩, q4⟩
            (have hrd0 := r1; have hrd1 := r2; repeat' (first | (with_reducible intro _) | refine sv ?_ | (refine sc ?_ ?_ <;> (intro h; try first | exact h.elim | exact absurd rfl h | (exfalso; omega))) | ((with_reducible first | apply x_pure | apply d_pure); exact gd; exact rfl; exact rfl; (first | exact c_CheckPoint _ _ _ | exact hw _ (xg))) | (refine sg ?_ ?_ <;> (intro h; (fail_if_success (have : True := h)); try first | exact h.elim | exact absurd rfl h | (exfalso; omega))) | assumption | exact xm | exact rfl))
            refine k_step (s.lines.length - (k + 1)) (by omega) ⟨k + 1, rfl, by omega, rfl, .cons rfl (.cons rfl (.cons rfl (.cons rfl .nil))), xg, by omega, xm, hg⟩
          · have hb := hbad fun hh => q4 hh.2
            rw [winB_f q4] at hw
            (have hrd0 := r1; have hrd1 := r2; repeat' (first | (with_reducible intro _) | refine sv ?_ | (refine sc ?_ ?_ <;> (intro h; try first | exact h.elim | exact absurd rfl h | (exfalso; omega))) | ((with_reducible first | apply x_pure | apply d_pure); exact gd; exact rfl; exact rfl; (first | exact c_CheckPoint _ _ _ | exact hw _ (xg))) | (refine sg ?_ ?_ <;> (intro h; (fail_if_success (have : True := h)); try first | exact h.elim | exact absurd rfl h | (exfalso; omega))) | assumption | exact xm | exact rfl))
            all_goals ((with_reducible first | apply k_fun | apply k_fun_norm); exact rx)
            all_goals exact ⟨by rw [hb]; rfl, xg⟩
      · have e2 : ePt s.lines[k].2.1 s.lines[k].2.2 = 10 := if_neg q2
        have hb := hbad fun hh => q2 hh.1.2.1
        (have hrd0 := r1; have hrd1 := r2; repeat' (first | (with_reducible intro _) | refine sv ?_ | (refine sc ?_ ?_ <;> (intro h; try first | exact h.elim | exact absurd rfl h | (exfalso; omega))) | ((with_reducible first | apply x_pure | apply d_pure); exact gd; exact rfl; exact rfl; (first | exact c_CheckPoint _ _ _)) | (refine sg ?_ ?_ <;> (intro h; (fail_if_success (have : True := h)); try first | exact h.elim | exact absurd rfl h | (exfalso; omega))) | assumption | exact xm | exact rfl))
        all_goals ((with_reducible first | apply k_fun | apply k_fun_norm); exact rx)
        all_goals exact ⟨by rw [hb]; rfl, xg⟩
    · have e1 : ePt s.lines[k].1.1 s.lines[k].1.2 = 10 := if_neg q1
      have hb := hbad fun hh => q1 hh.1.1
      (have hrd0 := r1; have hrd1 := r2; repeat' (first | (with_reducible intro _) | refine sv ?_ | (refine sc ?_ ?_ <;> (intro h; try first | exact h.elim | exact absurd rfl h | (exfalso; omega))) | ((with_reducible first | apply x_pure | apply d_pure); exact gd; exact rfl; exact rfl; (first | exact c_CheckPoint _ _ _)) | (refine sg ?_ ?_ <;> (intro h; (fail_if_success (have : True := h)); try first | exact h.elim | exact absurd rfl h | (exfalso; omega))) | assumption | exact xm | exact rfl))
      all_goals ((with_reducible first | apply k_fun | apply k_fun_norm); exact rx)
      all_goals exact ⟨by rw [hb]; rfl, xg⟩
  subst hlast
  (repeat' (first | (with_reducible intro _) | refine sv ?_ | (refine sc ?_ ?_ <;> (intro h; try first | exact h.elim | exact absurd rfl h | (exfalso; omega))) | (refine sg ?_ ?_ <;> (intro h; (fail_if_success (have : True := h)); try first | exact h.elim | exact absurd rfl h | (exfalso; omega))) | assumption | exact xm | exact rfl))
  have hfld := fun M' (hg : Grow M M') => (show SlL 2 ptc M aF s.fields from hM.fields).grow hg
  obtain ⟨ea, ef, hel⟩ := (show SlL 2 ptc M aF s.fields from hM.fields).elems
  have hbu := show SlA 2 ptc M aB s.buoys from hM.buoys
  have hcF := fun (M' : Mem) (hg : Grow M M') => c_ContainsFunc_sPt (a := aF) (n := s.fields.length) (f := fF) (e := 1) (g := 84) (fi := []) (ca := []) (M := M') (fun k => .slice (ea k) (s.fields.getD k []).length (ef k) 2) (fun k => decide (eFd (s.fields.getD k []) ≠ 0)) hnf
    (fun k hk => by obtain ⟨⟨i, o, h1, h2⟩, _⟩ := hel k hk; exact ⟨i, o, h1, by rw [getD_eq hk]; exact h2.grow hg⟩)
    (fun k hk M'' hg2 => by obtain ⟨_, h2, h3⟩ := hel k hk; rw [getD_eq hk]; exact c_cruise1 (h2.grow (hg.trans hg2)) h3)
  have hcB := fun (M' : Mem) (hg : Grow M M') => c_ContainsFunc_Pt (a := aB) (n := s.buoys.length) (f := fB) (e := 2) (g := 86) (fi := []) (ca := []) (M := M') (fun k => ptc (s.buoys.getD k (0, 0))) (fun k => decide (ePt (s.buoys.getD k (0, 0)).1 (s.buoys.getD k (0, 0)).2 ≠ 0)) hnb
    (fun k hk => by
      obtain ⟨i, o, h1, h2⟩ := hbu.resolve_left (fun e => by rw [e] at hk; simp at hk)
      exact ⟨i, o, h1, by rw [getD_eq hk]; exact (h2 k hk).grow hg⟩)
    (fun k hk M'' hg2 => c_cruise2 _ _)
  have hokF : ((List.range s.fields.length).any fun k => decide (eFd (s.fields.getD k []) ≠ 0)) = true ↔ ¬ ∀ l ∈ s.fields, FieldOk l := by
    rw [anyR_iff]
    constructor
    · rintro ⟨k, hk, h2⟩ hall2
      rw [getD_eq hk] at h2
      exact absurd (if_pos (hall2 _ (List.getElem_mem hk))) (of_decide_eq_true h2)
    · intro hn
      refine Classical.byContradiction fun hc => hn fun l hl => ?_
      obtain ⟨k, hk, rfl⟩ := List.getElem_of_mem hl
      refine Classical.byContradiction fun hf => hc ⟨k, hk, ?_⟩
      rw [getD_eq hk]
      exact decide_eq_true (by unfold eFd; rw [if_neg hf]; decide)
  have hokB : ((List.range s.buoys.length).any fun k => decide (ePt (s.buoys.getD k (0, 0)).1 (s.buoys.getD k (0, 0)).2 ≠ 0)) = true ↔ ¬ ∀ p ∈ s.buoys, PlP p := by
    rw [anyR_iff]
    constructor
    · rintro ⟨k, hk, h2⟩ hall2
      rw [getD_eq hk] at h2
      exact absurd (if_pos (hall2 _ (List.getElem_mem hk))) (of_decide_eq_true h2)
    · intro hn
      refine Classical.byContradiction fun hc => hn fun l hl => ?_
      obtain ⟨k, hk, rfl⟩ := List.getElem_of_mem hl
      refine Classical.byContradiction fun hf => hc ⟨k, hk, ?_⟩
      rw [getD_eq hk]
      exact decide_eq_true (by unfold ePt; rw [if_neg hf]; decide)
  have hlines : ∀ l ∈ s.lines, LineOk l := fun l hl => by
    obtain ⟨k, hk, rfl⟩ := List.getElem_of_mem hl
    exact (hall k hk hk).1
  have hopn : ∀ l ∈ s.opn, WinOk l := fun l hl => by
    obtain ⟨k, hk, rfl⟩ := List.getElem_of_mem hl
    exact (hall k (by omega) (by omega)).2
  generalize (List.range s.fields.length).any (fun k => decide (eFd (s.fields.getD k []) ≠ 0)) = bF at hokF hcF
  generalize (List.range s.buoys.length).any (fun k => decide (ePt (s.buoys.getD k (0, 0)).1 (s.buoys.getD k (0, 0)).2 ≠ 0)) = bB at hokB hcB
  cases bF with
  | true =>
    have hb : crB s = false := crB_f fun hc => hokF.1 rfl hc.fields
    (repeat' (first | (with_reducible intro _) | refine sv ?_ | (refine sc ?_ ?_ <;> (intro h; try first | exact h.elim | exact absurd rfl h | (exfalso; omega))) | ((with_reducible first | apply x_pure | apply d_pure); exact gd; exact rfl; exact rfl; (first | exact hcF _ (xg))) | (refine sg ?_ ?_ <;> (intro h; (fail_if_success (have : True := h)); try first | exact h.elim | exact absurd rfl h | (exfalso; omega))) | assumption | exact xm | exact rfl))
    all_goals ((with_reducible first | apply k_fun | apply k_fun_norm); exact rx)
    all_goals exact ⟨by rw [hb]; rfl, xg⟩
  | false =>
  cases bB with
  | true =>
    have hb : crB s = false := crB_f fun hc => hokB.1 rfl hc.buoys
    (repeat' (first | (with_reducible intro _) | refine sv ?_ | (refine sc ?_ ?_ <;> (intro h; try first | exact h.elim | exact absurd rfl h | (exfalso; omega))) | ((with_reducible first | apply x_pure | apply d_pure); exact gd; exact rfl; exact rfl; (first | exact hcF _ (xg) | exact hcB _ (xg))) | (refine sg ?_ ?_ <;> (intro h; (fail_if_success (have : True := h)); try first | exact h.elim | exact absurd rfl h | (exfalso; omega))) | assumption | exact xm | exact rfl))
    all_goals ((with_reducible first | apply k_fun | apply k_fun_norm); exact rx)
    all_goals exact ⟨by rw [hb]; rfl, xg⟩
  | false =>
  have hf1 : ∀ l ∈ s.fields, FieldOk l := Classical.byContradiction fun hc => by have := hokF.2 hc; cases this
  have hb1 : ∀ p ∈ s.buoys, PlP p := Classical.byContradiction fun hc => by have := hokB.2 hc; cases this
  by_cases hT : RgOk s.spread ∧ (tightO s.spread).isSome = true
  rotate_left
  · have hb : crB s = false := crB_f fun hc => hT ⟨hc.spread.1, hc.spread.2.1⟩
    have ht := tightF_no hT
    (repeat' (first | (with_reducible intro _) | refine sv ?_ | (refine sc ?_ ?_ <;> (intro h; try first | exact h.elim | exact absurd rfl h | (exfalso; omega))) | ((with_reducible first | apply x_pure | apply d_pure); exact gd; exact rfl; exact rfl; (first | exact hcF _ (xg) | exact hcB _ (xg) | exact c_Tight s.spread _)) | (refine sg ?_ ?_ <;> (intro h; (fail_if_success (have : True := h)); try first | exact h.elim | exact absurd rfl h | (exfalso; omega))) | assumption | exact xm | exact rfl))
    all_goals ((with_reducible first | apply k_fun | apply k_fun_norm); exact rx)
    all_goals exact ⟨by rw [hb]; rfl, xg⟩
  have ht := tightF_ok hT
  have hrg := hT.1
  dsimp only [RgOk, fitsP] at hrg
  by_cases hW : s.spread.1.2 - s.spread.1.1 ≤ 256 ∧ s.spread.2.1.2 - s.spread.2.1.1 ≤ 256
  rotate_left
  · have hb : crB s = false := crB_f fun hc => hW ⟨hc.spread.2.2.1, hc.spread.2.2.2⟩
    (repeat' (first | (with_reducible intro _) | refine sv ?_ | (refine sc ?_ ?_ <;> (intro h; try first | exact h.elim | exact absurd rfl h | (exfalso; omega))) | ((with_reducible first | apply x_pure | apply d_pure); exact gd; exact rfl; exact rfl; (first | exact hcF _ (xg) | exact hcB _ (xg) | exact c_Tight s.spread _)) | (refine sg ?_ ?_ <;> (intro h; (fail_if_success (have : True := h)); try first | exact h.elim | exact absurd rfl h | (exfalso; omega))) | assumption | exact xm | exact rfl))
    all_goals first
      | (exfalso; omega)
      | (((with_reducible first | apply k_fun | apply k_fun_norm); exact rx)
         exact ⟨by rw [hb]; rfl, xg⟩)
  by_cases hp : PlP s.start.1 ∧ 0 ≤ s.start.2 ∧ s.start.2 ≤ 7
  rotate_left
  · have hb : crB s = false := crB_f fun hc => hp hc.start
    (repeat' (first | (with_reducible intro _) | refine sv ?_ | (refine sc ?_ ?_ <;> (intro h; try first | exact h.elim | exact absurd rfl h | (exfalso; omega))) | ((with_reducible first | apply x_same | apply d_same); exact gd; exact rfl; exact rfl; (first | exact c_within _ _ _ _)) | ((with_reducible first | apply x_pure | apply d_pure); exact gd; exact rfl; exact rfl; (first | exact hcF _ (xg) | exact hcB _ (xg) | exact c_Tight s.spread _ | exact c_valid s.start _)) | (refine sg ?_ ?_ <;> (intro h; (fail_if_success (have : True := h)); try first | exact h.elim | exact absurd rfl h | (exfalso; omega))) | assumption | exact xm | exact rfl))
    all_goals first
      | (exact absurd (by assumption) hp)
      | (((with_reducible first | apply k_fun | apply k_fun_norm); exact rx)
         exact ⟨by rw [hb]; rfl, xg⟩)
  by_cases hS : (1 ≤ s.speed ∧ s.speed ≤ 1000) ∧ (0 ≤ s.turn ∧ s.turn ≤ 1000)
  · have hb : crB s = true := crB_t ⟨h0.1.1, h0.1.2, h0.2.1, h0.2.2.1, h0.2.2.2, hlines, hopn, hf1, hb1, ⟨hT.1, hT.2, hW.1, hW.2⟩, hp, hS.1, hS.2⟩
    (repeat' (first | (with_reducible intro _) | refine sv ?_ | (refine sc ?_ ?_ <;> (intro h; try first | exact h.elim | exact absurd rfl h | (exfalso; omega))) | ((with_reducible first | apply x_same | apply d_same); exact gd; exact rfl; exact rfl; (first | exact c_within _ _ _ _)) | ((with_reducible first | apply x_pure | apply d_pure); exact gd; exact rfl; exact rfl; (first | exact hcF _ (xg) | exact hcB _ (xg) | exact c_Tight s.spread _ | exact c_valid s.start _)) | (refine sg ?_ ?_ <;> (intro h; (fail_if_success (have : True := h)); try first | exact h.elim | exact absurd rfl h | (exfalso; omega))) | assumption | exact xm | exact rfl))
    all_goals first
      | (exact absurd hp (by assumption))
      | (((with_reducible first | apply k_fun | apply k_fun_norm); exact rx)
         refine ⟨?_, xg⟩
         rw [hb]
         exact congrArg LV.bool (decide_eq_true hS.2))
  · have hb : crB s = false := crB_f fun hc => hS ⟨hc.speed, hc.turn⟩
    (repeat' (first | (with_reducible intro _) | refine sv ?_ | (refine sc ?_ ?_ <;> (intro h; try first | exact h.elim | exact absurd rfl h | (exfalso; omega))) | ((with_reducible first | apply x_same | apply d_same); exact gd; exact rfl; exact rfl; (first | exact c_within _ _ _ _)) | ((with_reducible first | apply x_pure | apply d_pure); exact gd; exact rfl; exact rfl; (first | exact hcF _ (xg) | exact hcB _ (xg) | exact c_Tight s.spread _ | exact c_valid s.start _)) | (refine sg ?_ ?_ <;> (intro h; (fail_if_success (have : True := h)); try first | exact h.elim | exact absurd rfl h | (exfalso; omega))) | assumption | exact xm | exact rfl))
    all_goals first
      | (exact absurd hp (by assumption))
      | (((with_reducible first | apply k_fun | apply k_fun_norm); exact rx)
         refine ⟨?_, xg⟩
         rw [hb]
         first | rfl | exact congrArg LV.bool (decide_eq_false fun ht => hS ⟨by assumption, ht⟩))
end Go.Proofs.Ytgipddabhcmgjaa.C
end
