/-
 Part of the proof of TapeLacks: what functions of the program and of the statement come to, walked by the rules. No condition beyond those in each theorem.
-/
import Derived.Test.YtbfnnllgdioccaaGreatDoorTP
import Derived.Test.YtbfnnllgdioccaaGreatDoorTX
section
open Go PvL Go.Proofs
set_option linter.unusedSimpArgs false
set_option linter.unusedVariables false
namespace Go.Proofs.YtbfnnllgdioccaaGreatDoor.C
theorem c_sampleR {M : Mem} {v : LV} {x : Fr} {k : Nat} (hv : FrV M v x) : CallOk Tryz.prog 101 [v, I k] M (fun w M' => w = I (getG x.2.2 k) /\ Grow M M') := by
 obtain ⟨a, f, e, rfl, hs⟩ := hv
 refine call_in k101 rfl ?_
 dsimp only [x101, zipE, Nat.reduceAdd]
 by_cases hk : k < x.2.2.length
 ·obtain ⟨i, o, rfl, hr⟩ := hs.rd hk
  rw [getG_lt hk]
  (have hrd0 := hr; repeat' (first | (with_reducible intro _) | refine sv ?_ | (refine sc ?_ ?_ <;> (intro h; try first | exact h.elim | exact absurd rfl h | (exfalso; omega))) | (refine sg ?_ ?_ <;> (intro h; (fail_if_success (have : True := h)); try first | exact h.elim | exact absurd rfl h | (exfalso; omega))) | assumption | exact xm | exact rfl))
  ((with_reducible first | apply k_fun | apply k_fun_norm); exact rx)
  exact ⟨rfl, xg⟩
 ·rw [getG_ge (by omega)]
  (repeat' (first | (with_reducible intro _) | refine sv ?_ | (refine sc ?_ ?_ <;> (intro h; try first | exact h.elim | exact absurd rfl h | (exfalso; omega))) | (refine sg ?_ ?_ <;> (intro h; (fail_if_success (have : True := h)); try first | exact h.elim | exact absurd rfl h | (exfalso; omega))) | assumption | exact xm | exact rfl))
  ((with_reducible first | apply k_fun | apply k_fun_norm); exact rx)
  exact ⟨rfl, xg⟩
theorem c_keyOf {M : Mem} {v : LV} {x : Fr} (hv : FrV M v x) : CallOk Tryz.prog 69 [v] M (fun w M' => w = .agg [I x.1, I x.2.1] /\ Grow M M') := by
 obtain ⟨a, f, e, rfl, hs⟩ := hv
 refine call_in k69 rfl ?_
 dsimp only [x69, zipE, Nat.reduceAdd]
 (repeat' (first | (with_reducible intro _) | refine sv ?_ | (refine sc ?_ ?_ <;> (intro h; try first | exact h.elim | exact absurd rfl h | (exfalso; omega))) | (refine sg ?_ ?_ <;> (intro h; (fail_if_success (have : True := h)); try first | exact h.elim | exact absurd rfl h | (exfalso; omega))) | assumption | exact xm | exact rfl))
 ((with_reducible first | apply k_fun | apply k_fun_norm); exact rx)
 exact ⟨rfl, xg⟩
theorem c_orderR {M : Mem} {v : LV} {x : Fr} (hv : FrV M v x) (hx : 0 <= x.1 /\ x.1 <= 60000 /\ 0 <= x.2.1 /\ x.2.1 <= 23) : CallOk Tryz.prog 100 [v] M (fun w M' => w = I (24 * x.1 + x.2.1) /\ Grow M M') := by
 obtain ⟨a, f, e, rfl, hs⟩ := hv
 refine call_in k100 rfl ?_
 dsimp only [x100, zipE, Nat.reduceAdd]
 (repeat' (first | (with_reducible intro _) | refine sv ?_ | (refine sc ?_ ?_ <;> (intro h; try first | exact h.elim | exact absurd rfl h | (exfalso; omega))) | (refine sg ?_ ?_ <;> (intro h; (fail_if_success (have : True := h)); try first | exact h.elim | exact absurd rfl h | (exfalso; omega))) | assumption | exact xm | exact rfl))
 ((with_reducible first | apply k_fun | apply k_fun_norm); exact rx)
 exact ⟨rfl, xg⟩
theorem c_withinG (n a b : Int) (M : Mem) : CallOk Tryz.prog 115 [I n, I a, I b] M (fun w M' => w = .bool (btB n a b) /\ M' = M) := by
 refine call_in k115 rfl ?_
 dsimp only [x115, zipE, Nat.reduceAdd]
 unfold btB
 (repeat' (first | (with_reducible intro _) | refine sv ?_ | (refine sc ?_ ?_ <;> (intro h; try first | exact h.elim | exact absurd rfl h | (exfalso; omega))) | (refine sg ?_ ?_ <;> (intro h; (fail_if_success (have : True := h)); try first | exact h.elim | exact absurd rfl h | (exfalso; omega))) | assumption | exact xm | exact rfl))
 all_goals (((with_reducible first | apply k_fun | apply k_fun_norm); exact rx); refine ⟨?_, rfl⟩; show LV.bool _ = LV.bool _; congr 1; simp; omega)
set_option maxHeartbeats 4000000 in
theorem c_IsName (s : ByteArray) (hs : s.size <= 1000000000000000) (M : Mem) : CallOk Tryz.prog 66 [.str s] M (fun w M' => w = .bool (nmB s) /\ M' = M) := by
 refine call_in k66 rfl ?_
 dsimp only [x66, zipE, Nat.reduceAdd]
 (repeat' (first | (with_reducible intro _) | refine sv ?_ | (refine sc ?_ ?_ <;> (intro h; try first | exact h.elim | exact absurd rfl h | (exfalso; omega))) | (refine sg ?_ ?_ <;> (intro h; (fail_if_success (have : True := h)); try first | exact h.elim | exact absurd rfl h | (exfalso; omega))) | assumption | exact xm | exact rfl))
 refine w_loop_ind (fun z E ms M' => ∃ k : Nat, z = s.size - k /\ k <= s.size /\ ms = [] /\ Has E [(0, .str s), (7, I s.size), (8, I k)] /\ M' = M /\ nmK s k = true)
  ?_ s.size _ _ _ ⟨0, by omega, by omega, rfl, .cons rfl (.cons rfl (.cons rfl .nil)), rfl, rfl⟩
 rintro z E ms M1 ⟨k, rfl, hk, rfl, hE, rfl, hok⟩
 refine w_has hE ?_
 by_cases hlast : k = s.size
 ·subst hlast
  have hn : nmB s = btB s.size 1 16 := by unfold nmB; rw [hok]; rfl
  rw [hn]
  (repeat' (first | (with_reducible intro _) | refine sv ?_ | (refine sc ?_ ?_ <;> (intro h; try first | exact h.elim | exact absurd rfl h | (exfalso; omega))) | ((with_reducible first | apply x_same | apply d_same | apply d_same0); exact gd; exact rfl; exact rfl; (first | exact c_withinG _ _ _ _)) | (refine sg ?_ ?_ <;> (intro h; (fail_if_success (have : True := h)); try first | exact h.elim | exact absurd rfl h | (exfalso; omega))) | assumption | exact xm | exact rfl))
  ((with_reducible first | apply k_fun | apply k_fun_norm); exact rx)
  exact ⟨rfl, rfl⟩
 have hlt : k < s.size := by omega
 have hst := nmK_s s k
 rw [hok, Bool.true_and] at hst
 have hno := nmB_no (s := s) (k := k + 1) (by omega)
 have hF : ¬ (97 <= byteAt s k /\ byteAt s k <= 122 ∨ k ≠ 0 /\ (byteAt s k = 95 ∨ 48 <= byteAt s k /\ byteAt s k <= 57)) -> nmB s = false := fun hh => hno (by
  rw [hst, Bool.eq_false_iff]
  unfold ltB dgB
  simp only [ne_eq, Bool.or_eq_true, Bool.and_eq_true, decide_eq_true_eq]
  exact hh)
 have hT : (97 <= byteAt s k /\ byteAt s k <= 122 ∨ k ≠ 0 /\ (byteAt s k = 95 ∨ 48 <= byteAt s k /\ byteAt s k <= 57)) -> nmK s (k + 1) = true := fun hh => by
  rw [hst]
  unfold ltB dgB
  simp only [ne_eq, Bool.or_eq_true, Bool.and_eq_true, decide_eq_true_eq]
  exact hh
 clear hst hno
 (repeat' (first | (with_reducible intro _) | refine sv ?_ | (refine sc ?_ ?_ <;> (intro h; try first | exact h.elim | exact absurd rfl h | (exfalso; omega))) | (refine sg ?_ ?_ <;> (intro h; (fail_if_success (have : True := h)); try first | exact h.elim | exact absurd rfl h | (exfalso; omega))) | assumption | exact xm | exact rfl))
 all_goals first
  | exact k_step (s.size - (k + 1)) (by omega) ⟨k + 1, rfl, by omega, rfl, .cons rfl (.cons rfl (.cons rfl .nil)), rfl, hT (by omega)⟩
  |(rw [hF (by omega)]; ((with_reducible first | apply k_fun | apply k_fun_norm); exact rx); exact ⟨rfl, rfl⟩)
  |(exfalso; omega)
set_option maxHeartbeats 4000000 in
theorem c_IsNameR (s : ByteArray) (hs : s.size <= 1000000000000000) (M : Mem) : CallOk Tryz.prog 83 [.str s] M (fun w M' => w = .bool (nmB s) /\ M' = M) := by
 refine call_in k83 rfl ?_
 dsimp only [x83, zipE, Nat.reduceAdd]
 by_cases hz : ¬ (1 <= s.size /\ s.size <= 16)
 ·have hn : nmB s = false := by unfold nmB btB; rw [decide_eq_false (by omega), Bool.and_false]
  rw [hn]
  (repeat' (first | (with_reducible intro _) | refine sv ?_ | (refine sc ?_ ?_ <;> (intro h; try first | exact h.elim | exact absurd rfl h | (exfalso; omega))) | (refine sg ?_ ?_ <;> (intro h; (fail_if_success (have : True := h)); try first | exact h.elim | exact absurd rfl h | (exfalso; omega))) | assumption | exact xm | exact rfl))
  all_goals try (exfalso; omega)
  all_goals (((with_reducible first | apply k_fun | apply k_fun_norm); exact rx); exact ⟨rfl, rfl⟩)
 have hz : 1 <= s.size /\ s.size <= 16 := by omega
 by_cases hfst : ¬ (97 <= byteAt s 0 /\ byteAt s 0 <= 122)
 ·have hn : nmB s = false := nmB_no (k := 1) hz.1 (by
   rw [nmK_s]
   unfold ltB
   rw [decide_eq_false hfst]; rfl)
  rw [hn]
  (repeat' (first | (with_reducible intro _) | refine sv ?_ | (refine sc ?_ ?_ <;> (intro h; try first | exact h.elim | exact absurd rfl h | (exfalso; omega))) | (refine sg ?_ ?_ <;> (intro h; (fail_if_success (have : True := h)); try first | exact h.elim | exact absurd rfl h | (exfalso; omega))) | assumption | exact xm | exact rfl))
  refine x_val (by exact gd) (xs_idxS (k := 0) rfl rfl hz.1) ?_
  (repeat' (first | (with_reducible intro _) | refine sv ?_ | (refine sc ?_ ?_ <;> (intro h; try first | exact h.elim | exact absurd rfl h | (exfalso; omega))) | (refine sg ?_ ?_ <;> (intro h; (fail_if_success (have : True := h)); try first | exact h.elim | exact absurd rfl h | (exfalso; omega))) | assumption | exact xm | exact rfl))
  ·((with_reducible first | apply k_fun | apply k_fun_norm); exact rx)
   exact ⟨rfl, rfl⟩
  ·refine x_val (by exact gd) (xs_idxS (k := 0) rfl rfl hz.1) ?_
   (repeat' (first | (with_reducible intro _) | refine sv ?_ | (refine sc ?_ ?_ <;> (intro h; try first | exact h.elim | exact absurd rfl h | (exfalso; omega))) | (refine sg ?_ ?_ <;> (intro h; (fail_if_success (have : True := h)); try first | exact h.elim | exact absurd rfl h | (exfalso; omega))) | assumption | exact xm | exact rfl))
   all_goals try (exfalso; omega)
   ((with_reducible first | apply k_fun | apply k_fun_norm); exact rx)
   exact ⟨rfl, rfl⟩
 have hfst : 97 <= byteAt s 0 /\ byteAt s 0 <= 122 := by omega
 (repeat' (first | (with_reducible intro _) | refine sv ?_ | (refine sc ?_ ?_ <;> (intro h; try first | exact h.elim | exact absurd rfl h | (exfalso; omega))) | (refine sg ?_ ?_ <;> (intro h; (fail_if_success (have : True := h)); try first | exact h.elim | exact absurd rfl h | (exfalso; omega))) | assumption | exact xm | exact rfl))
 refine x_val (by exact gd) (xs_idxS (k := 0) rfl rfl hz.1) ?_
 (repeat' (first | (with_reducible intro _) | refine sv ?_ | (refine sc ?_ ?_ <;> (intro h; try first | exact h.elim | exact absurd rfl h | (exfalso; omega))) | (refine sg ?_ ?_ <;> (intro h; (fail_if_success (have : True := h)); try first | exact h.elim | exact absurd rfl h | (exfalso; omega))) | assumption | exact xm | exact rfl))
 all_goals try (exfalso; omega)
 refine x_val (by exact gd) (xs_idxS (k := 0) rfl rfl hz.1) ?_
 (repeat' (first | (with_reducible intro _) | refine sv ?_ | (refine sc ?_ ?_ <;> (intro h; try first | exact h.elim | exact absurd rfl h | (exfalso; omega))) | (refine sg ?_ ?_ <;> (intro h; (fail_if_success (have : True := h)); try first | exact h.elim | exact absurd rfl h | (exfalso; omega))) | assumption | exact xm | exact rfl))
 all_goals try (exfalso; omega)
 refine w_loop_ind (fun z E ms M' => ∃ k : Nat, z = s.size - k /\ k <= s.size /\ ms = [] /\ Has E [(0, .str s), (3, I k)] /\ M' = M /\ nmK s k = true)
  ?_ s.size _ _ _ ⟨0, by omega, by omega, rfl, .cons rfl (.cons rfl .nil), rfl, rfl⟩
 rintro z E ms M1 ⟨k, rfl, hk, rfl, hE, rfl, hok⟩
 refine w_has hE ?_
 by_cases hlast : k = s.size
 ·subst hlast
  have hn : nmB s = true := by unfold nmB; rw [hok]; exact decide_eq_true (by omega)
  rw [hn]
  (repeat' (first | (with_reducible intro _) | refine sv ?_ | (refine sc ?_ ?_ <;> (intro h; try first | exact h.elim | exact absurd rfl h | (exfalso; omega))) | (refine sg ?_ ?_ <;> (intro h; (fail_if_success (have : True := h)); try first | exact h.elim | exact absurd rfl h | (exfalso; omega))) | assumption | exact xm | exact rfl))
  ((with_reducible first | apply k_fun | apply k_fun_norm); exact rx)
  exact ⟨rfl, rfl⟩
 have hlt : k < s.size := by omega
 have hst := nmK_s s k
 rw [hok, Bool.true_and] at hst
 have hno := nmB_no (s := s) (k := k + 1) (by omega)
 have hF : ¬ (97 <= byteAt s k /\ byteAt s k <= 122 ∨ k ≠ 0 /\ (byteAt s k = 95 ∨ 48 <= byteAt s k /\ byteAt s k <= 57)) -> nmB s = false := fun hh => hno (by
  rw [hst, Bool.eq_false_iff]
  unfold ltB dgB
  simp only [ne_eq, Bool.or_eq_true, Bool.and_eq_true, decide_eq_true_eq]
  exact hh)
 have hT : (97 <= byteAt s k /\ byteAt s k <= 122 ∨ k ≠ 0 /\ (byteAt s k = 95 ∨ 48 <= byteAt s k /\ byteAt s k <= 57)) -> nmK s (k + 1) = true := fun hh => by
  rw [hst]
  unfold ltB dgB
  simp only [ne_eq, Bool.or_eq_true, Bool.and_eq_true, decide_eq_true_eq]
  exact hh
 clear hst hno
 have h0k : k = 0 -> byteAt s k = byteAt s 0 := fun h => by rw [h]
 (repeat' (first | (with_reducible intro _) | refine sv ?_ | (refine sc ?_ ?_ <;> (intro h; try first | exact h.elim | exact absurd rfl h | (exfalso; omega))) | (refine sg ?_ ?_ <;> (intro h; (fail_if_success (have : True := h)); try first | exact h.elim | exact absurd rfl h | (exfalso; omega))) | assumption | exact xm | exact rfl))
 all_goals first
  | exact k_step (s.size - (k + 1)) (by omega) ⟨k + 1, rfl, by omega, rfl, .cons rfl (.cons rfl .nil), rfl, hT (by omega)⟩
  |(rw [hF (by omega)]; ((with_reducible first | apply k_fun | apply k_fun_norm); exact rx); exact ⟨rfl, rfl⟩)
  |(exfalso; omega)
theorem xs_slA2 {E : Env} {M : Mem} {x : XO} {i : Nat} {own : Bool} {p q : LV} {ty : TypeId} (hx : xval E x = some (.ptr (some (i, 0)))) (hm : At M i (.cells own [p, q] ty)) : xstep Tryz.prog (.slA 2 1 x none none none) E M = some (.val (.slice (some (i, 0)) 2 true 1) M) := by
 show ob (xval E x) _ = _
 rw [hx, ob_some]
 show guard' true (atCells M i _) = _
 rw [guard'_true]
 unfold atCells
 rw [hm.1]
 rfl
theorem c_cmp (a b : Int) (M : Mem) : CallOk Tryz.prog 146 [I a, I b] M (fun w M' => w = I (cmpI8 a b) /\ M' = M) := by
 have cn : ∀ n M, CallOk Tryz.prog 171 [I n] M (fun w M' => w = .bool false /\ M' = M) := fun n M => by
  refine call_in k171 rfl ?_
  dsimp only [x171, zipE, Nat.reduceAdd]
  (repeat' (first | (with_reducible intro _) | refine sv ?_ | (refine sc ?_ ?_ <;> (intro h; try first | exact h.elim | exact absurd rfl h | (exfalso; omega))) | (refine sg ?_ ?_ <;> (intro h; (fail_if_success (have : True := h)); try first | exact h.elim | exact absurd rfl h | (exfalso; omega))) | assumption | exact xm | exact rfl))
  ((with_reducible first | apply k_fun | apply k_fun_norm); exact rx)
  refine ⟨?_, rfl⟩
  show LV.bool _ = LV.bool _
  simp
 refine call_in k146 rfl ?_
 dsimp only [x146, zipE, Nat.reduceAdd]
 unfold cmpI8
 (repeat' (first | (with_reducible intro _) | refine sv ?_ | (refine sc ?_ ?_ <;> (intro h; try first | exact h.elim | exact absurd rfl h | (exfalso; omega))) | ((with_reducible first | apply x_same | apply d_same | apply d_same0); exact gd; exact rfl; exact rfl; (first | exact cn _ _)) | (refine sg ?_ ?_ <;> (intro h; (fail_if_success (have : True := h)); try first | exact h.elim | exact absurd rfl h | (exfalso; omega))) | assumption | exact xm | exact rfl))
 ·((with_reducible first | apply k_fun | apply k_fun_norm); exact rx)
  rw [if_pos (by omega)]
  exact ⟨rfl, rfl⟩
 ·((with_reducible first | apply k_fun | apply k_fun_norm); exact rx)
  rw [if_neg (by omega), if_pos (by omega)]
  exact ⟨rfl, rfl⟩
 ·((with_reducible first | apply k_fun | apply k_fun_norm); exact rx)
  rw [if_neg (by omega), if_neg (by omega)]
  exact ⟨rfl, rfl⟩
set_option maxHeartbeats 4000000 in
theorem c_Compare {M : Mem} {i j : Nat} {a1 a2 b1 b2 : Int} {t u : TypeId} {f g : Bool} (ha : At M i (.cells true [I a1, I a2] t)) (hb : At M j (.cells true [I b1, I b2] u)) :
  CallOk Tryz.prog 118 [.slice (some (i, 0)) 2 f 1, .slice (some (j, 0)) 2 g 1] M (fun w M' => w = I (cmpK (a1, a2) (b1, b2)) /\ M' = M) := by
 refine call_in k118 rfl ?_
 dsimp only [x118, zipE, Nat.reduceAdd]
 have r0 : Rd1 M i (0 + 0 * 1) (I a1) := Rd1.of_at ha rfl
 have r1 : Rd1 M i (0 + 1 * 1) (I a2) := Rd1.of_at ha rfl
 have s0 : Rd1 M j (0 + 0 * 1) (I b1) := Rd1.of_at hb rfl
 have s1 : Rd1 M j (0 + 1 * 1) (I b2) := Rd1.of_at hb rfl
 have hA : cmpI8 a1 b1 ≠ 0 -> cmpK (a1, a2) (b1, b2) = cmpI8 a1 b1 := fun h => by unfold cmpK; rw [if_pos h]
 have hB : cmpI8 a1 b1 = 0 -> cmpK (a1, a2) (b1, b2) = cmpI8 a2 b2 := fun h => by unfold cmpK; rw [if_neg (by dsimp only; omega)]
 have cA := c_cmp a1 b1
 have cB := c_cmp a2 b2
 generalize cmpI8 a1 b1 = A at *
 generalize cmpI8 a2 b2 = B at *
 generalize cmpK (a1, a2) (b1, b2) = C at *
 (repeat' (first | (with_reducible intro _) | refine sv ?_ | (refine sc ?_ ?_ <;> (intro h; try first | exact h.elim | exact absurd rfl h | (exfalso; omega))) | (refine sg ?_ ?_ <;> (intro h; (fail_if_success (have : True := h)); try first | exact h.elim | exact absurd rfl h | (exfalso; omega))) | assumption | exact xm | exact rfl))
 refine w_loop_ind (fun z E ms M' => ∃ k : Nat, z = 2 - k /\ k <= 2 /\ ms = [] /\ Has E [(0, .slice (some (i, 0)) 2 f 1), (1, .slice (some (j, 0)) 2 g 1), (9, .slice (some (i, 0)) 2 f 1), (10, I 2), (11, I k)] /\ M' = M /\ (1 <= k -> A = 0) /\ (2 <= k -> B = 0))
  ?_ 2 _ _ _ ⟨0, rfl, by omega, rfl, .cons rfl (.cons rfl (.cons rfl (.cons rfl (.cons rfl .nil)))), rfl, fun h => by omega, fun h => by omega⟩
 rintro z E ms M1 ⟨k, rfl, hk, rfl, hE, rfl, h1, h2⟩
 refine w_has hE ?_
 match k, hk with
 | 0, _ =>
  (have hrd0 := r0; have hrd1 := s0; repeat' (first | (with_reducible intro _) | refine sv ?_ | (refine sc ?_ ?_ <;> (intro h; try first | exact h.elim | exact absurd rfl h | (exfalso; omega))) | ((with_reducible first | apply x_same | apply d_same | apply d_same0); exact gd; exact rfl; exact rfl; (first | exact cA _)) | (refine sg ?_ ?_ <;> (intro h; (fail_if_success (have : True := h)); try first | exact h.elim | exact absurd rfl h | (exfalso; omega))) | assumption | exact xm | exact rfl))
  ·((with_reducible first | apply k_fun | apply k_fun_norm); exact rx)
   rw [hA (by omega)]
   exact ⟨rfl, rfl⟩
  ·exact k_step 1 (by omega) ⟨1, rfl, by omega, rfl, .cons rfl (.cons rfl (.cons rfl (.cons rfl (.cons rfl .nil)))), rfl, fun _ => by omega, fun h => by omega⟩
 | 1, _ =>
  have h1 := h1 (Nat.le_refl _)
  (have hrd0 := r1; have hrd1 := s1; repeat' (first | (with_reducible intro _) | refine sv ?_ | (refine sc ?_ ?_ <;> (intro h; try first | exact h.elim | exact absurd rfl h | (exfalso; omega))) | ((with_reducible first | apply x_same | apply d_same | apply d_same0); exact gd; exact rfl; exact rfl; (first | exact cB _)) | (refine sg ?_ ?_ <;> (intro h; (fail_if_success (have : True := h)); try first | exact h.elim | exact absurd rfl h | (exfalso; omega))) | assumption | exact xm | exact rfl))
  ·((with_reducible first | apply k_fun | apply k_fun_norm); exact rx)
   rw [hB h1]
   exact ⟨rfl, rfl⟩
  ·exact k_step 0 (by omega) ⟨2, rfl, by omega, rfl, .cons rfl (.cons rfl (.cons rfl (.cons rfl (.cons rfl .nil)))), rfl, fun _ => h1, fun _ => by omega⟩
 | 2, _ =>
  have h1 := h1 (by omega)
  have h2 := h2 (by omega)
  (repeat' (first | (with_reducible intro _) | refine sv ?_ | (refine sc ?_ ?_ <;> (intro h; try first | exact h.elim | exact absurd rfl h | (exfalso; omega))) | (refine sg ?_ ?_ <;> (intro h; (fail_if_success (have : True := h)); try first | exact h.elim | exact absurd rfl h | (exfalso; omega))) | assumption | exact xm | exact rfl))
  ((with_reducible first | apply k_fun | apply k_fun_norm); exact rx)
  rw [hB h1, h2]
  exact ⟨rfl, rfl⟩
theorem c_order (a1 a2 b1 b2 : Int) (M : Mem) : CallOk Tryz.prog 68 [.agg [I a1, I a2], .agg [I b1, I b2]] M (fun w M' => w = I (cmpK (a1, a2) (b1, b2)) /\ Grow M M') := by
 refine call_in k68 rfl ?_
 dsimp only [x68, zipE, Nat.reduceAdd]
 (repeat' (first | (with_reducible intro _) | refine sv ?_ | (refine sc ?_ ?_ <;> (intro h; try first | exact h.elim | exact absurd rfl h | (exfalso; omega))) | (refine sg ?_ ?_ <;> (intro h; (fail_if_success (have : True := h)); try first | exact h.elim | exact absurd rfl h | (exfalso; omega))) | assumption | exact xm | exact rfl))
 rename_i m1 M1 hN1 q1 q2 m2 M2 hN2 q3 q4
 have h1 : At M2 m1 (.cells true [I a1, I a2] 114) := xm
 have h2 : At M2 m2 (.cells true [I b1, I b2] 114) := xm
 refine xd_read (by exact gd) (xs_slA2 rfl h1) (fun m => At m m1 (.cells true [I a1, I a2] 114)) (fun m hm => xs_slA2 rfl hm) ?_
 refine xd_read (by exact gd) (xs_slA2 rfl h2) (fun m => At m m2 (.cells true [I b1, I b2] 114)) (fun m hm => xs_slA2 rfl hm) ?_
 (repeat' (first | (with_reducible intro _) | refine sv ?_ | (refine sc ?_ ?_ <;> (intro h; try first | exact h.elim | exact absurd rfl h | (exfalso; omega))) | ((with_reducible first | apply x_same | apply d_same | apply d_same0); exact gd; exact rfl; exact rfl; (first | exact c_Compare h1 h2)) | (refine sg ?_ ?_ <;> (intro h; (fail_if_success (have : True := h)); try first | exact h.elim | exact absurd rfl h | (exfalso; omega))) | assumption | exact xm | exact rfl))
 ((with_reducible first | apply k_fun | apply k_fun_norm); exact rx)
 exact ⟨rfl, xg⟩
set_option maxHeartbeats 8000000 in
theorem c_CheckReel {M : Mem} {v : LV} {r : Rl} (hv : RlV M v r) (hin : RlIn r) : CallOk Tryz.prog 26 [v] M (fun w M' => w = I (errRl r) /\ Grow M M') := by
 obtain ⟨a, f, e, rfl, hs⟩ := hv
 refine call_in k26 rfl ?_
 dsimp only [x26, zipE, Nat.reduceAdd]
 have cn := fun M => c_IsName r.1 hin.1 M
 cases hnm : nmB r.1 with
 | false =>
  have he : errRl r = 81 := by unfold errRl rlB; rw [hnm]; rfl
  rw [he]
  rw [hnm] at cn
  (repeat' (first | (with_reducible intro _) | refine sv ?_ | (refine sc ?_ ?_ <;> (intro h; try first | exact h.elim | exact absurd rfl h | (exfalso; omega))) | ((with_reducible first | apply x_same | apply d_same | apply d_same0); exact gd; exact rfl; exact rfl; (first | exact cn _)) | (refine sg ?_ ?_ <;> (intro h; (fail_if_success (have : True := h)); try first | exact h.elim | exact absurd rfl h | (exfalso; omega))) | assumption | exact xm | exact rfl))
  ((with_reducible first | apply k_fun | apply k_fun_norm); exact rx)
  exact ⟨rfl, xg⟩
 | true =>
 rw [hnm] at cn
 by_cases hl : ¬ r.2.length <= 128
 ·have he : errRl r = 81 := by unfold errRl rlB; rw [decide_eq_false hl, Bool.and_false]; rfl
  rw [he]
  have hl2 := hin.2.1
  (repeat' (first | (with_reducible intro _) | refine sv ?_ | (refine sc ?_ ?_ <;> (intro h; try first | exact h.elim | exact absurd rfl h | (exfalso; omega))) | ((with_reducible first | apply x_same | apply d_same | apply d_same0); exact gd; exact rfl; exact rfl; (first | exact cn _)) | (refine sg ?_ ?_ <;> (intro h; (fail_if_success (have : True := h)); try first | exact h.elim | exact absurd rfl h | (exfalso; omega))) | assumption | exact xm | exact rfl))
  all_goals try (exfalso; omega)
  ((with_reducible first | apply k_fun | apply k_fun_norm); exact rx)
  exact ⟨rfl, xg⟩
 have hl : r.2.length <= 128 := by omega
 have hok9 : rlK r.2 r.2.length = true -> errRl r = 0 := fun h => by unfold errRl rlB; rw [hnm, decide_eq_true hl, h]; rfl
 have hno9 := fun k (hk : k <= r.2.length) h => errRl_no (r := r) hk h
 have hfr := fun k (hk : k < r.2.length) => hin.fr hk
 generalize errRl r = ER at *
 generalize r.2 = L at *
 generalize r.1 = nm at *
 clear hnm
 (repeat' (first | (with_reducible intro _) | refine sv ?_ | (refine sc ?_ ?_ <;> (intro h; try first | exact h.elim | exact absurd rfl h | (exfalso; omega))) | ((with_reducible first | apply x_same | apply d_same | apply d_same0); exact gd; exact rfl; exact rfl; (first | exact cn _)) | (refine sg ?_ ?_ <;> (intro h; (fail_if_success (have : True := h)); try first | exact h.elim | exact absurd rfl h | (exfalso; omega))) | assumption | exact xm | exact rfl))
 rename_i m1 M1 hN1 q1 q2
 have hA1 := At.new_same hN1
 have hg1 := hN1.grow
 have hs1 := hs.grow hg1
 clear hN1 h
 dsimp only [LV.cells] at hA1
 refine w_loop_ind (fun z E ms M' => ∃ k : Nat, z = L.length - k /\ k <= L.length /\ ms = [] /\ Has E [(1, .ptr (some (m1, 0))), (16, .slice a L.length f e), (17, I L.length), (18, I k)] /\ Grow M1 M' /\ rlK L k = true)
  ?_ L.length _ _ _ ⟨0, by omega, by omega, rfl, .cons rfl (.cons rfl (.cons rfl (.cons rfl .nil))), Grow.refl _, rfl⟩
 rintro z E ms M2 ⟨k, rfl, hk, rfl, hE, hg2, hok⟩
 refine w_has hE ?_
 have hA2 := At.grow hg2 hA1
 by_cases hlast : k = L.length
 ·subst hlast
  rw [hok9 hok]
  (repeat' (first | (with_reducible intro _) | refine sv ?_ | (refine sc ?_ ?_ <;> (intro h; try first | exact h.elim | exact absurd rfl h | (exfalso; omega))) | (refine sg ?_ ?_ <;> (intro h; (fail_if_success (have : True := h)); try first | exact h.elim | exact absurd rfl h | (exfalso; omega))) | assumption | exact xm | exact rfl))
  ((with_reducible first | apply k_fun | apply k_fun_norm); exact rx)
  exact ⟨rfl, hg1.trans hg2⟩
 have hlt : k < L.length := by omega
 have hst := rlK_s L k
 rw [hok, Bool.true_and] at hst
 obtain ⟨i, o, b, g, u, rfl, hr, hfv⟩ := (hs1.grow hg2).rd hlt
 have hfi := hfr k hlt
 have hno := hno9 (k + 1) (by omega)
 (have hrd0 := hr; repeat' (first | (with_reducible intro _) | refine sv ?_ | (refine sc ?_ ?_ <;> (intro h; try first | exact h.elim | exact absurd rfl h | (exfalso; omega))) | (refine sg ?_ ?_ <;> (intro h; (fail_if_success (have : True := h)); try first | exact h.elim | exact absurd rfl h | (exfalso; omega))) | assumption | exact xm | exact rfl))
 rename_i m3 M3 hN3 q3 q4 M4 hU4 q5 hA4
 have hg4 : Grow M2 M4 := xg
 have cc := c_CheckFrame (hfv.grow hg4) hfi
 have hA1b : At M4 m1 (.cells true [.str nm, .slice (some (i, o)) L.length f e] 24) := At.grow hg4 hA2
 have he80 : frB (fe L k) = false -> errF (fe L k) = 80 := fun h => by unfold errF; rw [h]; rfl
 have he0 : frB (fe L k) = true -> errF (fe L k) = 0 := fun h => by unfold errF; rw [h]; rfl
 cases hfb : frB (fe L k) with
 | false =>
  rw [hfb] at hst
  rw [he80 hfb] at cc
  rw [hno (by rw [hst]; rfl)]
  have hgM := hg1.trans (hg2.trans hg4)
  clear hN3 hU4
  (repeat' (first | (with_reducible intro _) | refine sv ?_ | (refine sc ?_ ?_ <;> (intro h; try first | exact h.elim | exact absurd rfl h | (exfalso; omega))) | ((with_reducible first | apply x_pure | apply d_pure | apply d_pure0); exact gd; exact rfl; exact rfl; (first | exact cc)) | (refine sg ?_ ?_ <;> (intro h; (fail_if_success (have : True := h)); try first | exact h.elim | exact absurd rfl h | (exfalso; omega))) | assumption | exact xm | exact rfl))
  ((with_reducible first | apply k_fun | apply k_fun_norm); exact rx)
  exact ⟨rfl, xg⟩
 | true =>
 rw [hfb, Bool.true_and] at hst
 rw [he0 hfb] at cc
 by_cases h0 : k = 0
 ·subst h0
  clear hN3 hU4
  (repeat' (first | (with_reducible intro _) | refine sv ?_ | (refine sc ?_ ?_ <;> (intro h; try first | exact h.elim | exact absurd rfl h | (exfalso; omega))) | ((with_reducible first | apply x_pure | apply d_pure | apply d_pure0); exact gd; exact rfl; exact rfl; (first | exact cc)) | (refine sg ?_ ?_ <;> (intro h; (fail_if_success (have : True := h)); try first | exact h.elim | exact absurd rfl h | (exfalso; omega))) | assumption | exact xm | exact rfl))
  refine k_step (L.length - (0 + 1)) (by omega) ⟨1, rfl, by omega, rfl, .cons rfl (.cons rfl (.cons rfl (.cons rfl .nil))), (hg2.trans hg4).trans (xg), by rw [hst]; rfl⟩
 ·rw [decide_eq_false h0, Bool.false_or] at hst
  obtain ⟨i2, o2, b2, g2, u2, he2, hr2, hfv2⟩ := (hs1.grow hg2).rd (k := k - 1) (by omega)
  obtain ⟨rfl, rfl⟩ : i2 = i /\ o2 = o := by injection he2 with q; injection q with q1 q2; exact ⟨q1.symm, q2.symm⟩
  have hkk : ((k : Int) - 1).toNat = k - 1 := by omega
  have hge := cmpK_ge (rlK_fr (i := k - 1) hok (by omega)) hfb
  have ck1 := fun M' (hg : Grow M4 M') => c_keyOf ((hfv2.grow hg4).grow hg)
  have ck2 := fun M' (hg : Grow M4 M') => c_keyOf ((hfv.grow hg4).grow hg)
  have co := fun M' => c_order (fe L (k - 1)).1 (fe L (k - 1)).2.1 (fe L k).1 (fe L k).2.1 M'
  have hr4 := hr2.grow hg4
  rw [<- hkk] at hr4
  rw [hkk] at hr4
  have hr5 : Rd M4 i2 (o2 + ((k : Int) - 1).toNat * 3) 3 [I (fe L (k - 1)).1, I (fe L (k - 1)).2.1, .slice b2 (fe L (k - 1)).2.2.length g2 u2] := by rw [hkk]; exact hr4
  generalize hC : cmpK ((fe L (k - 1)).1, (fe L (k - 1)).2.1) ((fe L k).1, (fe L k).2.1) = C at *
  generalize decide (keyI (fe L (k - 1)) < keyI (fe L k)) = B at *
  have hgM := hg1.trans (hg2.trans hg4)
  have hg24 := hg2.trans hg4
  clear hN3 hU4 hg4 hr hr2 hr4 hfv hfv2 hrd0
  (have hrd0 := hr5; repeat' (first | (with_reducible intro _) | refine sv ?_ | (refine sc ?_ ?_ <;> (intro h; try first | exact h.elim | exact absurd rfl h | (exfalso; omega))) | ((with_reducible first | apply x_pure | apply d_pure | apply d_pure0); exact gd; exact rfl; exact rfl; (first | exact cc | exact ck1 _ (xg) | exact ck2 _ (xg) | exact co _)) | (refine sg ?_ ?_ <;> (intro h; (fail_if_success (have : True := h)); try first | exact h.elim | exact absurd rfl h | (exfalso; omega))) | assumption | exact xm | exact rfl))
  ·have hB : B = false := by
    have h9 : decide (C >= 0) = true := decide_eq_true h
    rw [h9] at hge
    cases B
    ·rfl
    ·cases hge
   rw [hno (by rw [hst, hB])]
   ((with_reducible first | apply k_fun | apply k_fun_norm); exact rx)
   exact ⟨rfl, hgM.trans (xg)⟩
  ·have hB : B = true := by
    have h9 : decide (C >= 0) = false := decide_eq_false (by omega)
    rw [h9] at hge
    cases B
    ·cases hge
    ·rfl
   exact k_step (L.length - (k + 1)) (by omega) ⟨k + 1, rfl, by omega, rfl, .cons rfl (.cons rfl (.cons rfl (.cons rfl .nil))), hg24.trans (xg), by rw [hst, hB]⟩
set_option maxHeartbeats 8000000 in
theorem c_CheckReelR {M : Mem} {v : LV} {r : Rl} (hv : RlV M v r) (hin : RlIn r) : CallOk Tryz.prog 48 [v] M (fun w M' => w = I (errRl r) /\ Grow M M') := by
 obtain ⟨a, f, e, rfl, hs⟩ := hv
 refine call_in k48 rfl ?_
 dsimp only [x48, zipE, Nat.reduceAdd]
 have cn := fun M => c_IsNameR r.1 hin.1 M
 cases hnm : nmB r.1 with
 | false =>
  have he : errRl r = 81 := by unfold errRl rlB; rw [hnm]; rfl
  rw [he]
  rw [hnm] at cn
  (repeat' (first | (with_reducible intro _) | refine sv ?_ | (refine sc ?_ ?_ <;> (intro h; try first | exact h.elim | exact absurd rfl h | (exfalso; omega))) | ((with_reducible first | apply x_same | apply d_same | apply d_same0); exact gd; exact rfl; exact rfl; (first | exact cn _)) | (refine sg ?_ ?_ <;> (intro h; (fail_if_success (have : True := h)); try first | exact h.elim | exact absurd rfl h | (exfalso; omega))) | assumption | exact xm | exact rfl))
  ((with_reducible first | apply k_fun | apply k_fun_norm); exact rx)
  exact ⟨rfl, xg⟩
 | true =>
 rw [hnm] at cn
 by_cases hl : ¬ r.2.length <= 128
 ·have he : errRl r = 81 := by unfold errRl rlB; rw [decide_eq_false hl, Bool.and_false]; rfl
  rw [he]
  have hl2 := hin.2.1
  (repeat' (first | (with_reducible intro _) | refine sv ?_ | (refine sc ?_ ?_ <;> (intro h; try first | exact h.elim | exact absurd rfl h | (exfalso; omega))) | ((with_reducible first | apply x_same | apply d_same | apply d_same0); exact gd; exact rfl; exact rfl; (first | exact cn _)) | (refine sg ?_ ?_ <;> (intro h; (fail_if_success (have : True := h)); try first | exact h.elim | exact absurd rfl h | (exfalso; omega))) | assumption | exact xm | exact rfl))
  all_goals try (exfalso; omega)
  ((with_reducible first | apply k_fun | apply k_fun_norm); exact rx)
  exact ⟨rfl, xg⟩
 have hl : r.2.length <= 128 := by omega
 have hok9 : rlK r.2 r.2.length = true -> errRl r = 0 := fun h => by unfold errRl rlB; rw [hnm, decide_eq_true hl, h]; rfl
 have hno9 := fun k (hk : k <= r.2.length) h => errRl_no (r := r) hk h
 have hfr := fun k (hk : k < r.2.length) => hin.fr hk
 generalize errRl r = ER at *
 generalize r.2 = L at *
 generalize r.1 = nm at *
 clear hnm
 (repeat' (first | (with_reducible intro _) | refine sv ?_ | (refine sc ?_ ?_ <;> (intro h; try first | exact h.elim | exact absurd rfl h | (exfalso; omega))) | ((with_reducible first | apply x_same | apply d_same | apply d_same0); exact gd; exact rfl; exact rfl; (first | exact cn _)) | (refine sg ?_ ?_ <;> (intro h; (fail_if_success (have : True := h)); try first | exact h.elim | exact absurd rfl h | (exfalso; omega))) | assumption | exact xm | exact rfl))
 rename_i m1 M1 hN1 q1 q2
 have hA1 := At.new_same hN1
 have hg1 := hN1.grow
 have hs1 := hs.grow hg1
 clear hN1 h
 dsimp only [LV.cells] at hA1
 refine w_loop_ind (fun z E ms M' => ∃ k : Nat, z = L.length - k /\ k <= L.length /\ ms = [] /\ Has E [(1, .ptr (some (m1, 0))), (3, I k)] /\ Grow M1 M' /\ rlK L k = true)
  ?_ L.length _ _ _ ⟨0, by omega, by omega, rfl, .cons rfl (.cons rfl .nil), Grow.refl _, rfl⟩
 rintro z E ms M4 ⟨k, rfl, hk, rfl, hE, hg24, hok⟩
 refine w_has hE ?_
 have hA1b := At.grow hg24 hA1
 by_cases hlast : k = L.length
 ·subst hlast
  rw [hok9 hok]
  (repeat' (first | (with_reducible intro _) | refine sv ?_ | (refine sc ?_ ?_ <;> (intro h; try first | exact h.elim | exact absurd rfl h | (exfalso; omega))) | (refine sg ?_ ?_ <;> (intro h; (fail_if_success (have : True := h)); try first | exact h.elim | exact absurd rfl h | (exfalso; omega))) | assumption | exact xm | exact rfl))
  ((with_reducible first | apply k_fun | apply k_fun_norm); exact rx)
  exact ⟨rfl, hg1.trans hg24⟩
 have hlt : k < L.length := by omega
 have hst := rlK_s L k
 rw [hok, Bool.true_and] at hst
 obtain ⟨i, o, b, g, u, rfl, hr, hfv⟩ := (hs1.grow hg24).rd hlt
 have hfi := hfr k hlt
 have hno := hno9 (k + 1) (by omega)
 have cc := c_CheckFrameR hfv hfi
 have hgM := hg1.trans hg24
 have he80 : frB (fe L k) = false -> errF (fe L k) = 80 := fun h => by unfold errF; rw [h]; rfl
 have he0 : frB (fe L k) = true -> errF (fe L k) = 0 := fun h => by unfold errF; rw [h]; rfl
 cases hfb : frB (fe L k) with
 | false =>
  rw [hfb] at hst
  rw [he80 hfb] at cc
  rw [hno (by rw [hst]; rfl)]
  (have hrd0 := hr; repeat' (first | (with_reducible intro _) | refine sv ?_ | (refine sc ?_ ?_ <;> (intro h; try first | exact h.elim | exact absurd rfl h | (exfalso; omega))) | ((with_reducible first | apply x_pure | apply d_pure | apply d_pure0); exact gd; exact rfl; exact rfl; (first | exact cc)) | (refine sg ?_ ?_ <;> (intro h; (fail_if_success (have : True := h)); try first | exact h.elim | exact absurd rfl h | (exfalso; omega))) | assumption | exact xm | exact rfl))
  ((with_reducible first | apply k_fun | apply k_fun_norm); exact rx)
  exact ⟨rfl, hgM.trans (xg)⟩
 | true =>
 rw [hfb, Bool.true_and] at hst
 rw [he0 hfb] at cc
 by_cases h0 : k = 0
 ·subst h0
  (have hrd0 := hr; repeat' (first | (with_reducible intro _) | refine sv ?_ | (refine sc ?_ ?_ <;> (intro h; try first | exact h.elim | exact absurd rfl h | (exfalso; omega))) | ((with_reducible first | apply x_pure | apply d_pure | apply d_pure0); exact gd; exact rfl; exact rfl; (first | exact cc)) | (refine sg ?_ ?_ <;> (intro h; (fail_if_success (have : True := h)); try first | exact h.elim | exact absurd rfl h | (exfalso; omega))) | assumption | exact xm | exact rfl))
  refine k_step (L.length - (0 + 1)) (by omega) ⟨1, rfl, by omega, rfl, .cons rfl (.cons rfl .nil), hg24.trans (xg), by rw [hst]; rfl⟩
 ·rw [decide_eq_false h0, Bool.false_or] at hst
  obtain ⟨i2, o2, b2, g2, u2, he2, hr2, hfv2⟩ := (hs1.grow hg24).rd (k := k - 1) (by omega)
  obtain ⟨rfl, rfl⟩ : i2 = i /\ o2 = o := by injection he2 with q; injection q with q1 q2; exact ⟨q1.symm, q2.symm⟩
  have hkk : ((k : Int) - 1).toNat = k - 1 := by omega
  have hb1 := frB_bd hfb
  have hb2 := frB_bd (rlK_fr (i := k - 1) hok (by omega))
  have ck1 := fun M' (hg : Grow M4 M') => c_orderR (hfv2.grow hg) ⟨hb2.1, hb2.2.1, hb2.2.2.1, hb2.2.2.2.1⟩
  have ck2 := fun M' (hg : Grow M4 M') => c_orderR (hfv.grow hg) ⟨hb1.1, hb1.2.1, hb1.2.2.1, hb1.2.2.2.1⟩
  have hr5 : Rd M4 i2 (o2 + ((k : Int) - 1).toNat * 3) 3 [I (fe L (k - 1)).1, I (fe L (k - 1)).2.1, .slice b2 (fe L (k - 1)).2.2.length g2 u2] := by rw [hkk]; exact hr2
  have hk1 : keyI (fe L (k - 1)) = 24 * (fe L (k - 1)).1 + (fe L (k - 1)).2.1 := rfl
  have hk2 : keyI (fe L k) = 24 * (fe L k).1 + (fe L k).2.1 := rfl
  rw [<- hk1] at ck1
  rw [<- hk2] at ck2
  clear hk1 hk2
  generalize keyI (fe L (k - 1)) = K1 at *
  generalize keyI (fe L k) = K2 at *
  have hg24t : Grow M1 M4 /\ True := ⟨hg24, trivial⟩
  have hgMt : Grow M M4 /\ True := ⟨hgM, trivial⟩
  clear hr2 hfv hfv2 hg24 hgM hg1
  (have hrd0 := hr; have hrd1 := hr5; repeat' (first | (with_reducible intro _) | refine sv ?_ | (refine sc ?_ ?_ <;> (intro h; try first | exact h.elim | exact absurd rfl h | (exfalso; omega))) | ((with_reducible first | apply x_pure | apply d_pure | apply d_pure0); exact gd; exact rfl; exact rfl; (first | exact cc | exact ck1 _ (xg) | exact ck2 _ (xg))) | (refine sg ?_ ?_ <;> (intro h; (fail_if_success (have : True := h)); try first | exact h.elim | exact absurd rfl h | (exfalso; omega))) | assumption | exact xm | exact rfl))
  ·rw [hno (by rw [hst]; exact decide_eq_false (by omega))]
   ((with_reducible first | apply k_fun | apply k_fun_norm); exact rx)
   exact ⟨rfl, hgMt.1.trans (xg)⟩
  ·exact k_step (L.length - (k + 1)) (by omega) ⟨k + 1, rfl, by omega, rfl, .cons rfl (.cons rfl .nil), hg24t.1.trans (xg), by rw [hst]; exact decide_eq_true (by omega)⟩
end Go.Proofs.YtbfnnllgdioccaaGreatDoor.C
end
