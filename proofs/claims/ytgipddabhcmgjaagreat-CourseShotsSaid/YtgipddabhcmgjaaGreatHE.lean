/-
  Part of the proof of CourseShots: what functions of the program and of the statement come to, walked by the rules. No condition beyond those in each theorem.
-/
import Derived.Test.YtgipddabhcmgjaaGreatHD
import Derived.Test.YtgipddabhcmgjaaGreatSB
import Derived.Test.YtgipddabhcmgjaaGreatPvE
section
open Go PvL Go.Proofs
set_option linter.unusedVariables false
set_option linter.unusedSimpArgs false
namespace Go.Proofs.YtgipddabhcmgjaaGreat.C
theorem if_list {α : Type} {P : α → Prop} {l : List α} {k : Nat} (h : ∀ j (hj : j < l.length), j < k → P l[j]) (hk : l.length ≤ k) : ∀ x ∈ l, P x := fun x hx => by
  obtain ⟨j, hj, rfl⟩ := List.getElem_of_mem hx
  exact h j hj (by omega)
set_option maxHeartbeats 16000000 in
theorem c_CheckCruise4 {A : CrA} {s : Cr} {M : Mem} (hM : CrM M A s) : CallOk Tryz.prog 19 [crv A s] M (fun w M' => w = I (eCrB s) ∧ Grow M M') := by
  refine call_in k19 rfl ?_
  dsimp only [x19, zipE, Nat.reduceAdd]
  obtain ⟨aL, fL, aF, fF, aB, fB, aO, fO⟩ := A
  have hnl := hM.nl
  have hnf := hM.nf
  have hnb := hM.nb
  have hno := hM.no
  by_cases h0 : ((1 ≤ s.lines.length ∧ s.lines.length ≤ 5) ∧ s.fields.length ≤ 4 ∧ s.buoys.length ≤ 4 ∧ s.opn.length = s.lines.length) ∧ (PlP s.start.1 ∧ 0 ≤ s.start.2 ∧ s.start.2 ≤ 7) ∧ (1 ≤ s.speed ∧ s.speed ≤ 1000) ∧ (0 ≤ s.turn ∧ s.turn ≤ 1000)
  rotate_left
  · have hb : crB s = false := crB_f fun hc => h0 ⟨⟨⟨hc.n1, hc.n5⟩, hc.nf, hc.nb, hc.no⟩, hc.start, hc.speed, hc.turn⟩
    have he : eCrB s = 40 := if_neg (by rw [hb]; decide)
    (repeat' (first | (with_reducible intro _) | refine sv ?_ | refine su ?_ | (refine sc ?_ ?_ <;> (intro h; try first | exact h.elim | exact absurd rfl h | (exfalso; omega))) | ((with_reducible first | apply x_same | apply d_same); exact gd; exact rfl; exact rfl; (first | exact c_between _ _ _ _)) | ((with_reducible first | apply x_pure | apply d_pure); exact gd; exact rfl; exact rfl; (first | exact c_pose4 _ _)) | (refine sg ?_ ?_ <;> (intro h; (fail_if_success (have : True := h)); try first | exact h.elim | exact absurd rfl h | (exfalso; omega))) | assumption | exact xm | exact rfl))
    all_goals first
      | (((with_reducible first | apply k_fun | apply k_fun_norm); exact rx)
         exact ⟨by rw [he]; rfl, xg⟩)
      | (exfalso; omega)
      | trace_state
  have h1 : (1 ≤ (s.lines.length : Int) ∧ (s.lines.length : Int) ≤ 5) ∧ (s.fields.length : Int) ≤ 4 ∧ (s.buoys.length : Int) ≤ 4 ∧ (s.opn.length : Int) = s.lines.length := by omega
  obtain ⟨h0n, h0p, h0s, h0t⟩ := h0
  (repeat' (first | (with_reducible intro _) | refine sv ?_ | (refine sc ?_ ?_ <;> (intro h; try first | exact h.elim | exact absurd rfl h | (exfalso; omega))) | ((with_reducible first | apply x_same | apply d_same); exact gd; exact rfl; exact rfl; (first | exact c_between _ _ _ _)) | ((with_reducible first | apply x_pure | apply d_pure); exact gd; exact rfl; exact rfl; (first | exact c_pose4 _ _)) | (refine sg ?_ ?_ <;> (intro h; (fail_if_success (have : True := h)); try first | exact h.elim | exact absurd rfl h | (exfalso; omega))) | assumption | exact xm | exact rfl))
  all_goals try (exfalso; omega)
  rename_i n1 M1 hn1 e1 e2 _ _ _ M1b hg1b e2b _ _
  refine w_loop_ind (fun n E ms M' => ∃ (k : Nat) (b : Bool), n = s.lines.length - k ∧ k ≤ s.lines.length ∧ ms = [] ∧ Has E [(1, .ptr (some (n1, 0))), (3, .bool b), (4, I k)] ∧ Grow M M' ∧ M1.next ≤ M'.next ∧ At M' n1 (.cells true (crc ⟨aL, fL, aF, fF, aB, fB, aO, fO⟩ s) 41) ∧
      (b = true → ∀ j (hj : j < s.lines.length), j < k → LineOk s.lines[j] ∧ WinOk (s.opn[j]'(by omega))) ∧ (b = false → crB s = false)) ?_ s.lines.length _ _ _
    ⟨0, _, by omega, by omega, rfl, .cons rfl (.cons rfl (.cons rfl .nil)), xg, by omega, xm, fun _ j hj h => absurd h (Nat.not_lt_zero _), fun h => by rw [decide_eq_true h0t] at h; cases h⟩
  rintro n E ms M2 ⟨k, b, rfl, hk, rfl, hE, hG, hle1, a1, hall, hbad0⟩
  have hle := hG.le
  refine w_has hE ?_
  by_cases hgo : b = true ∧ k < s.lines.length
  · obtain ⟨rfl, hlt⟩ := hgo
    have hlt2 : k < s.opn.length := by omega
    obtain ⟨i, o, rfl, hr⟩ := (show SlA 4 legc M aL s.lines from hM.lines).resolve_left (fun e => by rw [e] at hlt; simp at hlt)
    obtain ⟨i2, o2, rfl, hr2⟩ := (show SlL 2 bdc M aO s.opn from hM.opn).resolve_left (fun e => by rw [e] at hlt2; simp at hlt2)
    obtain ⟨a', f', g1, g2, g3⟩ := hr2 k hlt2
    have r1 : Rd M2 i (o + k * 4) 4 (legc s.lines[k]) := (hr k hlt).grow hG
    have r2 : Rd1 M2 i2 (o2 + k * 1) (.slice a' s.opn[k].length f' 2) := g1.grow hG
    have hw := fun M' (hg : Grow M M') => c_windows4 (f := f') (g2.grow hg) g3
    have hi1 := r1.2
    have hi2 := r2.2
    have hbad : ¬ (LineOk s.lines[k] ∧ WinOk s.opn[k]) → crB s = false := fun hn => crB_f fun hc => hn ⟨hc.lines _ (List.getElem_mem hlt), hc.opn _ (List.getElem_mem hlt2)⟩
    have hgood : LineOk s.lines[k] ∧ WinOk s.opn[k] → ∀ j (hj : j < s.lines.length), j < k + 1 → LineOk s.lines[j] ∧ WinOk (s.opn[j]'(by omega)) := fun hg j hj h => by
      by_cases hjk : j = k
      · subst hjk; exact hg
      · exact hall rfl j hj (by omega)
    clear hall hbad0
    by_cases q1 : PlP s.lines[k].1
    · have e1 : Pl s.lines[k].1.1 s.lines[k].1.2 := q1
      by_cases q2 : PlP s.lines[k].2
      · have e2 : Pl s.lines[k].2.1 s.lines[k].2.2 := q2
        by_cases q3 : s.lines[k].1.1 = s.lines[k].2.1 ∧ s.lines[k].1.2 = s.lines[k].2.2
        · have hb := hbad fun hh => hh.1.2.2 (Prod.ext q3.1 q3.2)
          (have hrd0 := r1; have hrd1 := r2; repeat' (first | (with_reducible intro _) | refine sv ?_ | (refine sc ?_ ?_ <;> (intro h; try first | exact h.elim | exact absurd rfl h | (exfalso; omega))) | ((with_reducible first | apply x_pure | apply d_pure); exact gd; exact rfl; exact rfl; (first | exact c_place4 _ _ _)) | (refine sg ?_ ?_ <;> (intro h; (fail_if_success (have : True := h)); try first | exact h.elim | exact absurd rfl h | (exfalso; omega))) | assumption | exact xm | exact rfl))
          all_goals try (exfalso; omega)
          refine k_step (s.lines.length - (k + 1)) (by omega) ⟨k + 1, _, rfl, by omega, rfl, .cons rfl (.cons rfl (.cons rfl .nil)), xg, by omega, xm, fun h => absurd h (by simp), fun _ => hb⟩
        · by_cases q4 : WinOk s.opn[k]
          · rw [winB_t q4] at hw
            have hg := hgood ⟨⟨q1, q2, fun e => q3 (by rw [e]; exact ⟨rfl, rfl⟩)⟩, q4⟩
            (have hrd0 := r1; have hrd1 := r2; repeat' (first | (with_reducible intro _) | refine sv ?_ | (refine sc ?_ ?_ <;> (intro h; try first | exact h.elim | exact absurd rfl h | (exfalso; omega))) | ((with_reducible first | apply x_pure | apply d_pure); exact gd; exact rfl; exact rfl; (first | exact c_place4 _ _ _ | exact hw _ (xg))) | (refine sg ?_ ?_ <;> (intro h; (fail_if_success (have : True := h)); try first | exact h.elim | exact absurd rfl h | (exfalso; omega))) | assumption | exact xm | exact rfl))
            all_goals try (exfalso; omega)
            all_goals refine k_step (s.lines.length - (k + 1)) (by omega) ⟨k + 1, _, rfl, by omega, rfl, .cons rfl (.cons rfl (.cons rfl .nil)), xg, by omega, xm, fun _ => hg, fun h => absurd h (by simp)⟩
          · have hb := hbad fun hh => q4 hh.2
            rw [winB_f q4] at hw
            (have hrd0 := r1; have hrd1 := r2; repeat' (first | (with_reducible intro _) | refine sv ?_ | (refine sc ?_ ?_ <;> (intro h; try first | exact h.elim | exact absurd rfl h | (exfalso; omega))) | ((with_reducible first | apply x_pure | apply d_pure); exact gd; exact rfl; exact rfl; (first | exact c_place4 _ _ _ | exact hw _ (xg))) | (refine sg ?_ ?_ <;> (intro h; (fail_if_success (have : True := h)); try first | exact h.elim | exact absurd rfl h | (exfalso; omega))) | assumption | exact xm | exact rfl))
            all_goals try (exfalso; omega)
            all_goals refine k_step (s.lines.length - (k + 1)) (by omega) ⟨k + 1, _, rfl, by omega, rfl, .cons rfl (.cons rfl (.cons rfl .nil)), xg, by omega, xm, fun h => absurd h (by simp), fun _ => hb⟩
      · have e2 : ¬ Pl s.lines[k].2.1 s.lines[k].2.2 := q2
        have hb := hbad fun hh => q2 hh.1.2.1
        (have hrd0 := r1; have hrd1 := r2; repeat' (first | (with_reducible intro _) | refine sv ?_ | (refine sc ?_ ?_ <;> (intro h; try first | exact h.elim | exact absurd rfl h | (exfalso; omega))) | ((with_reducible first | apply x_pure | apply d_pure); exact gd; exact rfl; exact rfl; (first | exact c_place4 _ _ _)) | (refine sg ?_ ?_ <;> (intro h; (fail_if_success (have : True := h)); try first | exact h.elim | exact absurd rfl h | (exfalso; omega))) | assumption | exact xm | exact rfl))
        all_goals try (exact absurd (by assumption) e2)
        all_goals refine k_step (s.lines.length - (k + 1)) (by omega) ⟨k + 1, _, rfl, by omega, rfl, .cons rfl (.cons rfl (.cons rfl .nil)), xg, by omega, xm, fun h => absurd h (by simp), fun _ => hb⟩
    · have e1 : ¬ Pl s.lines[k].1.1 s.lines[k].1.2 := q1
      have hb := hbad fun hh => q1 hh.1.1
      (have hrd0 := r1; have hrd1 := r2; repeat' (first | (with_reducible intro _) | refine sv ?_ | (refine sc ?_ ?_ <;> (intro h; try first | exact h.elim | exact absurd rfl h | (exfalso; omega))) | ((with_reducible first | apply x_pure | apply d_pure); exact gd; exact rfl; exact rfl; (first | exact c_place4 _ _ _)) | (refine sg ?_ ?_ <;> (intro h; (fail_if_success (have : True := h)); try first | exact h.elim | exact absurd rfl h | (exfalso; omega))) | assumption | exact xm | exact rfl))
      all_goals try (exact absurd (by assumption) e1)
      all_goals refine k_step (s.lines.length - (k + 1)) (by omega) ⟨k + 1, _, rfl, by omega, rfl, .cons rfl (.cons rfl (.cons rfl .nil)), xg, by omega, xm, fun h => absurd h (by simp), fun _ => hb⟩
  cases b with
  | false =>
    have he : eCrB s = 40 := if_neg (by rw [hbad0 rfl]; decide)
    (repeat' (first | (with_reducible intro _) | refine sv ?_ | refine su ?_ | (refine sc ?_ ?_ <;> (intro h; try first | exact h.elim | exact absurd rfl h | (exfalso; omega))) | ((with_reducible first | apply x_pure | apply d_pure); exact gd; exact rfl; exact rfl; (first | exact c_Check1 _ _)) | (refine sg ?_ ?_ <;> (intro h; (fail_if_success (have : True := h)); try first | exact h.elim | exact absurd rfl h | (exfalso; omega))) | assumption | exact xm | exact rfl))
    ((with_reducible first | apply k_fun | apply k_fun_norm); exact rx)
    exact ⟨by rw [he]; rfl, xg⟩
  | true =>
  have hk2 : s.lines.length ≤ k := by
    by_cases h : k < s.lines.length
    · exact absurd ⟨rfl, h⟩ hgo
    · omega
  have hlines : ∀ l ∈ s.lines, LineOk l := if_list (fun j hj h => (hall rfl j hj h).1) hk2
  have hopn : ∀ l ∈ s.opn, WinOk l := fun l hl => by
    obtain ⟨j, hj, rfl⟩ := List.getElem_of_mem hl
    exact (hall rfl j (by omega) (by omega)).2
  clear hall hbad0
  (repeat' (first | (with_reducible intro _) | refine sv ?_ | (refine sc ?_ ?_ <;> (intro h; try first | exact h.elim | exact absurd rfl h | (exfalso; omega))) | (refine sg ?_ ?_ <;> (intro h; (fail_if_success (have : True := h)); try first | exact h.elim | exact absurd rfl h | (exfalso; omega))) | assumption | exact xm | exact rfl))
  clear hE
  refine w_loop_ind (fun n E ms M' => ∃ (k : Nat) (b : Bool), n = s.fields.length - k ∧ k ≤ s.fields.length ∧ ms = [] ∧ Has E [(1, .ptr (some (n1, 0))), (3, .bool b), (6, I k)] ∧ Grow M M' ∧ M1.next ≤ M'.next ∧ At M' n1 (.cells true (crc ⟨aL, fL, aF, fF, aB, fB, aO, fO⟩ s) 41) ∧
      (b = true → ∀ j (hj : j < s.fields.length), j < k → FieldOk s.fields[j]) ∧ (b = false → crB s = false)) ?_ s.fields.length _ _ _
    ⟨0, _, by omega, by omega, rfl, .cons rfl (.cons rfl (.cons rfl .nil)), xg, by omega, xm, fun _ j hj h => absurd h (Nat.not_lt_zero _), fun h => by cases h⟩
  clear hgo hk2 hk hle hle1 a1 hG h
  clear M2 k E
  rintro n E ms M2 ⟨k, b, rfl, hk, rfl, hE, hG, hle1, a1, hall, hbad0⟩
  have hle := hG.le
  refine w_has hE ?_
  by_cases hgo : b = true ∧ k < s.fields.length
  · obtain ⟨rfl, hlt⟩ := hgo
    obtain ⟨i2, o2, rfl, hr2⟩ := (show SlL 2 ptc M aF s.fields from hM.fields).resolve_left (fun e => by rw [e] at hlt; simp at hlt)
    obtain ⟨a', f', g1, g2, g3⟩ := hr2 k hlt
    have r2 : Rd1 M2 i2 (o2 + k * 1) (.slice a' s.fields[k].length f' 2) := g1.grow hG
    have hi2 := r2.2
    have hcf := fun M' (hg : Grow M M') => c_CheckField1 (f := f') (g2.grow hg) g3
    have hgood : FieldOk s.fields[k] → ∀ j (hj : j < s.fields.length), j < k + 1 → FieldOk s.fields[j] := fun hg j hj h => by
      by_cases hjk : j = k
      · subst hjk; exact hg
      · exact hall rfl j hj (by omega)
    (have hrd0 := r2; repeat' (first | (with_reducible intro _) | refine sv ?_ | (refine sc ?_ ?_ <;> (intro h; try first | exact h.elim | exact absurd rfl h | (exfalso; omega))) | ((with_reducible first | apply x_pure | apply d_pure); exact gd; exact rfl; exact rfl; (first | exact hcf _ (xg))) | (refine sg ?_ ?_ <;> (intro h; (fail_if_success (have : True := h)); try first | exact h.elim | exact absurd rfl h | (exfalso; omega))) | assumption | exact xm | exact rfl))
    refine k_step (s.fields.length - (k + 1)) (by omega) ⟨k + 1, _, rfl, by omega, rfl, .cons rfl (.cons rfl (.cons rfl .nil)), xg, by omega, xm, fun h => hgood ?_, fun h => crB_f fun hc => ?_⟩
    · have h := of_decide_eq_true h
      exact Classical.byContradiction fun hn => by unfold eFd at h; rw [if_neg hn] at h; cases h
    · have h := of_decide_eq_false h
      exact h (if_pos (hc.fields _ (List.getElem_mem hlt)))
  cases b with
  | false =>
    have he : eCrB s = 40 := if_neg (by rw [hbad0 rfl]; decide)
    (repeat' (first | (with_reducible intro _) | refine sv ?_ | refine su ?_ | (refine sc ?_ ?_ <;> (intro h; try first | exact h.elim | exact absurd rfl h | (exfalso; omega))) | ((with_reducible first | apply x_pure | apply d_pure); exact gd; exact rfl; exact rfl; (first | exact c_Check1 _ _)) | (refine sg ?_ ?_ <;> (intro h; (fail_if_success (have : True := h)); try first | exact h.elim | exact absurd rfl h | (exfalso; omega))) | assumption | exact xm | exact rfl))
    ((with_reducible first | apply k_fun | apply k_fun_norm); exact rx)
    exact ⟨by rw [he]; rfl, xg⟩
  | true =>
  have hk2 : s.fields.length ≤ k := by
    by_cases h : k < s.fields.length
    · exact absurd ⟨rfl, h⟩ hgo
    · omega
  have hfields : ∀ l ∈ s.fields, FieldOk l := if_list (hall rfl) hk2
  clear hall hbad0
  (repeat' (first | (with_reducible intro _) | refine sv ?_ | (refine sc ?_ ?_ <;> (intro h; try first | exact h.elim | exact absurd rfl h | (exfalso; omega))) | (refine sg ?_ ?_ <;> (intro h; (fail_if_success (have : True := h)); try first | exact h.elim | exact absurd rfl h | (exfalso; omega))) | assumption | exact xm | exact rfl))
  clear hE
  refine w_loop_ind (fun n E ms M' => ∃ (k : Nat) (b : Bool), n = s.buoys.length - k ∧ k ≤ s.buoys.length ∧ ms = [] ∧ Has E [(1, .ptr (some (n1, 0))), (3, .bool b), (7, I k)] ∧ Grow M M' ∧ M1.next ≤ M'.next ∧ At M' n1 (.cells true (crc ⟨aL, fL, aF, fF, aB, fB, aO, fO⟩ s) 41) ∧
      (b = true → ∀ j (hj : j < s.buoys.length), j < k → PlP s.buoys[j]) ∧ (b = false → crB s = false)) ?_ s.buoys.length _ _ _
    ⟨0, _, by omega, by omega, rfl, .cons rfl (.cons rfl (.cons rfl .nil)), xg, by omega, xm, fun _ j hj h => absurd h (Nat.not_lt_zero _), fun h => by cases h⟩
  clear hgo hk2 hk hle hle1 a1 hG h
  clear M2 k E
  rintro n E ms M2 ⟨k, b, rfl, hk, rfl, hE, hG, hle1, a1, hall, hbad0⟩
  have hle := hG.le
  refine w_has hE ?_
  by_cases hgo : b = true ∧ k < s.buoys.length
  · obtain ⟨rfl, hlt⟩ := hgo
    obtain ⟨i2, o2, rfl, hr2⟩ := (show SlA 2 ptc M aB s.buoys from hM.buoys).resolve_left (fun e => by rw [e] at hlt; simp at hlt)
    have r2 : Rd M2 i2 (o2 + k * 2) 2 (ptc s.buoys[k]) := (hr2 k hlt).grow hG
    have hi2 := r2.2
    have hgood : PlP s.buoys[k] → ∀ j (hj : j < s.buoys.length), j < k + 1 → PlP s.buoys[j] := fun hg j hj h => by
      by_cases hjk : j = k
      · subst hjk; exact hg
      · exact hall rfl j hj (by omega)
    (have hrd0 := r2; repeat' (first | (with_reducible intro _) | refine sv ?_ | (refine sc ?_ ?_ <;> (intro h; try first | exact h.elim | exact absurd rfl h | (exfalso; omega))) | ((with_reducible first | apply x_pure | apply d_pure); exact gd; exact rfl; exact rfl; (first | exact c_place4 _ _ _)) | (refine sg ?_ ?_ <;> (intro h; (fail_if_success (have : True := h)); try first | exact h.elim | exact absurd rfl h | (exfalso; omega))) | assumption | exact xm | exact rfl))
    refine k_step (s.buoys.length - (k + 1)) (by omega) ⟨k + 1, _, rfl, by omega, rfl, .cons rfl (.cons rfl (.cons rfl .nil)), xg, by omega, xm, fun h => hgood (of_decide_eq_true h), fun h => crB_f fun hc => of_decide_eq_false h (hc.buoys _ (List.getElem_mem hlt))⟩
  cases b with
  | false =>
    have he : eCrB s = 40 := if_neg (by rw [hbad0 rfl]; decide)
    (repeat' (first | (with_reducible intro _) | refine sv ?_ | refine su ?_ | (refine sc ?_ ?_ <;> (intro h; try first | exact h.elim | exact absurd rfl h | (exfalso; omega))) | ((with_reducible first | apply x_pure | apply d_pure); exact gd; exact rfl; exact rfl; (first | exact c_Check1 _ _)) | (refine sg ?_ ?_ <;> (intro h; (fail_if_success (have : True := h)); try first | exact h.elim | exact absurd rfl h | (exfalso; omega))) | assumption | exact xm | exact rfl))
    ((with_reducible first | apply k_fun | apply k_fun_norm); exact rx)
    exact ⟨by rw [he]; rfl, xg⟩
  | true =>
  have hk2 : s.buoys.length ≤ k := by
    by_cases h : k < s.buoys.length
    · exact absurd ⟨rfl, h⟩ hgo
    · omega
  have hbuoys : ∀ l ∈ s.buoys, PlP l := if_list (hall rfl) hk2
  clear hall hbad0
  by_cases hT : RgOk s.spread
  rotate_left
  · have he : eCrB s = 40 := if_neg (by rw [crB_f fun hc => hT hc.spread.1]; decide)
    have hc : eRg s.spread = 11 := if_neg hT
    (repeat' (first | (with_reducible intro _) | refine sv ?_ | (refine sc ?_ ?_ <;> (intro h; try first | exact h.elim | exact absurd rfl h | (exfalso; omega))) | ((with_reducible first | apply x_pure | apply d_pure); exact gd; exact rfl; exact rfl; (first | exact c_Check1 _ _)) | (refine sg ?_ ?_ <;> (intro h; (fail_if_success (have : True := h)); try first | exact h.elim | exact absurd rfl h | (exfalso; omega))) | assumption | exact xm | exact rfl))
    ((with_reducible first | apply k_fun | apply k_fun_norm); exact rx)
    exact ⟨by rw [he]; rfl, xg⟩
  have hc : eRg s.spread = 0 := if_pos hT
  have hrg := hT
  dsimp only [RgOk, fitsP] at hrg
  by_cases hW : s.spread.1.2 - s.spread.1.1 ≤ 256 ∧ s.spread.2.1.2 - s.spread.2.1.1 ≤ 256
  rotate_left
  · have he : eCrB s = 40 := if_neg (by rw [crB_f fun hc => hW ⟨hc.spread.2.2.1, hc.spread.2.2.2⟩]; decide)
    (repeat' (first | (with_reducible intro _) | refine sv ?_ | (refine sc ?_ ?_ <;> (intro h; try first | exact h.elim | exact absurd rfl h | (exfalso; omega))) | ((with_reducible first | apply x_pure | apply d_pure); exact gd; exact rfl; exact rfl; (first | exact c_Check1 _ _)) | (refine sg ?_ ?_ <;> (intro h; (fail_if_success (have : True := h)); try first | exact h.elim | exact absurd rfl h | (exfalso; omega))) | assumption | exact xm | exact rfl))
    all_goals first
      | (exfalso; omega)
      | (((with_reducible first | apply k_fun | apply k_fun_norm); exact rx)
         exact ⟨by rw [he]; rfl, xg⟩)
  by_cases hI : (tightO s.spread).isSome = true
  · have he : eCrB s = 0 := if_pos (crB_t ⟨h0n.1.1, h0n.1.2, h0n.2.1, h0n.2.2.1, h0n.2.2.2, hlines, hopn, hfields, hbuoys, ⟨hT, hI, hW.1, hW.2⟩, h0p, h0s, h0t⟩)
    have ht := tightF_ok ⟨hT, hI⟩
    (repeat' (first | (with_reducible intro _) | refine sv ?_ | (refine sc ?_ ?_ <;> (intro h; try first | exact h.elim | exact absurd rfl h | (exfalso; omega))) | ((with_reducible first | apply x_pure | apply d_pure); exact gd; exact rfl; exact rfl; (first | exact c_Check1 _ _ | exact c_Tight1 _ _)) | (refine sg ?_ ?_ <;> (intro h; (fail_if_success (have : True := h)); try first | exact h.elim | exact absurd rfl h | (exfalso; omega))) | assumption | exact xm | exact rfl))
    ((with_reducible first | apply k_fun | apply k_fun_norm); exact rx)
    exact ⟨by rw [he]; rfl, xg⟩
  · have he : eCrB s = 40 := if_neg (by rw [crB_f fun hc => hI hc.spread.2.1]; decide)
    have ht := tightF_no fun hh => hI hh.2
    (repeat' (first | (with_reducible intro _) | refine sv ?_ | (refine sc ?_ ?_ <;> (intro h; try first | exact h.elim | exact absurd rfl h | (exfalso; omega))) | ((with_reducible first | apply x_pure | apply d_pure); exact gd; exact rfl; exact rfl; (first | exact c_Check1 _ _ | exact c_Tight1 _ _)) | (refine sg ?_ ?_ <;> (intro h; (fail_if_success (have : True := h)); try first | exact h.elim | exact absurd rfl h | (exfalso; omega))) | assumption | exact xm | exact rfl))
    ((with_reducible first | apply k_fun | apply k_fun_norm); exact rx)
    exact ⟨by rw [he]; rfl, xg⟩
end Go.Proofs.YtgipddabhcmgjaaGreat.C
end
section
open Go PvL Go.Proofs
set_option linter.unusedVariables false
set_option linter.unusedSimpArgs false
namespace Go.Proofs.YtgipddabhcmgjaaGreat.C
set_option maxHeartbeats 1000000 in
theorem c_steps4 {A : CrA} {s : Cr} {a b : Pt} {M : Mem} (hs : 1 ≤ s.speed ∧ s.speed ≤ 1000) (ha : PlP a) (hb : PlP b) :
    CallOk Tryz.prog 58 [crv A s, ptv a, ptv b] M (fun w M' => w = I (stepsF s.speed a b) ∧ Grow M M') := by
  have hd := dist_bd ha hb
  have hn : 0 ≤ distF a b ∧ distF a b ≤ 8589934592 := by unfold distF; omega
  have hsq := sqF_spec hn.1
  have hsb := sqF_le (B := 100000) hn.1 (by omega) (by omega)
  have hm := mul_bd (a := sqF (distF a b)) (b := sqF (distF a b)) (A := 100000) (B := 100000) (by omega) (by omega)
  have hup : ∀ n : Int, 0 ≤ n → -((-n).fdiv s.speed) = (n + s.speed - 1) / s.speed := fun n hn => by
    rw [fdiv_pos (by omega)]
    have h1 := Int.emod_add_mul_ediv (n + s.speed - 1) s.speed
    have h2 := Int.emod_nonneg (n + s.speed - 1) (by omega : s.speed ≠ 0)
    have h3 := Int.emod_lt_of_pos (n + s.speed - 1) (by omega : 0 < s.speed)
    have : (-n) / s.speed = -((n + s.speed - 1) / s.speed) := by
      refine (Int.ediv_emod_unique (by omega) (r := s.speed - 1 - (n + s.speed - 1) % s.speed)).2 ⟨?_, by omega, by omega⟩ |>.1
      rw [Int.mul_neg]
      omega
    omega
  unfold stepsF sqU
  unfold distF at *
  dsimp only [PlP, Pl] at ha hb
  refine call_in k58 rfl ?_
  dsimp only [x58, zipE, Nat.reduceAdd]
  (repeat' (first | (with_reducible intro _) | refine sv ?_ | (refine sc ?_ ?_ <;> (intro h; try first | exact h.elim | exact absurd rfl h | (exfalso; omega))) | ((with_reducible first | apply x_same | apply d_same); exact gd; exact rfl; exact rfl; (first | exact c_Root1 _ (by omega) _ | exact c_Up _ _ (by omega) (by omega) (by omega) _)) | (refine sg ?_ ?_ <;> (intro h; (fail_if_success (have : True := h)); try first | exact h.elim | exact absurd rfl h | (exfalso; omega))) | assumption | exact xm | exact rfl))
  all_goals ((with_reducible first | apply k_fun | apply k_fun_norm); exact rx)
  all_goals refine ⟨?_, xg⟩
  · rw [if_pos (by omega), ← hup _ (by omega)]; rfl
  · rw [if_neg (by omega), ← hup _ (by omega)]; rfl
set_option maxHeartbeats 2000000 in
theorem c_free {A : CrA} {s : Cr} {a b : Pt} {M : Mem} (hM : CrM M A s) :
    CallOk Tryz.prog 60 [crv A s, ptv a, ptv b] M (fun w M' => w = .bool (freeF s a b) ∧ Grow M M') := by
  refine call_in k60 rfl ?_
  dsimp only [x60, zipE, Nat.reduceAdd]
  obtain ⟨aL, fL, aF, fF, aB, fB, aO, fO⟩ := A
  have hnf := hM.nf
  by_cases hsw : (sweptF s.spread a b).2 = 0
  rotate_left
  · (repeat' (first | (with_reducible intro _) | refine sv ?_ | (refine sc ?_ ?_ <;> (intro h; try first | exact h.elim | exact absurd rfl h | (exfalso; omega))) | ((with_reducible first | apply x_pure | apply d_pure); exact gd; exact rfl; exact rfl; (first | exact c_Swept1 _ _ _ _)) | (refine sg ?_ ?_ <;> (intro h; (fail_if_success (have : True := h)); try first | exact h.elim | exact absurd rfl h | (exfalso; omega))) | assumption | exact xm | exact rfl))
    ((with_reducible first | apply k_fun | apply k_fun_norm); exact rx)
    refine ⟨?_, xg⟩
    unfold freeF; rw [decide_eq_false hsw]; rfl
  (repeat' (first | (with_reducible intro _) | refine sv ?_ | (refine sc ?_ ?_ <;> (intro h; try first | exact h.elim | exact absurd rfl h | (exfalso; omega))) | ((with_reducible first | apply x_pure | apply d_pure); exact gd; exact rfl; exact rfl; (first | exact c_Swept1 _ _ _ _)) | (refine sg ?_ ?_ <;> (intro h; (fail_if_success (have : True := h)); try first | exact h.elim | exact absurd rfl h | (exfalso; omega))) | assumption | exact xm | exact rfl))
  rename_i n3 M1 hn3 f1 f2 n4 M2 hn4 f3 f4 n5 M3 hn5 f5 f6 M4 hg4 f7 n7 M5 hn7 f8 f9 M6 hu6 f10 a7
  refine w_loop_ind (fun n E ms M' => ∃ (k : Nat), n = s.fields.length - k ∧ k ≤ s.fields.length ∧ ms = [] ∧ Has E [(3, .ptr (some (n3, 0))), (7, .ptr (some (n7, 0))), (9, I k)] ∧ Grow M M' ∧ M6.next ≤ M'.next ∧ At M' n3 (.cells true (crc ⟨aL, fL, aF, fF, aB, fB, aO, fO⟩ s) 41) ∧
      At M' n7 (.cells true (rgc (sweptF s.spread a b).1) 36) ∧ ∀ j (hj : j < s.fields.length), j < k → (hitsF s.fields[j] (sweptF s.spread a b).1).2 = 4) ?_ s.fields.length _ _ _
    ⟨0, by omega, by omega, rfl, .cons rfl (.cons rfl (.cons rfl .nil)), xg, by omega, xm, xm, fun j hj h => absurd h (Nat.not_lt_zero _)⟩
  rintro n E ms M7 ⟨k, rfl, hk, rfl, hE, hG, hle1, a1, a2, hall⟩
  have hle := hG.le
  refine w_has hE ?_
  by_cases hlast : k = s.fields.length
  · subst hlast
    (repeat' (first | (with_reducible intro _) | refine sv ?_ | (refine sc ?_ ?_ <;> (intro h; try first | exact h.elim | exact absurd rfl h | (exfalso; omega))) | (refine sg ?_ ?_ <;> (intro h; (fail_if_success (have : True := h)); try first | exact h.elim | exact absurd rfl h | (exfalso; omega))) | assumption | exact xm | exact rfl))
    ((with_reducible first | apply k_fun | apply k_fun_norm); exact rx)
    refine ⟨?_, xg⟩
    unfold freeF
    rw [decide_eq_true hsw, Bool.true_and]
    refine congrArg LV.bool (Eq.symm ?_)
    rw [List.all_eq_true]
    intro l hl
    exact decide_eq_true (if_list (P := fun l => (hitsF l (sweptF s.spread a b).1).2 = 4) (fun j hj h => hall j hj h) (Nat.le_refl _) l hl)
  have hlt : k < s.fields.length := by omega
  obtain ⟨i2, o2, rfl, hr2⟩ := (show SlL 2 ptc M aF s.fields from hM.fields).resolve_left (fun e => by rw [e] at hlt; simp at hlt)
  obtain ⟨a', f', g1, g2, g3⟩ := hr2 k hlt
  have r2 : Rd1 M7 i2 (o2 + k * 1) (.slice a' s.fields[k].length f' 2) := g1.grow hG
  have hi2 := r2.2
  have hcf := fun M' (hg : Grow M M') => c_Hits1 (f := f') (r := (sweptF s.spread a b).1) (g2.grow hg) g3
  by_cases hh : (hitsF s.fields[k] (sweptF s.spread a b).1).2 = 4
  · (have hrd0 := r2; repeat' (first | (with_reducible intro _) | refine sv ?_ | (refine sc ?_ ?_ <;> (intro h; try first | exact h.elim | exact absurd rfl h | (exfalso; omega))) | ((with_reducible first | apply x_pure | apply d_pure); exact gd; exact rfl; exact rfl; (first | exact hcf _ (xg))) | (refine sg ?_ ?_ <;> (intro h; (fail_if_success (have : True := h)); try first | exact h.elim | exact absurd rfl h | (exfalso; omega))) | assumption | exact xm | exact rfl))
    refine k_step (s.fields.length - (k + 1)) (by omega) ⟨k + 1, rfl, by omega, rfl, .cons rfl (.cons rfl (.cons rfl .nil)), xg, by omega, xm, xm, fun j hj h => ?_⟩
    by_cases hjk : j = k
    · subst hjk; exact hh
    · exact hall j hj (by omega)
  · (have hrd0 := r2; repeat' (first | (with_reducible intro _) | refine sv ?_ | (refine sc ?_ ?_ <;> (intro h; try first | exact h.elim | exact absurd rfl h | (exfalso; omega))) | ((with_reducible first | apply x_pure | apply d_pure); exact gd; exact rfl; exact rfl; (first | exact hcf _ (xg))) | (refine sg ?_ ?_ <;> (intro h; (fail_if_success (have : True := h)); try first | exact h.elim | exact absurd rfl h | (exfalso; omega))) | assumption | exact xm | exact rfl))
    ((with_reducible first | apply k_fun | apply k_fun_norm); exact rx)
    refine ⟨?_, xg⟩
    unfold freeF
    rw [decide_eq_true hsw, Bool.true_and]
    refine congrArg LV.bool (Eq.symm ?_)
    rw [← Bool.not_eq_true, List.all_eq_true]
    intro hc
    exact hh (of_decide_eq_true (hc _ (List.getElem_mem hlt)))
theorem c_Steps4 {A : CrA} {s : Cr} {a b : Pt} {M : Mem} (hM : CrM M A s) : CallOk Tryz.prog 21 [crv A s, ptv a, ptv b] M (fun w M' => w = .tup [I (StepsF s a b).1, I (StepsF s a b).2] ∧ Grow M M') := by
  refine call_in k21 rfl ?_
  dsimp only [x21, zipE, Nat.reduceAdd]
  have hc := fun M' (hg : Grow M M') => c_CheckCruise4 (hM.grow hg)
  unfold StepsF
  by_cases hok : CrOk s
  · have he : eCrB s = 0 := if_pos (crB_t hok)
    by_cases hp : PlP a ∧ PlP b
    · have hpa : Pl a.1 a.2 := hp.1
      have hpb : Pl b.1 b.2 := hp.2
      rw [askE_ok hok hp.1 hp.2]
      (repeat' (first | (with_reducible intro _) | refine sv ?_ | (refine sc ?_ ?_ <;> (intro h; try first | exact h.elim | exact absurd rfl h | (exfalso; omega))) | ((with_reducible first | apply x_pure | apply d_pure); exact gd; exact rfl; exact rfl; (first | exact hc _ (xg) | exact c_place4 _ _ _ | exact c_steps4 hok.speed hp.1 hp.2)) | (refine sg ?_ ?_ <;> (intro h; (fail_if_success (have : True := h)); try first | exact h.elim | exact absurd rfl h | (exfalso; omega))) | assumption | exact xm | exact rfl))
      all_goals first
        | (exfalso; omega)
        | (((with_reducible first | apply k_fun | apply k_fun_norm); exact rx)
           exact ⟨rfl, xg⟩)
    · have hp' : ¬ (Pl a.1 a.2 ∧ Pl b.1 b.2) := hp
      rw [askE_pt hok hp]
      (repeat' (first | (with_reducible intro _) | refine sv ?_ | (refine sc ?_ ?_ <;> (intro h; try first | exact h.elim | exact absurd rfl h | (exfalso; omega))) | ((with_reducible first | apply x_pure | apply d_pure); exact gd; exact rfl; exact rfl; (first | exact hc _ (xg) | exact c_place4 _ _ _)) | (refine sg ?_ ?_ <;> (intro h; (fail_if_success (have : True := h)); try first | exact h.elim | exact absurd rfl h | (exfalso; omega))) | assumption | exact xm | exact rfl))
      all_goals first
        | (exfalso; omega)
        | (((with_reducible first | apply k_fun | apply k_fun_norm); exact rx)
           exact ⟨rfl, xg⟩)
  · have he : eCrB s = 40 := if_neg (by rw [crB_f hok]; decide)
    rw [askE_no hok]
    (repeat' (first | (with_reducible intro _) | refine sv ?_ | (refine sc ?_ ?_ <;> (intro h; try first | exact h.elim | exact absurd rfl h | (exfalso; omega))) | ((with_reducible first | apply x_pure | apply d_pure); exact gd; exact rfl; exact rfl; (first | exact hc _ (xg))) | (refine sg ?_ ?_ <;> (intro h; (fail_if_success (have : True := h)); try first | exact h.elim | exact absurd rfl h | (exfalso; omega))) | assumption | exact xm | exact rfl))
    ((with_reducible first | apply k_fun | apply k_fun_norm); exact rx)
    exact ⟨by rw [he]; rfl, xg⟩
theorem c_Clear4 {A : CrA} {s : Cr} {a b : Pt} {M : Mem} (hM : CrM M A s) : CallOk Tryz.prog 23 [crv A s, ptv a, ptv b] M (fun w M' => w = .tup [.bool (ClearF s a b).1, I (ClearF s a b).2] ∧ Grow M M') := by
  refine call_in k23 rfl ?_
  dsimp only [x23, zipE, Nat.reduceAdd]
  have hc := fun M' (hg : Grow M M') => c_CheckCruise4 (hM.grow hg)
  have hf := fun M' (hg : Grow M M') => c_free (a := a) (b := b) (hM.grow hg)
  unfold ClearF
  by_cases hok : CrOk s
  · have he : eCrB s = 0 := if_pos (crB_t hok)
    by_cases hp : PlP a ∧ PlP b
    · have hpa : Pl a.1 a.2 := hp.1
      have hpb : Pl b.1 b.2 := hp.2
      rw [askE_ok hok hp.1 hp.2]
      rw [clear_free hok] at hf
      (repeat' (first | (with_reducible intro _) | refine sv ?_ | (refine sc ?_ ?_ <;> (intro h; try first | exact h.elim | exact absurd rfl h | (exfalso; omega))) | ((with_reducible first | apply x_pure | apply d_pure); exact gd; exact rfl; exact rfl; (first | exact hc _ (xg) | exact c_place4 _ _ _ | exact hf _ (xg))) | (refine sg ?_ ?_ <;> (intro h; (fail_if_success (have : True := h)); try first | exact h.elim | exact absurd rfl h | (exfalso; omega))) | assumption | exact xm | exact rfl))
      all_goals first
        | (exfalso; omega)
        | (((with_reducible first | apply k_fun | apply k_fun_norm); exact rx)
           exact ⟨rfl, xg⟩)
    · have hp' : ¬ (Pl a.1 a.2 ∧ Pl b.1 b.2) := hp
      rw [askE_pt hok hp]
      (repeat' (first | (with_reducible intro _) | refine sv ?_ | (refine sc ?_ ?_ <;> (intro h; try first | exact h.elim | exact absurd rfl h | (exfalso; omega))) | ((with_reducible first | apply x_pure | apply d_pure); exact gd; exact rfl; exact rfl; (first | exact hc _ (xg) | exact c_place4 _ _ _)) | (refine sg ?_ ?_ <;> (intro h; (fail_if_success (have : True := h)); try first | exact h.elim | exact absurd rfl h | (exfalso; omega))) | assumption | exact xm | exact rfl))
      all_goals first
        | (exfalso; omega)
        | (((with_reducible first | apply k_fun | apply k_fun_norm); exact rx)
           exact ⟨rfl, xg⟩)
  · have he : eCrB s = 40 := if_neg (by rw [crB_f hok]; decide)
    rw [askE_no hok]
    (repeat' (first | (with_reducible intro _) | refine sv ?_ | (refine sc ?_ ?_ <;> (intro h; try first | exact h.elim | exact absurd rfl h | (exfalso; omega))) | ((with_reducible first | apply x_pure | apply d_pure); exact gd; exact rfl; exact rfl; (first | exact hc _ (xg))) | (refine sg ?_ ?_ <;> (intro h; (fail_if_success (have : True := h)); try first | exact h.elim | exact absurd rfl h | (exfalso; omega))) | assumption | exact xm | exact rfl))
    ((with_reducible first | apply k_fun | apply k_fun_norm); exact rx)
    exact ⟨by rw [he]; rfl, xg⟩
end Go.Proofs.YtgipddabhcmgjaaGreat.C
end
section
open Go PvL
set_option linter.unusedVariables false
namespace Go.Proofs.YtgipddabhcmgjaaGreat.C
abbrev ptSh : Sh := .pair (.int .i64) (.int .i64)
abbrev legSh : Sh := .pair ptSh ptSh
abbrev rgSh : Sh := .pair ptSh (.pair ptSh (.pair ptSh ptSh))
abbrev poseSh : Sh := .pair ptSh (.int .i64)
abbrev crSh : Sh := .pair (.sl legSh) (.pair (.sl (.sl ptSh)) (.pair (.sl ptSh) (.pair rgSh (.pair poseSh (.pair (.int .i64) (.pair (.int .i64) (.sl (.sl ptSh))))))))
def toCr (x : crSh.T) : Cr := ⟨x.1, x.2.1, x.2.2.1, x.2.2.2.1, x.2.2.2.2.1, x.2.2.2.2.2.1, x.2.2.2.2.2.2.1, x.2.2.2.2.2.2.2⟩
theorem enc_int {m : Mem} {x : Int} {c : List LV} (h : Enc m (.int .i64) x c) : c = [I x] := h.1
theorem enc_pt {m : Mem} {x : ptSh.T} {c : List LV} (h : Enc m ptSh x c) : c = [I x.1, I x.2] := by
  obtain ⟨c1, d1, rfl, h1, h2⟩ := h
  rw [enc_int h1, enc_int h2]; rfl
theorem enc_leg {m : Mem} {x : legSh.T} {c : List LV} (h : Enc m legSh x c) : c = legc x := by
  obtain ⟨c1, d1, rfl, h1, h2⟩ := h
  rw [enc_pt h1, enc_pt h2]; rfl
theorem enc_rg {m : Mem} {x : rgSh.T} {c : List LV} (h : Enc m rgSh x c) : c = rgc x := by
  obtain ⟨c1, d1, rfl, h1, c2, d2, rfl, h2, c3, d3, rfl, h3, h4⟩ := h
  rw [enc_pt h1, enc_pt h2, enc_pt h3, enc_pt h4]; rfl
theorem enc_pose {m : Mem} {x : poseSh.T} {c : List LV} (h : Enc m poseSh x c) : c = [I x.1.1, I x.1.2, I x.2] := by
  obtain ⟨c1, d1, rfl, h1, h2⟩ := h
  rw [enc_pt h1, enc_int h2]; rfl
theorem enc_slA {m : Mem} {e : Sh} {enc : e.T → List LV} (he : ∀ x c, Enc m e x c → c = enc x) {l : List e.T} {cs : List LV} (h : Enc m (.sl e) l cs) : ∃ a f, cs = [.slice a l.length f e.size] ∧ SlA e.size enc m a l ∧ l.length ≤ reachBytes := by
  obtain ⟨a, f, h1, h2, h3⟩ := h
  refine ⟨a, f, h1, ?_, h2⟩
  by_cases hl : l = []
  · exact .inl hl
  · obtain ⟨i, o, g1, g2, _, g3⟩ := h3 hl
    refine .inr ⟨i, o, g1, fun k hk => ?_⟩
    obtain ⟨c, g4, g5⟩ := g3 k hk
    rw [he _ _ g5] at g4
    exact ⟨g4, g2⟩
theorem max_le : reachBytes ≤ 1000000000000000 := by decide
theorem enc_slL {m : Mem} {e : Sh} {enc : e.T → List LV} (he : ∀ x c, Enc m e x c → c = enc x) {l : List (List e.T)} {cs : List LV} (h : Enc m (.sl (.sl e)) l cs) : ∃ a f, cs = [.slice a l.length f 1] ∧ SlL e.size enc m a l ∧ l.length ≤ reachBytes := by
  obtain ⟨a, f, h1, h2, h3⟩ := h
  refine ⟨a, f, h1, ?_, h2⟩
  by_cases hl : l = []
  · exact .inl hl
  · obtain ⟨i, o, g1, g2, _, g3⟩ := h3 hl
    refine .inr ⟨i, o, g1, fun k hk => ?_⟩
    obtain ⟨c, g4, g5⟩ := g3 k hk
    obtain ⟨a', f', rfl, k2, k3⟩ := enc_slA he g5
    refine ⟨a', f', ⟨?_, g2⟩, k2, Nat.le_trans k3 max_le⟩
    have g4 : loadN m i (o + k * 1) 1 = some [.slice a' l[k].length f' e.size] := g4
    unfold loadN atCells at g4
    unfold load1 atCells
    obtain ⟨lb, q1, q2⟩ := ob_eq.1 g4
    rw [q1, ob_some]
    cases lb with
    | cells own cs ty =>
      obtain ⟨q3, q4⟩ := take'_eq.1 (show take' 1 (drop' (o + k * 1) cs) = _ from q2)
      show nth cs (o + k * 1) = _
      rw [drop'_eq] at q4
      rw [nth_eq]
      have : (cs.drop (o + k * 1)).take 1 = [.slice a' l[k].length f' e.size] := q4.symm
      have h0 : ((cs.drop (o + k * 1)).take 1)[0]? = some (.slice a' l[k].length f' e.size) := by rw [this]; rfl
      rw [List.getElem?_take_of_lt (by omega), List.getElem?_drop] at h0
      exact h0
    | _ => cases q2
theorem enc_cr {m : Mem} {x : crSh.T} {cs : List LV} (h : Enc m crSh x cs) : ∃ A, cs = crc A (toCr x) ∧ CrM m A (toCr x) := by
  obtain ⟨c1, d1, rfl, h1, c2, d2, rfl, h2, c3, d3, rfl, h3, c4, d4, rfl, h4, c5, d5, rfl, h5, c6, d6, rfl, h6, c7, d7, rfl, h7, h8⟩ := h
  obtain ⟨aL, fL, rfl, k1, k1'⟩ := enc_slA (enc := legc) (fun _ _ => enc_leg) h1
  obtain ⟨aF, fF, rfl, k2, k2'⟩ := enc_slL (enc := ptc) (fun _ _ => enc_pt) h2
  obtain ⟨aB, fB, rfl, k3, k3'⟩ := enc_slA (enc := ptc) (fun _ _ => enc_pt) h3
  obtain ⟨aO, fO, rfl, k8, k8'⟩ := enc_slL (enc := bdc) (fun _ _ => enc_pt) h8
  rw [enc_rg h4, enc_pose h5, enc_int h6, enc_int h7]
  exact ⟨⟨aL, fL, aF, fF, aB, fB, aO, fO⟩, rfl, ⟨k1, k2, k3, k8, Nat.le_trans k1' max_le, Nat.le_trans k2' max_le, Nat.le_trans k3' max_le, Nat.le_trans k8' max_le⟩⟩
end Go.Proofs.YtgipddabhcmgjaaGreat.C
end
section
open Go PvL Go.Proofs
set_option linter.unusedVariables false
set_option linter.unusedSimpArgs false
namespace Go.Proofs.YtgipddabhcmgjaaGreat.C
abbrev shv (k : Nat) (w : Int) : LV := .agg [I k, I w]
set_option maxHeartbeats 1000000 in
theorem c_octant4 (x y : Int) (hx : -131072 ≤ x ∧ x ≤ 131072) (hy : -131072 ≤ y ∧ y ≤ 131072) (M : Mem) : CallOk Tryz.prog 46 [I x, I y] M (fun w M' => w = I (octF x y) ∧ M' = M) := by
  refine call_in k46 rfl ?_
  dsimp only [x46, zipE, Nat.reduceAdd]
  (repeat' (first | (with_reducible intro _) | refine sv ?_ | (refine sc ?_ ?_ <;> (intro h; try first | exact h.elim | exact absurd rfl h | (exfalso; omega))) | (refine sg ?_ ?_ <;> (intro h; (fail_if_success (have : True := h)); try first | exact h.elim | exact absurd rfl h | (exfalso; omega))) | assumption | exact xm | exact rfl))
  all_goals ((with_reducible first | apply k_fun | apply k_fun_norm); exact rx)
  all_goals refine ⟨?_, rfl⟩
  all_goals unfold octF
  all_goals (repeat' split)
  all_goals first | rfl | (exfalso; omega)
set_option maxHeartbeats 4000000 in
theorem c_Octant (x y : Int) (hx : -131072 ≤ x ∧ x ≤ 131072) (hy : -131072 ≤ y ∧ y ≤ 131072) (M : Mem) : CallOk Tryz.prog 15 [.agg [I x, I y]] M (fun w M' => w = I (octF x y) ∧ Grow M M') := by
  refine call_in k15 rfl ?_
  dsimp only [x15, zipE, Nat.reduceAdd]
  (repeat' (first | (with_reducible intro _) | refine sv ?_ | refine su ?_ | (refine sc ?_ ?_ <;> (intro h; try first | exact h.elim | exact absurd rfl h | (exfalso; omega))) | ((with_reducible first | apply x_same | apply d_same); exact gd; exact rfl; exact rfl; (first | exact c_within _ _ _ _)) | (refine sg ?_ ?_ <;> (intro h; (fail_if_success (have : True := h)); try first | exact h.elim | exact absurd rfl h | (exfalso; omega))) | assumption | exact xm | exact rfl))
  all_goals ((with_reducible first | apply k_fun | apply k_fun_norm); exact rx)
  all_goals refine ⟨?_, xg⟩
  all_goals unfold octF
  all_goals (repeat' split)
  all_goals first | rfl | (exfalso; omega)
theorem c_way {A : CrA} {s : Cr} {pc pm : Nat} {k : Nat} {w : Int} {M : Mem} (hC : ChM M A s pc pm) (hk : k < s.lines.length) (hw : w = 0 ∨ w = 1) :
    CallOk Tryz.prog 119 [.ptr (some (pc, 0)), shv k w] M (fun v M' => v = wayv (wayF s k w) ∧ Grow M M') := by
  obtain ⟨aL, fL, aF, fF, aB, fB, aO, fO⟩ := A
  have hcell := hC.cells
  have hpc := hcell.2
  obtain ⟨i, o, rfl, hr⟩ := (show SlA 4 legc M aL s.lines from hC.cr.lines).resolve_left (fun e => by rw [e] at hk; simp at hk)
  have r1 := hr k hk
  have hi := r1.2
  refine call_in k119 rfl ?_
  dsimp only [x119, zipE, Nat.reduceAdd]
  unfold wayF
  rw [getD_eq hk]
  rcases hw with rfl | rfl
  · (have hrd0 := r1; repeat' (first | (with_reducible intro _) | refine sv ?_ | (refine sc ?_ ?_ <;> (intro h; try first | exact h.elim | exact absurd rfl h | (exfalso; omega))) | (refine sg ?_ ?_ <;> (intro h; (fail_if_success (have : True := h)); try first | exact h.elim | exact absurd rfl h | (exfalso; omega))) | assumption | exact xm | exact rfl))
    ((with_reducible first | apply k_fun | apply k_fun_norm); exact rx)
    exact ⟨rfl, xg⟩
  · (have hrd0 := r1; repeat' (first | (with_reducible intro _) | refine sv ?_ | (refine sc ?_ ?_ <;> (intro h; try first | exact h.elim | exact absurd rfl h | (exfalso; omega))) | (refine sg ?_ ?_ <;> (intro h; (fail_if_success (have : True := h)); try first | exact h.elim | exact absurd rfl h | (exfalso; omega))) | assumption | exact xm | exact rfl))
    ((with_reducible first | apply k_fun | apply k_fun_norm); exact rx)
    exact ⟨rfl, xg⟩
theorem c_right {A : CrA} {s : Cr} {pc pm : Nat} {x : Int × Int} {M : Mem} (hC : ChM M A s pc pm) (hn : 1 ≤ s.lines.length ∧ s.lines.length ≤ 5) :
    CallOk Tryz.prog 66 [.ptr (some (pc, 0)), .agg [I x.1, I x.2]] M (fun v M' => v = .bool (decide ((0 ≤ x.1 ∧ x.1 ≤ (s.lines.length : Int) - 1) ∧ (0 ≤ x.2 ∧ x.2 ≤ 1))) ∧ Grow M M') := by
  have hcell := hC.cells
  have hpc := hcell.2
  refine call_in k66 rfl ?_
  dsimp only [x66, zipE, Nat.reduceAdd]
  (repeat' (first | (with_reducible intro _) | refine sv ?_ | (refine sc ?_ ?_ <;> (intro h; try first | exact h.elim | exact absurd rfl h | (exfalso; omega))) | ((with_reducible first | apply x_same | apply d_same); exact gd; exact rfl; exact rfl; (first | exact c_within _ _ _ _)) | (refine sg ?_ ?_ <;> (intro h; (fail_if_success (have : True := h)); try first | exact h.elim | exact absurd rfl h | (exfalso; omega))) | assumption | exact xm | exact rfl))
  all_goals ((with_reducible first | apply k_fun | apply k_fun_norm); exact rx)
  all_goals refine ⟨?_, xg⟩
  all_goals first
    | exact lb_iff (by omega)
    | exact lb_f (by omega)
    | exact lb_t (by omega)
theorem c_shoot4 {A : CrA} {s : Cr} {x : Int × Int} {M : Mem} (hn : 1 ≤ s.lines.length ∧ s.lines.length ≤ 5) :
    CallOk Tryz.prog 68 [crv A s, .agg [I x.1, I x.2]] M (fun v M' => v = .bool (decide ((0 ≤ x.1 ∧ x.1 ≤ (s.lines.length : Int) - 1) ∧ (0 ≤ x.2 ∧ x.2 ≤ 1))) ∧ Grow M M') := by
  refine call_in k68 rfl ?_
  dsimp only [x68, zipE, Nat.reduceAdd]
  (repeat' (first | (with_reducible intro _) | refine sv ?_ | (refine sc ?_ ?_ <;> (intro h; try first | exact h.elim | exact absurd rfl h | (exfalso; omega))) | ((with_reducible first | apply x_same | apply d_same); exact gd; exact rfl; exact rfl; (first | exact c_between _ _ _ _)) | (refine sg ?_ ?_ <;> (intro h; (fail_if_success (have : True := h)); try first | exact h.elim | exact absurd rfl h | (exfalso; omega))) | assumption | exact xm | exact rfl))
  all_goals ((with_reducible first | apply k_fun | apply k_fun_norm); exact rx)
  all_goals refine ⟨?_, xg⟩
  all_goals first
    | exact lb_iff (by omega)
    | exact lb_f (by omega)
    | exact lb_t (by omega)
end Go.Proofs.YtgipddabhcmgjaaGreat.C
end
