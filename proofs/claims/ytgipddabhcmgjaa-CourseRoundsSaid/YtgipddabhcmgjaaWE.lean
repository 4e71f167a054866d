/-
  Part of the proof of CourseRounds: what functions of the program and of the statement come to, walked by the rules. No condition beyond those in each theorem.
-/
import Derived.Test.YtgipddabhcmgjaaWD
import Derived.Test.YtgipddabhcmgjaaSA
open Go PvL Go.Proofs
set_option linter.unusedVariables false
set_option linter.unusedSimpArgs false
namespace Go.Proofs.Ytgipddabhcmgjaa.C
theorem c_works (M : Mem) : CallOk Try.prog 6 [] M (fun w M' => w = .bool true ∧ M' = M) := ⟨_, _, om_ask rfl M, rfl, rfl⟩
theorem askE_zero {s : Cr} {a b : Pt} (h : askE s a b = 0) : CrOk s ∧ PlP a ∧ PlP b := by
  by_cases hc : CrOk s
  · by_cases hp : PlP a ∧ PlP b
    · exact ⟨hc, hp⟩
    · rw [askE_pt hc hp] at h; cases h
  · rw [askE_no hc] at h; cases h
theorem stepsF_eq {s : Cr} {a b : Pt} (hc : CrOk s) (ha : PlP a) (hb : PlP b) : StepsF s a b = (stepsF s.speed a b, 0) := by unfold StepsF; rw [askE_ok hc ha hb]; rfl
theorem stepsF_ne {s : Cr} {a b : Pt} (h : askE s a b ≠ 0) : StepsF s a b = (0, askE s a b) := by unfold StepsF; rw [if_neg h]
set_option maxHeartbeats 8000000 in
theorem c_CourseRounds {A : CrA} {s : Cr} {a b c : Pt} {M : Mem} (hM : CrM M A s) : CallOk Try.prog 3 [crv A s, .agg [I a.1, I a.2, I b.1, I b.2, I c.1, I c.2]] M (fun v M' => v = .bool true) := by
  have h1 := fun M' (hg : Grow M M') => c_Steps (a := a) (b := b) (hM.grow hg)
  have h2 := fun M' (hg : Grow M M') => c_Steps (a := b) (b := a) (hM.grow hg)
  have h3 := fun M' (hg : Grow M M') => c_Steps (a := a) (b := c) (hM.grow hg)
  have h4 := fun M' (hg : Grow M M') => c_Steps (a := c) (b := b) (hM.grow hg)
  refine call_in k3 rfl ?_
  dsimp only [x3, zipE, Nat.reduceAdd]
  by_cases he : askE s a b = 0
  rotate_left
  · rw [stepsF_ne he] at h1
    (repeat' (first | (with_reducible intro _) | refine sv ?_ | (refine sc ?_ ?_ <;> (intro h; try first | exact h.elim | exact absurd rfl h | (exfalso; omega))) | ((with_reducible first | apply x_same | apply d_same); exact gd; exact rfl; exact rfl; (first | exact c_works _)) | ((with_reducible first | apply x_pure | apply d_pure); exact gd; exact rfl; exact rfl; (first | exact h1 _ (xg))) | (refine sg ?_ ?_ <;> (intro h; (fail_if_success (have : True := h)); try first | exact h.elim | exact absurd rfl h | (exfalso; omega))) | assumption | exact xm | exact rfl))
    all_goals ((with_reducible first | apply k_fun | apply k_fun_norm); exact rx)
    all_goals rfl
  obtain ⟨hok, ha, hb⟩ := askE_zero he
  have e1 := stepsF_eq hok ha hb
  have e2 := stepsF_eq hok hb ha
  rw [steps_symm s.speed b a] at e2
  rw [e1] at h1
  rw [e2] at h2
  dsimp only at h1 h2
  have hv := hok.speed
  have hbd := steps_bd hv ha hb
  have hsp := steps_spec hv.1 (a := a) (b := b)
  have hd := dist_bd ha hb
  have hPa := ha
  have hPb := hb
  dsimp only [PlP, Pl] at hPa hPb
  have hx3 : askE s a c = 0 → askE s c b = 0 → StepsF s a c = (stepsF s.speed a c, 0) ∧ StepsF s c b = (stepsF s.speed c b, 0) ∧ stepsF s.speed a b ≤ stepsF s.speed a c + stepsF s.speed c b ∧ (0 ≤ stepsF s.speed a c ∧ stepsF s.speed a c ≤ 92682) ∧ 0 ≤ stepsF s.speed c b ∧ stepsF s.speed c b ≤ 92682 := fun z1 z2 => by
    obtain ⟨_, _, hc⟩ := askE_zero z1
    have g1 := steps_bd hv ha hc
    have g2 := steps_bd hv hc hb
    exact ⟨stepsF_eq hok ha hc, stepsF_eq hok hc hb, steps_tri hv.1 a b c g1.1 g2.1, g1, g2⟩
  have hnn : 0 < stepsF s.speed a b ∨ ¬ 0 < stepsF s.speed a b := Classical.em _
  have h3n : askE s a c ≠ 0 → StepsF s a c = (0, askE s a c) := stepsF_ne
  have h4n : askE s c b ≠ 0 → StepsF s c b = (0, askE s c b) := stepsF_ne
  clear e1 e2 he hb ha hok
  unfold distF at hsp
  generalize stepsF s.speed a b = n at *
  generalize stepsF s.speed a c = n1 at *
  generalize stepsF s.speed c b = n2 at *
  have m1 := mul_bd (a := n) (b := s.speed) (A := 92682) (B := 1000) (by omega) (by omega)
  have m2 := mul_bd (a := n * s.speed) (b := n) (A := 92682000) (B := 92682) (by omega) (by omega)
  have m3 := mul_bd (a := n * s.speed * n) (b := s.speed) (A := 8589953124000) (B := 1000) (by omega) (by omega)
  have m4 := mul_bd (a := n - 1) (b := s.speed) (A := 92682) (B := 1000) (by omega) (by omega)
  have m5 := mul_bd (a := (n - 1) * s.speed) (b := n - 1) (A := 92682000) (B := 92682) (by omega) (by omega)
  have m6 := mul_bd (a := (n - 1) * s.speed * (n - 1)) (b := s.speed) (A := 8589953124000) (B := 1000) (by omega) (by omega)
  have q1 : n * s.speed * n * s.speed = n * s.speed * (n * s.speed) := by grind
  have q2 : (n - 1) * s.speed * (n - 1) * s.speed = (n - 1) * s.speed * ((n - 1) * s.speed) := by grind
  have hs1 := hsp.1
  have hs2 := hsp.2
  clear hsp
  rw [← q1] at hs1
  rw [← q2] at hs2
  clear q1 q2
  by_cases hp : 0 < n
  · have hs3 := hs2 hp
    by_cases z1 : askE s a c = 0
    · by_cases z2 : askE s c b = 0
      · obtain ⟨y1, y2, y3, y4, y5⟩ := hx3 z1 z2
        rw [y1] at h3
        rw [y2] at h4
        dsimp only at h3 h4
        clear hx3 h3n h4n y1 y2 hs2
        (repeat' (first | (with_reducible intro _) | refine sv ?_ | (refine sc ?_ ?_ <;> (intro h; try first | exact h.elim | exact absurd rfl h | (exfalso; omega))) | ((with_reducible first | apply x_same | apply d_same); exact gd; exact rfl; exact rfl; (first | exact c_works _)) | ((with_reducible first | apply x_pure | apply d_pure); exact gd; exact rfl; exact rfl; (first | exact h1 _ (xg) | exact h2 _ (xg) | exact h3 _ (xg) | exact h4 _ (xg))) | (refine sg ?_ ?_ <;> (intro h; (fail_if_success (have : True := h)); try first | exact h.elim | exact absurd rfl h | (exfalso; omega))) | assumption | exact xm | exact rfl))
        all_goals ((with_reducible first | apply k_fun | apply k_fun_norm); exact rx)
        all_goals rfl
      · rw [h4n z2] at h4
        clear hx3 h3n h4n hs2
        (repeat' (first | (with_reducible intro _) | refine sv ?_ | (refine sc ?_ ?_ <;> (intro h; try first | exact h.elim | exact absurd rfl h | (exfalso; omega))) | ((with_reducible first | apply x_same | apply d_same); exact gd; exact rfl; exact rfl; (first | exact c_works _)) | ((with_reducible first | apply x_pure | apply d_pure); exact gd; exact rfl; exact rfl; (first | exact h1 _ (xg) | exact h2 _ (xg) | exact h3 _ (xg) | exact h4 _ (xg))) | (refine sg ?_ ?_ <;> (intro h; (fail_if_success (have : True := h)); try first | exact h.elim | exact absurd rfl h | (exfalso; omega))) | assumption | exact xm | exact rfl))
        all_goals ((with_reducible first | apply k_fun | apply k_fun_norm); exact rx)
        all_goals rfl
    · rw [h3n z1] at h3
      clear hx3 h3n h4n hs2
      (repeat' (first | (with_reducible intro _) | refine sv ?_ | (refine sc ?_ ?_ <;> (intro h; try first | exact h.elim | exact absurd rfl h | (exfalso; omega))) | ((with_reducible first | apply x_same | apply d_same); exact gd; exact rfl; exact rfl; (first | exact c_works _)) | ((with_reducible first | apply x_pure | apply d_pure); exact gd; exact rfl; exact rfl; (first | exact h1 _ (xg) | exact h2 _ (xg) | exact h3 _ (xg) | exact h4 _ (xg))) | (refine sg ?_ ?_ <;> (intro h; (fail_if_success (have : True := h)); try first | exact h.elim | exact absurd rfl h | (exfalso; omega))) | assumption | exact xm | exact rfl))
      all_goals ((with_reducible first | apply k_fun | apply k_fun_norm); exact rx)
      all_goals rfl
  · clear hs2
    by_cases z1 : askE s a c = 0
    · by_cases z2 : askE s c b = 0
      · obtain ⟨y1, y2, y3, y4, y5⟩ := hx3 z1 z2
        rw [y1] at h3
        rw [y2] at h4
        dsimp only at h3 h4
        clear hx3 h3n h4n y1 y2
        (repeat' (first | (with_reducible intro _) | refine sv ?_ | (refine sc ?_ ?_ <;> (intro h; try first | exact h.elim | exact absurd rfl h | (exfalso; omega))) | ((with_reducible first | apply x_same | apply d_same); exact gd; exact rfl; exact rfl; (first | exact c_works _)) | ((with_reducible first | apply x_pure | apply d_pure); exact gd; exact rfl; exact rfl; (first | exact h1 _ (xg) | exact h2 _ (xg) | exact h3 _ (xg) | exact h4 _ (xg))) | (refine sg ?_ ?_ <;> (intro h; (fail_if_success (have : True := h)); try first | exact h.elim | exact absurd rfl h | (exfalso; omega))) | assumption | exact xm | exact rfl))
        all_goals ((with_reducible first | apply k_fun | apply k_fun_norm); exact rx)
        all_goals rfl
      · rw [h4n z2] at h4
        clear hx3 h3n h4n
        (repeat' (first | (with_reducible intro _) | refine sv ?_ | (refine sc ?_ ?_ <;> (intro h; try first | exact h.elim | exact absurd rfl h | (exfalso; omega))) | ((with_reducible first | apply x_same | apply d_same); exact gd; exact rfl; exact rfl; (first | exact c_works _)) | ((with_reducible first | apply x_pure | apply d_pure); exact gd; exact rfl; exact rfl; (first | exact h1 _ (xg) | exact h2 _ (xg) | exact h3 _ (xg) | exact h4 _ (xg))) | (refine sg ?_ ?_ <;> (intro h; (fail_if_success (have : True := h)); try first | exact h.elim | exact absurd rfl h | (exfalso; omega))) | assumption | exact xm | exact rfl))
        all_goals ((with_reducible first | apply k_fun | apply k_fun_norm); exact rx)
        all_goals rfl
    · rw [h3n z1] at h3
      clear hx3 h3n h4n
      (repeat' (first | (with_reducible intro _) | refine sv ?_ | (refine sc ?_ ?_ <;> (intro h; try first | exact h.elim | exact absurd rfl h | (exfalso; omega))) | ((with_reducible first | apply x_same | apply d_same); exact gd; exact rfl; exact rfl; (first | exact c_works _)) | ((with_reducible first | apply x_pure | apply d_pure); exact gd; exact rfl; exact rfl; (first | exact h1 _ (xg) | exact h2 _ (xg) | exact h3 _ (xg) | exact h4 _ (xg))) | (refine sg ?_ ?_ <;> (intro h; (fail_if_success (have : True := h)); try first | exact h.elim | exact absurd rfl h | (exfalso; omega))) | assumption | exact xm | exact rfl))
      all_goals ((with_reducible first | apply k_fun | apply k_fun_norm); exact rx)
      all_goals rfl
end Go.Proofs.Ytgipddabhcmgjaa.C
