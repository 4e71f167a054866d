/-
  Part of the proof of CourseShots: what functions of the program and of the statement come to, walked by the rules. No condition beyond those in each theorem.
-/
import Derived.Test.YtgipddabhcmgjaaGreatHE
section
open Go PvL Go.Proofs
set_option linter.unusedVariables false
set_option linter.unusedSimpArgs false
namespace Go.Proofs.YtgipddabhcmgjaaGreat.C
abbrev bdv (b : Bd) : LV := .agg [I b.1, I b.2]
theorem findSome_take {α β : Type} {f : α → Option β} {l : List α} {k : Nat} (hk : k < l.length) (h : ∀ j (hj : j < l.length), j < k → f l[j] = none) {b : β} (hb : f l[k] = some b) : l.findSome? f = some b :=
  findSome_at (List.getElem?_eq_getElem hk) (fun t ht => by
    obtain ⟨q, hq1, rfl⟩ := List.getElem_of_mem ht
    rw [List.length_take] at hq1
    rw [List.getElem_take]
    exact h q (by omega) (by omega)) hb
set_option maxHeartbeats 4000000 in
theorem c_shot {A : CrA} {s : Cr} {pc pm : Nat} {k : Nat} {w t : Int} {M : Mem} (hC : ChM M A s pc pm) (hs : CrOk s) (hk : k < s.lines.length) (hw : w = 0 ∨ w = 1) (ht : 0 ≤ t ∧ t ≤ 1000000000) :
    CallOk Tryz.prog 67 [.ptr (some (pc, 0)), shv k w, I t] M (fun v M' => v = .tup [bdv ((shotF s k w t).getD (0, 0)), .bool (shotF s k w t).isSome] ∧ Keep (fun i => i = pm) M M' ∧ KnM M' s pm) := by
  have hway := wayF_ok hs hk w
  have hsb := steps_bd hs.speed hway.1 hway.2.1
  have hno := hs.no
  have hk2 : k < s.opn.length := by omega
  have hcell := hC.cells
  have hpc := hcell.2
  have hkn0 := hC.known
  have hpm : pm < M.next := by obtain ⟨L, h1, _⟩ := hkn0; exact h1.2
  obtain ⟨aL, fL, aF, fF, aB, fB, aO, fO⟩ := A
  obtain ⟨i2, o2, rfl, hr2⟩ := (show SlL 2 bdc M aO s.opn from hC.cr.opn).resolve_left (fun e => by rw [e] at hk2; simp at hk2)
  obtain ⟨aw, fw, g1, g2, g3⟩ := hr2 k hk2
  have hi2 := g1.2
  have hne := hC.ne
  have hmM := fun M' (hg : Grow M M') => c_way (hC.grow hg) hk hw
  unfold shotF
  rw [getD_eq hk2]
  generalize hq : wayF s k w = q at *
  refine call_in k67 rfl ?_
  dsimp only [x67, zipE, Nat.reduceAdd]
  (repeat' (first | (with_reducible intro _) | refine sv ?_ | (refine sc ?_ ?_ <;> (intro h; try first | exact h.elim | exact absurd rfl h | (exfalso; omega))) | ((with_reducible first | apply x_pure | apply d_pure); exact gd; exact rfl; exact rfl; (first | exact hmM _ (xg))) | (refine sg ?_ ?_ <;> (intro h; (fail_if_success (have : True := h)); try first | exact h.elim | exact absurd rfl h | (exfalso; omega))) | assumption | exact xm | exact rfl))
  rename_i n4 M1 hn4 e1 e2 n6 M2 hn6 e3 e4 M3 hg3 e5 n8 M4 hn8 e6 e7 M5 hu5 e8 a8
  have hg5 : Grow M M5 := xg
  refine x_call (by exact gd) rfl rfl (show AppOk Tryz.prog _ _ M5 _ from c_clear (a := q.1) (b := q.2) (hC.grow hg5)) ?_
  rintro v M6 ⟨rfl, hk6, hkn6⟩
  have hle6 := hk6.le
  cases hcl : clearF s q.1 q.2 with
  | false =>
    rw [if_neg (by decide)]
    (repeat' (first | (with_reducible intro _) | refine sv ?_ | (refine sc ?_ ?_ <;> (intro h; try first | exact h.elim | exact absurd rfl h | (exfalso; omega))) | (refine sg ?_ ?_ <;> (intro h; (fail_if_success (have : True := h)); try first | exact h.elim | exact absurd rfl h | (exfalso; omega))) | assumption | exact xm | exact rfl))
    ((with_reducible first | apply k_fun | apply k_fun_norm); exact rx)
    exact ⟨rfl, xk, by obtain ⟨L, h1, h2⟩ := hkn6; exact ⟨L, xm, h2⟩⟩
  | true =>
  rw [if_pos rfl]
  have hcell6 : At M6 pc (.cells true (chc ⟨aL, fL, aF, fF, aB, fB, some (i2, o2), fO⟩ s pm) 139) := (hcell.grow hg5).keep hk6 hne
  have r2 : Rd1 M6 i2 (o2 + k * 1) (.slice aw s.opn[k].length fw 2) := (g1.grow hg5).keep hk6 (by
    intro hh
    obtain ⟨L, h1, _⟩ := hkn0
    have h2 := g1.1
    unfold load1 atCells at h2
    rw [show i2 = pm from hh, h1.1] at h2
    cases h2)
  have hst := fun M' (hg : At M' pc (.cells true (chc ⟨aL, fL, aF, fF, aB, fB, some (i2, o2), fO⟩ s pm) 139)) => c_steps (A := ⟨aL, fL, aF, fF, aB, fB, some (i2, o2), fO⟩) (s := s) (pc := pc) (pm := pm) hg hs.speed hway.1 hway.2.1
  have hp6 := hcell6.2
  (have hrd0 := r2; repeat' (first | (with_reducible intro _) | refine sv ?_ | (refine sc ?_ ?_ <;> (intro h; try first | exact h.elim | exact absurd rfl h | (exfalso; omega))) | ((with_reducible first | apply x_pure | apply d_pure); exact gd; exact rfl; exact rfl; (first | exact hst _ (xm))) | (refine sg ?_ ?_ <;> (intro h; (fail_if_success (have : True := h)); try first | exact h.elim | exact absurd rfl h | (exfalso; omega))) | assumption | exact xm | exact rfl))
  rename_i M7 hg7 e9
  refine w_loop_ind (fun n E ms M' => ∃ (j : Nat), n = s.opn[k].length - j ∧ j ≤ s.opn[k].length ∧ ms = [] ∧ Has E [(2, I t), (6, .ptr (some (n6, 0))), (9, I (stepsF s.speed q.1 q.2)), (32, .slice aw s.opn[k].length fw 2), (33, I s.opn[k].length), (34, I j)] ∧ Grow M7 M' ∧ At M' n6 (.cells true [I 0, I 0] 34) ∧
      ∀ i (hi : i < s.opn[k].length), i < j → winO t (stepsF s.speed q.1 q.2) (s.opn[k])[i] = none) ?_ s.opn[k].length _ _ _
    ⟨0, by omega, by omega, rfl, .cons rfl (.cons rfl (.cons rfl (.cons rfl (.cons rfl (.cons rfl .nil))))), xg, xm, fun j hj h => absurd h (Nat.not_lt_zero _)⟩
  rintro n E ms M8 ⟨j, rfl, hj, rfl, hE, hG, a6, hall⟩
  have hle8 := hG.le
  have ha6 := a6.2
  refine w_has hE ?_
  by_cases hlast : j = s.opn[k].length
  · subst hlast
    have hnone : (s.opn[k]).findSome? (winO t (stepsF s.speed q.1 q.2)) = none := findSome_none fun b hb => if_list (P := fun b => winO t (stepsF s.speed q.1 q.2) b = none) (fun i hi h => hall i hi h) (Nat.le_refl _) b hb
    rw [hnone]
    (repeat' (first | (with_reducible intro _) | refine sv ?_ | (refine sc ?_ ?_ <;> (intro h; try first | exact h.elim | exact absurd rfl h | (exfalso; omega))) | (refine sg ?_ ?_ <;> (intro h; (fail_if_success (have : True := h)); try first | exact h.elim | exact absurd rfl h | (exfalso; omega))) | assumption | exact xm | exact rfl))
    ((with_reducible first | apply k_fun | apply k_fun_norm); exact rx)
    exact ⟨rfl, xk, by obtain ⟨L, h1, h2⟩ := hkn6; have := h1.2; exact ⟨L, xm, h2⟩⟩
  have hlt : j < s.opn[k].length := by omega
  obtain ⟨i3, o3, rfl, hr3⟩ := g2.resolve_left (fun e => by rw [e] at hlt; simp at hlt)
  have hi3 := (hr3 j hlt).2
  have r3 : Rd M8 i3 (o3 + j * 2) 2 (bdc (s.opn[k])[j]) := (((hr3 j hlt).grow hg5).keep hk6 (by
    intro hh
    obtain ⟨L, h1, _⟩ := hkn0
    have h2 := (hr3 j hlt).1
    unfold loadN atCells at h2
    rw [show i3 = pm from hh, h1.1] at h2
    cases h2)).grow (xg)
  have hwin := (win_iff.1 (hs.opn _ (List.getElem_mem hk2))).2 j hlt
  unfold winAt at hwin
  rw [getD_eq hlt] at hwin
  have hmx : 0 ≤ iMax t (s.opn[k])[j].1 ∧ iMax t (s.opn[k])[j].1 ≤ 1000000000 := by unfold iMax; omega
  by_cases hh : iMax t (s.opn[k])[j].1 + stepsF s.speed q.1 q.2 ≤ (s.opn[k])[j].2
  · rw [findSome_take hlt hall (if_pos hh)]
    (have hrd0 := r3; repeat' (first | (with_reducible intro _) | refine sv ?_ | (refine sc ?_ ?_ <;> (intro h; try first | exact h.elim | exact absurd rfl h | (exfalso; omega))) | (refine sg ?_ ?_ <;> (intro h; (fail_if_success (have : True := h)); try first | exact h.elim | exact absurd rfl h | (exfalso; omega))) | assumption | exact xm | exact rfl))
    ((with_reducible first | apply k_fun | apply k_fun_norm); exact rx)
    exact ⟨rfl, xk, by obtain ⟨L, h1, h2⟩ := hkn6; have := h1.2; exact ⟨L, xm, h2⟩⟩
  · (have hrd0 := r3; repeat' (first | (with_reducible intro _) | refine sv ?_ | (refine sc ?_ ?_ <;> (intro h; try first | exact h.elim | exact absurd rfl h | (exfalso; omega))) | (refine sg ?_ ?_ <;> (intro h; (fail_if_success (have : True := h)); try first | exact h.elim | exact absurd rfl h | (exfalso; omega))) | assumption | exact xm | exact rfl))
    refine k_step (s.opn[k].length - (j + 1)) (by omega) ⟨j + 1, rfl, by omega, rfl, .cons rfl (.cons rfl (.cons rfl (.cons rfl (.cons rfl (.cons rfl .nil))))), xg, xm, fun i hi h => ?_⟩
    by_cases hij : i = j
    · subst hij; exact if_neg hh
    · exact hall i hi (by omega)
end Go.Proofs.YtgipddabhcmgjaaGreat.C
end
section
open Go PvL Go.Proofs
set_option linter.unusedVariables false
set_option linter.unusedSimpArgs false
namespace Go.Proofs.YtgipddabhcmgjaaGreat.C
abbrev posv (p : Pt) (o : Int) : LV := .agg [I p.1, I p.2, I o]
theorem c_ends4 {A : CrA} {s : Cr} {k : Nat} {w : Int} {M : Mem} (hM : CrM M A s) (hs : CrOk s) (hk : k < s.lines.length) (hw : w = 0 ∨ w = 1) :
    CallOk Tryz.prog 77 [crv A s, shv k w] M (fun v M' => v = .tup [posv (wayF s k w).1 (octF ((wayF s k w).2.1 - (wayF s k w).1.1) ((wayF s k w).2.2 - (wayF s k w).1.2)), posv (wayF s k w).2 (octF ((wayF s k w).2.1 - (wayF s k w).1.1) ((wayF s k w).2.2 - (wayF s k w).1.2))] ∧ Grow M M') := by
  have hway := wayF_ok hs hk w
  obtain ⟨aL, fL, aF, fF, aB, fB, aO, fO⟩ := A
  obtain ⟨i, o, rfl, hr⟩ := (show SlA 4 legc M aL s.lines from hM.lines).resolve_left (fun e => by rw [e] at hk; simp at hk)
  have r1 := hr k hk
  have hi := r1.2
  unfold wayF at *
  rw [getD_eq hk] at *
  refine call_in k77 rfl ?_
  dsimp only [x77, zipE, Nat.reduceAdd]
  rcases hw with rfl | rfl
  · rw [if_neg (by decide)] at *
    dsimp only [PlP, Pl] at hway
    (have hrd0 := r1; repeat' (first | (with_reducible intro _) | refine sv ?_ | (refine sc ?_ ?_ <;> (intro h; try first | exact h.elim | exact absurd rfl h | (exfalso; omega))) | ((with_reducible first | apply x_same | apply d_same); exact gd; exact rfl; exact rfl; (first | exact c_octant4 _ _ (by omega) (by omega) _)) | (refine sg ?_ ?_ <;> (intro h; (fail_if_success (have : True := h)); try first | exact h.elim | exact absurd rfl h | (exfalso; omega))) | assumption | exact xm | exact rfl))
    ((with_reducible first | apply k_fun | apply k_fun_norm); exact rx)
    exact ⟨rfl, xg⟩
  · rw [if_pos rfl] at *
    dsimp only [PlP, Pl] at hway
    (have hrd0 := r1; repeat' (first | (with_reducible intro _) | refine sv ?_ | (refine sc ?_ ?_ <;> (intro h; try first | exact h.elim | exact absurd rfl h | (exfalso; omega))) | ((with_reducible first | apply x_same | apply d_same); exact gd; exact rfl; exact rfl; (first | exact c_octant4 _ _ (by omega) (by omega) _)) | (refine sg ?_ ?_ <;> (intro h; (fail_if_success (have : True := h)); try first | exact h.elim | exact absurd rfl h | (exfalso; omega))) | assumption | exact xm | exact rfl))
    ((with_reducible first | apply k_fun | apply k_fun_norm); exact rx)
    exact ⟨rfl, xg⟩
set_option maxHeartbeats 4000000 in
theorem c_shot4 {A : CrA} {s : Cr} {k : Nat} {w t : Int} {M : Mem} (hM : CrM M A s) (hs : CrOk s) (hk : k < s.lines.length) (hw : w = 0 ∨ w = 1) (ht : 0 ≤ t ∧ t ≤ 1000000000) :
    CallOk Tryz.prog 69 [crv A s, shv k w, I t] M (fun v M' => v = .tup [bdv ((shotF s k w t).getD (0, 0)), .bool (shotF s k w t).isSome] ∧ Grow M M') := by
  have hway := wayF_ok hs hk w
  have hsb := steps_bd hs.speed hway.1 hway.2.1
  have hno := hs.no
  have hk2 : k < s.opn.length := by omega
  have hM0 := hM
  obtain ⟨aL, fL, aF, fF, aB, fB, aO, fO⟩ := A
  obtain ⟨i2, o2, rfl, hr2⟩ := (show SlL 2 bdc M aO s.opn from hM.opn).resolve_left (fun e => by rw [e] at hk2; simp at hk2)
  obtain ⟨aw, fw, g1, g2, g3⟩ := hr2 k hk2
  have hi2 := g1.2
  have hmE := fun M' (hg : Grow M M') => c_ends4 (hM.grow hg) hs hk hw
  have hmF := fun M' (hg : Grow M M') => c_free (a := (wayF s k w).1) (b := (wayF s k w).2) (hM.grow hg)
  rw [clear_free hs] at hmF
  unfold shotF
  rw [getD_eq hk2]
  generalize hq : wayF s k w = q at *
  generalize octF (q.2.1 - q.1.1) (q.2.2 - q.1.2) = oc at *
  refine call_in k69 rfl ?_
  dsimp only [x69, zipE, Nat.reduceAdd]
  cases hcl : clearF s q.1 q.2 with
  | false =>
    rw [hcl] at hmF
    rw [if_neg (by decide)]
    (repeat' (first | (with_reducible intro _) | refine sv ?_ | (refine sc ?_ ?_ <;> (intro h; try first | exact h.elim | exact absurd rfl h | (exfalso; omega))) | ((with_reducible first | apply x_pure | apply d_pure); exact gd; exact rfl; exact rfl; (first | exact hmE _ (xg) | exact c_steps4 hs.speed hway.1 hway.2.1 | exact hmF _ (xg))) | (refine sg ?_ ?_ <;> (intro h; (fail_if_success (have : True := h)); try first | exact h.elim | exact absurd rfl h | (exfalso; omega))) | assumption | exact xm | exact rfl))
    ((with_reducible first | apply k_fun | apply k_fun_norm); exact rx)
    exact ⟨rfl, xg⟩
  | true =>
  rw [hcl] at hmF
  rw [if_pos rfl]
  (repeat' (first | (with_reducible intro _) | refine sv ?_ | (refine sc ?_ ?_ <;> (intro h; try first | exact h.elim | exact absurd rfl h | (exfalso; omega))) | ((with_reducible first | apply x_pure | apply d_pure); exact gd; exact rfl; exact rfl; (first | exact hmE _ (xg) | exact c_steps4 hs.speed hway.1 hway.2.1 | exact hmF _ (xg))) | (refine sg ?_ ?_ <;> (intro h; (fail_if_success (have : True := h)); try first | exact h.elim | exact absurd rfl h | (exfalso; omega))) | assumption | exact xm | exact rfl))
  rename_i n3 M1 hn3 e1 e2 n4 M2 hn4 e3 e4 n6 M3 hn6 e5 e6 M4 hg4 e7 n8 M5 hn8 e8 e9 n9 M6 hn9 e10 e11 M7 hu7 e12 a7 M8 hu8 e13 a8 M9 hg9 e14 M10 hg10 e15
  refine w_loop_ind (fun n E ms M' => ∃ (j : Nat), n = s.opn[k].length - j ∧ j ≤ s.opn[k].length ∧ ms = [] ∧ Has E [(2, I t), (3, .ptr (some (n3, 0))), (4, .ptr (some (n4, 0))), (6, .ptr (some (n6, 0))), (10, I (stepsF s.speed q.1 q.2)), (11, I j)] ∧ Grow M M' ∧ M10.next ≤ M'.next ∧ At M' n6 (.cells true [I 0, I 0] 34) ∧
      At M' n3 (.cells true (crc ⟨aL, fL, aF, fF, aB, fB, some (i2, o2), fO⟩ s) 41) ∧ At M' n4 (.cells true [I k, I w] 52) ∧ ∀ i (hi : i < s.opn[k].length), i < j → winO t (stepsF s.speed q.1 q.2) (s.opn[k])[i] = none) ?_ s.opn[k].length _ _ _
    ⟨0, by omega, by omega, rfl, .cons rfl (.cons rfl (.cons rfl (.cons rfl (.cons rfl (.cons rfl .nil))))), xg, by omega, xm, xm, xm, fun j hj h => absurd h (Nat.not_lt_zero _)⟩
  rintro n E ms M11 ⟨j, rfl, hj, rfl, hE, hG, hle11, a6, a3, a4, hall⟩
  refine w_has hE ?_
  have r2 : Rd1 M11 i2 (o2 + k * 1) (.slice aw s.opn[k].length fw 2) := g1.grow hG
  by_cases hlast : j = s.opn[k].length
  · subst hlast
    have hnone : (s.opn[k]).findSome? (winO t (stepsF s.speed q.1 q.2)) = none := findSome_none fun b hb => if_list (P := fun b => winO t (stepsF s.speed q.1 q.2) b = none) (fun i hi h => hall i hi h) (Nat.le_refl _) b hb
    rw [hnone]
    (have hrd0 := r2; repeat' (first | (with_reducible intro _) | refine sv ?_ | (refine sc ?_ ?_ <;> (intro h; try first | exact h.elim | exact absurd rfl h | (exfalso; omega))) | (refine sg ?_ ?_ <;> (intro h; (fail_if_success (have : True := h)); try first | exact h.elim | exact absurd rfl h | (exfalso; omega))) | assumption | exact xm | exact rfl))
    ((with_reducible first | apply k_fun | apply k_fun_norm); exact rx)
    exact ⟨rfl, xg⟩
  have hlt : j < s.opn[k].length := by omega
  obtain ⟨i3, o3, rfl, hr3⟩ := g2.resolve_left (fun e => by rw [e] at hlt; simp at hlt)
  have hi3 := (hr3 j hlt).2
  have r3 : Rd M11 i3 (o3 + j * 2) 2 (bdc (s.opn[k])[j]) := (hr3 j hlt).grow hG
  have hwin := (win_iff.1 (hs.opn _ (List.getElem_mem hk2))).2 j hlt
  unfold winAt at hwin
  rw [getD_eq hlt] at hwin
  have hmx : 0 ≤ iMax t (s.opn[k])[j].1 ∧ iMax t (s.opn[k])[j].1 ≤ 1000000000 := by unfold iMax; omega
  have hleM := hG.le
  by_cases hh : iMax t (s.opn[k])[j].1 + stepsF s.speed q.1 q.2 ≤ (s.opn[k])[j].2
  · rw [findSome_take hlt hall (if_pos hh)]
    (have hrd0 := r2; have hrd1 := r3; repeat' (first | (with_reducible intro _) | refine sv ?_ | (refine sc ?_ ?_ <;> (intro h; try first | exact h.elim | exact absurd rfl h | (exfalso; omega))) | (refine sg ?_ ?_ <;> (intro h; (fail_if_success (have : True := h)); try first | exact h.elim | exact absurd rfl h | (exfalso; omega))) | assumption | exact xm | exact rfl))
    ((with_reducible first | apply k_fun | apply k_fun_norm); exact rx)
    exact ⟨rfl, xg⟩
  · (have hrd0 := r2; have hrd1 := r3; repeat' (first | (with_reducible intro _) | refine sv ?_ | (refine sc ?_ ?_ <;> (intro h; try first | exact h.elim | exact absurd rfl h | (exfalso; omega))) | (refine sg ?_ ?_ <;> (intro h; (fail_if_success (have : True := h)); try first | exact h.elim | exact absurd rfl h | (exfalso; omega))) | assumption | exact xm | exact rfl))
    refine k_step (s.opn[k].length - (j + 1)) (by omega) ⟨j + 1, rfl, by omega, rfl, .cons rfl (.cons rfl (.cons rfl (.cons rfl (.cons rfl (.cons rfl .nil))))), xg, by omega, xm, xm, xm, fun i hi h => ?_⟩
    by_cases hij : i = j
    · subst hij; exact if_neg hh
    · exact hall i hi (by omega)
theorem c_Shot {A : CrA} {s : Cr} {x : Int × Int} {t : Int} {M : Mem} (hM : CrM M A s) : CallOk Tryz.prog 27 [crv A s, .agg [I x.1, I x.2], I t] M (fun v M' => v = .tup [bdv (ShotF s x t).1, I (ShotF s x t).2] ∧ Grow M M') := by
  refine call_in k27 rfl ?_
  dsimp only [x27, zipE, Nat.reduceAdd]
  have hc := fun M' (hg : Grow M M') => c_chartOf (hM.grow hg)
  unfold ShotF
  (repeat' (first | (with_reducible intro _) | refine sv ?_ | (refine sc ?_ ?_ <;> (intro h; try first | exact h.elim | exact absurd rfl h | (exfalso; omega))) | ((with_reducible first | apply x_call | apply d_call | apply x_call0); exact gd; exact rfl; exact rfl; (first | exact hc _ (xg))) | (refine sg ?_ ?_ <;> (intro h; (fail_if_success (have : True := h)); try first | exact h.elim | exact absurd rfl h | (exfalso; omega))) | assumption | exact xm | exact rfl))
  rename_i n3 M1 hn3 e1 e2 n4 M2 hn4 e3 e4 n6 M3 hn6 e5 e6 w M4 hq
  obtain ⟨hg5, ⟨hno, rfl⟩ | ⟨hok, pc, pm, rfl, hch, h1, h2⟩⟩ := hq
  · have hle5 := hg5.le
    rw [if_neg hno]
    (repeat' (first | (with_reducible intro _) | refine sv ?_ | (refine sc ?_ ?_ <;> (intro h; try first | exact h.elim | exact absurd rfl h | (exfalso; omega))) | (refine sg ?_ ?_ <;> (intro h; (fail_if_success (have : True := h)); try first | exact h.elim | exact absurd rfl h | (exfalso; omega))) | assumption | exact xm | exact rfl))
    ((with_reducible first | apply k_fun | apply k_fun_norm); exact rx)
    exact ⟨rfl, xg⟩
  have hle5 := hg5.le
  have hcp := hch.cells.2
  rw [if_pos hok]
  have hcr := fun M' (hg : Grow M4 M') => c_right (x := x) (hch.grow hg) ⟨hok.n1, hok.n5⟩
  by_cases hr : rightP s x
  rotate_left
  · rw [if_neg hr]
    unfold rightP at hr
    (repeat' (first | (with_reducible intro _) | refine sv ?_ | (refine sc ?_ ?_ <;> (intro h; try first | exact h.elim | exact absurd rfl h | (exfalso; omega))) | ((with_reducible first | apply x_pure | apply d_pure); exact gd; exact rfl; exact rfl; (first | exact hcr _ (xg))) | (refine sg ?_ ?_ <;> (intro h; (fail_if_success (have : True := h)); try first | exact h.elim | exact absurd rfl h | (exfalso; omega))) | assumption | exact xm | exact rfl))
    all_goals first
      | (exact absurd (by assumption) hr)
      | (((with_reducible first | apply k_fun | apply k_fun_norm); exact rx)
         exact ⟨rfl, xg⟩)
  rw [if_pos hr]
  have hr' := hr
  unfold rightP at hr
  by_cases hT : 0 ≤ t ∧ t ≤ 4194304
  rotate_left
  · rw [if_neg hT]
    (repeat' (first | (with_reducible intro _) | refine sv ?_ | (refine sc ?_ ?_ <;> (intro h; try first | exact h.elim | exact absurd rfl h | (exfalso; omega))) | ((with_reducible first | apply x_same | apply d_same); exact gd; exact rfl; exact rfl; (first | exact c_within _ _ _ _)) | ((with_reducible first | apply x_pure | apply d_pure); exact gd; exact rfl; exact rfl; (first | exact hcr _ (xg))) | (refine sg ?_ ?_ <;> (intro h; (fail_if_success (have : True := h)); try first | exact h.elim | exact absurd rfl h | (exfalso; omega))) | assumption | exact xm | exact rfl))
    all_goals first
      | (exact absurd (by assumption) hT)
      | (exact absurd hr (by assumption))
      | (((with_reducible first | apply k_fun | apply k_fun_norm); exact rx)
         exact ⟨rfl, xg⟩)
  rw [if_pos hT]
  obtain ⟨x1, x2⟩ := x
  obtain ⟨k, rfl⟩ := Int.eq_ofNat_of_zero_le hr.1.1
  have hk : k < s.lines.length := by have := hr.1.2; dsimp only at this; omega
  have hw : x2 = 0 ∨ x2 = 1 := by have := hr.2; dsimp only at this; omega
  rw [show (((k : Int), x2) : Int × Int).1.toNat = k from rfl]
  have hcs := fun M' (hg : Grow M4 M') => c_shot (hch.grow hg) hok hk hw (t := t) (by omega)
  (repeat' (first | (with_reducible intro _) | refine sv ?_ | (refine sc ?_ ?_ <;> (intro h; try first | exact h.elim | exact absurd rfl h | (exfalso; omega))) | ((with_reducible first | apply x_same | apply d_same); exact gd; exact rfl; exact rfl; (first | exact c_within _ _ _ _)) | ((with_reducible first | apply x_pure | apply d_pure); exact gd; exact rfl; exact rfl; (first | exact hcr _ (xg))) | ((with_reducible first | apply x_call | apply d_call | apply x_call0); exact gd; exact rfl; exact rfl; (first | exact hcs _ (xg))) | (refine sg ?_ ?_ <;> (intro h; (fail_if_success (have : True := h)); try first | exact h.elim | exact absurd rfl h | (exfalso; omega))) | assumption | exact xm | exact rfl))
  all_goals try (exact absurd hr (by assumption))
  rename_i hq
  obtain ⟨rfl, hk7, hkn7⟩ := hq
  have := hk7.le
  cases hsf : shotF s k x2 t with
  | none =>
    (repeat' (first | (with_reducible intro _) | refine sv ?_ | (refine sc ?_ ?_ <;> (intro h; try first | exact h.elim | exact absurd rfl h | (exfalso; omega))) | (refine sg ?_ ?_ <;> (intro h; (fail_if_success (have : True := h)); try first | exact h.elim | exact absurd rfl h | (exfalso; omega))) | assumption | exact xm | exact rfl))
    ((with_reducible first | apply k_fun | apply k_fun_norm); exact rx)
    exact ⟨rfl, xg⟩
  | some b =>
    (repeat' (first | (with_reducible intro _) | refine sv ?_ | (refine sc ?_ ?_ <;> (intro h; try first | exact h.elim | exact absurd rfl h | (exfalso; omega))) | (refine sg ?_ ?_ <;> (intro h; (fail_if_success (have : True := h)); try first | exact h.elim | exact absurd rfl h | (exfalso; omega))) | assumption | exact xm | exact rfl))
    ((with_reducible first | apply k_fun | apply k_fun_norm); exact rx)
    exact ⟨rfl, xg⟩
theorem c_Shot4 {A : CrA} {s : Cr} {x : Int × Int} {t : Int} {M : Mem} (hM : CrM M A s) : CallOk Tryz.prog 28 [crv A s, .agg [I x.1, I x.2], I t] M (fun v M' => v = .tup [bdv (ShotF s x t).1, I (ShotF s x t).2] ∧ Grow M M') := by
  refine call_in k28 rfl ?_
  dsimp only [x28, zipE, Nat.reduceAdd]
  have hc := fun M' (hg : Grow M M') => c_CheckCruise4 (hM.grow hg)
  unfold ShotF
  by_cases hok : CrOk s
  rotate_left
  · have he : eCrB s = 40 := if_neg (by rw [crB_f hok]; decide)
    rw [if_neg hok]
    rw [he] at hc
    (repeat' (first | (with_reducible intro _) | refine sv ?_ | (refine sc ?_ ?_ <;> (intro h; try first | exact h.elim | exact absurd rfl h | (exfalso; omega))) | ((with_reducible first | apply x_pure | apply d_pure); exact gd; exact rfl; exact rfl; (first | exact hc _ (xg))) | (refine sg ?_ ?_ <;> (intro h; (fail_if_success (have : True := h)); try first | exact h.elim | exact absurd rfl h | (exfalso; omega))) | assumption | exact xm | exact rfl))
    ((with_reducible first | apply k_fun | apply k_fun_norm); exact rx)
    exact ⟨rfl, xg⟩
  have he : eCrB s = 0 := if_pos (crB_t hok)
  rw [he] at hc
  rw [if_pos hok]
  by_cases hr : rightP s x
  rotate_left
  · rw [if_neg hr]
    unfold rightP at hr
    (repeat' (first | (with_reducible intro _) | refine sv ?_ | (refine sc ?_ ?_ <;> (intro h; try first | exact h.elim | exact absurd rfl h | (exfalso; omega))) | ((with_reducible first | apply x_pure | apply d_pure); exact gd; exact rfl; exact rfl; (first | exact hc _ (xg) | exact c_shoot4 ⟨hok.n1, hok.n5⟩)) | (refine sg ?_ ?_ <;> (intro h; (fail_if_success (have : True := h)); try first | exact h.elim | exact absurd rfl h | (exfalso; omega))) | assumption | exact xm | exact rfl))
    all_goals first
      | (exact absurd (by assumption) hr)
      | (((with_reducible first | apply k_fun | apply k_fun_norm); exact rx)
         exact ⟨rfl, xg⟩)
  rw [if_pos hr]
  unfold rightP at hr
  by_cases hT : 0 ≤ t ∧ t ≤ 4194304
  rotate_left
  · rw [if_neg hT]
    (repeat' (first | (with_reducible intro _) | refine sv ?_ | (refine sc ?_ ?_ <;> (intro h; try first | exact h.elim | exact absurd rfl h | (exfalso; omega))) | ((with_reducible first | apply x_same | apply d_same); exact gd; exact rfl; exact rfl; (first | exact c_between _ _ _ _)) | ((with_reducible first | apply x_pure | apply d_pure); exact gd; exact rfl; exact rfl; (first | exact hc _ (xg) | exact c_shoot4 ⟨hok.n1, hok.n5⟩)) | (refine sg ?_ ?_ <;> (intro h; (fail_if_success (have : True := h)); try first | exact h.elim | exact absurd rfl h | (exfalso; omega))) | assumption | exact xm | exact rfl))
    all_goals first
      | (exact absurd (by assumption) hT)
      | (exact absurd hr (by assumption))
      | (((with_reducible first | apply k_fun | apply k_fun_norm); exact rx)
         exact ⟨rfl, xg⟩)
  rw [if_pos hT]
  obtain ⟨x1, x2⟩ := x
  obtain ⟨k, rfl⟩ := Int.eq_ofNat_of_zero_le hr.1.1
  have hk : k < s.lines.length := by have := hr.1.2; dsimp only at this; omega
  have hw : x2 = 0 ∨ x2 = 1 := by have := hr.2; dsimp only at this; omega
  rw [show (((k : Int), x2) : Int × Int).1.toNat = k from rfl]
  have hcs := fun M' (hg : Grow M M') => c_shot4 (hM.grow hg) hok hk hw (t := t) (by omega)
  cases hsf : shotF s k x2 t with
  | none =>
    rw [hsf] at hcs
    (repeat' (first | (with_reducible intro _) | refine sv ?_ | (refine sc ?_ ?_ <;> (intro h; try first | exact h.elim | exact absurd rfl h | (exfalso; omega))) | ((with_reducible first | apply x_same | apply d_same); exact gd; exact rfl; exact rfl; (first | exact c_between _ _ _ _)) | ((with_reducible first | apply x_pure | apply d_pure); exact gd; exact rfl; exact rfl; (first | exact hc _ (xg) | exact c_shoot4 ⟨hok.n1, hok.n5⟩ | exact hcs _ (xg))) | (refine sg ?_ ?_ <;> (intro h; (fail_if_success (have : True := h)); try first | exact h.elim | exact absurd rfl h | (exfalso; omega))) | assumption | exact xm | exact rfl))
    all_goals first
      | (exact absurd hr (by assumption))
      | (((with_reducible first | apply k_fun | apply k_fun_norm); exact rx)
         exact ⟨rfl, xg⟩)
  | some b =>
    rw [hsf] at hcs
    (repeat' (first | (with_reducible intro _) | refine sv ?_ | (refine sc ?_ ?_ <;> (intro h; try first | exact h.elim | exact absurd rfl h | (exfalso; omega))) | ((with_reducible first | apply x_same | apply d_same); exact gd; exact rfl; exact rfl; (first | exact c_between _ _ _ _)) | ((with_reducible first | apply x_pure | apply d_pure); exact gd; exact rfl; exact rfl; (first | exact hc _ (xg) | exact c_shoot4 ⟨hok.n1, hok.n5⟩ | exact hcs _ (xg))) | (refine sg ?_ ?_ <;> (intro h; (fail_if_success (have : True := h)); try first | exact h.elim | exact absurd rfl h | (exfalso; omega))) | assumption | exact xm | exact rfl))
    all_goals first
      | (exact absurd hr (by assumption))
      | (((with_reducible first | apply k_fun | apply k_fun_norm); exact rx)
         exact ⟨rfl, xg⟩)
theorem c_works (M : Mem) : CallOk Tryz.prog 17 [] M (fun w M' => w = .bool true ∧ M' = M) := ⟨_, _, om_ask rfl M, rfl, rfl⟩
theorem c_CourseShots {A : CrA} {s : Cr} {x : Int × Int} {t : Int} {M : Mem} (hM : CrM M A s) : CallOk Tryz.prog 6 [crv A s, .agg [I x.1, I x.2], I t] M (fun w _ => w = .bool true) := by
  refine call_in k6 rfl ?_
  dsimp only [x6, zipE, Nat.reduceAdd]
  have h1 := fun M' (hg : Grow M M') => c_Shot (x := x) (t := t) (hM.grow hg)
  have h2 := fun M' (hg : Grow M M') => c_Shot4 (x := x) (t := t) (hM.grow hg)
  (repeat' (first | (with_reducible intro _) | refine sv ?_ | (refine sc ?_ ?_ <;> (intro h; try first | exact h.elim | exact absurd rfl h | (exfalso; omega))) | ((with_reducible first | apply x_same | apply d_same); exact gd; exact rfl; exact rfl; (first | exact c_works _)) | ((with_reducible first | apply x_pure | apply d_pure); exact gd; exact rfl; exact rfl; (first | exact h1 _ (xg) | exact h2 _ (xg))) | (refine sg ?_ ?_ <;> (intro h; (fail_if_success (have : True := h)); try first | exact h.elim | exact absurd rfl h | (exfalso; omega))) | assumption | exact xm | exact rfl))
  all_goals ((with_reducible first | apply k_fun | apply k_fun_norm); exact rx)
  all_goals rfl
end Go.Proofs.YtgipddabhcmgjaaGreat.C
end
