/-
  Part of the proof of CourseSafe: what functions of the program and of the statement come to, walked by the rules. No condition beyond those in each theorem.
-/
import Derived.Test.YtpccafeedfpbaaaGreatWF
import Derived.Test.YtpccafeedfpbaaaGreatWE
open Go PvL Go.Proofs
set_option linter.unusedVariables false
set_option linter.unusedSimpArgs false
namespace Go.Proofs.YtpccafeedfpbaaaGreat.C
theorem clear_hits {s : Cr} {a b : Pt} (hs : CrOk s) (h : clearF s a b = true) : (sweptF s.spread a b).2 = 0 ∧ ∀ f ∈ s.fields, hitsO f (sweptF s.spread a b).1 = none := by
  unfold clearF at h
  rw [Bool.and_eq_true] at h
  have h1 := of_decide_eq_true h.1
  refine ⟨h1, fun f hf => ?_⟩
  cases ho : hitsO f (sweptF s.spread a b).1 with
  | none => rfl
  | some p =>
    have h2 := h.2
    rw [Bool.not_eq_true', ← Bool.not_eq_true, List.any_eq_true] at h2
    refine absurd ⟨f, hf, decide_eq_true ?_⟩ h2
    unfold hitsF
    rw [if_pos (hs.fields f hf), if_pos (sweptF_ok h1), ho]
set_option maxHeartbeats 8000000 in
theorem c_CourseSafe {A : CrA} {s : Cr} {a b : Pt} {aI : Option (Nat × Nat)} {fI : Bool} {l : List Int} {M : Mem} (hM : CrM M A s) (hl : SlA 1 (fun n => [I n]) M aI l) (hlen : l.length ≤ 1000000000000000) :
    CallOk Tryz.prog 12 [crv A s, .agg [I a.1, I a.2, I b.1, I b.2], .slice aI l.length fI 1] M (fun v M' => v = .bool true) := by
  refine call_in k12 rfl ?_
  dsimp only [x12, zipE, Nat.reduceAdd]
  have hC := fun M' (hg : Grow M M') => c_Clear (a := a) (b := b) (hM.grow hg)
  by_cases he : askE s a b = 0
  rotate_left
  · rw [clearF_ne he] at hC
    (repeat' (first | (with_reducible intro _) | refine sv ?_ | (refine sc ?_ ?_ <;> (intro h; try first | exact h.elim | exact absurd rfl h | (exfalso; omega))) | ((with_reducible first | apply x_same | apply d_same); exact gd; exact rfl; exact rfl; (first | exact c_works _)) | ((with_reducible first | apply x_pure | apply d_pure); exact gd; exact rfl; exact rfl; (first | exact hC _ (xg))) | (refine sg ?_ ?_ <;> (intro h; (fail_if_success (have : True := h)); try first | exact h.elim | exact absurd rfl h | (exfalso; omega))) | assumption | exact xm | exact rfl))
    all_goals ((with_reducible first | apply k_fun | apply k_fun_norm); exact rx)
    all_goals rfl
  obtain ⟨hok, ha, hb⟩ := askE_zero he
  rw [clearF_eq he] at hC
  dsimp only at hC
  cases hcl : clearF s a b with
  | false =>
    rw [hcl] at hC
    (repeat' (first | (with_reducible intro _) | refine sv ?_ | (refine sc ?_ ?_ <;> (intro h; try first | exact h.elim | exact absurd rfl h | (exfalso; omega))) | ((with_reducible first | apply x_same | apply d_same); exact gd; exact rfl; exact rfl; (first | exact c_works _)) | ((with_reducible first | apply x_pure | apply d_pure); exact gd; exact rfl; exact rfl; (first | exact hC _ (xg))) | (refine sg ?_ ?_ <;> (intro h; (fail_if_success (have : True := h)); try first | exact h.elim | exact absurd rfl h | (exfalso; omega))) | assumption | exact xm | exact rfl))
    all_goals ((with_reducible first | apply k_fun | apply k_fun_norm); exact rx)
    all_goals rfl
  | true =>
  rw [hcl] at hC
  have hPa := ha
  have hPb := hb
  dsimp only [PlP, Pl] at hPa hPb
  obtain ⟨aL, fL, aF, fF, aB, fB, aO, fO⟩ := A
  have hnf := hM.nf
  (repeat' (first | (with_reducible intro _) | refine sv ?_ | (refine sc ?_ ?_ <;> (intro h; try first | exact h.elim | exact absurd rfl h | (exfalso; omega))) | ((with_reducible first | apply x_same | apply d_same); exact gd; exact rfl; exact rfl; (first | exact c_works _ | exact c_divisor _ _ (by omega) (by omega) _)) | ((with_reducible first | apply x_pure | apply d_pure); exact gd; exact rfl; exact rfl; (first | exact hC _ (xg))) | (refine sg ?_ ?_ <;> (intro h; (fail_if_success (have : True := h)); try first | exact h.elim | exact absurd rfl h | (exfalso; omega))) | assumption | exact xm | exact rfl))
  rename_i n3 M1 hn3 f1 f2 n4 M2 hn4 f3 f4 M3 hg3 f5
  generalize hgg : Nat.gcd (b.1 - a.1).natAbs (b.2 - a.2).natAbs = g
  have hgb : g ≤ 65536 := by
    by_cases hx : (b.1 - a.1).natAbs = 0
    · rw [hx, Nat.gcd_zero_left] at hgg; omega
    · have := Nat.gcd_le_left (b.2 - a.2).natAbs (Nat.pos_of_ne_zero hx); omega
  have hgx : (g : Int) ∣ b.1 - a.1 := by rw [← hgg]; exact Int.ofNat_dvd_left.2 (Nat.gcd_dvd_left _ _)
  have hgy : (g : Int) ∣ b.2 - a.2 := by rw [← hgg]; exact Int.ofNat_dvd_left.2 (Nat.gcd_dvd_right _ _)
  refine w_loop_ind (fun n E ms M' => ∃ k : Nat, n = 8 - k ∧ k ≤ 8 ∧ ms = [] ∧ Has E [(2, .slice aI l.length fI 1), (3, .ptr (some (n3, 0))), (4, .ptr (some (n4, 0))), (9, I (b.1 - a.1)), (10, I (b.2 - a.2)), (11, I g), (12, I k)] ∧ Grow M M' ∧ M3.next ≤ M'.next ∧ At M' n3 (.cells true (crc ⟨aL, fL, aF, fF, aB, fB, aO, fO⟩ s) 35) ∧
      At M' n4 (.cells true [I a.1, I a.2, I b.1, I b.2] 82)) ?_ 8 _ _ _
    ⟨0, by omega, by omega, rfl, .cons rfl (.cons rfl (.cons rfl (.cons rfl (.cons rfl (.cons (by rw [← hgg]; rfl) (.cons rfl .nil)))))), xg, by omega, xm, xm⟩
  rintro n E ms M4 ⟨k, rfl, hk, rfl, hE, hG, hle1, a1, a2⟩
  have hle := hG.le
  refine w_has hE ?_
  by_cases hlast : k = 8
  · subst hlast
    (repeat' (first | (with_reducible intro _) | refine sv ?_ | (refine sc ?_ ?_ <;> (intro h; try first | exact h.elim | exact absurd rfl h | (exfalso; omega))) | ((with_reducible first | apply x_same | apply d_same); exact gd; exact rfl; exact rfl; (first | exact c_works _)) | (refine sg ?_ ?_ <;> (intro h; (fail_if_success (have : True := h)); try first | exact h.elim | exact absurd rfl h | (exfalso; omega))) | assumption | exact xm | exact rfl))
    all_goals ((with_reducible first | apply k_fun | apply k_fun_norm); exact rx)
    all_goals rfl
  have hk8 : k < 8 := by omega
  have hpk := fun M' (hg : Grow M M') (j : Int) => c_Pick (k := j) (f := fI) (hl.grow hg) hlen
  have hp0 := fun M' (hg : Grow M M') => hpk M' hg k
  generalize hx1 : pickF l k = x1
  have hr1 := restF_bd (x := x1) (m := (g : Int) + 1) (by omega)
  have hpd1 := part_bd (k := restF x1 ((g : Int) + 1)) (n := g) (g := (b.1 - a.1).tdiv g) hr1.1 (by omega)
  have hpd2 := part_bd (k := restF x1 ((g : Int) + 1)) (n := g) (g := (b.2 - a.2).tdiv g) hr1.1 (by omega)
  have hc1 : (b.1 - a.1).tdiv g * g = b.1 - a.1 := Int.tdiv_mul_cancel hgx
  have hc2 : (b.2 - a.2).tdiv g * g = b.2 - a.2 := Int.tdiv_mul_cancel hgy
  have hz1 : g ≠ 0 → -65536 ≤ (b.1 - a.1).tdiv g ∧ (b.1 - a.1).tdiv g ≤ 65536 := fun h0 => by
    have := Int.natAbs_tdiv_le_natAbs (b.1 - a.1) g
    omega
  have hz2 : g ≠ 0 → -65536 ≤ (b.2 - a.2).tdiv g ∧ (b.2 - a.2).tdiv g ≤ 65536 := fun h0 => by
    have := Int.natAbs_tdiv_le_natAbs (b.2 - a.2) g
    omega
  rw [Int.mul_comm] at hc1 hc2
  rw [Int.mul_comm (restF x1 ((g : Int) + 1))] at hpd1 hpd2
  rw [hc1] at hpd1
  rw [hc2] at hpd2
  rw [hx1] at hp0
  obtain ⟨hsp1, hsp2, hsp3, hsp4⟩ := hok.spread
  have hsr := hsp1
  dsimp only [RgOk, fitsP] at hsr
  have hr3 := restF_bd (x := pickF l ((k : Int) + 3)) (m := s.spread.1.2 - s.spread.1.1 + 1) (by omega)
  have hr5 := restF_bd (x := pickF l ((k : Int) + 5)) (m := s.spread.2.1.2 - s.spread.2.1.1 + 1) (by omega)
  obtain ⟨hsw, hno⟩ := clear_hits hok hcl
  have hS := sweptF_ok hsw
  have hsafe : ∀ p, InR s.spread p → (g ≠ 0 → InR (sweptF s.spread a b).1 (a.1 + (b.1 - a.1).tdiv g * restF x1 ((g : Int) + 1) + p.1, a.2 + (b.2 - a.2).tdiv g * restF x1 ((g : Int) + 1) + p.2)) ∧ (g = 0 → InR (sweptF s.spread a b).1 (a.1 + p.1, a.2 + p.2)) := fun p hp => by
    refine ⟨fun h0 => ?_, fun h0 => ?_⟩
    · have := swept_point (n := g) (k := restF x1 ((g : Int) + 1)) (g := ((b.1 - a.1).tdiv g, (b.2 - a.2).tdiv g)) hsw hp hr1.1 (by omega) (Prod.ext (by dsimp only; omega) (by dsimp only; omega))
      dsimp only at this
      rw [Int.mul_comm (restF x1 ((g : Int) + 1)), Int.mul_comm (restF x1 ((g : Int) + 1))] at this
      exact this
    · subst h0
      have d1 := Int.zero_dvd.1 hgx
      have d2 := Int.zero_dvd.1 hgy
      have := swept_point (n := 0) (k := 0) (g := (0, 0)) hsw hp (by omega) (by omega) (b := b) (Prod.ext (by dsimp only; omega) (by dsimp only; omega))
      dsimp only at this
      rw [Int.mul_zero, Int.add_zero, Int.add_zero] at this
      exact this
  by_cases hg0 : g = 0
  · have hg1 : ¬ 0 < (g : Int) := by omega
    (repeat' (first | (with_reducible intro _) | refine sv ?_ | (refine sc ?_ ?_ <;> (intro h; try first | exact h.elim | exact absurd rfl h | (exfalso; omega))) | ((with_reducible first | apply x_same | apply d_same); exact gd; exact rfl; exact rfl; (first | exact c_RestM x1 ((g : Int) + 1) (by omega) _ | exact hp0 _ (xg) | exact hpk _ (xg) ((k : Int) + 3) | exact hpk _ (xg) ((k : Int) + 5) | exact c_RestM (pickF l ((k : Int) + 3)) _ (by omega) _ | exact c_RestM (pickF l ((k : Int) + 5)) _ (by omega) _)) | ((with_reducible first | apply x_call | apply d_call | apply x_call0); exact gd; exact rfl; exact rfl; (first | exact c_Has s.spread hsp1 (s.spread.1.1 + restF (pickF l ((k : Int) + 3)) (s.spread.1.2 - s.spread.1.1 + 1), s.spread.2.1.1 + restF (pickF l ((k : Int) + 5)) (s.spread.2.1.2 - s.spread.2.1.1 + 1)) _)) | (refine sg ?_ ?_ <;> (intro h; (fail_if_success (have : True := h)); try first | exact h.elim | exact absurd rfl h | (exfalso; omega))) | assumption | exact xm | exact rfl))
    rename_i _ n14 M5 hn14 g1 g2 M6 hu6 g3 g4 _ n15 M8 hn15 g6 g7 M9 hu9 g8 a15 w M10 hq
    obtain ⟨⟨bq, eq, rfl, himp⟩, hg10⟩ := hq
    have hle10 := hg10.le
    have hadv : ∀ (E' : Env) (M' : Mem), Grow M M' → M3.next ≤ M'.next → At M' n3 (.cells true (crc ⟨aL, fL, aF, fF, aB, fB, aO, fO⟩ s) 35) → At M' n4 (.cells true [I a.1, I a.2, I b.1, I b.2] 82) → True := fun _ _ _ _ _ _ => trivial
    clear hadv
    cases bq with
    | false =>
      (repeat' (first | (with_reducible intro _) | refine sv ?_ | (refine sc ?_ ?_ <;> (intro h; try first | exact h.elim | exact absurd rfl h | (exfalso; omega))) | (refine sg ?_ ?_ <;> (intro h; (fail_if_success (have : True := h)); try first | exact h.elim | exact absurd rfl h | (exfalso; omega))) | assumption | exact xm | exact rfl))
      all_goals refine k_step (8 - (k + 1)) (by omega) ⟨k + 1, rfl, by omega, rfl, .cons rfl (.cons rfl (.cons rfl (.cons rfl (.cons rfl (.cons rfl (.cons rfl .nil)))))), xg, by omega, xm, xm⟩
    | true =>
    by_cases heq : eq = 0
    rotate_left
    · (repeat' (first | (with_reducible intro _) | refine sv ?_ | (refine sc ?_ ?_ <;> (intro h; try first | exact h.elim | exact absurd rfl h | (exfalso; omega))) | (refine sg ?_ ?_ <;> (intro h; (fail_if_success (have : True := h)); try first | exact h.elim | exact absurd rfl h | (exfalso; omega))) | assumption | exact xm | exact rfl))
      refine k_step (8 - (k + 1)) (by omega) ⟨k + 1, rfl, by omega, rfl, .cons rfl (.cons rfl (.cons rfl (.cons rfl (.cons rfl (.cons rfl (.cons rfl .nil)))))), xg, by omega, xm, xm⟩
    have hq := (hsafe _ (himp rfl heq)).2 hg0
    (repeat' (first | (with_reducible intro _) | refine sv ?_ | (refine sc ?_ ?_ <;> (intro h; try first | exact h.elim | exact absurd rfl h | (exfalso; omega))) | (refine sg ?_ ?_ <;> (intro h; (fail_if_success (have : True := h)); try first | exact h.elim | exact absurd rfl h | (exfalso; omega))) | assumption | exact xm | exact rfl))
    rename_i n18 M11 hn18 g11 g12 M12 hu12 g13 a18
    dsimp only at hq
    have hqp : PlP (a.1 + (s.spread.1.1 + restF (pickF l ((k : Int) + 3)) (s.spread.1.2 - s.spread.1.1 + 1)), a.2 + (s.spread.2.1.1 + restF (pickF l ((k : Int) + 5)) (s.spread.2.1.2 - s.spread.2.1.1 + 1))) := by
      unfold InR at hq
      dsimp only [RgOk, fitsP, PlP, Pl] at hS hq ⊢
      omega
    generalize a.1 + (s.spread.1.1 + restF (pickF l ((k : Int) + 3)) (s.spread.1.2 - s.spread.1.1 + 1)) = qx at *
    generalize a.2 + (s.spread.2.1.1 + restF (pickF l ((k : Int) + 5)) (s.spread.2.1.2 - s.spread.2.1.1 + 1)) = qy at *
    refine w_loop_ind (fun n E ms M' => ∃ j : Nat, n = s.fields.length - j ∧ j ≤ s.fields.length ∧ ms = [] ∧ Has E [(2, .slice aI l.length fI 1), (3, .ptr (some (n3, 0))), (4, .ptr (some (n4, 0))), (9, I (b.1 - a.1)), (10, I (b.2 - a.2)), (11, I g), (12, I k), (18, .ptr (some (n18, 0))), (19, I j)] ∧ Grow M M' ∧ M12.next ≤ M'.next ∧ At M' n3 (.cells true (crc ⟨aL, fL, aF, fF, aB, fB, aO, fO⟩ s) 35) ∧
        At M' n4 (.cells true [I a.1, I a.2, I b.1, I b.2] 82) ∧ At M' n18 (.cells true [I qx, I qy] 30)) ?_ s.fields.length _ _ _
      ⟨0, by omega, by omega, rfl, .cons rfl (.cons rfl (.cons rfl (.cons rfl (.cons rfl (.cons rfl (.cons rfl (.cons rfl (.cons rfl .nil)))))))), xg, by omega, xm, xm, xm⟩
    rintro n E ms M13 ⟨j, rfl, hj, rfl, hE, hG13, hle13, c1, c2, c3⟩
    have hlx := hG13.le
    refine w_has hE ?_
    by_cases hjl : j = s.fields.length
    · subst hjl
      (repeat' (first | (with_reducible intro _) | refine sv ?_ | (refine sc ?_ ?_ <;> (intro h; try first | exact h.elim | exact absurd rfl h | (exfalso; omega))) | (refine sg ?_ ?_ <;> (intro h; (fail_if_success (have : True := h)); try first | exact h.elim | exact absurd rfl h | (exfalso; omega))) | assumption | exact xm | exact rfl))
      all_goals refine k_step (8 - (k + 1)) (by omega) ⟨k + 1, rfl, by omega, rfl, .cons rfl (.cons rfl (.cons rfl (.cons rfl (.cons rfl (.cons rfl (.cons rfl .nil)))))), xg, by omega, xm, xm⟩
    have hlt : j < s.fields.length := by omega
    obtain ⟨i2, o2, rfl, hr2⟩ := (show SlL 2 ptc M aF s.fields from hM.fields).resolve_left (fun e => by rw [e] at hlt; simp at hlt)
    obtain ⟨a', f', u1, u2, u3⟩ := hr2 j hlt
    have r2 : Rd1 M13 i2 (o2 + j * 1) (.slice a' s.fields[j].length f' 2) := u1.grow hG13
    have hi2 := r2.2
    have hin := hits_none_in (hno _ (List.getElem_mem hlt)) hq
    have hci := fun M' (hg : Grow M M') => c_Inside (f := f') (p := (qx, qy)) (u2.grow hg) u3 (hok.fields _ (List.getElem_mem hlt)) hqp
    rw [hin] at hci
    (have hrd0 := r2; repeat' (first | (with_reducible intro _) | refine sv ?_ | (refine sc ?_ ?_ <;> (intro h; try first | exact h.elim | exact absurd rfl h | (exfalso; omega))) | ((with_reducible first | apply x_pure | apply d_pure); exact gd; exact rfl; exact rfl; (first | exact hci _ (xg))) | (refine sg ?_ ?_ <;> (intro h; (fail_if_success (have : True := h)); try first | exact h.elim | exact absurd rfl h | (exfalso; omega))) | assumption | exact xm | exact rfl))
    all_goals refine k_step (s.fields.length - (j + 1)) (by omega) ⟨j + 1, rfl, by omega, rfl, .cons rfl (.cons rfl (.cons rfl (.cons rfl (.cons rfl (.cons rfl (.cons rfl (.cons rfl (.cons rfl .nil)))))))), xg, by omega, xm, xm, xm⟩
  have hg1 : 0 < (g : Int) := by omega
  (repeat' (first | (with_reducible intro _) | refine sv ?_ | (refine sc ?_ ?_ <;> (intro h; try first | exact h.elim | exact absurd rfl h | (exfalso; omega))) | ((with_reducible first | apply x_same | apply d_same); exact gd; exact rfl; exact rfl; (first | exact c_RestM x1 ((g : Int) + 1) (by omega) _ | exact hp0 _ (xg) | exact hpk _ (xg) ((k : Int) + 3) | exact hpk _ (xg) ((k : Int) + 5) | exact c_RestM (pickF l ((k : Int) + 3)) _ (by omega) _ | exact c_RestM (pickF l ((k : Int) + 5)) _ (by omega) _)) | ((with_reducible first | apply x_call | apply d_call | apply x_call0); exact gd; exact rfl; exact rfl; (first | exact c_Has s.spread hsp1 (s.spread.1.1 + restF (pickF l ((k : Int) + 3)) (s.spread.1.2 - s.spread.1.1 + 1), s.spread.2.1.1 + restF (pickF l ((k : Int) + 5)) (s.spread.2.1.2 - s.spread.2.1.1 + 1)) _)) | (refine sg ?_ ?_ <;> (intro h; (fail_if_success (have : True := h)); try first | exact h.elim | exact absurd rfl h | (exfalso; omega))) | assumption | exact xm | exact rfl))
  rename_i _ n14 M5 hn14 g1 g2 M6 hu6 g3 g4 _ M7 hu7 g5 a14 n15 M8 hn15 g6 g7 M9 hu9 g8 a15 w M10 hq
  obtain ⟨⟨bq, eq, rfl, himp⟩, hg10⟩ := hq
  have hle10 := hg10.le
  have hadv : ∀ (E' : Env) (M' : Mem), Grow M M' → M3.next ≤ M'.next → At M' n3 (.cells true (crc ⟨aL, fL, aF, fF, aB, fB, aO, fO⟩ s) 35) → At M' n4 (.cells true [I a.1, I a.2, I b.1, I b.2] 82) → True := fun _ _ _ _ _ _ => trivial
  clear hadv
  cases bq with
  | false =>
    (repeat' (first | (with_reducible intro _) | refine sv ?_ | (refine sc ?_ ?_ <;> (intro h; try first | exact h.elim | exact absurd rfl h | (exfalso; omega))) | (refine sg ?_ ?_ <;> (intro h; (fail_if_success (have : True := h)); try first | exact h.elim | exact absurd rfl h | (exfalso; omega))) | assumption | exact xm | exact rfl))
    all_goals refine k_step (8 - (k + 1)) (by omega) ⟨k + 1, rfl, by omega, rfl, .cons rfl (.cons rfl (.cons rfl (.cons rfl (.cons rfl (.cons rfl (.cons rfl .nil)))))), xg, by omega, xm, xm⟩
  | true =>
  by_cases heq : eq = 0
  rotate_left
  · (repeat' (first | (with_reducible intro _) | refine sv ?_ | (refine sc ?_ ?_ <;> (intro h; try first | exact h.elim | exact absurd rfl h | (exfalso; omega))) | (refine sg ?_ ?_ <;> (intro h; (fail_if_success (have : True := h)); try first | exact h.elim | exact absurd rfl h | (exfalso; omega))) | assumption | exact xm | exact rfl))
    refine k_step (8 - (k + 1)) (by omega) ⟨k + 1, rfl, by omega, rfl, .cons rfl (.cons rfl (.cons rfl (.cons rfl (.cons rfl (.cons rfl (.cons rfl .nil)))))), xg, by omega, xm, xm⟩
  have hq := (hsafe _ (himp rfl heq)).1 hg0
  (repeat' (first | (with_reducible intro _) | refine sv ?_ | (refine sc ?_ ?_ <;> (intro h; try first | exact h.elim | exact absurd rfl h | (exfalso; omega))) | (refine sg ?_ ?_ <;> (intro h; (fail_if_success (have : True := h)); try first | exact h.elim | exact absurd rfl h | (exfalso; omega))) | assumption | exact xm | exact rfl))
  rename_i n18 M11 hn18 g11 g12 M12 hu12 g13 a18
  dsimp only at hq
  have hqp : PlP (a.1 + (b.1 - a.1).tdiv g * restF x1 ((g : Int) + 1) + (s.spread.1.1 + restF (pickF l ((k : Int) + 3)) (s.spread.1.2 - s.spread.1.1 + 1)), a.2 + (b.2 - a.2).tdiv g * restF x1 ((g : Int) + 1) + (s.spread.2.1.1 + restF (pickF l ((k : Int) + 5)) (s.spread.2.1.2 - s.spread.2.1.1 + 1))) := by
    unfold InR at hq
    dsimp only [RgOk, fitsP, PlP, Pl] at hS hq ⊢
    omega
  generalize a.1 + (b.1 - a.1).tdiv g * restF x1 ((g : Int) + 1) + (s.spread.1.1 + restF (pickF l ((k : Int) + 3)) (s.spread.1.2 - s.spread.1.1 + 1)) = qx at *
  generalize a.2 + (b.2 - a.2).tdiv g * restF x1 ((g : Int) + 1) + (s.spread.2.1.1 + restF (pickF l ((k : Int) + 5)) (s.spread.2.1.2 - s.spread.2.1.1 + 1)) = qy at *
  refine w_loop_ind (fun n E ms M' => ∃ j : Nat, n = s.fields.length - j ∧ j ≤ s.fields.length ∧ ms = [] ∧ Has E [(2, .slice aI l.length fI 1), (3, .ptr (some (n3, 0))), (4, .ptr (some (n4, 0))), (9, I (b.1 - a.1)), (10, I (b.2 - a.2)), (11, I g), (12, I k), (18, .ptr (some (n18, 0))), (19, I j)] ∧ Grow M M' ∧ M12.next ≤ M'.next ∧ At M' n3 (.cells true (crc ⟨aL, fL, aF, fF, aB, fB, aO, fO⟩ s) 35) ∧
      At M' n4 (.cells true [I a.1, I a.2, I b.1, I b.2] 82) ∧ At M' n18 (.cells true [I qx, I qy] 30)) ?_ s.fields.length _ _ _
    ⟨0, by omega, by omega, rfl, .cons rfl (.cons rfl (.cons rfl (.cons rfl (.cons rfl (.cons rfl (.cons rfl (.cons rfl (.cons rfl .nil)))))))), xg, by omega, xm, xm, xm⟩
  rintro n E ms M13 ⟨j, rfl, hj, rfl, hE, hG13, hle13, c1, c2, c3⟩
  have hlx := hG13.le
  refine w_has hE ?_
  by_cases hjl : j = s.fields.length
  · subst hjl
    (repeat' (first | (with_reducible intro _) | refine sv ?_ | (refine sc ?_ ?_ <;> (intro h; try first | exact h.elim | exact absurd rfl h | (exfalso; omega))) | (refine sg ?_ ?_ <;> (intro h; (fail_if_success (have : True := h)); try first | exact h.elim | exact absurd rfl h | (exfalso; omega))) | assumption | exact xm | exact rfl))
    all_goals refine k_step (8 - (k + 1)) (by omega) ⟨k + 1, rfl, by omega, rfl, .cons rfl (.cons rfl (.cons rfl (.cons rfl (.cons rfl (.cons rfl (.cons rfl .nil)))))), xg, by omega, xm, xm⟩
  have hlt : j < s.fields.length := by omega
  obtain ⟨i2, o2, rfl, hr2⟩ := (show SlL 2 ptc M aF s.fields from hM.fields).resolve_left (fun e => by rw [e] at hlt; simp at hlt)
  obtain ⟨a', f', u1, u2, u3⟩ := hr2 j hlt
  have r2 : Rd1 M13 i2 (o2 + j * 1) (.slice a' s.fields[j].length f' 2) := u1.grow hG13
  have hi2 := r2.2
  have hin := hits_none_in (hno _ (List.getElem_mem hlt)) hq
  have hci := fun M' (hg : Grow M M') => c_Inside (f := f') (p := (qx, qy)) (u2.grow hg) u3 (hok.fields _ (List.getElem_mem hlt)) hqp
  rw [hin] at hci
  (have hrd0 := r2; repeat' (first | (with_reducible intro _) | refine sv ?_ | (refine sc ?_ ?_ <;> (intro h; try first | exact h.elim | exact absurd rfl h | (exfalso; omega))) | ((with_reducible first | apply x_pure | apply d_pure); exact gd; exact rfl; exact rfl; (first | exact hci _ (xg))) | (refine sg ?_ ?_ <;> (intro h; (fail_if_success (have : True := h)); try first | exact h.elim | exact absurd rfl h | (exfalso; omega))) | assumption | exact xm | exact rfl))
  all_goals refine k_step (s.fields.length - (j + 1)) (by omega) ⟨j + 1, rfl, by omega, rfl, .cons rfl (.cons rfl (.cons rfl (.cons rfl (.cons rfl (.cons rfl (.cons rfl (.cons rfl (.cons rfl .nil)))))))), xg, by omega, xm, xm, xm⟩
end Go.Proofs.YtpccafeedfpbaaaGreat.C
