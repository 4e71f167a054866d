/-
  Part of the proof of CourseSwept: what functions of the program and of the statement come to, walked by the rules. No condition beyond those in each theorem.
-/
import Derived.Test.YtgipddabhcmgjabGreatSA
import Derived.Test.YtgipddabhcmgjabGreatPvE
import Derived.Test.YtgipddabhcmgjabGreatWA
import Derived.Test.YtgipddabhcmgjabGreatWD
section
open Go PvL
set_option linter.unusedVariables false
namespace Go.Proofs.YtgipddabhcmgjabGreat.C
abbrev ptSh : Sh := .pair (.int .i64) (.int .i64)
abbrev legSh : Sh := .pair ptSh ptSh
abbrev rgSh : Sh := .pair ptSh (.pair ptSh (.pair ptSh ptSh))
abbrev poseSh : Sh := .pair ptSh (.int .i64)
abbrev crSh : Sh := .pair (.sl legSh) (.pair (.sl (.sl ptSh)) (.pair (.sl ptSh) (.pair rgSh (.pair poseSh (.pair (.int .i64) (.pair (.int .i64) (.sl (.sl ptSh))))))))
def toCr (x : crSh.T) : Cr := ⟨x.1, x.2.1, x.2.2.1, x.2.2.2.1, x.2.2.2.2.1, x.2.2.2.2.2.1, x.2.2.2.2.2.2.1, x.2.2.2.2.2.2.2⟩
theorem enc_int {m : Mem} {x : Int} {c : List LV} (h : Enc m (.int .i64) x c) : c = [I x] := h.1
theorem enc_pt {m : Mem} {x : ptSh.T} {c : List LV} (h : Enc m ptSh x c) : c = [I x.1, I x.2] := by
  obtain ⟨c1, d1, rfl, h1, h2⟩ := h
  rw [enc_int h1, enc_int h2]; rfl
theorem enc_leg {m : Mem} {x : legSh.T} {c : List LV} (h : Enc m legSh x c) : c = legc x := by
  obtain ⟨c1, d1, rfl, h1, h2⟩ := h
  rw [enc_pt h1, enc_pt h2]; rfl
theorem enc_rg {m : Mem} {x : rgSh.T} {c : List LV} (h : Enc m rgSh x c) : c = rgc x := by
  obtain ⟨c1, d1, rfl, h1, c2, d2, rfl, h2, c3, d3, rfl, h3, h4⟩ := h
  rw [enc_pt h1, enc_pt h2, enc_pt h3, enc_pt h4]; rfl
theorem enc_pose {m : Mem} {x : poseSh.T} {c : List LV} (h : Enc m poseSh x c) : c = [I x.1.1, I x.1.2, I x.2] := by
  obtain ⟨c1, d1, rfl, h1, h2⟩ := h
  rw [enc_pt h1, enc_int h2]; rfl
theorem enc_slA {m : Mem} {e : Sh} {enc : e.T → List LV} (he : ∀ x c, Enc m e x c → c = enc x) {l : List e.T} {cs : List LV} (h : Enc m (.sl e) l cs) : ∃ a f, cs = [.slice a l.length f e.size] ∧ SlA e.size enc m a l ∧ l.length ≤ reachBytes := by
  obtain ⟨a, f, h1, h2, h3⟩ := h
  refine ⟨a, f, h1, ?_, h2⟩
  by_cases hl : l = []
  · exact .inl hl
  · obtain ⟨i, o, g1, g2, _, g3⟩ := h3 hl
    refine .inr ⟨i, o, g1, fun k hk => ?_⟩
    obtain ⟨c, g4, g5⟩ := g3 k hk
    rw [he _ _ g5] at g4
    exact ⟨g4, g2⟩
theorem max_le : reachBytes ≤ 1000000000000000 := by decide
theorem enc_slL {m : Mem} {e : Sh} {enc : e.T → List LV} (he : ∀ x c, Enc m e x c → c = enc x) {l : List (List e.T)} {cs : List LV} (h : Enc m (.sl (.sl e)) l cs) : ∃ a f, cs = [.slice a l.length f 1] ∧ SlL e.size enc m a l ∧ l.length ≤ reachBytes := by
  obtain ⟨a, f, h1, h2, h3⟩ := h
  refine ⟨a, f, h1, ?_, h2⟩
  by_cases hl : l = []
  · exact .inl hl
  · obtain ⟨i, o, g1, g2, _, g3⟩ := h3 hl
    refine .inr ⟨i, o, g1, fun k hk => ?_⟩
    obtain ⟨c, g4, g5⟩ := g3 k hk
    obtain ⟨a', f', rfl, k2, k3⟩ := enc_slA he g5
    refine ⟨a', f', ⟨?_, g2⟩, k2, Nat.le_trans k3 max_le⟩
    have g4 : loadN m i (o + k * 1) 1 = some [.slice a' l[k].length f' e.size] := g4
    unfold loadN atCells at g4
    unfold load1 atCells
    obtain ⟨lb, q1, q2⟩ := ob_eq.1 g4
    rw [q1, ob_some]
    cases lb with
    | cells own cs ty =>
      obtain ⟨q3, q4⟩ := take'_eq.1 (show take' 1 (drop' (o + k * 1) cs) = _ from q2)
      show nth cs (o + k * 1) = _
      rw [drop'_eq] at q4
      rw [nth_eq]
      have : (cs.drop (o + k * 1)).take 1 = [.slice a' l[k].length f' e.size] := q4.symm
      have h0 : ((cs.drop (o + k * 1)).take 1)[0]? = some (.slice a' l[k].length f' e.size) := by rw [this]; rfl
      rw [List.getElem?_take_of_lt (by omega), List.getElem?_drop] at h0
      exact h0
    | _ => cases q2
theorem enc_cr {m : Mem} {x : crSh.T} {cs : List LV} (h : Enc m crSh x cs) : ∃ A, cs = crc A (toCr x) ∧ CrM m A (toCr x) := by
  obtain ⟨c1, d1, rfl, h1, c2, d2, rfl, h2, c3, d3, rfl, h3, c4, d4, rfl, h4, c5, d5, rfl, h5, c6, d6, rfl, h6, c7, d7, rfl, h7, h8⟩ := h
  obtain ⟨aL, fL, rfl, k1, k1'⟩ := enc_slA (enc := legc) (fun _ _ => enc_leg) h1
  obtain ⟨aF, fF, rfl, k2, k2'⟩ := enc_slL (enc := ptc) (fun _ _ => enc_pt) h2
  obtain ⟨aB, fB, rfl, k3, k3'⟩ := enc_slA (enc := ptc) (fun _ _ => enc_pt) h3
  obtain ⟨aO, fO, rfl, k8, k8'⟩ := enc_slL (enc := bdc) (fun _ _ => enc_pt) h8
  rw [enc_rg h4, enc_pose h5, enc_int h6, enc_int h7]
  exact ⟨⟨aL, fL, aF, fF, aB, fB, aO, fO⟩, rfl, ⟨k1, k2, k3, k8, Nat.le_trans k1' max_le, Nat.le_trans k2' max_le, Nat.le_trans k3' max_le, Nat.le_trans k8' max_le⟩⟩
end Go.Proofs.YtgipddabhcmgjabGreat.C
end
section
open Go PvL
set_option linter.unusedVariables false
namespace Go.Proofs.YtgipddabhcmgjabGreat.C
theorem enc_3pt {m : Mem} {x : (Sh.pair ptSh (.pair ptSh ptSh)).T} {c : List LV} (h : Enc m (.pair ptSh (.pair ptSh ptSh)) x c) : c = [I x.1.1, I x.1.2, I x.2.1.1, I x.2.1.2, I x.2.2.1, I x.2.2.2] := by
  obtain ⟨c1, d1, rfl, h1, c2, d2, rfl, h2, h3⟩ := h
  rw [enc_pt h1, enc_pt h2, enc_pt h3]; rfl
theorem enc_2pose {m : Mem} {x : (Sh.pair poseSh poseSh).T} {c : List LV} (h : Enc m (.pair poseSh poseSh) x c) : c = [I x.1.1.1, I x.1.1.2, I x.1.2, I x.2.1.1, I x.2.1.2, I x.2.2] := by
  obtain ⟨c1, d1, rfl, h1, h2⟩ := h
  rw [enc_pose h1, enc_pose h2]; rfl
end Go.Proofs.YtgipddabhcmgjabGreat.C
end
section
open Go PvL Go.Proofs
set_option linter.unusedVariables false
set_option linter.unusedSimpArgs false
namespace Go.Proofs.YtgipddabhcmgjabGreat.C
theorem c_cut (a a' b b' : Int) (M : Mem) : CallOk Tryz.prog 82 [.agg [I a, I a'], .agg [I b, I b']] M (fun w M' => w = .agg [I (iMax a b), I (iMin a' b')] ∧ Grow M M') := by
  refine call_in k82 rfl ?_
  dsimp only [x82, zipE, Nat.reduceAdd]
  (repeat' (first | (with_reducible intro _) | refine sv ?_ | (refine sc ?_ ?_ <;> (intro h; try first | exact h.elim | exact absurd rfl h | (exfalso; omega))) | (refine sg ?_ ?_ <;> (intro h; (fail_if_success (have : True := h)); try first | exact h.elim | exact absurd rfl h | (exfalso; omega))) | assumption | exact xm | exact rfl))
  ((with_reducible first | apply k_fun | apply k_fun_norm); exact rx)
  exact ⟨rfl, xg⟩
theorem c_combined_cut (r q : Rg) (M : Mem) : CallOk Tryz.prog 78 [rgv r, rgv q, .func (.func 82) [] []] M (fun w M' => w = rgv (map4 meetB r q) ∧ Grow M M') := by
  refine call_in k78 rfl ?_
  dsimp only [x78, zipE, Nat.reduceAdd]
  (repeat' (first | (with_reducible intro _) | refine sv ?_ | refine su ?_ | (refine sc ?_ ?_ <;> (intro h; try first | exact h.elim | exact absurd rfl h | (exfalso; omega))) | ((with_reducible first | apply x_pure | apply d_pure); exact gd; exact rfl; exact rfl; (first | exact c_cut _ _ _ _ _)) | (refine sg ?_ ?_ <;> (intro h; (fail_if_success (have : True := h)); try first | exact h.elim | exact absurd rfl h | (exfalso; omega))) | assumption | exact xm | exact rfl))
  ((with_reducible first | apply k_fun | apply k_fun_norm); exact rx)
  exact ⟨rfl, xg⟩
theorem meet_sm {B : Int} {a b : Rg} (ha : Sm B a) (hb : Sm B b) : Sm B (map4 meetB a b) := by
  unfold Sm at *
  unfold map4 meetB iMax iMin
  dsimp only
  omega
theorem c_Meet (a b : Rg) (M : Mem) : CallOk Tryz.prog 27 [rgv a, rgv b] M (fun w M' => w = resv (meetF a b) ∧ Grow M M') := by
  refine call_in k27 rfl ?_
  dsimp only [x27, zipE, Nat.reduceAdd]
  by_cases hok : RgOk a ∧ RgOk b
  · have hc : eRg a = 0 := if_pos hok.1
    have hc' : eRg b = 0 := if_pos hok.2
    have h0 : (if eRg a = 0 then eRg b else eRg a) = 0 := by rw [hc, hc']; rfl
    have hsm := meet_sm (hok.1.sm.mono (by omega : (65536 : Int) ≤ 500000)) (hok.2.sm.mono (by omega : (65536 : Int) ≤ 500000))
    (repeat' (first | (with_reducible intro _) | refine sv ?_ | (refine sc ?_ ?_ <;> (intro h; try first | exact h.elim | exact absurd rfl h | (exfalso; omega))) | ((with_reducible first | apply x_same | apply d_same); exact gd; exact rfl; exact rfl; (first | exact c_first2 _ _ (Rd1.of_at (At.new_same (by assumption)) rfl) (Rd1.of_at (At.new_same (by assumption)) rfl))) | ((with_reducible first | apply x_pure | apply d_pure); exact gd; exact rfl; exact rfl; (first | exact c_Check a _ | exact c_Check b _ | exact c_bounds a _ | exact c_bounds b _ | exact c_combined_cut a b _ | exact c_tight (map4 meetB a b) hsm _ | exact c_done ((tightO (map4 meetB a b)).getD zRg) (eTi (map4 meetB a b)) _)) | (refine sg ?_ ?_ <;> (intro h; (fail_if_success (have : True := h)); try first | exact h.elim | exact absurd rfl h | (exfalso; omega))) | assumption | exact xm | exact rfl))
    all_goals ((with_reducible first | apply k_fun | apply k_fun_norm); exact rx)
    all_goals refine ⟨?_, xg⟩
    all_goals (unfold meetF eTi; rw [if_pos hok]; cases tightO (map4 meetB a b) <;> rfl)
  · have h0 : (if eRg a = 0 then eRg b else eRg a) = 11 := by
      unfold eRg
      by_cases h1 : RgOk a
      · rw [if_pos h1, if_pos rfl, if_neg (fun h2 => hok ⟨h1, h2⟩)]
      · rw [if_neg h1]; rfl
    (repeat' (first | (with_reducible intro _) | refine sv ?_ | (refine sc ?_ ?_ <;> (intro h; try first | exact h.elim | exact absurd rfl h | (exfalso; omega))) | ((with_reducible first | apply x_same | apply d_same); exact gd; exact rfl; exact rfl; (first | exact c_first2 _ _ (Rd1.of_at (At.new_same (by assumption)) rfl) (Rd1.of_at (At.new_same (by assumption)) rfl))) | ((with_reducible first | apply x_pure | apply d_pure); exact gd; exact rfl; exact rfl; (first | exact c_Check a _ | exact c_Check b _)) | (refine sg ?_ ?_ <;> (intro h; (fail_if_success (have : True := h)); try first | exact h.elim | exact absurd rfl h | (exfalso; omega))) | assumption | exact xm | exact rfl))
    all_goals ((with_reducible first | apply k_fun | apply k_fun_norm); exact rx)
    all_goals refine ⟨?_, xg⟩
    all_goals (unfold meetF; rw [if_neg hok, h0]; rfl)
end Go.Proofs.YtgipddabhcmgjabGreat.C
end
section
open Go PvL Go.Proofs
set_option linter.unusedVariables false
set_option linter.unusedSimpArgs false
namespace Go.Proofs.YtgipddabhcmgjabGreat.C
theorem c_works (M : Mem) : CallOk Tryz.prog 9 [] M (fun w M' => w = .bool true ∧ M' = M) := ⟨_, _, om_ask rfl M, rfl, rfl⟩
theorem askE_zero {s : Cr} {a b : Pt} (h : askE s a b = 0) : CrOk s ∧ PlP a ∧ PlP b := by
  by_cases hc : CrOk s
  · by_cases hp : PlP a ∧ PlP b
    · exact ⟨hc, hp⟩
    · rw [askE_pt hc hp] at h; cases h
  · rw [askE_no hc] at h; cases h
theorem clearF_eq {s : Cr} {a b : Pt} (h : askE s a b = 0) : ClearF s a b = (clearF s a b, 0) := by unfold ClearF; rw [if_pos h, h]
theorem clearF_ne {s : Cr} {a b : Pt} (h : askE s a b ≠ 0) : ClearF s a b = (false, askE s a b) := by unfold ClearF; rw [if_neg h]
theorem if_list {α : Type} {P : α → Prop} {l : List α} {k : Nat} (h : ∀ j (hj : j < l.length), j < k → P l[j]) (hk : l.length ≤ k) : ∀ x ∈ l, P x := fun x hx => by
  obtain ⟨j, hj, rfl⟩ := List.getElem_of_mem hx
  exact h j hj (by omega)
set_option maxHeartbeats 4000000 in
theorem c_CourseSwept {A : CrA} {s : Cr} {a b : Pt} {M : Mem} (hM : CrM M A s) : CallOk Tryz.prog 6 [crv A s, .agg [I a.1, I a.2, I b.1, I b.2]] M (fun v M' => v = .bool true) := by
  refine call_in k6 rfl ?_
  dsimp only [x6, zipE, Nat.reduceAdd]
  have hC := fun M' (hg : Grow M M') => c_Clear (a := a) (b := b) (hM.grow hg)
  by_cases he : askE s a b = 0
  rotate_left
  · rw [clearF_ne he] at hC
    (repeat' (first | (with_reducible intro _) | refine sv ?_ | (refine sc ?_ ?_ <;> (intro h; try first | exact h.elim | exact absurd rfl h | (exfalso; omega))) | ((with_reducible first | apply x_same | apply d_same); exact gd; exact rfl; exact rfl; (first | exact c_works _)) | ((with_reducible first | apply x_pure | apply d_pure); exact gd; exact rfl; exact rfl; (first | exact hC _ (xg))) | (refine sg ?_ ?_ <;> (intro h; (fail_if_success (have : True := h)); try first | exact h.elim | exact absurd rfl h | (exfalso; omega))) | assumption | exact xm | exact rfl))
    all_goals ((with_reducible first | apply k_fun | apply k_fun_norm); exact rx)
    all_goals rfl
  obtain ⟨hok, ha, hb⟩ := askE_zero he
  rw [clearF_eq he, ← clear_free hok] at hC
  dsimp only at hC
  by_cases hsw : (sweptF s.spread a b).2 = 0
  rotate_left
  · have hfr : freeF s a b = false := by unfold freeF; rw [decide_eq_false hsw]; rfl
    rw [hfr] at hC
    (repeat' (first | (with_reducible intro _) | refine sv ?_ | (refine sc ?_ ?_ <;> (intro h; try first | exact h.elim | exact absurd rfl h | (exfalso; omega))) | ((with_reducible first | apply x_same | apply d_same); exact gd; exact rfl; exact rfl; (first | exact c_works _)) | ((with_reducible first | apply x_pure | apply d_pure); exact gd; exact rfl; exact rfl; (first | exact hC _ (xg) | exact c_Swept s.spread a b _)) | (refine sg ?_ ?_ <;> (intro h; (fail_if_success (have : True := h)); try first | exact h.elim | exact absurd rfl h | (exfalso; omega))) | assumption | exact xm | exact rfl))
    all_goals ((with_reducible first | apply k_fun | apply k_fun_norm); exact rx)
    all_goals rfl
  have hmv := swept_sub hsw
  have hmt := meet_swept hsw
  have hswo := sweptF_ok hsw
  obtain ⟨aL, fL, aF, fF, aB, fB, aO, fO⟩ := A
  have hnf := hM.nf
  (repeat' (first | (with_reducible intro _) | refine sv ?_ | (refine sc ?_ ?_ <;> (intro h; try first | exact h.elim | exact absurd rfl h | (exfalso; omega))) | ((with_reducible first | apply x_same | apply d_same); exact gd; exact rfl; exact rfl; (first | exact c_works _)) | ((with_reducible first | apply x_pure | apply d_pure); exact gd; exact rfl; exact rfl; (first | exact hC _ (xg) | exact c_Swept s.spread a b _)) | (refine sg ?_ ?_ <;> (intro h; (fail_if_success (have : True := h)); try first | exact h.elim | exact absurd rfl h | (exfalso; omega))) | assumption | exact xm | exact rfl))
  rename_i n2 M1 hn2 f1 f2 n3 M2 hn3 f3 f4 M3 hg3 f5 h0 M4 hg4 f7 n7 M5 hn7 f8 f9 M6 hu6 f10 a7
  refine w_loop_ind (fun n E ms M' => ∃ (k : Nat) (bt : Bool), n = s.fields.length - k ∧ k ≤ s.fields.length ∧ ms = [] ∧ Has E [(2, .ptr (some (n2, 0))), (3, .ptr (some (n3, 0))), (5, .bool (freeF s a b)), (7, .ptr (some (n7, 0))), (8, .bool bt), (9, I k)] ∧ Grow M M' ∧ M6.next ≤ M'.next ∧ At M' n2 (.cells true (crc ⟨aL, fL, aF, fF, aB, fB, aO, fO⟩ s) 35) ∧
      At M' n3 (.cells true [I a.1, I a.2, I b.1, I b.2] 73) ∧ At M' n7 (.cells true (rgc (sweptF s.spread a b).1) 28) ∧ (bt = true → freeF s a b = false) ∧ (bt = false → ∀ j (hj : j < s.fields.length), j < k → (hitsF s.fields[j] (sweptF s.spread a b).1).2 = 4)) ?_ s.fields.length _ _ _
    ⟨0, false, by omega, by omega, rfl, .cons rfl (.cons rfl (.cons rfl (.cons rfl (.cons rfl (.cons rfl .nil))))), xg, by omega, xm, xm, xm, (fun e => by cases e), fun _ j hj h => absurd h (Nat.not_lt_zero _)⟩
  rintro n E ms M7 ⟨k, bt, rfl, hk, rfl, hE, hG, hle1, a1, a2, a3, hb1, hb2⟩
  have hle := hG.le
  refine w_has hE ?_
  by_cases hlast : k = s.fields.length
  · subst hlast
    have hfr : freeF s a b = !bt := by
      cases bt with
      | true => exact hb1 rfl
      | false =>
        unfold freeF
        rw [decide_eq_true hsw, Bool.true_and]
        show _ = true
        rw [List.all_eq_true]
        intro l hl
        exact decide_eq_true (if_list (P := fun l => (hitsF l (sweptF s.spread a b).1).2 = 4) (fun j hj h => hb2 rfl j hj h) (Nat.le_refl _) l hl)
    have hMt : ∀ M', CallOk Tryz.prog 27 [rgv (moveF s.spread a).1, rgv (sweptF s.spread a b).1] M' (fun w M'' => w = .tup [rgv (moveF s.spread a).1, I 0] ∧ Grow M' M'') := fun M' => by
      have hc := c_Meet (moveF s.spread a).1 (sweptF s.spread a b).1 M'
      rw [hmt] at hc
      exact hc
    have hm1 := hmv.1
    rw [hfr]
    clear hb1 hb2 hC
    (repeat' (first | (with_reducible intro _) | refine sv ?_ | (refine sc ?_ ?_ <;> (intro h; try first | exact h.elim | exact absurd rfl h | (exfalso; omega))) | ((with_reducible first | apply x_same | apply d_same); exact gd; exact rfl; exact rfl; (first | exact c_works _)) | ((with_reducible first | apply x_pure | apply d_pure); exact gd; exact rfl; exact rfl; (first | exact c_Move s.spread a _ | exact hMt _)) | (refine sg ?_ ?_ <;> (intro h; (fail_if_success (have : True := h)); try first | exact h.elim | exact absurd rfl h | (exfalso; omega))) | assumption | exact xm | exact rfl))
    all_goals ((with_reducible first | apply k_fun | apply k_fun_norm); exact rx)
    all_goals cases bt <;> rfl
  have hlt : k < s.fields.length := by omega
  obtain ⟨i2, o2, rfl, hr2⟩ := (show SlL 2 ptc M aF s.fields from hM.fields).resolve_left (fun e => by rw [e] at hlt; simp at hlt)
  obtain ⟨a', f', g1, g2, g3⟩ := hr2 k hlt
  have r2 : Rd1 M7 i2 (o2 + k * 1) (.slice a' s.fields[k].length f' 2) := g1.grow hG
  have hi2 := r2.2
  have hcf := fun M' (hg : Grow M M') => c_Hits (f := f') (r := (sweptF s.spread a b).1) (g2.grow hg) g3
  by_cases hh : (hitsF s.fields[k] (sweptF s.spread a b).1).2 = 4
  · (have hrd0 := r2; repeat' (first | (with_reducible intro _) | refine sv ?_ | (refine sc ?_ ?_ <;> (intro h; try first | exact h.elim | exact absurd rfl h | (exfalso; omega))) | ((with_reducible first | apply x_pure | apply d_pure); exact gd; exact rfl; exact rfl; (first | exact hcf _ (xg))) | (refine sg ?_ ?_ <;> (intro h; (fail_if_success (have : True := h)); try first | exact h.elim | exact absurd rfl h | (exfalso; omega))) | assumption | exact xm | exact rfl))
    refine k_step (s.fields.length - (k + 1)) (by omega) ⟨k + 1, bt, rfl, by omega, rfl, .cons rfl (.cons rfl (.cons rfl (.cons rfl (.cons rfl (.cons rfl .nil))))), xg, by omega, xm, xm, xm, hb1, fun e j hj h => ?_⟩
    by_cases hjk : j = k
    · subst hjk; exact hh
    · exact hb2 e j hj (by omega)
  · (have hrd0 := r2; repeat' (first | (with_reducible intro _) | refine sv ?_ | (refine sc ?_ ?_ <;> (intro h; try first | exact h.elim | exact absurd rfl h | (exfalso; omega))) | ((with_reducible first | apply x_pure | apply d_pure); exact gd; exact rfl; exact rfl; (first | exact hcf _ (xg))) | (refine sg ?_ ?_ <;> (intro h; (fail_if_success (have : True := h)); try first | exact h.elim | exact absurd rfl h | (exfalso; omega))) | assumption | exact xm | exact rfl))
    refine k_step (s.fields.length - (k + 1)) (by omega) ⟨k + 1, true, rfl, by omega, rfl, .cons rfl (.cons rfl (.cons rfl (.cons rfl (.cons rfl (.cons rfl .nil))))), xg, by omega, xm, xm, xm, fun _ => ?_, fun e => by cases e⟩
    unfold freeF
    rw [decide_eq_true hsw, Bool.true_and, ← Bool.not_eq_true, List.all_eq_true]
    intro hc
    exact hh (of_decide_eq_true (hc _ (List.getElem_mem hlt)))
end Go.Proofs.YtgipddabhcmgjabGreat.C
end
