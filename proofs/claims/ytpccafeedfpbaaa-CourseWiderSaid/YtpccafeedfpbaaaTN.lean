/-
  Part of the proof of CourseWider: what functions of the program and of the statement come to, walked by the rules. No condition beyond those in each theorem.
-/
import Derived.Test.YtpccafeedfpbaaaTL
import Derived.Test.YtpccafeedfpbaaaTM
open Go PvL Go.Proofs
set_option linter.unusedVariables false
set_option linter.unusedSimpArgs false
namespace Go.Proofs.Ytpccafeedfpbaaa.C
theorem wide_get (s : Cr) {j : Nat} (hj : j < s.opn.length) (hj' : j < (wideCr s).opn.length) : (wideCr s).opn[j] = wideL s.opn[j] := List.getElem_map (l := s.opn) wideL (i := j) (h := by rw [List.length_map]; exact hj)
theorem wide_cells {ws : List Bd} (h : 0 < ws.length) : (wideL ws).flatMap bdc = [I (ws[0]).1, I (ws[ws.length - 1]'(by omega)).2] := by
  cases ws with
  | nil => cases h
  | cons w t => rfl
abbrev wslc (i : Nat) : List LV := [.slice (some (i, 0)) 1 true 2]
/-- a survey's cells, with other windows -/
abbrev crw (A : CrA) (s : Cr) (v : LV) : List LV := [.slice A.aL s.lines.length A.fL 4, .slice A.aF s.fields.length A.fF A.eF, .slice A.aB s.buoys.length A.fB 2, I s.spread.1.1, I s.spread.1.2, I s.spread.2.1.1, I s.spread.2.1.2, I s.spread.2.2.1.1, I s.spread.2.2.1.2, I s.spread.2.2.2.1, I s.spread.2.2.2.2,
  I s.start.1.1, I s.start.1.2, I s.start.2, I s.speed, I s.turn, v]
set_option maxHeartbeats 32000000 in
theorem c_CourseWider {A : CrA} {s : Cr} {M : Mem} (hM : CrM M A s) : CallOk Try.prog 5 [crv A s] M (fun v M' => v = .bool true) := by
  have hbs := fun M' (hg : Grow M M') => c_Best (hM.grow hg)
  refine call_in k5 rfl ?_
  dsimp only [x5, zipE, Nat.reduceAdd]
  (repeat' (first | (with_reducible intro _) | refine sv ?_ | (refine sc ?_ ?_ <;> (intro h; try first | exact h.elim | exact absurd rfl h | (exfalso; omega))) | ((with_reducible first | apply x_call | apply d_call | apply x_call0); exact gd; exact rfl; exact rfl; (first | exact hbs _ (xg))) | (refine sg ?_ ?_ <;> (intro h; (fail_if_success (have : True := h)); try first | exact h.elim | exact absurd rfl h | (exfalso; omega))) | assumption | exact xm | exact rfl))
  rename_i n1 M1 hn1 e1 e2 w M3 hq
  obtain ⟨hg3, hcase⟩ := hq
  have hle3 := hg3.le
  obtain ⟨aL, fL, aF, fF, aB, fB, aO, fO, eF⟩ := A
  rcases hcase with ⟨hno, rfl⟩ | ⟨hok, hneg, rfl⟩ | ⟨hok, hpos, u, rfl, hu⟩
  · (repeat' (first | (with_reducible intro _) | refine sv ?_ | (refine sc ?_ ?_ <;> (intro h; try first | exact h.elim | exact absurd rfl h | (exfalso; omega))) | ((with_reducible first | apply x_same | apply d_same | apply d_same0); exact gd; exact rfl; exact rfl; (first | exact c_works _)) | (refine sg ?_ ?_ <;> (intro h; (fail_if_success (have : True := h)); try first | exact h.elim | exact absurd rfl h | (exfalso; omega))) | assumption | exact xm | exact rfl))
    all_goals first
      | (exfalso; omega)
      | (((with_reducible first | apply k_fun | apply k_fun_norm); exact rx); rfl)
  · (repeat' (first | (with_reducible intro _) | refine sv ?_ | (refine sc ?_ ?_ <;> (intro h; try first | exact h.elim | exact absurd rfl h | (exfalso; omega))) | ((with_reducible first | apply x_same | apply d_same | apply d_same0); exact gd; exact rfl; exact rfl; (first | exact c_works _)) | (refine sg ?_ ?_ <;> (intro h; (fail_if_success (have : True := h)); try first | exact h.elim | exact absurd rfl h | (exfalso; omega))) | assumption | exact xm | exact rfl))
    all_goals first
      | (exfalso; omega)
      | (((with_reducible first | apply k_fun | apply k_fun_norm); exact rx); rfl)
  · clear hu hbs
    have hn1' := hok.n1
    have hn5 := hok.n5
    have hno := hok.no
    have hne := opn_ne hok hpos
    obtain ⟨hwk, hw0, hw1⟩ := wider hok hpos
    generalize endB s = en at *
    (repeat' (first | (with_reducible intro _) | refine sv ?_ | (refine sc ?_ ?_ <;> (intro h; try first | exact h.elim | exact absurd rfl h | (exfalso; omega))) | (refine sg ?_ ?_ <;> (intro h; (fail_if_success (have : True := h)); try first | exact h.elim | exact absurd rfl h | (exfalso; omega))) | assumption | exact xm | exact rfl))
    rename_i n6 M4 hn6 e3 e4 M5 hu5 e5 a5 M6 hu6 e6 a6
    have hg06 : Grow M M6 := xg
    have hle6 := hg06.le
    have a1 : At M6 n1 (.cells true (crc ⟨aL, fL, aF, fF, aB, fB, aO, fO, eF⟩ s) 35) := xm
    have hn1M : M.next ≤ n1 ∧ n1 < n6 := by omega
    have a6' : At M6 n6 (.cells true (crw ⟨aL, fL, aF, fF, aB, fB, aO, fO, eF⟩ s (.slice none 0 true 0)) 35) := a6
    obtain ⟨iO, oO, rfl, hrO⟩ := (show SlL 2 bdc M aO s.opn from hM.opn).resolve_left (fun h => by rw [h] at hno; simp at hno; omega)
    refine w_loop_ind (fun n E ms M' => ∃ (k : Nat) (vo : LV) (is : List Nat), n = s.opn.length - k ∧ k ≤ s.opn.length ∧ is.length = k ∧ ms = [] ∧ Has E [(1, .ptr (some (n1, 0))), (4, I en), (6, .ptr (some (n6, 0))), (7, I k)] ∧ Grow M M' ∧ n6 + 1 ≤ M'.next ∧ At M' n1 (.cells true (crc ⟨aL, fL, aF, fF, aB, fB, some (iO, oO), fO, eF⟩ s) 35) ∧ At M' n6 (.cells true (crw ⟨aL, fL, aF, fF, aB, fB, some (iO, oO), fO, eF⟩ s vo) 35) ∧
      Vec (n6 + 1) 1 45 wslc M' vo is ∧ ∀ j (hj : j < is.length) (hj2 : j < s.opn.length), n6 < is[j] ∧ At M' is[j] (.cells true ((wideL s.opn[j]).flatMap bdc) 26)) ?_ s.opn.length _ _ _
      ⟨0, _, [], by omega, by omega, rfl, rfl, .cons rfl (.cons rfl (.cons rfl (.cons rfl .nil))), hg06, by have := a6.2; omega, a1, a6', .nil, fun j hj => by simp at hj⟩
    rintro n E ms M7 ⟨k, vo, is, rfl, hk, hisl, rfl, hE, hG, hle7, b1, b6, hvo, hbk⟩
    refine w_has hE ?_
    have hleG := hG.le
    by_cases hlast : k = s.opn.length
    · subst hlast
      rcases hvo with ⟨h0, _⟩ | ⟨iv, rfl, av, hb⟩
      · rw [h0] at hisl; simp at hisl; omega
      have hwo : (wideCr s).opn.length = is.length := by show (s.opn.map wideL).length = _; rw [List.length_map]; omega
      have b6' : At M7 n6 (.cells true (crc ⟨aL, fL, aF, fF, aB, fB, some (iv, 0), false, eF⟩ (wideCr s)) 35) := by
        show At M7 n6 (.cells true (crw ⟨aL, fL, aF, fF, aB, fB, some (iv, 0), false, eF⟩ s (.slice (some (iv, 0)) (wideCr s).opn.length false 1)) _)
        rw [hwo]; exact b6
      have hMw : CrM M7 ⟨aL, fL, aF, fF, aB, fB, some (iv, 0), false, eF⟩ (wideCr s) := ⟨hM.lines.grow hG, hM.fields.grow hG, hM.buoys.grow hG, .inr ⟨iv, 0, rfl, fun j hj => by
        have hj1 : j < is.length := by omega
        have hj2 : j < s.opn.length := by omega
        obtain ⟨g1, g2⟩ := hbk j hj1 hj2
        have e1 := wide_get s hj2 hj
        have hl1 : (wideL s.opn[j]).length = 1 := by cases hx : s.opn[j] with | nil => exact absurd hx (hne j hj2) | cons w t => rfl
        refine ⟨some (is[j], 0), true, ?_, ?_, by rw [e1, hl1]; decide⟩
        · rw [e1, hl1]
          exact (rd_flat (enc := wslc) av (fun _ _ => rfl) hj1).nth (j := 0) rfl
        · rw [e1]
          exact .inr ⟨is[j], 0, rfl, fun q hq => rd_flat (enc := bdc) g2 (fun _ _ => rfl) hq⟩⟩, hM.nl, hM.nf, hM.nb, by rw [hwo, hisl]; exact hM.no⟩
      have hbw := fun M' (hg : Grow M7 M') => c_Best (hMw.grow hg)
      clear hbk b6
      (repeat' (first | (with_reducible intro _) | refine sv ?_ | (refine sc ?_ ?_ <;> (intro h; try first | exact h.elim | exact absurd rfl h | (exfalso; omega))) | ((with_reducible first | apply x_call | apply d_call | apply x_call0); exact gd; exact rfl; exact rfl; (first | exact hbw _ (xg))) | (refine sg ?_ ?_ <;> (intro h; (fail_if_success (have : True := h)); try first | exact h.elim | exact absurd rfl h | (exfalso; omega))) | assumption | exact xm | exact rfl))
      rename_i w M8 hq
      obtain ⟨hg8, hcase⟩ := hq
      have hle8 := hg8.le
      rcases hcase with ⟨hno, rfl⟩ | ⟨_, hneg, rfl⟩ | ⟨_, _, u2, rfl, _⟩
      · exact absurd hwk hno
      · exfalso; omega
      · generalize endB (wideCr s) = ew at *
        (repeat' (first | (with_reducible intro _) | refine sv ?_ | (refine sc ?_ ?_ <;> (intro h; try first | exact h.elim | exact absurd rfl h | (exfalso; omega))) | ((with_reducible first | apply x_same | apply d_same | apply d_same0); exact gd; exact rfl; exact rfl; (first | exact c_works _)) | (refine sg ?_ ?_ <;> (intro h; (fail_if_success (have : True := h)); try first | exact h.elim | exact absurd rfl h | (exfalso; omega))) | assumption | exact xm | exact rfl))
        all_goals first
          | (exfalso; omega)
          | (((with_reducible first | apply k_fun | apply k_fun_norm); exact rx); rfl)
    have hlt : k < s.opn.length := by omega
    obtain ⟨ak, fk, rk, sk, lk⟩ := hrO k hlt
    have hwk1 : s.opn[k] ≠ [] := hne k hlt
    obtain ⟨iw, ow, rfl, hrw⟩ := sk.resolve_left hwk1
    have hklen : 0 < (s.opn[k]).length := List.length_pos_iff.2 hwk1
    have hex : ∃ (wa wb : Int) (wn : Nat), 0 < wn ∧ wn ≤ 4 ∧ Rd1 M iO (oO + k * 1) (.slice (some (iw, ow)) wn fk 2) ∧ Rd1 M iw (ow + 0 * 2 + 0) (I wa) ∧ Rd1 M iw (ow + ((wn : Int) - 1).toNat * 2 + 1) (I wb) ∧ (wideL s.opn[k]).flatMap bdc = [I wa, I wb] := by
      refine ⟨((s.opn[k])[0]).1, ((s.opn[k])[(s.opn[k]).length - 1]'(by omega)).2, (s.opn[k]).length, hklen, (hok.opn _ (List.getElem_mem hlt)).1, rk, (hrw 0 hklen).nth (j := 0) rfl, ?_, wide_cells hklen⟩
      rw [show (((s.opn[k]).length : Int) - 1).toNat = (s.opn[k]).length - 1 by omega]
      exact (hrw _ (by omega)).nth (j := 1) rfl
    clear hrw rk sk lk hklen
    obtain ⟨wa, wb, wn, hwn0, hwn4, rk, rF, rL, hwide⟩ := hex
    have rk' := rk.grow hG
    have rF' := rF.grow hG
    have rL' := rL.grow hG
    have l1 := rk'.2
    have l2 := rF'.2
    (have hrd0 := rk'; have hrd1 := rF'; have hrd2 := rL'; repeat' (first | (with_reducible intro _) | refine sv ?_ | (refine sc ?_ ?_ <;> (intro h; try first | exact h.elim | exact absurd rfl h | (exfalso; omega))) | (refine sg ?_ ?_ <;> (intro h; (fail_if_success (have : True := h)); try first | exact h.elim | exact absurd rfl h | (exfalso; omega))) | assumption | exact xm | exact rfl))
    rename_i n61 M8 hn61 e7 e8 n65 M9 hn65 e9 e10
    have hg79 : Grow M7 M9 := hn61.grow.trans hn65.grow
    have hg89 : Grow M8 M9 := hn65.grow
    have w61 : At M9 n61 (.cells true ((wideL s.opn[k]).flatMap bdc) 26) := by rw [hwide]; exact (At.new_same hn61).grow hg89
    have hvo9 : Vec (n6 + 1) 1 45 wslc M9 vo is := hvo.grow hg79
    have hw9 : firstL 1 1 (.slice (some (n65, 0)) 1 true 1) M9 = some ([n61].flatMap wslc) := firstL_rd (enc := wslc) (l := [n61]) (fun _ _ => rfl) (fun k hk => rd_flat (enc := wslc) (l := [n61]) (At.new_same hn65) (fun _ _ => rfl) hk)
    clear hg89
    refine x_vec_app (by exact gd) (l' := [n61]) hvo9 rfl rfl rfl (by simp) (by rw [List.length_singleton]; omega) rfl hw9 (fun _ => rfl) (fun _ => rfl) (by omega) ?_
    intro v10 M10 hv10 e11 hk10
    have hle10 := hk10.le
    have hF : ∀ i, At M9 i (.cells true ((wideL s.opn[k]).flatMap bdc) 26) ∨ (∃ cs, At M9 i (.cells true cs 26)) ∨ i ≤ n6 → ¬ (n6 + 1 ≤ i ∧ ∃ o n f e, vo = .slice (some (i, o)) n f e) := by
      rintro i hi ⟨h1, o, n, f, e, h2⟩
      rcases hvo9 with ⟨_, q1⟩ | ⟨q, q1, q2, _⟩
      · rw [q1] at h2; cases h2
      · rw [q1] at h2
        cases h2
        rcases hi with hi | ⟨cs, hi⟩ | hi
        · exact absurd (at_ty hi q2) (by decide)
        · exact absurd (at_ty hi q2) (by decide)
        · omega
    have c6 : At M10 n6 (.cells true (crw ⟨aL, fL, aF, fF, aB, fB, some (iO, oO), fO, eF⟩ s vo) 35) := (b6.grow hg79).keep hk10 (hF _ (.inr (.inr (Nat.le_refl _))))
    have c1 : At M10 n1 (.cells true (crc ⟨aL, fL, aF, fF, aB, fB, some (iO, oO), fO, eF⟩ s) 35) := (b1.grow hg79).keep hk10 (hF _ (.inr (.inr (by omega))))
    have c61 := w61.keep hk10 (hF _ (.inl w61))
    have hbk10 : ∀ j (hj : j < is.length) (hj2 : j < s.opn.length), n6 < is[j] ∧ At M10 is[j] (.cells true ((wideL s.opn[j]).flatMap bdc) 26) := fun j hj hj2 => by
      obtain ⟨g1, g2⟩ := hbk j hj hj2
      exact ⟨g1, (g2.grow hg79).keep hk10 (hF _ (.inr (.inl ⟨_, g2.grow hg79⟩)))⟩
    have hG10 : Grow M M10 := Keep.to_grow' (hG.trans hg79) hk10 (fun i hi => by omega)
    have l61 := c61.2
    clear hbk hF hg79 hvo hvo9 b1 b6 w61
    obtain ⟨av, fv, ev, rfl⟩ := hv10.shape
    (repeat' (first | (with_reducible intro _) | refine sv ?_ | (refine sc ?_ ?_ <;> (intro h; try first | exact h.elim | exact absurd rfl h | (exfalso; omega))) | (refine sg ?_ ?_ <;> (intro h; (fail_if_success (have : True := h)); try first | exact h.elim | exact absurd rfl h | (exfalso; omega))) | assumption | exact xm | exact rfl))
    rename_i M11 hu11 e12 a11
    have hvty : ∀ i, At M10 i (.cells true ((is ++ [n61]).flatMap wslc) 45) → i ≠ n6 := fun i hi h => by subst h; exact absurd (at_ty hi c6) (by decide)
    have hv11 : Vec (n6 + 1) 1 45 wslc M11 (.slice av (is ++ [n61]).length fv ev) (is ++ [n61]) := Or.imp id (fun ⟨i, z1, z2, z3⟩ => ⟨i, z1, z2.upd_ne hu11 (hvty i z2), z3⟩) hv10
    refine k_step (s.opn.length - (k + 1)) (by omega) ⟨k + 1, _, is ++ [n61], rfl, by omega, by rw [List.length_append, List.length_singleton]; omega, rfl, .cons rfl (.cons rfl (.cons rfl (.cons rfl .nil))), Keep.to_grow' hG10 ((Keep.refl (fun i => i = n6) M10).upd hu11 (.inl rfl)) (fun i hi => by omega), by have := a11.2; omega, c1.upd_ne hu11 (by omega), a11, hv11, fun j hj hj2 => ?_⟩
    by_cases hjk : j < is.length
    · rw [List.getElem_append_left hjk]
      obtain ⟨g1, g2⟩ := hbk10 j hjk hj2
      exact ⟨g1, g2.upd_ne hu11 (by omega)⟩
    · obtain rfl : j = is.length := by rw [List.length_append, List.length_singleton] at hj; omega
      rw [List.getElem_append_right (Nat.le_refl _)]
      simp only [Nat.sub_self, List.getElem_cons_zero]
      subst hisl
      exact ⟨by omega, c61.upd_ne hu11 (by omega)⟩
end Go.Proofs.Ytpccafeedfpbaaa.C
