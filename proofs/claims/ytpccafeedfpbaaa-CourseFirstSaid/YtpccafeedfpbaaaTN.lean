/-
  Part of the proof of CourseFirst: what functions of the program and of the statement come to, walked by the rules. No condition beyond those in each theorem.
-/
import Derived.Test.YtpccafeedfpbaaaTL
import Derived.Test.YtpccafeedfpbaaaTM
open Go PvL Go.Proofs
set_option linter.unusedVariables false
set_option linter.unusedSimpArgs false
namespace Go.Proofs.Ytpccafeedfpbaaa.C
theorem un_flat (r : List Nat) : (r.map unN).flatMap shtc = r.flatMap shcc := by rw [List.flatMap_map]; rfl
set_option maxHeartbeats 32000000 in
theorem c_CourseFirst {A : CrA} {s : Cr} {aI : Option (Nat × Nat)} {fI : Bool} {eI : Nat} {l : List (Int × Int)} {M : Mem} (hM : CrM M A s) (hl : SlA 2 shtc M aI l) (hlen : l.length ≤ 1000000000000000) :
    CallOk Try.prog 4 [crv A s, .slice aI l.length fI eI] M (fun v M' => v = .bool true) := by
  have hbs := fun M' (hg : Grow M M') => c_Best (hM.grow hg)
  have htm := fun M' (hg : Grow M M') => c_Times (fI := fI) (eI := eI) (hM.grow hg) (hl.grow hg) hlen
  have hfl := first_least (s := s) (l := l)
  have hsl0 : 0 ≤ (TimesF s l).2 ∧ (TimesF s l).2 ≤ 100 := by
    unfold TimesF
    split
    · split
      · split
        · exact ⟨Int.le_refl 0, show (0 : Int) ≤ 100 by decide⟩
        · exact ⟨by decide, by decide⟩
      · exact ⟨by decide, by decide⟩
    · exact ⟨by decide, by decide⟩
  refine call_in k4 rfl ?_
  dsimp only [x4, zipE, Nat.reduceAdd]
  (repeat' (first | (with_reducible intro _) | refine sv ?_ | (refine sc ?_ ?_ <;> (intro h; try first | exact h.elim | exact absurd rfl h | (exfalso; omega))) | ((with_reducible first | apply x_call | apply d_call | apply x_call0); exact gd; exact rfl; exact rfl; (first | exact hbs _ (xg))) | (refine sg ?_ ?_ <;> (intro h; (fail_if_success (have : True := h)); try first | exact h.elim | exact absurd rfl h | (exfalso; omega))) | assumption | exact xm | exact rfl))
  rename_i n2 M1 hn2 e1 e2 w M3 hq
  obtain ⟨hg3, hcase⟩ := hq
  have hle3 := hg3.le
  obtain ⟨aL, fL, aF, fF, aB, fB, aO, fO, eF⟩ := A
  rcases hcase with ⟨hno, rfl⟩ | ⟨hok, hneg, rfl⟩ | ⟨hok, hpos, u, rfl, hu⟩
  · (repeat' (first | (with_reducible intro _) | refine sv ?_ | (refine sc ?_ ?_ <;> (intro h; try first | exact h.elim | exact absurd rfl h | (exfalso; omega))) | ((with_reducible first | apply x_call | apply d_call | apply x_call0); exact gd; exact rfl; exact rfl; (first | exact htm _ (xg))) | (refine sg ?_ ?_ <;> (intro h; (fail_if_success (have : True := h)); try first | exact h.elim | exact absurd rfl h | (exfalso; omega))) | assumption | exact xm | exact rfl))
    rename_i w M4 hq2
    obtain ⟨hg4, sl, rfl, hsl⟩ := hq2
    have hle4 := hg4.le
    have hdis : (TimesF s l).2 ≠ 0 ∨ l.length ≠ s.lines.length := by
      refine Classical.byContradiction fun h => ?_
      have h1 : (TimesF s l).2 = 0 := Classical.byContradiction fun h' => h (.inl h')
      have h2 : l.length = s.lines.length := Classical.byContradiction fun h' => h (.inr h')
      exact hno (hfl h1 h2).1
    obtain ⟨ax, fx, ex, rfl⟩ := hsl.shape
    generalize (TimesF s l).2 = tf at *
    (repeat' (first | (with_reducible intro _) | refine sv ?_ | (refine sc ?_ ?_ <;> (intro h; try first | exact h.elim | exact absurd rfl h | (exfalso; omega))) | ((with_reducible first | apply x_same | apply d_same); exact gd; exact rfl; exact rfl; (first | exact c_works _)) | (refine sg ?_ ?_ <;> (intro h; (fail_if_success (have : True := h)); try first | exact h.elim | exact absurd rfl h | (exfalso; omega))) | assumption | exact xm | exact rfl))
    all_goals first
      | (exfalso; omega)
      | (((with_reducible first | apply k_fun | apply k_fun_norm); exact rx); rfl)
  · (repeat' (first | (with_reducible intro _) | refine sv ?_ | (refine sc ?_ ?_ <;> (intro h; try first | exact h.elim | exact absurd rfl h | (exfalso; omega))) | ((with_reducible first | apply x_call | apply d_call | apply x_call0); exact gd; exact rfl; exact rfl; (first | exact htm _ (xg))) | (refine sg ?_ ?_ <;> (intro h; (fail_if_success (have : True := h)); try first | exact h.elim | exact absurd rfl h | (exfalso; omega))) | assumption | exact xm | exact rfl))
    rename_i w M4 hq2
    obtain ⟨hg4, sl, rfl, hsl⟩ := hq2
    have hle4 := hg4.le
    have hdis : (TimesF s l).2 ≠ 0 ∨ l.length ≠ s.lines.length := by
      refine Classical.byContradiction fun h => ?_
      have h1 : (TimesF s l).2 = 0 := Classical.byContradiction fun h' => h (.inl h')
      have h2 : l.length = s.lines.length := Classical.byContradiction fun h' => h (.inr h')
      have := (hfl h1 h2).2.2.1
      omega
    obtain ⟨ax, fx, ex, rfl⟩ := hsl.shape
    generalize (TimesF s l).2 = tf at *
    (repeat' (first | (with_reducible intro _) | refine sv ?_ | (refine sc ?_ ?_ <;> (intro h; try first | exact h.elim | exact absurd rfl h | (exfalso; omega))) | ((with_reducible first | apply x_same | apply d_same); exact gd; exact rfl; exact rfl; (first | exact c_works _)) | (refine sg ?_ ?_ <;> (intro h; (fail_if_success (have : True := h)); try first | exact h.elim | exact absurd rfl h | (exfalso; omega))) | assumption | exact xm | exact rfl))
    all_goals first
      | (exfalso; omega)
      | (((with_reducible first | apply k_fun | apply k_fun_norm); exact rx); rfl)
  · obtain ⟨r, hnx, hrl, ht0, htl, hte⟩ := first_own hok hpos
    have hn1 := hok.n1
    have hn5 := hok.n5
    have hv := hu r hnx
    have hol : (r.map unN).length = r.length := List.length_map _
    rcases hv with ⟨h0, _⟩ | ⟨ir, rfl, ar, hb⟩
    · rw [h0] at hrl; simp at hrl; omega
    rw [← un_flat] at ar
    rw [← hol] at hrl ⊢
    generalize r.map unN = o at *
    have hlo : SlA 2 shtc M3 (some (ir, 0)) o := .inr ⟨ir, 0, rfl, fun k hk => rd_flat (enc := shtc) ar (fun _ _ => rfl) hk⟩
    have hg03 : Grow M M3 := xg
    have hto := fun M' (hg : Grow M3 M') => c_Times (fI := false) (eI := 2) ((hM.grow hg03).grow hg) (hlo.grow hg) (by omega)
    rw [ht0] at hto
    clear hg03
    (repeat' (first | (with_reducible intro _) | refine sv ?_ | (refine sc ?_ ?_ <;> (intro h; try first | exact h.elim | exact absurd rfl h | (exfalso; omega))) | ((with_reducible first | apply x_call | apply d_call | apply x_call0); exact gd; exact rfl; exact rfl; (first | exact htm _ (xg))) | (refine sg ?_ ?_ <;> (intro h; (fail_if_success (have : True := h)); try first | exact h.elim | exact absurd rfl h | (exfalso; omega))) | assumption | exact xm | exact rfl))
    rename_i w M4 hq2
    obtain ⟨hg4, sl, rfl, hsl⟩ := hq2
    have hle4 := hg4.le
    have hrd := hsl.rd (fun x _ => rfl)
    obtain ⟨ax, fx, ex, rfl, hrd⟩ := hrd
    (repeat' (first | (with_reducible intro _) | refine sv ?_ | (refine sc ?_ ?_ <;> (intro h; try first | exact h.elim | exact absurd rfl h | (exfalso; omega))) | ((with_reducible first | apply x_call | apply d_call | apply x_call0); exact gd; exact rfl; exact rfl; (first | exact hto _ (xg))) | (refine sg ?_ ?_ <;> (intro h; (fail_if_success (have : True := h)); try first | exact h.elim | exact absurd rfl h | (exfalso; omega))) | assumption | exact xm | exact rfl))
    rename_i w M5 hq3
    obtain ⟨hg5, sl3, rfl, hsl3⟩ := hq3
    have hle5 := hg5.le
    obtain ⟨ay, fy, ey, rfl, hrd3⟩ := hsl3.rd (fun x _ => rfl)
    clear hsl hsl3 hto
    generalize hbo : (TimesF s o).1 = bo at *
    generalize hbl : (TimesF s l).1 = bl at *
    generalize htf : (TimesF s l).2 = tf at *
    generalize hend : endB s = en at *
    have hi : s.lines.length - 1 < bo.length := by omega
    obtain ⟨iy, oy, rfl, hry⟩ := hrd3.resolve_left (fun h => by rw [h] at htl; simp at htl; omega)
    have rY : Rd1 M5 iy (oy + (s.lines.length - 1) * 2 + 1) (I en) := by
      have := (hry _ hi).nth (j := 1) (v := I (bo[s.lines.length - 1]).2) rfl
      rw [hte hi] at this
      exact this
    have rY' : Rd1 M5 iy (oy + ((bo.length : Int) - 1).toNat * 2 + 1) (I en) := by rw [show ((bo.length : Int) - 1).toNat = s.lines.length - 1 by omega]; exact rY
    have qy := rY.2
    by_cases hcs : tf = 0 ∧ l.length = s.lines.length
    · obtain ⟨_, hbl1, _, hle⟩ := hfl hcs.1 hcs.2
      have hi2 : s.lines.length - 1 < bl.length := by omega
      have hle := hle hi2
      obtain ⟨ix, ox, rfl, hrx⟩ := hrd.resolve_left (fun h => by rw [h] at hbl1; simp at hbl1; omega)
      have rX : Rd1 M5 ix (ox + (s.lines.length - 1) * 2 + 1) (I (bl[s.lines.length - 1]).2) := ((hrx _ hi2).nth (j := 1) rfl).grow hg5
      generalize (bl[s.lines.length - 1]).2 = last at *
      have rX' : Rd1 M5 ix (ox + ((bl.length : Int) - 1).toNat * 2 + 1) (I last) := by rw [show ((bl.length : Int) - 1).toNat = s.lines.length - 1 by omega]; exact rX
      (have hrd0 := rY'; have hrd1 := rX'; repeat' (first | (with_reducible intro _) | refine sv ?_ | (refine sc ?_ ?_ <;> (intro h; try first | exact h.elim | exact absurd rfl h | (exfalso; omega))) | ((with_reducible first | apply x_same | apply d_same); exact gd; exact rfl; exact rfl; (first | exact c_works _)) | (refine sg ?_ ?_ <;> (intro h; (fail_if_success (have : True := h)); try first | exact h.elim | exact absurd rfl h | (exfalso; omega))) | assumption | exact xm | exact rfl))
      all_goals first
        | (exfalso; omega)
        | (((with_reducible first | apply k_fun | apply k_fun_norm); exact rx); rfl)
        | (((with_reducible first | apply k_fun | apply k_fun_norm); exact rx); exact congrArg LV.bool (decide_eq_true (by omega)))
    · (have hrd0 := rY'; repeat' (first | (with_reducible intro _) | refine sv ?_ | (refine sc ?_ ?_ <;> (intro h; try first | exact h.elim | exact absurd rfl h | (exfalso; omega))) | ((with_reducible first | apply x_same | apply d_same); exact gd; exact rfl; exact rfl; (first | exact c_works _)) | (refine sg ?_ ?_ <;> (intro h; (fail_if_success (have : True := h)); try first | exact h.elim | exact absurd rfl h | (exfalso; omega))) | assumption | exact xm | exact rfl))
      all_goals first
        | (exfalso; omega)
        | (((with_reducible first | apply k_fun | apply k_fun_norm); exact rx); rfl)
end Go.Proofs.Ytpccafeedfpbaaa.C
