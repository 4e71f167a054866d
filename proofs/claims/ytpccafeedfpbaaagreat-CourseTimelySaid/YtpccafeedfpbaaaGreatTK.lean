/-
  Part of the proof of CourseTimely: what functions of the program and of the statement come to, walked by the rules. No condition beyond those in each theorem.
-/
import Derived.Test.YtpccafeedfpbaaaGreatTJ
open Go PvL Go.Proofs
set_option linter.unusedVariables false
set_option linter.unusedSimpArgs false
namespace Go.Proofs.YtpccafeedfpbaaaGreat.C
theorem wayC_sw {s : Cr} {c : Nat} (hc : c / 2 < s.lines.length) : wayC s c = swF s.lines[c / 2] ((c % 2 : Nat) : Int) := by
  unfold wayC wayF swF
  rw [getD_eq hc]
set_option maxHeartbeats 32000000 in
theorem c_CourseTimely {A : CrA} {s : Cr} {aI : Option (Nat × Nat)} {fI : Bool} {eI : Nat} {l : List (Int × Int)} {M : Mem} (hM : CrM M A s) (hl : SlA 2 shtc M aI l) (hlen : l.length ≤ 1000000000000000) :
    CallOk Tryz.prog 9 [crv A s, .slice aI l.length fI eI] M (fun v M' => v = .bool true) := by
  have htm := fun M' (hg : Grow M M') => c_Times (fI := fI) (eI := eI) (hM.grow hg) (hl.grow hg) hlen
  refine call_in k9 rfl ?_
  dsimp only [x9, zipE, Nat.reduceAdd]
  (repeat' (first | (with_reducible intro _) | refine sv ?_ | (refine sc ?_ ?_ <;> (intro h; try first | exact h.elim | exact absurd rfl h | (exfalso; omega))) | ((with_reducible first | apply x_call | apply d_call | apply x_call0); exact gd; exact rfl; exact rfl; (first | exact htm _ (xg))) | (refine sg ?_ ?_ <;> (intro h; (fail_if_success (have : True := h)); try first | exact h.elim | exact absurd rfl h | (exfalso; omega))) | assumption | exact xm | exact rfl))
  rename_i n2 M1 hn2 e1 e2 w M3 hq
  obtain ⟨hg3, sl, rfl, hsl⟩ := hq
  have hle3 := hg3.le
  unfold TimesF at hsl ⊢
  by_cases hok : CrOk s
  rotate_left
  · rw [if_neg hok] at hsl ⊢
    obtain ⟨ax, fx, ex, rfl⟩ := hsl.shape
    (repeat' (first | (with_reducible intro _) | refine sv ?_ | (refine sc ?_ ?_ <;> (intro h; try first | exact h.elim | exact absurd rfl h | (exfalso; omega))) | ((with_reducible first | apply x_same | apply d_same); exact gd; exact rfl; exact rfl; (first | exact c_works _)) | (refine sg ?_ ?_ <;> (intro h; (fail_if_success (have : True := h)); try first | exact h.elim | exact absurd rfl h | (exfalso; omega))) | assumption | exact xm | exact rfl))
    all_goals ((with_reducible first | apply k_fun | apply k_fun_norm); exact rx)
    all_goals rfl
  rw [if_pos hok] at hsl ⊢
  by_cases hord : OrdOk s l
  rotate_left
  · rw [if_neg hord] at hsl ⊢
    obtain ⟨ax, fx, ex, rfl⟩ := hsl.shape
    (repeat' (first | (with_reducible intro _) | refine sv ?_ | (refine sc ?_ ?_ <;> (intro h; try first | exact h.elim | exact absurd rfl h | (exfalso; omega))) | ((with_reducible first | apply x_same | apply d_same); exact gd; exact rfl; exact rfl; (first | exact c_works _)) | (refine sg ?_ ?_ <;> (intro h; (fail_if_success (have : True := h)); try first | exact h.elim | exact absurd rfl h | (exfalso; omega))) | assumption | exact xm | exact rfl))
    all_goals ((with_reducible first | apply k_fun | apply k_fun_norm); exact rx)
    all_goals rfl
  rw [if_pos hord] at hsl ⊢
  cases htg : timesG s (startR s) (l.map shN) with
  | none =>
    rw [htg] at hsl
    dsimp only at hsl ⊢
    obtain ⟨ax, fx, ex, rfl⟩ := hsl.shape
    (repeat' (first | (with_reducible intro _) | refine sv ?_ | (refine sc ?_ ?_ <;> (intro h; try first | exact h.elim | exact absurd rfl h | (exfalso; omega))) | ((with_reducible first | apply x_same | apply d_same); exact gd; exact rfl; exact rfl; (first | exact c_works _)) | (refine sg ?_ ?_ <;> (intro h; (fail_if_success (have : True := h)); try first | exact h.elim | exact absurd rfl h | (exfalso; omega))) | assumption | exact xm | exact rfl))
    all_goals ((with_reducible first | apply k_fun | apply k_fun_norm); exact rx)
    all_goals rfl
  | some r =>
  rw [htg] at hsl
  dsimp only at hsl ⊢
  have hrl : r.length = l.length := by rw [times_len _ _ _ htg, List.length_map]
  have hrd := hsl.rd (fun x _ => rfl)
  obtain ⟨ax, fx, ex, rfl, hrd⟩ := hrd
  obtain ⟨aL, fL, aF, fF, aB, fB, aO, fO, eF⟩ := A
  have hno := hok.no
  have hn5 := hok.n5
  have hn1 := hok.n1
  (repeat' (first | (with_reducible intro _) | refine sv ?_ | (refine sc ?_ ?_ <;> (intro h; try first | exact h.elim | exact absurd rfl h | (exfalso; omega))) | (refine sg ?_ ?_ <;> (intro h; (fail_if_success (have : True := h)); try first | exact h.elim | exact absurd rfl h | (exfalso; omega))) | assumption | exact xm | exact rfl))
  all_goals try (exfalso; omega)
  rename_i n7 M4 hn7 e3 e4 M5 hu5 e5 a7
  have a2 : At M5 n2 (.cells true (crc ⟨aL, fL, aF, fF, aB, fB, aO, fO, eF⟩ s) 35) := xm
  have hg05 : Grow M M5 := xg
  have hle35 : M3.next ≤ M5.next := by omega
  have hg35 : Grow M3 M5 := xg
  refine w_loop_ind (fun n E ms M' => ∃ (k : Nat) (x : Rch), n = l.length - k ∧ k ≤ l.length ∧ ms = [] ∧ Has E [(1, .slice aI l.length fI eI), (2, .ptr (some (n2, 0))), (5, .slice ax r.length fx ex), (7, .ptr (some (n7, 0))), (8, I x.2), (9, I k)] ∧ Grow M M' ∧ Grow M3 M' ∧ M5.next ≤ M'.next ∧ At M' n2 (.cells true (crc ⟨aL, fL, aF, fF, aB, fB, aO, fO, eF⟩ s) 35) ∧ At M' n7 (.cells true (posc x.1) 32) ∧
      PoseOk x.1 ∧ (0 ≤ x.2 ∧ x.2 ≤ 1048576) ∧ timesG s x ((l.drop k).map shN) = some (r.drop k)) ?_ l.length _ _ _
    ⟨0, startR s, by omega, by omega, rfl, .cons rfl (.cons rfl (.cons rfl (.cons rfl (.cons rfl (.cons rfl .nil))))), hg05, hg35, by omega, a2, a7, hok.start, ⟨Int.le_refl 0, show (0 : Int) ≤ 1048576 by decide⟩, htg⟩
  rintro n E ms M6 ⟨k, x, rfl, hk, rfl, hE, hG, hG3, hle6, b2, b7, hxp, hxt, htgk⟩
  refine w_has hE ?_
  have hleG := hG.le
  by_cases hlast : k = l.length
  · subst hlast
    (repeat' (first | (with_reducible intro _) | refine sv ?_ | (refine sc ?_ ?_ <;> (intro h; try first | exact h.elim | exact absurd rfl h | (exfalso; omega))) | ((with_reducible first | apply x_same | apply d_same); exact gd; exact rfl; exact rfl; (first | exact c_works _)) | (refine sg ?_ ?_ <;> (intro h; (fail_if_success (have : True := h)); try first | exact h.elim | exact absurd rfl h | (exfalso; omega))) | assumption | exact xm | exact rfl))
    ((with_reducible first | apply k_fun | apply k_fun_norm); exact rx)
    rfl
  have hlt : k < l.length := by omega
  have hltr : k < r.length := by omega
  obtain ⟨iI, oI, rfl, hrI⟩ := (hl.grow hG).resolve_left (fun h => by rw [h] at hlt; simp at hlt)
  have rI := hrI k hlt
  obtain ⟨ir, or, rfl, hrr⟩ := hrd.resolve_left (fun h => by rw [h] at hltr; simp at hltr)
  have q5 := (hrr k hltr).2
  have rR := (hrr k hltr).grow hG3
  have hr := hord.1 _ (List.getElem_mem hlt)
  have hdr := List.drop_eq_getElem_cons hlt
  have hdr2 := List.drop_eq_getElem_cons hltr
  rw [hdr, List.map_cons, hdr2] at htgk
  generalize hx : l[k] = y at *
  generalize hy : r[k] = b at *
  obtain ⟨hsh, hc2⟩ := sh_eq hr
  have htgs : timesG s x (shN y :: (l.drop (k + 1)).map shN) = (match goF s x (shN y) with | none => none | some b => (timesG s (rchF s (shN y) b.2) ((l.drop (k + 1)).map shN)).map (b :: ·)) := rfl
  rw [htgs] at htgk
  cases hgf : goF s x (shN y) with
  | none => rw [hgf] at htgk; cases htgk
  | some b' =>
  rw [hgf] at htgk
  dsimp only at htgk
  obtain ⟨r', hr1, hr2⟩ := Option.map_eq_some_iff.1 htgk
  obtain ⟨rfl, rfl⟩ := List.cons.inj hr2
  have hgb := goF_bd hok (div_lt hc2) hgf
  -- what the functions say of this line
  have hbeg := begC_ok hok (div_lt hc2)
  have hend := endC_ok hok (div_lt hc2)
  have hcost := costN_bd hok hxp hbeg
  have hyr := hr
  unfold rightP at hyr
  obtain ⟨y1, y2⟩ := y
  obtain ⟨i, rfl⟩ := Int.eq_ofNat_of_zero_le hyr.1.1
  dsimp only at hyr
  have hdiv : shN ((i : Int), y2) / 2 = i := by unfold shN; dsimp only; omega
  have hmod : ((shN ((i : Int), y2) % 2 : Nat) : Int) = y2 := by unfold shN; dsimp only; omega
  have hil : i < s.lines.length := by omega
  have hio : i < s.opn.length := by omega
  generalize hcc : shN ((i : Int), y2) = c at *
  have hbf : ∃ z, bestF s x.1 (begC s c) = some z ∧ z.2 = costN s x.1 (begC s c) := by
    unfold costN
    cases hb : bestF s x.1 (begC s c) with
    | none => have := hgb.2.1; unfold costN at this; rw [hb] at this; exact absurd this (by decide)
    | some z => exact ⟨z, rfl, rfl⟩
  obtain ⟨z, hz1, hz2⟩ := hbf
  have hPs : PassageF s x.1 (begC s c) = (z, 0) := by unfold PassageF; rw [if_pos hok, if_pos ⟨hxp, hbeg⟩, hz1]
  have hsc : shotC s c (x.2 + costN s x.1 (begC s c)) = some b' := by
    unfold goF at hgf
    rw [if_neg (by omega)] at hgf; exact hgf
  have hSh : ShotF s ((i : Int), y2) (x.2 + costN s x.1 (begC s c)) = (b', 0) := by
    unfold ShotF
    rw [if_pos hok, if_pos hr, if_pos (by omega)]
    unfold shotC at hsc
    rw [hdiv, hmod] at hsc
    rw [show (((i : Int), y2) : Int × Int).1.toNat = i from rfl, hsc]
  have hSt : StepsF s (begC s c).1 (endC s c).1 = (stepsF s.speed (wayC s c).1 (wayC s c).2, 0) := by
    unfold StepsF
    rw [askE_ok hok hbeg.1 hend.1]; rfl
  have hbn := (shotC_bd hok (div_lt hc2) hsc).2.2.2.2
  have hin := shotC_in hok (div_lt hc2) hsc
  rw [hdiv, getD_eq hio] at hin
  obtain ⟨i2, o2, rfl, hro⟩ := (show SlL 2 bdc M aO s.opn from hM.opn).resolve_left (fun e => by rw [e] at hio; simp at hio)
  obtain ⟨aw, fw, g1, g2, g3⟩ := hro i hio
  have g1' := g1.grow hG
  obtain ⟨i3, o3, rfl, hrl⟩ := (show SlA 4 legc M aL s.lines from hM.lines).resolve_left (fun e => by rw [e] at hil; simp at hil)
  have r3 := (hrl i hil).grow hG
  have hlo := hok.lines _ (List.getElem_mem hil)
  have hws := wayC_sw (s := s) (c := c) (div_lt hc2)
  simp only [hdiv, hmod] at hws
  have hpos := fun M' => c_poses (q := s.lines[i]) (w := y2) hlo.1 hlo.2.1 M'
  rw [← hws] at hpos
  have hpas := fun M' (hg : Grow M M') => c_Passage (a := x.1) (b := begC s c) (hM.grow hg)
  rw [hPs] at hpas
  have hstp := fun M' (hg : Grow M M') => c_Steps (a := (begC s c).1) (b := (endC s c).1) (hM.grow hg)
  rw [hSt] at hstp
  have hsht := fun M' (hg : Grow M M') => c_Shot (x := ((i : Int), y2)) (t := x.2 + costN s x.1 (begC s c)) (hM.grow hg)
  rw [hSh] at hsht
  have hcin := fun M' (hg : Grow M M') => c_in (b := b') (f := fw) (e := 2) (g2.grow hg) (by have := (hok.opn _ (List.getElem_mem hio)).1; omega) hin
  dsimp only at hpas hstp hsht
  have rI1 : Rd1 M6 iI (oI + k * 2 + 0) (I (i : Int)) := rI.nth (j := 0) rfl
  have rI2 : Rd1 M6 iI (oI + k * 2 + 1) (I y2) := rI.nth (j := 1) rfl
  have rR1 : Rd1 M6 ir (or + k * 2 + 0) (I b'.1) := rR.nth (j := 0) rfl
  have rR2 : Rd1 M6 ir (or + k * 2 + 1) (I b'.2) := rR.nth (j := 1) rfl
  have q1 := rI.2
  have q2 := rR.2
  have q3 := r3.2
  have q4 := g1'.2
  have hbetw1 : (0 : Int) ≤ (i : Int) ∧ (i : Int) ≤ (s.lines.length : Int) - 1 := by omega
  have hbetw2 : (0 : Int) ≤ (i : Int) ∧ (i : Int) ≤ (s.opn.length : Int) - 1 := by omega
  (have hrd0 := rI1; have hrd1 := rI2; have hrd2 := rI; have hrd3 := r3; repeat' (first | (with_reducible intro _) | refine sv ?_ | (refine sc ?_ ?_ <;> (intro h; try first | exact h.elim | exact absurd rfl h | (exfalso; omega))) | ((with_reducible first | apply x_same | apply d_same); exact gd; exact rfl; exact rfl; (first | exact c_between _ _ _ _)) | ((with_reducible first | apply x_pure | apply d_pure); exact gd; exact rfl; exact rfl; (first | exact hpos _)) | ((with_reducible first | apply x_call | apply d_call | apply x_call0); exact gd; exact rfl; exact rfl; (first | exact hpas _ (xg))) | (refine sg ?_ ?_ <;> (intro h; (fail_if_success (have : True := h)); try first | exact h.elim | exact absurd rfl h | (exfalso; omega))) | assumption | exact xm | exact rfl))
  all_goals try (exfalso; omega)
  rename_i w MC hq
  obtain ⟨hgC, sl2, rfl, _⟩ := hq
  have hleC := hgC.le
  rw [← hz2] at hsht hgb
  have hzb : z.2 ≤ 600000 ∧ 0 ≤ z.2 := by omega
  (have hrd0 := rI1; have hrd1 := rI2; have hrd2 := rI; have hrd3 := r3; have hrd4 := rR1; have hrd5 := rR2; have hrd6 := rR; have hrd7 := g1'; repeat' (first | (with_reducible intro _) | refine sv ?_ | (refine sc ?_ ?_ <;> (intro h; try first | exact h.elim | exact absurd rfl h | (exfalso; omega))) | ((with_reducible first | apply x_same | apply d_same); exact gd; exact rfl; exact rfl; (first | exact c_between _ _ _ _)) | ((with_reducible first | apply x_pure | apply d_pure); exact gd; exact rfl; exact rfl; (first | exact hstp _ (xg) | exact hsht _ (xg) | exact hcin _ (xg))) | (refine sg ?_ ?_ <;> (intro h; (fail_if_success (have : True := h)); try first | exact h.elim | exact absurd rfl h | (exfalso; omega))) | assumption | exact xm | exact rfl))
  all_goals try (exfalso; omega)
  refine k_step (l.length - (k + 1)) (by omega) ⟨k + 1, rchF s c b'.2, rfl, by omega, rfl, .cons rfl (.cons rfl (.cons rfl (.cons rfl (.cons rfl (.cons rfl .nil))))), xg, xg, by omega, xm, xm, hend, ⟨by show 0 ≤ b'.2; omega, by show b'.2 ≤ 1048576; omega⟩, hr1⟩
end Go.Proofs.YtpccafeedfpbaaaGreat.C
