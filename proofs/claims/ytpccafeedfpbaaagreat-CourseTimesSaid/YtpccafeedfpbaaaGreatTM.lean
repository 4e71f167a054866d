/-
  Part of the proof of CourseTimes: what functions of the program and of the statement come to, walked by the rules. No condition beyond those in each theorem.
-/
import Derived.Test.YtpccafeedfpbaaaGreatTL
import Derived.Test.YtpccafeedfpbaaaGreatTK
section
open Go PvL Go.Proofs
set_option linter.unusedSimpArgs false
set_option linter.unusedVariables false
namespace Go.Proofs.YtpccafeedfpbaaaGreat.C
theorem ordE_succ {s : Cr} {l : List (Int × Int)} {i : Nat} (hi : i < l.length) : OrdOk s (l.take (i + 1)) ↔ OrdOk s (l.take i) /\ rightP s l[i] /\ ∀ k (hk : k < l.length), k < i -> (l[k]).1 ≠ (l[i]).1 := by
  have e : l.take (i + 1) = l.take i ++ [l[i]] := List.take_succ_eq_append_getElem hi
  rw [e]
  unfold OrdOk
  rw [List.map_append, List.nodup_append]
  constructor
  · rintro ⟨h1, h2, _, h4⟩
    refine ⟨⟨fun x hx => h1 x (List.mem_append_left _ hx), h2⟩, h1 l[i] (List.mem_append_right _ (List.mem_singleton_self _)), fun k hk hki => ?_⟩
    refine h4 (l[k]).1 (List.mem_map_of_mem ?_) (l[i]).1 (by simp)
    rw [List.mem_take_iff_getElem]
    exact ⟨k, by omega, rfl⟩
  · rintro ⟨⟨h1, h2⟩, h3, h4⟩
    refine ⟨fun x hx => ?_, h2, by simp, fun a ha b hb => ?_⟩
    · rcases List.mem_append.1 hx with hx | hx
      · exact h1 x hx
      · obtain rfl := List.mem_singleton.1 hx; exact h3
    · obtain ⟨y, hy, rfl⟩ := List.mem_map.1 ha
      simp at hb
      subst hb
      obtain ⟨k, hk, rfl⟩ := List.mem_take_iff_getElem.1 hy
      exact h4 k (by omega) (by omega)
open Classical in
set_option maxHeartbeats 8000000 in
theorem c_order4 {A : CrA} {s : Cr} {aI : Option (Nat × Nat)} {fI : Bool} {eI : Nat} {l : List (Int × Int)} {M : Mem} (hs : CrOk s) (hl : SlA 2 shtc M aI l) (hlen : l.length <= 1000000000000000) :
    CallOk Tryz.prog 57 [crv A s, .slice aI l.length fI eI] M (fun v M' => v = .bool (decide (OrdOk s l)) /\ Grow M M') := by
  have hn : 1 <= s.lines.length /\ s.lines.length <= 5 := ⟨hs.n1, hs.n5⟩
  refine call_in kq57 rfl ?_
  dsimp only [xq57, qm, qf, ql, qL, qi, qb, qc, qa, qn, qB, qC, qo, qk, qK, qq, zipE, Nat.reduceAdd]
  (repeat' (first | (with_reducible intro _) | refine sv ?_ | (refine sc ?_ ?_ <;> (intro h; try exact sz h)) | (refine sg ?_ ?_ <;> (intro h; first | exact sz h | refine sy h ?_)) | exact sq | fail))
  rename_i n2 M1 hn2 e1 e2
  have b2 : At M1 n2 (.cells true (crc A s) 35) := xm
  refine w_loop_ind (fun n E ms M' => ∃ i : Nat, n = l.length - i /\ i <= l.length /\ ms = [] /\ Has E [(1, .slice aI l.length fI eI), (2, .ptr (some (n2, 0))), (5, I i)] /\ Grow M1 M' /\ OrdOk s (l.take i)) ?_ l.length _ _ _
    ⟨0, by omega, by omega, rfl, .cons rfl (.cons rfl (.cons rfl .nil)), Grow.refl _, fun x hx => (by cases hx), List.nodup_nil⟩
  rintro n E ms M2 ⟨i, rfl, hi, rfl, hE, hg, hord⟩
  refine w_has hE ?_
  have le2 := hg.le
  have c2 := b2.grow hg
  have hgs : Grow M M2 /\ True := ⟨hn2.grow.trans hg, trivial⟩
  by_cases hlast : i = l.length
  · subst hlast
    rw [List.take_length] at hord
    rw [decide_eq_true hord]
    (repeat' (first | (with_reducible intro _) | refine sv ?_ | (refine sc ?_ ?_ <;> (intro h; try exact sz h)) | (refine sg ?_ ?_ <;> (intro h; first | exact sz h | refine sy h ?_)) | exact sq | fail))
    (refine kf ?_)
    exact ⟨rfl, hgs.1⟩
  have hlt : i < l.length := by omega
  obtain ⟨iI, oI, rfl, hrI⟩ := hl.resolve_left (fun h => by rw [h] at hlt; simp at hlt)
  have rI := (hrI i hlt).grow hgs.1
  have hiI := rI.2
  have hst := ordE_succ (s := s) hlt
  have hrI2 := fun k (hk : k < l.length) => (hrI k hk).grow hgs.1
  by_cases hr : rightP s l[i]
  rotate_left
  · have hno : ¬ OrdOk s l := fun h => hr (hst.1 (ord_take h (i + 1))).2.1
    rw [decide_eq_false hno]
    unfold rightP at hr
    generalize l[i] = x at *
    (have hrd0 := rI; repeat' (first | (with_reducible intro _) | refine sv ?_ | (refine sc ?_ ?_ <;> (intro h; try exact sz h)) | ((with_reducible first | apply x_pure | apply d_pure | apply d_pure0); exact gd; exact rfl; exact rfl; (first | exact c_shoot4 (A := A) (s := s) (x := x) hn)) | (refine sg ?_ ?_ <;> (intro h; first | exact sz h | refine sy h ?_)) | exact sq | fail))
    all_goals try (exact absurd (by assumption) hr)
    all_goals ((refine kf ?_); exact ⟨rfl, Grow.trans hgs.1 (xg)⟩)
  have hr' := hr
  unfold rightP at hr'
  have hx1 : Rd1 M2 iI (oI + i * 2 + 0) (I (l[i]).1) := rI.nth (j := 0) rfl
  generalize hx : l[i] = x at *
  (have hrd0 := rI; repeat' (first | (with_reducible intro _) | refine sv ?_ | (refine sc ?_ ?_ <;> (intro h; try exact sz h)) | ((with_reducible first | apply x_pure | apply d_pure | apply d_pure0); exact gd; exact rfl; exact rfl; (first | exact c_shoot4 (A := A) (s := s) (x := x) hn)) | (refine sg ?_ ?_ <;> (intro h; first | exact sz h | refine sy h ?_)) | exact sq | fail))
  all_goals try (exact absurd hr' (by assumption))
  rename_i hh M3 hg3 le3
  refine w_loop_ind (fun n E ms M' => ∃ j : Nat, n = i - j /\ j <= i /\ ms = [] /\ Has E [(1, .slice (some (iI, oI)) l.length fI eI), (2, .ptr (some (n2, 0))), (5, I i), (6, I j)] /\ Grow M3 M' /\ ∀ k (hk : k < l.length), k < j -> (l[k]).1 ≠ x.1) ?_ i _ _ _
    ⟨0, by omega, by omega, rfl, .cons rfl (.cons rfl (.cons rfl (.cons rfl .nil))), Grow.refl _, fun k hk h => absurd h (Nat.not_lt_zero _)⟩
  rintro n E2 ms M4 ⟨j, rfl, hj, rfl, hE2, hg4, hall⟩
  refine w_has hE2 ?_
  have le4 := hg4.le
  by_cases hlj : j = i
  · subst hlj
    (repeat' (first | (with_reducible intro _) | refine sv ?_ | (refine sc ?_ ?_ <;> (intro h; try exact sz h)) | (refine sg ?_ ?_ <;> (intro h; first | exact sz h | refine sy h ?_)) | exact sq | fail))
    refine k_step (l.length - (j + 1)) (by omega) ⟨j + 1, rfl, by omega, rfl, .cons rfl (.cons rfl (.cons rfl .nil)), (hg.trans hg3).trans hg4, hst.2 ⟨hord, hr, hall⟩⟩
  have hjl : j < l.length := by omega
  have r1 : Rd1 M4 iI (oI + j * 2 + 0) (I (l[j]).1) := (((hrI2 j hjl).grow hg3).grow hg4).nth (j := 0) rfl
  have r2 := (hx1.grow hg3).grow hg4
  have hq : (l[j]).1 = x.1 -> ¬ OrdOk s l := fun h h' => (hst.1 (ord_take h' (i + 1))).2.2 j hjl (by omega) h
  have hgs4 : Grow M M4 /\ True := ⟨(hgs.1.trans hg3).trans hg4, trivial⟩
  by_cases hje : (l[j]).1 = x.1
  · rw [decide_eq_false (hq hje)]
    generalize (l[j]).1 = y at *
    (have hrd0 := r1; have hrd1 := r2; repeat' (first | (with_reducible intro _) | refine sv ?_ | (refine sc ?_ ?_ <;> (intro h; try exact sz h)) | (refine sg ?_ ?_ <;> (intro h; first | exact sz h | refine sy h ?_)) | exact sq | fail))
    all_goals try (exfalso; omega)
    (refine kf ?_)
    exact ⟨rfl, hgs4.1⟩
  · have hall2 : ∀ k (hk : k < l.length), k < j + 1 -> (l[k]).1 ≠ x.1 := fun k hk h => by
      by_cases hkj : k = j
      · subst hkj; exact hje
      · exact hall k hk (by omega)
    clear hq
    generalize (l[j]).1 = y at *
    (have hrd0 := r1; have hrd1 := r2; repeat' (first | (with_reducible intro _) | refine sv ?_ | (refine sc ?_ ?_ <;> (intro h; try exact sz h)) | (refine sg ?_ ?_ <;> (intro h; first | exact sz h | refine sy h ?_)) | exact sq | fail))
    all_goals try (exfalso; omega)
    refine k_step (i - (j + 1)) (by omega) ⟨j + 1, rfl, by omega, rfl, .cons rfl (.cons rfl (.cons rfl (.cons rfl .nil))), hg4, hall2⟩
theorem go_low {s : Cr} {x : Rch} {c : Nat} {b : Bd} (h : goF s x c = some b) : b.2 - stepsF s.speed (wayC s c).1 (wayC s c).2 = b.1 := by
  unfold goF at h
  split at h
  · cases h
  · unfold shotC shotF at h
    split at h
    · obtain ⟨w, hw, h1⟩ := findSome_mem h
      unfold winO at h1
      split at h1
      · cases h1
        show iMax _ w.1 + stepsF s.speed (wayF s (c / 2) ((c % 2 : Nat) : Int)).1 (wayF s (c / 2) ((c % 2 : Nat) : Int)).2 - stepsF s.speed (wayC s c).1 (wayC s c).2 = iMax _ w.1
        unfold wayC
        omega
      · cases h1
    · cases h
set_option maxHeartbeats 16000000 in
theorem c_Times4 {A : CrA} {s : Cr} {aI : Option (Nat × Nat)} {fI : Bool} {eI : Nat} {l : List (Int × Int)} {M : Mem} (hM : CrM M A s) (hl : SlA 2 shtc M aI l) (hlen : l.length <= 1000000000000000) :
    CallOk Tryz.prog 18 [crv A s, .slice aI l.length fI eI] M (fun v M' => Grow M M' /\ ∃ sl, v = .tup [sl, I (TimesF s l).2] /\ Vec M.next 2 26 bdc M' sl (TimesF s l).1) := by
  classical
  have hc := fun M' (hg : Grow M M') => c_CheckCruise4 (hM.grow hg)
  refine call_in kq18 rfl ?_
  dsimp only [xq18, qm, qf, ql, qL, qi, qb, qe, qc, qa, qn, qB, qC, qS, qo, qk, qK, qq, qZ, qN, zipE, Nat.reduceAdd]
  unfold TimesF
  by_cases hok : CrOk s
  rotate_left
  · have he : eCrB s = 40 := if_neg (by rw [crB_f hok]; decide)
    rw [he] at hc
    rw [if_neg hok]
    (repeat' (first | (with_reducible intro _) | refine sv ?_ | (refine sc ?_ ?_ <;> (intro h; try exact sz h)) | ((with_reducible first | apply x_pure | apply d_pure | apply d_pure0); exact gd; exact rfl; exact rfl; (first | exact hc _ (xg))) | (refine sg ?_ ?_ <;> (intro h; first | exact sz h | refine sy h ?_)) | exact sq | fail))
    all_goals first
      | (exfalso; omega)
      | ((refine kf ?_)
         exact ⟨xg, _, rfl, .nil⟩)
  have he : eCrB s = 0 := if_pos (crB_t hok)
  rw [he] at hc
  rw [if_pos hok]
  have ho := fun M' (hg : Grow M M') => c_order4 (fI := fI) (eI := eI) (A := A) hok (hl.grow hg) hlen
  have hcs := fun M' (hg : Grow M M') => c_costs4 hok (hM.grow hg)
  by_cases hord : OrdOk s l
  rotate_left
  · rw [decide_eq_false hord] at ho
    rw [if_neg hord]
    (repeat' (first | (with_reducible intro _) | refine sv ?_ | (refine sc ?_ ?_ <;> (intro h; try exact sz h)) | ((with_reducible first | apply x_pure | apply d_pure | apply d_pure0); exact gd; exact rfl; exact rfl; (first | exact hc _ (xg) | exact ho _ (xg))) | (refine sg ?_ ?_ <;> (intro h; first | exact sz h | refine sy h ?_)) | exact sq | fail))
    all_goals first
      | (exfalso; omega)
      | ((refine kf ?_)
         exact ⟨xg, _, rfl, .nil⟩)
  rw [decide_eq_true hord] at ho
  rw [if_pos hord]
  have hl5 := ord_len hok hord
  have hn5 := hok.n5
  have hn1 := hok.n1
  (repeat' (first | (with_reducible intro _) | refine sv ?_ | (refine sc ?_ ?_ <;> (intro h; try exact sz h)) | ((with_reducible first | apply x_pure | apply d_pure | apply d_pure0); exact gd; exact rfl; exact rfl; (first | exact hc _ (xg) | exact ho _ (xg))) | ((with_reducible first | apply x_call | apply d_call | apply x_call0); exact gd; exact rfl; exact rfl; (first | exact hcs _ (xg))) | (refine sg ?_ ?_ <;> (intro h; first | exact sz h | refine sy h ?_)) | exact sq | fail))
  all_goals try (exfalso; omega)
  rename_i n2 M1 hn2 e1 e2 M2 hg2 e3 hx0 M3 hg3 e4 w M4 hq n7 M5 hn7 e5 e6
  obtain ⟨hg4, aC, fC, rfl, hco⟩ := hq
  have le4 := hg4.le
  have b2 : At M5 n2 (.cells true (crc A s) 35) := xm
  have hgs5 : Grow M M5 /\ True := ⟨xg, trivial⟩
  have hco5 := hco.grow hn7.grow
  have h27 : n2 < n7 /\ M.next <= n2 := by omega
  clear hc ho hcs hn2 hg2 e3 hg3 e4
  (repeat' (first | (with_reducible intro _) | refine sv ?_ | (refine sc ?_ ?_ <;> (intro h; try exact sz h)) | (refine sg ?_ ?_ <;> (intro h; first | exact sz h | refine sy h ?_)) | exact sq | fail))
  rename_i M6 hu6 e7 a6
  have hk56 : Keep (fun i => i = n7) M5 M6 := (Keep.refl (fun i => i = n7) M5).upd hu6 (.inl rfl)
  have hg46 : Grow M4 M6 := Keep.to_grow' hn7.grow hk56 (fun i hi => by omega)
  have hco6 := hco.grow hg46
  have hgs6 : Grow M M6 /\ True := ⟨Keep.to_grow' hgs5.1 hk56 (fun i hi => by omega), trivial⟩
  have c2 := b2.keep hk56 (by omega)
  have c7 : At M6 n7 (.cells true (coc A s aC fC) 121) := a6
  have l2 := c2.2
  have l7 := c7.2
  clear hk56 hg46 hn7 hu6 a6 b2 hg4 hx0
  have hst0 : startR s = (posR s (2 * s.lines.length), 0) := by unfold posR startR; rw [if_neg (by omega)]
  refine w_loop_ind (fun n E ms M' => ∃ (k fr : Nat) (t : Int) (out : List Bd) (vo : LV), n = l.length - k /\ k <= l.length /\ ms = [] /\ Has E [(1, .slice aI l.length fI eI), (2, .ptr (some (n2, 0))), (7, .ptr (some (n7, 0))), (8, I ((fr : Nat) : Int)), (9, I t), (10, vo), (11, I k)] /\ Grow M6 M' /\ Vec M6.next 2 26 bdc M' vo out /\ fr <= 2 * s.lines.length /\ (0 <= t /\ t <= 1048576) /\ out.length = k /\ timesG s (startR s) (l.map shN) = (timesG s (posR s fr, t) ((l.drop k).map shN)).map (fun r => out ++ r)) ?_ l.length _ _ _
    ⟨0, 2 * s.lines.length, 0, [], _, by omega, by omega, rfl, .cons rfl (.cons rfl (.cons rfl (.cons rfl (.cons rfl (.cons rfl (.cons rfl .nil)))))), Grow.refl _, .nil, Nat.le_refl _, by omega, rfl, by rw [<- hst0]; simp⟩
  rintro n E ms M7 ⟨k, fr, t, out, vo, rfl, hk, rfl, hE, hg7, hvo, hfr, ht, hol, htg⟩
  refine w_has hE ?_
  have le7 := hg7.le
  have d2 := c2.grow hg7
  have d7 := c7.grow hg7
  obtain ⟨ao, fo, eo, rfl⟩ := hvo.shape
  by_cases hlast : k = l.length
  · subst hlast
    rw [List.drop_length] at htg
    have htg : timesG s (startR s) (l.map shN) = some out := by rw [htg]; show some (out ++ []) = _; rw [List.append_nil]
    rw [htg]
    (repeat' (first | (with_reducible intro _) | refine sv ?_ | (refine sc ?_ ?_ <;> (intro h; try exact sz h)) | (refine sg ?_ ?_ <;> (intro h; first | exact sz h | refine sy h ?_)) | exact sq | fail))
    (refine kf ?_)
    exact ⟨hgs6.1.trans hg7, _, rfl, hvo.imp id fun ⟨i, q1, q2, q3⟩ => ⟨i, q1, q2, by have := hgs6.1.le; omega⟩⟩
  have hlt : k < l.length := by omega
  obtain ⟨iI, oI, rfl, hrI⟩ := hl.resolve_left (fun h => by rw [h] at hlt; simp at hlt)
  have rI := ((hrI k hlt).grow hgs6.1).grow hg7
  have hiI := (hrI k hlt).2
  have hr := hord.1 _ (List.getElem_mem hlt)
  have hdr := List.drop_eq_getElem_cons hlt
  rw [hdr, List.map_cons] at htg
  have rI1 : Rd1 M7 iI (oI + k * 2 + 0) (I (l[k]).1) := rI.nth (j := 0) rfl
  have rI2 : Rd1 M7 iI (oI + k * 2 + 1) (I (l[k]).2) := rI.nth (j := 1) rfl
  generalize hx : l[k] = y at *
  obtain ⟨hsh, hc2⟩ := sh_eq hr
  have htgs : timesG s (posR s fr, t) (shN y :: (l.drop (k + 1)).map shN) = (match goF s (posR s fr, t) (shN y) with | none => none | some b => (timesG s (rchF s (shN y) b.2) ((l.drop (k + 1)).map shN)).map (b :: ·)) := rfl
  rw [htgs] at htg
  have hon := fun M' (hg : Grow M7 M') => c_on4 (A := A) (s := s) (aC := aC) (fC := fC) (fr := fr) (to := shN y) (t := t) hok ((hco6.grow hg7).grow hg) hfr hc2 (by omega)
  have hend := fun M' (hg : Grow M7 M') => c_ends4C (c := shN y) (hM.grow ((hgs6.1.trans hg7).trans hg)) hok hc2
  rw [hsh] at hend
  have hyn : ((shN y : Nat) : Int) = 2 * y.1 + y.2 := by unfold rightP at hr; unfold shN; omega
  have hy1 : 0 <= y.1 /\ y.1 <= 5 /\ 0 <= y.2 /\ y.2 <= 1 := by unfold rightP at hr; omega
  have hrR : rchF s (shN y) = fun t => (posR s (shN y), t) := by funext t; unfold rchF posR; rw [if_pos hc2]
  have hbe := begC_ok hok (div_lt hc2)
  have hen := endC_ok hok (div_lt hc2)
  have hstp := fun (M' : Mem) => c_steps4 (M := M') (A := A) (s := s) hok.speed hbe.1 hen.1
  have hsb := steps_bd hok.speed hbe.1 hen.1
  have honR : onR s fr t (shN y) = match goF s (posR s fr, t) (shN y) with | some b => b.2 | none => -1 := rfl
  cases hgf : goF s (posR s fr, t) (shN y) with
  | none =>
    rw [hgf] at htg honR
    have htg : timesG s (startR s) (l.map shN) = none := htg
    rw [htg]
    have honR : onR s fr t (shN y) = -1 := honR
    rw [honR, hyn] at hon
    (have hrd0 := rI; have hrd1 := rI1; have hrd2 := rI2; repeat' (first | (with_reducible intro _) | refine sv ?_ | (refine sc ?_ ?_ <;> (intro h; try exact sz h)) | ((with_reducible first | apply x_pure | apply d_pure | apply d_pure0); exact gd; exact rfl; exact rfl; (first | exact hon _ (xg))) | (refine sg ?_ ?_ <;> (intro h; first | exact sz h | refine sy h ?_)) | exact sq | fail))
    all_goals try (exfalso; omega)
    rename_i M8 hg8 e8
    (refine kf ?_)
    exact ⟨(hgs6.1.trans hg7).trans hg8, _, rfl, .nil⟩
  | some b =>
    rw [hgf] at htg honR
    have hgb := goF_bd hok (div_lt hc2) hgf
    have honR : onR s fr t (shN y) = b.2 := honR
    rw [honR, hyn] at hon
    have hlow := go_low hgf
    (have hrd0 := rI; have hrd1 := rI1; have hrd2 := rI2; repeat' (first | (with_reducible intro _) | refine sv ?_ | (refine sc ?_ ?_ <;> (intro h; try exact sz h)) | ((with_reducible first | apply x_pure | apply d_pure | apply d_pure0); exact gd; exact rfl; exact rfl; (first | exact hon _ (xg) | exact hend _ (xg) | exact hstp _)) | (refine sg ?_ ?_ <;> (intro h; first | exact sz h | refine sy h ?_)) | exact sq | fail))
    rename_i M8 hg8 e8 M9 hg9 e9 n14 M10 hn10 e10 e11 n15 M11 hn11 e12 e13 M12 hu12 e14 a12 M13 hu13 e15 a13 M14 hg14 e16 n76 M15 hn15 e17 e18
    have hg815 : Grow M7 M15 /\ True := by
      refine ⟨?_, trivial⟩
      have hk1 : Keep (fun i => i = n14) M9 M13 := ((((Keep.refl _ M9).new hn10).new hn11).upd hu12 (.inr (by omega))).upd hu13 (.inr (by omega))
      have h1 : Grow M7 M9 := hg8.trans hg9
      have h2 : Grow M9 M13 := Keep.to_grow' (Grow.refl _) hk1 (fun i hi => by omega)
      exact ((h1.trans h2).trans hg14).trans hn15.grow
    have hvo15 : Vec M6.next 2 26 bdc M15 (.slice ao out.length fo eo) out := hvo.grow hg815.1
    have hcell : At M15 n76 (.cells true (bdc b) 26) := by
      have := At.new_same hn15
      rw [show (wayC s (shN y)).1 = (begC s (shN y)).1 from rfl, show (wayC s (shN y)).2 = (endC s (shN y)).1 from rfl] at hlow
      rw [hlow] at this
      exact this
    have hw15 : firstL 2 1 (.slice (some (n76, 0)) 1 true 2) M15 = some ([b].flatMap bdc) := firstL_rd (enc := bdc) (l := [b]) (fun _ _ => rfl) (fun k hk => rd_flat (enc := bdc) (l := [b]) hcell (fun _ _ => rfl) hk)
    refine x_vec_app (by exact gd) (l' := [b]) hvo15 rfl rfl rfl (by simp) (by rw [List.length_singleton]; omega) rfl hw15 (fun _ => rfl) (fun _ => rfl) (by omega) ?_
    intro vo16 M16 hvo16 e19 hk16
    have hg16 : Grow M6 M16 := Keep.to_grow' (hg7.trans hg815.1) hk16 (fun i hi => hi.1)
    (repeat' (first | (with_reducible intro _) | refine sv ?_ | (refine sc ?_ ?_ <;> (intro h; try exact sz h)) | (refine sg ?_ ?_ <;> (intro h; first | exact sz h | refine sy h ?_)) | exact sq | fail))
    refine k_step (l.length - (k + 1)) (by omega) ⟨k + 1, shN y, b.2, out ++ [b], vo16, rfl, by omega, rfl, .cons rfl (.cons rfl (.cons rfl (.cons (by rw [hyn]; rfl) (.cons rfl (.cons rfl (.cons rfl .nil)))))), hg16, hvo16, by omega, ⟨by omega, by omega⟩, by rw [List.length_append]; simp; omega, ?_⟩
    rw [htg, hrR]
    dsimp only
    cases timesG s (posR s (shN y), b.2) ((l.drop (k + 1)).map shN) with
    | none => rfl
    | some r => show some (out ++ b :: r) = some (out ++ [b] ++ r); rw [List.append_assoc]; rfl
theorem timesF_len {s : Cr} {l : List (Int × Int)} : (TimesF s l).1.length <= 1000000 := by
  unfold TimesF
  split
  next hs =>
    split
    next hl =>
      have h5 := ord_len hs hl
      split
      next r hr => have := times_len _ _ _ hr; rw [List.length_map] at this; show r.length <= _; omega
      · exact Nat.zero_le _
    · exact Nat.zero_le _
  · exact Nat.zero_le _
theorem vec_sl {lo : Nat} {ty : TypeId} {M : Mem} {sl : LV} {l : List Bd} (h : Vec lo 2 ty bdc M sl l) : ∃ ax fx ex, sl = .slice ax l.length fx ex /\ SlA 2 bdc M ax l := by
  rcases h with ⟨h1, h2⟩ | ⟨i, h1, h2, _⟩
  · exact ⟨none, true, 0, by rw [h1]; exact h2, .inl h1⟩
  · exact ⟨some (i, 0), _, _, h1, .inr ⟨i, 0, rfl, fun k hk => rd_flat h2 (fun _ _ => rfl) hk⟩⟩
set_option maxHeartbeats 4000000 in
theorem c_CourseTimes {A : CrA} {s : Cr} {aI : Option (Nat × Nat)} {fI : Bool} {eI : Nat} {l : List (Int × Int)} {M : Mem} (hM : CrM M A s) (hl : SlA 2 shtc M aI l) (hlen : l.length <= 1000000000000000) :
    CallOk Tryz.prog 4 [crv A s, .slice aI l.length fI eI] M (fun v M' => v = .bool true) := by
  have hp1 := fun M' (hg : Grow M M') => c_Times (fI := fI) (eI := eI) (hM.grow hg) (hl.grow hg) hlen
  have hp2 := fun M' (hg : Grow M M') => c_Times4 (fI := fI) (eI := eI) (hM.grow hg) (hl.grow hg) hlen
  have hll := timesF_len (s := s) (l := l)
  refine call_in kq4 rfl ?_
  dsimp only [xq4, qm, qL, qi, qb, qe, qc, qa, qn, qB, qC, qg, qo, qk, qK, qq, zipE, Nat.reduceAdd]
  generalize TimesF s l = tf at *
  (repeat' (first | (with_reducible intro _) | refine sv ?_ | (refine sc ?_ ?_ <;> (intro h; try exact sz h)) | ((with_reducible first | apply x_call | apply d_call | apply x_call0); exact gd; exact rfl; exact rfl; (first | exact hp1 _ (xg))) | (refine sg ?_ ?_ <;> (intro h; first | exact sz h | refine sy h ?_)) | exact sq | fail))
  rename_i n3 M1 hn3 e1 e2 w M2 hq
  obtain ⟨hg2, sl, rfl, hsl⟩ := hq
  have le2 := hg2.le
  obtain ⟨ax, fx, ex, rfl, hA⟩ := vec_sl hsl
  clear hp1 hsl
  (repeat' (first | (with_reducible intro _) | refine sv ?_ | (refine sc ?_ ?_ <;> (intro h; try exact sz h)) | ((with_reducible first | apply x_call | apply d_call | apply x_call0); exact gd; exact rfl; exact rfl; (first | exact hp2 _ (xg))) | (refine sg ?_ ?_ <;> (intro h; first | exact sz h | refine sy h ?_)) | exact sq | fail))
  rename_i w M3 hq
  obtain ⟨hg3, sl, rfl, hsl⟩ := hq
  have le3 := hg3.le
  obtain ⟨ay, fy, ey, rfl, hB⟩ := vec_sl hsl
  clear hp2 hsl
  have hA3 := hA.grow hg3
  clear hA
  (repeat' (first | (with_reducible intro _) | refine sv ?_ | (refine sc ?_ ?_ <;> (intro h; try exact sz h)) | (refine sg ?_ ?_ <;> (intro h; first | exact sz h | refine sy h ?_)) | exact sq | fail))
  all_goals try (exfalso; omega)
  refine w_loop_ind (fun n E ms M' => ∃ k : Nat, n = tf.1.length - k /\ k <= tf.1.length /\ ms = [] /\ Has E [(5, .slice ax tf.1.length fx ex), (7, .slice ay tf.1.length fy ey), (9, I k)] /\ Grow M3 M') ?_ tf.1.length _ _ _
    ⟨0, by omega, by omega, rfl, .cons rfl (.cons rfl (.cons rfl .nil)), xg⟩
  rintro n E ms M4 ⟨k, rfl, hk, rfl, hE, hg⟩
  have hle := hg.le
  refine w_has hE ?_
  by_cases hlast : k = tf.1.length
  · subst hlast
    (repeat' (first | (with_reducible intro _) | refine sv ?_ | (refine sc ?_ ?_ <;> (intro h; try exact sz h)) | ((with_reducible first | apply x_same | apply d_same | apply d_same0); exact gd; exact rfl; exact rfl; (first | exact c_works _)) | (refine sg ?_ ?_ <;> (intro h; first | exact sz h | refine sy h ?_)) | exact sq | fail))
    (refine kf ?_)
    rfl
  have hlt : k < tf.1.length := by omega
  obtain ⟨i, o, rfl, hr⟩ := hA3.resolve_left (fun h => by rw [h] at hlt; simp at hlt)
  obtain ⟨i2, o2, rfl, hr2⟩ := hB.resolve_left (fun h => by rw [h] at hlt; simp at hlt)
  have r1 := (hr k hlt).grow hg
  have r2 := (hr2 k hlt).grow hg
  have h1 := r1.2
  have h2 := r2.2
  generalize tf.1[k] = p at *
  (have hrd0 := r1; have hrd1 := r2; repeat' (first | (with_reducible intro _) | refine sv ?_ | (refine sc ?_ ?_ <;> (intro h; try exact sz h)) | (refine sg ?_ ?_ <;> (intro h; first | exact sz h | refine sy h ?_)) | exact sq | fail))
  all_goals try (exfalso; omega)
  refine k_step (tf.1.length - (k + 1)) (by omega) ⟨k + 1, rfl, by omega, rfl, .cons rfl (.cons rfl (.cons rfl .nil)), xg⟩
end Go.Proofs.YtpccafeedfpbaaaGreat.C
end
