/-
  Part of the proof of CoursePassages: what functions of the program and of the statement come to, walked by the rules. No condition beyond those in each theorem.
-/
import Derived.Test.YtpccafeedfpbaaaGreatTI
import Derived.Test.YtpccafeedfpbaaaGreatTD
open Go PvL Go.Proofs
set_option linter.unusedVariables false
set_option linter.unusedSimpArgs false
namespace Go.Proofs.YtpccafeedfpbaaaGreat.C
theorem c_works (M : Mem) : CallOk Tryz.prog 16 [] M (fun w M' => w = .bool true ∧ M' = M) := ⟨_, _, om_ask rfl M, rfl, rfl⟩
set_option maxHeartbeats 4000000 in
theorem c_places {aa ab : Option (Nat × Nat)} {fa fb : Bool} {ea eb : Nat} {l : List Pt} {M : Mem} (ha : SlA 2 ptc M aa l) (hb : SlA 2 ptc M ab l) (hlen : l.length ≤ 1000000) :
    CallOk Tryz.prog 15 [.slice aa l.length fa ea, .slice ab l.length fb eb] M (fun w M' => w = .bool true ∧ Grow M M') := by
  refine call_in kq15 rfl ?_
  dsimp only [xq15, zipE, Nat.reduceAdd]
  (repeat' (first | (with_reducible intro _) | refine sv ?_ | (refine sc ?_ ?_ <;> (intro h; try first | exact h.elim | exact absurd rfl h | (exfalso; omega))) | (refine sg ?_ ?_ <;> (intro h; (fail_if_success (have : True := h)); try first | exact h.elim | exact absurd rfl h | (exfalso; omega))) | assumption | exact xm | exact rfl))
  refine w_loop_ind (fun n E ms M' => ∃ k : Nat, n = l.length - k ∧ k ≤ l.length ∧ ms = [] ∧ Has E [(0, .slice aa l.length fa ea), (1, .slice ab l.length fb eb), (5, I k)] ∧ Grow M M') ?_ l.length _ _ _
    ⟨0, by omega, by omega, rfl, .cons rfl (.cons rfl (.cons rfl .nil)), xg⟩
  rintro n E ms M1 ⟨k, rfl, hk, rfl, hE, hg⟩
  have hle := hg.le
  refine w_has hE ?_
  by_cases hlast : k = l.length
  · subst hlast
    (repeat' (first | (with_reducible intro _) | refine sv ?_ | (refine sc ?_ ?_ <;> (intro h; try first | exact h.elim | exact absurd rfl h | (exfalso; omega))) | (refine sg ?_ ?_ <;> (intro h; (fail_if_success (have : True := h)); try first | exact h.elim | exact absurd rfl h | (exfalso; omega))) | assumption | exact xm | exact rfl))
    ((with_reducible first | apply k_fun | apply k_fun_norm); exact rx)
    exact ⟨rfl, hg⟩
  have hlt : k < l.length := by omega
  obtain ⟨i, o, rfl, hr⟩ := ha.resolve_left (fun h => by subst h; simp at hlt)
  obtain ⟨i2, o2, rfl, hr2⟩ := hb.resolve_left (fun h => by subst h; simp at hlt)
  have r1 := (hr k hlt).grow hg
  have r2 := (hr2 k hlt).grow hg
  have h1 := r1.2
  have h2 := r2.2
  generalize l[k] = p at *
  (have hrd0 := r1; have hrd1 := r2; repeat' (first | (with_reducible intro _) | refine sv ?_ | (refine sc ?_ ?_ <;> (intro h; try first | exact h.elim | exact absurd rfl h | (exfalso; omega))) | (refine sg ?_ ?_ <;> (intro h; (fail_if_success (have : True := h)); try first | exact h.elim | exact absurd rfl h | (exfalso; omega))) | assumption | exact xm | exact rfl))
  all_goals try (exfalso; omega)
  refine k_step (l.length - (k + 1)) (by omega) ⟨k + 1, rfl, by omega, rfl, .cons rfl (.cons rfl (.cons rfl .nil)), xg⟩
set_option maxHeartbeats 16000000 in
theorem c_Passage4 {A : CrA} {s : Cr} {a b : Pose} {M : Mem} (hM : CrM M A s) :
    CallOk Tryz.prog 14 [crv A s, .agg (posc a), .agg (posc b)] M (fun v M' => Grow M M' ∧ ∃ ax fx ex, v = .tup [.slice ax (PassageF s a b).1.1.length fx ex, I (PassageF s a b).1.2, I (PassageF s a b).2] ∧ SlA 2 ptc M' ax (PassageF s a b).1.1) := by
  have hc := fun M' (hg : Grow M M') => c_CheckCruise4 (hM.grow hg)
  refine call_in kq14 rfl ?_
  dsimp only [xq14, zipE, Nat.reduceAdd]
  unfold PassageF
  by_cases hok : CrOk s
  rotate_left
  · have he : eCrB s = 40 := if_neg (by rw [crB_f hok]; decide)
    rw [he] at hc
    rw [if_neg hok]
    (repeat' (first | (with_reducible intro _) | refine sv ?_ | (refine sc ?_ ?_ <;> (intro h; try first | exact h.elim | exact absurd rfl h | (exfalso; omega))) | ((with_reducible first | apply x_pure | apply d_pure | apply d_pure0); exact gd; exact rfl; exact rfl; (first | exact hc _ (xg))) | (refine sg ?_ ?_ <;> (intro h; (fail_if_success (have : True := h)); try first | exact h.elim | exact absurd rfl h | (exfalso; omega))) | assumption | exact xm | exact rfl))
    all_goals first
      | (exfalso; omega)
      | (((with_reducible first | apply k_fun | apply k_fun_norm); exact rx)
         exact ⟨xg, none, true, 0, rfl, .inl rfl⟩)
  have he : eCrB s = 0 := if_pos (crB_t hok)
  rw [he] at hc
  rw [if_pos hok]
  have hv1 := c_pose4 a
  have hv2 := c_pose4 b
  by_cases hp : PoseOk a ∧ PoseOk b
  rotate_left
  · rw [if_neg hp]
    unfold PoseOk at hp
    (repeat' (first | (with_reducible intro _) | refine sv ?_ | (refine sc ?_ ?_ <;> (intro h; try first | exact h.elim | exact absurd rfl h | (exfalso; omega))) | ((with_reducible first | apply x_pure | apply d_pure | apply d_pure0); exact gd; exact rfl; exact rfl; (first | exact hc _ (xg) | exact hv1 _ | exact hv2 _)) | (refine sg ?_ ?_ <;> (intro h; (fail_if_success (have : True := h)); try first | exact h.elim | exact absurd rfl h | (exfalso; omega))) | assumption | exact xm | exact rfl))
    all_goals first
      | (exfalso; omega)
      | (exact absurd ⟨by assumption, by assumption⟩ hp)
      | (((with_reducible first | apply k_fun | apply k_fun_norm); exact rx)
         exact ⟨xg, none, true, 0, rfl, .inl rfl⟩)
  rw [if_pos hp]
  have hp' := hp
  unfold PoseOk at hp'
  have hP : s.buoys ++ [a.1, b.1] = s.buoys ++ [a.1, b.1] := rfl
  have hmap := fun M' (hg : Grow M M') (aM : Option (Nat × Nat)) (hm : SlA 2 ptc M' aM [a.1, b.1]) => c_mapped (A := A) (s := s) (more := [a.1, b.1]) (fM := true) (eM := 2) hok (hM.grow hg) hm (by simp) (by simp)
  have hnb := hok.nb
  (repeat' (first | (with_reducible intro _) | refine sv ?_ | (refine sc ?_ ?_ <;> (intro h; try first | exact h.elim | exact absurd rfl h | (exfalso; omega))) | ((with_reducible first | apply x_pure | apply d_pure | apply d_pure0); exact gd; exact rfl; exact rfl; (first | exact hc _ (xg) | exact hv1 _ | exact hv2 _)) | (refine sg ?_ ?_ <;> (intro h; (fail_if_success (have : True := h)); try first | exact h.elim | exact absurd rfl h | (exfalso; omega))) | assumption | exact xm | exact rfl))
  all_goals try (exfalso; omega)
  all_goals try (exact absurd hp'.1 (by assumption))
  all_goals try (exact absurd hp'.2 (by assumption))
  rename_i n3 M1 hn3 e1 e2 n4 M2 hn4 e3 e4 n5 M3 hn5 e5 e6 M4 hg4 e7 M5 hg5 e8 hx5 M6 hg6 e9 hx6 n31 M7 hn31 e10 e11
  have b3 : At M7 n3 (.cells true (crc A s) 35) := xm
  have b4 : At M7 n4 (.cells true (posc a) 32) := xm
  have b5 : At M7 n5 (.cells true (posc b) 32) := xm
  have hgs : Grow M M7 ∧ True := ⟨xg, trivial⟩
  have hmp := hmap M7 hgs.1 (some (n31, 0)) (.inr ⟨n31, 0, rfl, fun j hj => rd_flat (enc := ptc) (l := [a.1, b.1]) (At.new_same hn31) (fun _ _ => rfl) hj⟩)
  clear hmap hc
  refine x_call (by exact gd) rfl rfl (show AppOk Tryz.prog _ _ M7 _ from hmp) ?_
  rintro w M8 ⟨hg8, aP, fP, aF, fF, rfl, hmm⟩
  have le8 := hg8.le
  have hPn : (s.buoys ++ [a.1, b.1]).length = s.buoys.length + 2 := by simp
  have hps := fun (M' : Mem) (hm : MpM M' A s (s.buoys ++ [a.1, b.1]) aP aF) => c_passage4 (M := M') (A := A) (s := s) (P := s.buoys ++ [a.1, b.1]) (more := [a.1, b.1]) (fr := s.buoys.length) (to := s.buoys.length + 1) (a := a.2) (b := b.2) (aP := aP) (aF := aF) (fP := fP) (fF := fF) hok rfl (fun p hp2 => by
    rcases List.mem_append.1 hp2 with hp2 | hp2
    · exact hok.buoys p hp2
    · simp at hp2
      rcases hp2 with rfl | rfl
      · exact hp.1.1
      · exact hp.2.1) (by omega) (by omega) (by omega) (by omega) hp.1.2 hp.2.2 hm
  have hpe : passR s (s.buoys ++ [a.1, b.1]) s.buoys.length a.2 (s.buoys.length + 1) b.2 = bestF s a b := by
    rw [passR_eq (more := [a.1, b.1]) rfl (by omega) (by omega)]
    have g1 : (s.buoys ++ [a.1, b.1]).getD s.buoys.length (0, 0) = a.1 := by simp [List.getD_eq_getElem?_getD]
    have g2 : (s.buoys ++ [a.1, b.1]).getD (s.buoys.length + 1) (0, 0) = b.1 := by simp [List.getD_eq_getElem?_getD]
    rw [g1, g2]
  rw [hpe] at hps
  have b3' := b3.grow hg8
  have b4' := b4.grow hg8
  have b5' := b5.grow hg8
  generalize hPP : (s.buoys ++ [a.1, b.1]).length = LP at *
  (repeat' (first | (with_reducible intro _) | refine sv ?_ | (refine sc ?_ ?_ <;> (intro h; try first | exact h.elim | exact absurd rfl h | (exfalso; omega))) | ((with_reducible first | apply x_call | apply d_call | apply x_call0); exact gd; exact rfl; exact rfl; (first | exact hps _ (by first | assumption | exact MpM.grow hmm (xg)))) | (refine sg ?_ ?_ <;> (intro h; (fail_if_success (have : True := h)); try first | exact h.elim | exact absurd rfl h | (exfalso; omega))) | assumption | exact xm | exact rfl))
  rename_i n10 M9 hn10 e12 e13 M10 hu10 e14 a10 w M11 hq n12 M12 hn12 e15 e16
  obtain ⟨hg11, sl, c, b', rfl, hw⟩ := hq
  obtain ⟨ax, nx, fx, ex, rfl⟩ := hw.shape
  have le11 := hg11.le
  have hg813 : Grow M8 M12 := ((Keep.to_grow' hn10.grow ((Keep.refl (fun i => i = n10) M9).upd hu10 (.inl rfl)) (fun i hi => by omega)).trans hg11).trans hn12.grow
  have hg12 : Grow M M12 ∧ True := ⟨(hgs.1.trans hg8).trans hg813, trivial⟩
  have hw12 := hw.keep (hn12.grow.to_keep (fun _ => False)) (fun _ _ _ h => h)
  clear hg813
  cases hbf : bestF s a b with
  | none =>
    rw [hbf] at hw12
    obtain ⟨rfl, e17, rfl⟩ := hw12
    cases e17
    (repeat' (first | (with_reducible intro _) | refine sv ?_ | (refine sc ?_ ?_ <;> (intro h; try first | exact h.elim | exact absurd rfl h | (exfalso; omega))) | (refine sg ?_ ?_ <;> (intro h; (fail_if_success (have : True := h)); try first | exact h.elim | exact absurd rfl h | (exfalso; omega))) | assumption | exact xm | exact rfl))
    rename_i M13 hu13 e18 a13
    ((with_reducible first | apply k_fun | apply k_fun_norm); exact rx)
    exact ⟨Keep.to_grow' hg12.1 ((Keep.refl (fun i => i = n12) M12).upd hu13 (.inl rfl)) (fun i hi => by omega), none, true, 0, rfl, .inl rfl⟩
  | some y =>
    rw [hbf] at hw
    obtain ⟨rfl, rfl, p, f, e17, hp11, hpb⟩ := hw
    cases e17
    have lp := hp11.2
    have hp12 := hp11.grow hn12.grow
    (repeat' (first | (with_reducible intro _) | refine sv ?_ | (refine sc ?_ ?_ <;> (intro h; try first | exact h.elim | exact absurd rfl h | (exfalso; omega))) | (refine sg ?_ ?_ <;> (intro h; (fail_if_success (have : True := h)); try first | exact h.elim | exact absurd rfl h | (exfalso; omega))) | assumption | exact xm | exact rfl))
    rename_i M13 hu13 e18 a13
    ((with_reducible first | apply k_fun | apply k_fun_norm); exact rx)
    exact ⟨Keep.to_grow' hg12.1 ((Keep.refl (fun i => i = n12) M12).upd hu13 (.inl rfl)) (fun i hi => by omega), some (p, 0), _, 2, rfl, .inr ⟨p, 0, rfl, rd_pts (hp12.upd_ne hu13 (by omega))⟩⟩
theorem pass_len {s : Cr} {a b : Pose} : (PassageF s a b).1.1.length ≤ 1000000 := by
  unfold PassageF
  split
  · rename_i hs
    split
    · rename_i hp
      split
      · rename_i p hb
        have := pass_pl hs hp.1.1 hp.2.1 (best_some hb).1
        show p.1.length ≤ 1000000
        omega
      · exact Nat.zero_le _
    · exact Nat.zero_le _
  · exact Nat.zero_le _
set_option maxHeartbeats 16000000 in
theorem c_CoursePassages {A : CrA} {s : Cr} {a b : Pose} {M : Mem} (hM : CrM M A s) : CallOk Tryz.prog 3 [crv A s, .agg (posc a), .agg (posc b)] M (fun v M' => v = .bool true) := by
  have hp1 := fun M' (hg : Grow M M') => c_Passage (a := a) (b := b) (hM.grow hg)
  have hp2 := fun M' (hg : Grow M M') => c_Passage4 (a := a) (b := b) (hM.grow hg)
  have hl := pass_len (s := s) (a := a) (b := b)
  refine call_in kq3 rfl ?_
  dsimp only [xq3, zipE, Nat.reduceAdd]
  generalize PassageF s a b = pf at *
  (repeat' (first | (with_reducible intro _) | refine sv ?_ | (refine sc ?_ ?_ <;> (intro h; try first | exact h.elim | exact absurd rfl h | (exfalso; omega))) | ((with_reducible first | apply x_call | apply d_call | apply x_call0); exact gd; exact rfl; exact rfl; (first | exact hp1 _ (xg))) | (refine sg ?_ ?_ <;> (intro h; (fail_if_success (have : True := h)); try first | exact h.elim | exact absurd rfl h | (exfalso; omega))) | assumption | exact xm | exact rfl))
  rename_i n3 M1 hn3 e1 e2 n4 M2 hn4 e3 e4 n5 M3 hn5 e5 e6 w M4 hq
  obtain ⟨hg4, sl, rfl, hsl⟩ := hq
  have le4 := hg4.le
  have hsh : ∃ ax fx ex, sl = .slice ax pf.1.1.length fx ex ∧ SlA 2 ptc M4 ax pf.1.1 := by
    rcases hsl with ⟨h1, h2⟩ | ⟨i, h1, h2, _⟩
    · exact ⟨none, true, 0, by rw [h1]; exact h2, .inl h1⟩
    · exact ⟨some (i, 0), _, _, h1, .inr ⟨i, 0, rfl, rd_pts h2⟩⟩
  obtain ⟨ax, fx, ex, rfl, hA⟩ := hsh
  clear hp1 hsl
  (repeat' (first | (with_reducible intro _) | refine sv ?_ | (refine sc ?_ ?_ <;> (intro h; try first | exact h.elim | exact absurd rfl h | (exfalso; omega))) | ((with_reducible first | apply x_call | apply d_call | apply x_call0); exact gd; exact rfl; exact rfl; (first | exact hp2 _ (xg))) | (refine sg ?_ ?_ <;> (intro h; (fail_if_success (have : True := h)); try first | exact h.elim | exact absurd rfl h | (exfalso; omega))) | assumption | exact xm | exact rfl))
  rename_i w M5 hq
  obtain ⟨hg5, ay, fy, ey, rfl, hB⟩ := hq
  have le5 := hg5.le
  have hpl := fun M' (hg : Grow M5 M') => c_places (fa := fx) (ea := ex) (fb := fy) (eb := ey) ((hA.grow hg5).grow hg) (hB.grow hg) hl
  clear hp2
  (repeat' (first | (with_reducible intro _) | refine sv ?_ | (refine sc ?_ ?_ <;> (intro h; try first | exact h.elim | exact absurd rfl h | (exfalso; omega))) | ((with_reducible first | apply x_same | apply d_same | apply d_same0); exact gd; exact rfl; exact rfl; (first | exact c_works _)) | ((with_reducible first | apply x_pure | apply d_pure | apply d_pure0); exact gd; exact rfl; exact rfl; (first | exact hpl _ (xg))) | (refine sg ?_ ?_ <;> (intro h; (fail_if_success (have : True := h)); try first | exact h.elim | exact absurd rfl h | (exfalso; omega))) | assumption | exact xm | exact rfl))
  all_goals first
    | (exfalso; omega)
    | (((with_reducible first | apply k_fun | apply k_fun_norm); exact rx); rfl)
end Go.Proofs.YtpccafeedfpbaaaGreat.C
