/-
 Part of the proof of CourseMovedUpto: what functions of the program and of the statement come to, walked by the rules. No condition beyond those in each theorem.
-/
import Derived.Test.YtifcpjfpjkoicaaGreatTA
import Derived.Test.YtifcpjfpjkoicaaGreatTS
import Derived.Test.YtifcpjfpjkoicaaGreatTB
import Derived.Test.YtifcpjfpjkoicaaGreatTC
section
open Go PvL Go.Proofs
set_option linter.unusedSimpArgs false
set_option linter.unusedVariables false
namespace Go.Proofs.YtifcpjfpjkoicaaGreat.C
set_option maxHeartbeats 1000000 in
theorem c_windows {a : Option (Nat × Nat)} {f : Bool} {l : List Bd} {M : Mem} (hl : SlA 2 bdc M a l) (hlen : l.length <= 1000000000000000) : CallOk Tryz.prog 89 [.slice a l.length f 2] M (fun w M' => w = .bool (winB l) /\ Grow M M') := by
 refine call_in kq89 rfl ?_
 dsimp only [xq89, qm, qf, ql, qL, qi, qa, qn, qB, qC, qg, qS, qo, qk, qK, qq, qZ, zipE, Nat.reduceAdd]
 (repeat' first|with_reducible intro _|refine sv ?_|refine sc ?_ ?_<;>(intro h;try exact sz h)|refine sg ?_ ?_<;>(intro h;first|exact sz h|refine sy h ?_)|exact sq|fail)
 refine w_loop_ind (fun n E ms M' => ∃ k : Nat, n = l.length - k /\ k <= l.length /\ ms = [] /\ Has E [(0, .slice a l.length f 2), (5, .slice a l.length f 2), (6, I l.length), (7, I k)] /\ Grow M M' /\ ∀ j, j < k -> winAt l j)
  ?_ l.length _ _ _ ⟨0, by omega, by omega, rfl, .cons rfl (.cons rfl (.cons rfl (.cons rfl .nil))), xg, fun j hj => absurd hj (Nat.not_lt_zero _)⟩
 rintro n E ms M1 ⟨k, rfl, hk, rfl, hE, hg, hall⟩
 have hle := hg.le
 refine w_has hE ?_
 by_cases hlast : k = l.length
 ·subst hlast
  (repeat' first|with_reducible intro _|refine sv ?_|refine sc ?_ ?_<;>(intro h;try exact sz h)|refine sg ?_ ?_<;>(intro h;first|exact sz h|refine sy h ?_)|exact sq|fail)
  (refine kf ?_)
  refine ⟨?_, xg⟩
  by_cases h4 : l.length <= 4
  ·rw [winB_t (win_iff.2 ⟨h4, hall⟩)]
   exact congrArg LV.bool (decide_eq_true (by omega))
  ·rw [winB_f (fun hh => h4 (win_iff.1 hh).1)]
   exact congrArg LV.bool (decide_eq_false (by omega))
 have hlt : k < l.length := by omega
 obtain ⟨i, o, rfl, hr⟩ := hl.resolve_left (fun h => by subst h; simp at hlt)
 have hr0 : Rd M1 i (o + k * 2) 2 (bdc l[k]) := (hr k hlt).grow hg
 have hno : ¬ winAt l k -> winB l = false := fun h => winB_f fun hh => h ((win_iff.1 hh).2 k hlt)
 have hyes : winAt l k -> ∀ j, j < k + 1 -> winAt l j := fun h j hj => by
  by_cases hjk : j = k
  ·subst hjk; exact h
  ·exact hall j (by omega)
 unfold winAt at hno hyes
 rw [getD_eq hlt] at hno hyes
 have hat := hr0.2
 by_cases hk0 : k = 0
 ·subst hk0
  (have hrd0 := hr0;repeat' first|with_reducible intro _|refine sv ?_|refine sc ?_ ?_<;>(intro h;try exact sz h)|(with_reducible first|apply x_same|apply d_same|apply d_same0);exact gd;exact rfl;exact rfl;exact c_within _ _ _ _|refine sg ?_ ?_<;>(intro h;first|exact sz h|refine sy h ?_)|exact sq|fail)
  all_goals first
   |(refine k_step (l.length - (0 + 1)) (by omega) ⟨0 + 1, rfl, by omega, rfl, .cons rfl (.cons rfl (.cons rfl (.cons rfl .nil))), xg, hyes (by omega)⟩; done)
   |((refine kf ?_)
     refine ⟨?_, xg⟩
     rw [hno (by omega)]; rfl)
 ·have hlt1 : k - 1 < l.length := by omega
  have hr1 : Rd M1 i (o + (k - 1) * 2) 2 (bdc l[k - 1]) := (hr (k - 1) hlt1).grow hg
  have hr1' : Rd1 M1 i (o + ((k : Int) - 1).toNat * 2 + 1) (I (l[k - 1]'hlt1).2) := by
   rw [show ((k : Int) - 1).toNat = k - 1 by omega]; exact hr1.nth rfl
  rw [getD_eq hlt1] at hno hyes
  (have hrd0 := hr0;have hrd1 := hr1';repeat' first|with_reducible intro _|refine sv ?_|refine sc ?_ ?_<;>(intro h;try exact sz h)|(with_reducible first|apply x_same|apply d_same|apply d_same0);exact gd;exact rfl;exact rfl;exact c_within _ _ _ _|refine sg ?_ ?_<;>(intro h;first|exact sz h|refine sy h ?_)|exact sq|fail)
  all_goals first
   |(refine k_step (l.length - (k + 1)) (by omega) ⟨k + 1, rfl, by omega, rfl, .cons rfl (.cons rfl (.cons rfl (.cons rfl .nil))), xg, hyes (by omega)⟩; done)
   |((refine kf ?_)
     refine ⟨?_, xg⟩
     rw [hno (by omega)]; rfl)
theorem anyR_iff {n : Nat} {p : Nat -> Bool} : (List.range n).any p = true ↔ ∃ k, k < n /\ p k = true := by
 rw [List.any_eq_true]
 exact ⟨fun ⟨k, h1, h2⟩ => ⟨k, List.mem_range.1 h1, h2⟩, fun ⟨k, h1, h2⟩ => ⟨k, List.mem_range.2 h1, h2⟩⟩
set_option maxHeartbeats 1000000 in
theorem c_IndexFunc_sPt {a : Option (Nat × Nat)} {n : Nat} {f : Bool} {e : Nat} {g : FuncId} {fi ca : List LV} {M : Mem} (elem : Nat -> LV) (p : Nat -> Bool) (hn : n <= 1000000000000000)
  (hread : ∀ k, k < n -> ∃ i o, a = some (i, o) /\ Rd1 M i (o + k * 1) (elem k)) (hp : ∀ k, k < n -> ∀ M', Grow M M' -> CallOk Tryz.prog g (fi ++ [elem k] ++ ca) M' (fun w M'' => w = .bool (p k) /\ Grow M' M'')) :
  CallOk Tryz.prog 80 [.slice a n f e, .func (.func g) fi ca] M (fun w M' => ∃ r : Int, w = I r /\ (0 <= r ↔ (List.range n).any p = true) /\ Grow M M') := by
 refine call_in kq80 rfl ?_
 dsimp only [xq80, qm, ql, qi, qa, qn, qB, qC, qo, qq, zipE, Nat.reduceAdd]
 (repeat' first|with_reducible intro _|refine sv ?_|refine sc ?_ ?_<;>(intro h;try exact sz h)|refine sg ?_ ?_<;>(intro h;first|exact sz h|refine sy h ?_)|exact sq|fail)
 refine w_loop_ind (fun m E ms M' => ∃ k : Nat, m = n - k /\ k <= n /\ ms = [] /\ Has E [(0, .slice a n f e), (1, .func (.func g) fi ca), (7, I n), (8, I k)] /\ Grow M M' /\ ∀ j, j < k -> p j = false)
  ?_ n _ _ _ ⟨0, by omega, by omega, rfl, .cons rfl (.cons rfl (.cons rfl (.cons rfl .nil))), xg, fun j hj => absurd hj (Nat.not_lt_zero _)⟩
 rintro m E ms M1 ⟨k, rfl, hk, rfl, hE, hg, hall⟩
 have hle := hg.le
 refine w_has hE ?_
 by_cases hlast : k = n
 ·subst hlast
  (repeat' first|with_reducible intro _|refine sv ?_|refine sc ?_ ?_<;>(intro h;try exact sz h)|refine sg ?_ ?_<;>(intro h;first|exact sz h|refine sy h ?_)|exact sq|fail)
  (refine kf ?_)
  refine ⟨-1, rfl, ?_, xg⟩
  rw [anyR_iff]
  exact ⟨fun h => by omega, fun ⟨j, h1, h2⟩ => by rw [hall j h1] at h2; cases h2⟩
 have hlt : k < n := by omega
 obtain ⟨i, o, rfl, hr⟩ := hread k hlt
 have hr0 := hr.grow hg
 have hc := hp k hlt M1 hg
 cases hpk : p k with
 | true =>
  rw [hpk] at hc
  (have hrd0 := hr0;repeat' first|with_reducible intro _|refine sv ?_|refine sc ?_ ?_<;>(intro h;try exact sz h)|(with_reducible first|apply x_pure|apply d_pure|apply d_pure0);exact gd;exact rfl;exact rfl;exact hc|refine sg ?_ ?_<;>(intro h;first|exact sz h|refine sy h ?_)|exact sq|fail)
  (refine kf ?_)
  refine ⟨k, rfl, ?_, xg⟩
  rw [anyR_iff]
  exact ⟨fun _ => ⟨k, hlt, hpk⟩, fun _ => by omega⟩
 | false =>
  rw [hpk] at hc
  (have hrd0 := hr0;repeat' first|with_reducible intro _|refine sv ?_|refine sc ?_ ?_<;>(intro h;try exact sz h)|(with_reducible first|apply x_pure|apply d_pure|apply d_pure0);exact gd;exact rfl;exact rfl;exact hc|refine sg ?_ ?_<;>(intro h;first|exact sz h|refine sy h ?_)|exact sq|fail)
  refine k_step (n - (k + 1)) (by omega) ⟨k + 1, rfl, by omega, rfl, .cons rfl (.cons rfl (.cons rfl (.cons rfl .nil))), xg, fun j hj => ?_⟩
  by_cases hjk : j = k
  ·subst hjk; exact hpk
  ·exact hall j (by omega)
theorem c_ContainsFunc_sPt {a : Option (Nat × Nat)} {n : Nat} {f : Bool} {e : Nat} {g : FuncId} {fi ca : List LV} {M : Mem} (elem : Nat -> LV) (p : Nat -> Bool) (hn : n <= 1000000000000000)
  (hread : ∀ k, k < n -> ∃ i o, a = some (i, o) /\ Rd1 M i (o + k * 1) (elem k)) (hp : ∀ k, k < n -> ∀ M', Grow M M' -> CallOk Tryz.prog g (fi ++ [elem k] ++ ca) M' (fun w M'' => w = .bool (p k) /\ Grow M' M'')) :
  CallOk Tryz.prog 63 [.slice a n f e, .func (.func g) fi ca] M (fun w M' => w = .bool ((List.range n).any p) /\ Grow M M') := by
 refine call_in kq63 rfl ?_
 dsimp only [xq63, qm, qc, qC, qo, qq, zipE, Nat.reduceAdd]
 have hc := c_IndexFunc_sPt (f := f) (e := e) elem p hn hread hp
 (repeat' first|with_reducible intro _|refine sv ?_|refine sc ?_ ?_<;>(intro h;try exact sz h)|(with_reducible first|apply x_call|apply d_call|apply x_call0);exact gd;exact rfl;exact rfl;exact hc|refine sg ?_ ?_<;>(intro h;first|exact sz h|refine sy h ?_)|exact sq|fail)
 rename_i hq
 obtain ⟨r, rfl, hr, hg⟩ := hq
 (repeat' first|with_reducible intro _|refine sv ?_|refine sc ?_ ?_<;>(intro h;try exact sz h)|refine sg ?_ ?_<;>(intro h;first|exact sz h|refine sy h ?_)|exact sq|fail)
 (refine kf ?_)
 refine ⟨?_, hg⟩
 exact congrArg LV.bool (by rw [Bool.eq_iff_iff, decide_eq_true_iff]; exact hr)
set_option maxHeartbeats 1000000 in
theorem c_IndexFunc_Pt {a : Option (Nat × Nat)} {n : Nat} {f : Bool} {e : Nat} {g : FuncId} {fi ca : List LV} {M : Mem} (elem : Nat -> List LV) (p : Nat -> Bool) (hn : n <= 1000000000000000)
  (hread : ∀ k, k < n -> ∃ i o, a = some (i, o) /\ Rd M i (o + k * 2) 2 (elem k)) (hp : ∀ k, k < n -> ∀ M', Grow M M' -> CallOk Tryz.prog g (fi ++ [.agg (elem k)] ++ ca) M' (fun w M'' => w = .bool (p k) /\ Grow M' M'')) :
  CallOk Tryz.prog 106 [.slice a n f e, .func (.func g) fi ca] M (fun w M' => ∃ r : Int, w = I r /\ (0 <= r ↔ (List.range n).any p = true) /\ Grow M M') := by
 refine call_in kq106 rfl ?_
 dsimp only [xq106, qm, qL, qi, qa, qn, qB, qC, qo, qq, zipE, Nat.reduceAdd]
 (repeat' first|with_reducible intro _|refine sv ?_|refine sc ?_ ?_<;>(intro h;try exact sz h)|refine sg ?_ ?_<;>(intro h;first|exact sz h|refine sy h ?_)|exact sq|fail)
 refine w_loop_ind (fun m E ms M' => ∃ k : Nat, m = n - k /\ k <= n /\ ms = [] /\ Has E [(0, .slice a n f e), (1, .func (.func g) fi ca), (7, I n), (8, I k)] /\ Grow M M' /\ ∀ j, j < k -> p j = false)
  ?_ n _ _ _ ⟨0, by omega, by omega, rfl, .cons rfl (.cons rfl (.cons rfl (.cons rfl .nil))), xg, fun j hj => absurd hj (Nat.not_lt_zero _)⟩
 rintro m E ms M1 ⟨k, rfl, hk, rfl, hE, hg, hall⟩
 have hle := hg.le
 refine w_has hE ?_
 by_cases hlast : k = n
 ·subst hlast
  (repeat' first|with_reducible intro _|refine sv ?_|refine sc ?_ ?_<;>(intro h;try exact sz h)|refine sg ?_ ?_<;>(intro h;first|exact sz h|refine sy h ?_)|exact sq|fail)
  (refine kf ?_)
  refine ⟨-1, rfl, ?_, xg⟩
  rw [anyR_iff]
  exact ⟨fun h => by omega, fun ⟨j, h1, h2⟩ => by rw [hall j h1] at h2; cases h2⟩
 have hlt : k < n := by omega
 obtain ⟨i, o, rfl, hr⟩ := hread k hlt
 have hr0 := hr.grow hg
 have hc := hp k hlt M1 hg
 cases hpk : p k with
 | true =>
  rw [hpk] at hc
  (have hrd0 := hr0;repeat' first|with_reducible intro _|refine sv ?_|refine sc ?_ ?_<;>(intro h;try exact sz h)|(with_reducible first|apply x_pure|apply d_pure|apply d_pure0);exact gd;exact rfl;exact rfl;exact hc|refine sg ?_ ?_<;>(intro h;first|exact sz h|refine sy h ?_)|exact sq|fail)
  (refine kf ?_)
  refine ⟨k, rfl, ?_, xg⟩
  rw [anyR_iff]
  exact ⟨fun _ => ⟨k, hlt, hpk⟩, fun _ => by omega⟩
 | false =>
  rw [hpk] at hc
  (have hrd0 := hr0;repeat' first|with_reducible intro _|refine sv ?_|refine sc ?_ ?_<;>(intro h;try exact sz h)|(with_reducible first|apply x_pure|apply d_pure|apply d_pure0);exact gd;exact rfl;exact rfl;exact hc|refine sg ?_ ?_<;>(intro h;first|exact sz h|refine sy h ?_)|exact sq|fail)
  refine k_step (n - (k + 1)) (by omega) ⟨k + 1, rfl, by omega, rfl, .cons rfl (.cons rfl (.cons rfl (.cons rfl .nil))), xg, fun j hj => ?_⟩
  by_cases hjk : j = k
  ·subst hjk; exact hpk
  ·exact hall j (by omega)
theorem c_ContainsFunc_Pt {a : Option (Nat × Nat)} {n : Nat} {f : Bool} {e : Nat} {g : FuncId} {fi ca : List LV} {M : Mem} (elem : Nat -> List LV) (p : Nat -> Bool) (hn : n <= 1000000000000000)
  (hread : ∀ k, k < n -> ∃ i o, a = some (i, o) /\ Rd M i (o + k * 2) 2 (elem k)) (hp : ∀ k, k < n -> ∀ M', Grow M M' -> CallOk Tryz.prog g (fi ++ [.agg (elem k)] ++ ca) M' (fun w M'' => w = .bool (p k) /\ Grow M' M'')) :
  CallOk Tryz.prog 91 [.slice a n f e, .func (.func g) fi ca] M (fun w M' => w = .bool ((List.range n).any p) /\ Grow M M') := by
 refine call_in kq91 rfl ?_
 dsimp only [xq91, qm, qc, qC, qo, qq, zipE, Nat.reduceAdd]
 have hc := c_IndexFunc_Pt (f := f) (e := e) elem p hn hread hp
 (repeat' first|with_reducible intro _|refine sv ?_|refine sc ?_ ?_<;>(intro h;try exact sz h)|(with_reducible first|apply x_call|apply d_call|apply x_call0);exact gd;exact rfl;exact rfl;exact hc|refine sg ?_ ?_<;>(intro h;first|exact sz h|refine sy h ?_)|exact sq|fail)
 rename_i hq
 obtain ⟨r, rfl, hr, hg⟩ := hq
 (repeat' first|with_reducible intro _|refine sv ?_|refine sc ?_ ?_<;>(intro h;try exact sz h)|refine sg ?_ ?_<;>(intro h;first|exact sz h|refine sy h ?_)|exact sq|fail)
 (refine kf ?_)
 refine ⟨?_, hg⟩
 exact congrArg LV.bool (by rw [Bool.eq_iff_iff, decide_eq_true_iff]; exact hr)
theorem SlE.elems {α : Type} {sz : Nat} {enc : α -> List LV} {M : Mem} {a : Option (Nat × Nat)} {ll : List (List α)} (h : SlE sz enc M a ll) :
  ∃ (ea : Nat -> Option (Nat × Nat)) (ef : Nat -> Bool) (eq : Nat -> Nat), ∀ k (hk : k < ll.length), (∃ i o, a = some (i, o) /\ Rd1 M i (o + k * 1) (.slice (ea k) ll[k].length (ef k) (eq k))) /\ SlA sz enc M (ea k) ll[k] /\ ll[k].length <= 1000000000000000 := by
 have key : ∀ k : Nat, ∃ (x : Option (Nat × Nat) × Bool × Nat), ∀ hk : k < ll.length, (∃ i o, a = some (i, o) /\ Rd1 M i (o + k * 1) (.slice x.1 ll[k].length x.2.1 x.2.2)) /\ SlA sz enc M x.1 ll[k] /\ ll[k].length <= 1000000000000000 := fun k => by
  by_cases hk : k < ll.length
  ·obtain ⟨i, o, h1, h2⟩ := h.resolve_left (fun e => by subst e; simp at hk)
   obtain ⟨a', f', q', g1, g2, g3⟩ := h2 k hk
   exact ⟨(a', f', q'), fun _ => ⟨⟨i, o, h1, g1⟩, g2, g3⟩⟩
  ·exact ⟨(none, true, 0), fun hk' => absurd hk' hk⟩
 have ⟨g, hg⟩ := Classical.axiomOfChoice key
 exact ⟨fun k => (g k).1, fun k => (g k).2.1, fun k => (g k).2.2, fun k hk => hg k hk⟩
theorem c_cruise1 {a : Option (Nat × Nat)} {f : Bool} {q : Nat} {l : List Pt} {M : Mem} (hl : SlA 2 ptc M a l) (hlen : l.length <= 1000000000000000) : CallOk Tryz.prog 90 [.slice a l.length f q] M (fun w M' => w = .bool (decide (eFd l ≠ 0)) /\ Grow M M') := by
 refine call_in kq90 rfl ?_
 dsimp only [xq90, qm, qc, qC, qo, qq, zipE, Nat.reduceAdd]
 have hcf := fun M' (hg : Grow M M') => c_CheckField (f := f) (q := q) (hl.grow hg) hlen
 (repeat' first|with_reducible intro _|refine sv ?_|refine sc ?_ ?_<;>(intro h;try exact sz h)|(with_reducible first|apply x_pure|apply d_pure|apply d_pure0);exact gd;exact rfl;exact rfl;exact hcf _ (xg)|refine sg ?_ ?_<;>(intro h;first|exact sz h|refine sy h ?_)|exact sq|fail)
 (refine kf ?_)
 exact ⟨rfl, xg⟩
theorem c_cruise2 (p : Pt) (M : Mem) : CallOk Tryz.prog 92 [ptv p] M (fun w M' => w = .bool (decide (ePt p.1 p.2 ≠ 0)) /\ Grow M M') := by
 refine call_in kq92 rfl ?_
 dsimp only [xq92, qm, qL, qb, qc, qC, qo, qq, zipE, Nat.reduceAdd]
 (repeat' first|with_reducible intro _|refine sv ?_|refine sc ?_ ?_<;>(intro h;try exact sz h)|(with_reducible first|apply x_pure|apply d_pure|apply d_pure0);exact gd;exact rfl;exact rfl;exact c_CheckPoint _ _ _|refine sg ?_ ?_<;>(intro h;first|exact sz h|refine sy h ?_)|exact sq|fail)
 (refine kf ?_)
 exact ⟨rfl, xg⟩
theorem c_valid (p : Pt × Int) (M : Mem) : CallOk Tryz.prog 39 [.agg [I p.1.1, I p.1.2, I p.2]] M (fun w M' => w = .bool (decide (PlP p.1 /\ 0 <= p.2 /\ p.2 <= 7)) /\ Grow M M') := by
 refine call_in kq39 rfl ?_
 dsimp only [xq39, qm, qf, qL, qb, qc, qC, qg, qo, qq, qZ, zipE, Nat.reduceAdd]
 by_cases hp : PlP p.1
 ·have he : ePt p.1.1 p.1.2 = 0 := if_pos hp
  (repeat' first|with_reducible intro _|refine sv ?_|refine sc ?_ ?_<;>(intro h;try exact sz h)|(with_reducible first|apply x_same|apply d_same|apply d_same0);exact gd;exact rfl;exact rfl;exact c_within _ _ _ _|(with_reducible first|apply x_pure|apply d_pure|apply d_pure0);exact gd;exact rfl;exact rfl;exact c_CheckPoint _ _ _|refine sg ?_ ?_<;>(intro h;first|exact sz h|refine sy h ?_)|exact sq|fail)
  all_goals (refine kf ?_)
  all_goals refine ⟨?_, xg⟩
  all_goals exact lb_iff ⟨fun h => ⟨hp, h⟩, fun h => h.2⟩
 ·have he : ePt p.1.1 p.1.2 = 10 := if_neg hp
  (repeat' first|with_reducible intro _|refine sv ?_|refine sc ?_ ?_<;>(intro h;try exact sz h)|(with_reducible first|apply x_pure|apply d_pure|apply d_pure0);exact gd;exact rfl;exact rfl;exact c_CheckPoint _ _ _|refine sg ?_ ?_<;>(intro h;first|exact sz h|refine sy h ?_)|exact sq|fail)
  all_goals (refine kf ?_)
  all_goals refine ⟨?_, xg⟩
  all_goals exact lb_f (fun h => hp h.1)
theorem tightF_ok {r : Rg} (h : RgOk r /\ (tightO r).isSome = true) : (tightF r).2 = 0 := by
 unfold tightF
 rw [if_pos h.1]
 obtain ⟨t, ht⟩ := Option.isSome_iff_exists.1 h.2
 rw [ht]
theorem tightF_no {r : Rg} (h : ¬ (RgOk r /\ (tightO r).isSome = true)) : (tightF r).2 ≠ 0 := by
 unfold tightF
 by_cases h1 : RgOk r
 ·rw [if_pos h1]
  cases ht : tightO r with
  | none => decide
  | some t => exact absurd ⟨h1, by rw [ht]; rfl⟩ h
 ·rw [if_neg h1]; decide
set_option maxHeartbeats 8000000 in
theorem c_cruise {A : CrA} {s : Cr} {M : Mem} (hM : CrM M A s) : CallOk Tryz.prog 69 [crv A s] M (fun w M' => w = .bool (crB s) /\ Grow M M') := by
 refine call_in kq69 rfl ?_
 dsimp only [xq69, qm, qf, ql, qL, qi, qb, qe, qc, qa, qn, qB, qC, qg, qS, qo, qq, qZ, zipE, Nat.reduceAdd]
 obtain ⟨aL, fL, aF, fF, aB, fB, aO, fO, eF, eL, eB⟩ := A
 have hnl := hM.nl
 have hnf := hM.nf
 have hnb := hM.nb
 have hno := hM.no
 by_cases h0 : (1 <= s.lines.length /\ s.lines.length <= 5) /\ s.fields.length <= 4 /\ s.buoys.length <= 4 /\ s.opn.length = s.lines.length
 rotate_left
 ·have hb : crB s = false := crB_f fun hc => h0 ⟨⟨hc.n1, hc.n5⟩, hc.nf, hc.nb, hc.no⟩
  have h1 : ¬ ((1 <= (s.lines.length : Int) /\ (s.lines.length : Int) <= 5) /\ (s.fields.length : Int) <= 4 /\ (s.buoys.length : Int) <= 4 /\ (s.opn.length : Int) = s.lines.length) := by omega
  (repeat' first|with_reducible intro _|refine sv ?_|refine sc ?_ ?_<;>(intro h;try exact sz h)|(with_reducible first|apply x_same|apply d_same|apply d_same0);exact gd;exact rfl;exact rfl;exact c_within _ _ _ _|refine sg ?_ ?_<;>(intro h;first|exact sz h|refine sy h ?_)|exact sq|fail)
  all_goals first
   |(exfalso; omega)
   |((refine kf ?_)
     exact ⟨by rw [hb]; rfl, xg⟩)
 have h1 : (1 <= (s.lines.length : Int) /\ (s.lines.length : Int) <= 5) /\ (s.fields.length : Int) <= 4 /\ (s.buoys.length : Int) <= 4 /\ (s.opn.length : Int) = s.lines.length := by omega
 (repeat' first|with_reducible intro _|refine sv ?_|refine sc ?_ ?_<;>(intro h;try exact sz h)|(with_reducible first|apply x_same|apply d_same|apply d_same0);exact gd;exact rfl;exact rfl;exact c_within _ _ _ _|refine sg ?_ ?_<;>(intro h;first|exact sz h|refine sy h ?_)|exact sq|fail)
 rename_i n1 M1 hn1 e1 e2 _ _ _
 refine w_loop_ind (fun n E ms M' => ∃ k : Nat, n = s.lines.length - k /\ k <= s.lines.length /\ ms = [] /\ Has E [(1, .ptr (some (n1, 0))), (34, .slice aL s.lines.length fL eL), (35, I s.lines.length), (36, I k)] /\ Grow M M' /\ M1.next <= M'.next /\ At M' n1 (.cells true (crc ⟨aL, fL, aF, fF, aB, fB, aO, fO, eF, eL, eB⟩ s) 35) /\
   ∀ j (hj : j < s.lines.length), j < k -> LineOk s.lines[j] /\ WinOk (s.opn[j]'(by omega))) ?_ s.lines.length _ _ _
  ⟨0, by omega, by omega, rfl, .cons rfl (.cons rfl (.cons rfl (.cons rfl .nil))), xg, by omega, xm, fun j hj h => absurd h (Nat.not_lt_zero _)⟩
 rintro n E ms M2 ⟨k, rfl, hk, rfl, hE, hG, hle1, a1, hall⟩
 have hle := hG.le
 refine w_has hE ?_
 by_cases hlast : k = s.lines.length
 rotate_left
 ·have hlt : k < s.lines.length := by omega
  have hlt2 : k < s.opn.length := by omega
  obtain ⟨i, o, rfl, hr⟩ := (show SlA 4 legc M aL s.lines from hM.lines).resolve_left (fun e => by rw [e] at hlt; simp at hlt)
  obtain ⟨i2, o2, rfl, hr2⟩ := (show SlL 2 bdc M aO s.opn from hM.opn).resolve_left (fun e => by rw [e] at hlt2; simp at hlt2)
  obtain ⟨a', f', g1, g2, g3⟩ := hr2 k hlt2
  have r1 : Rd M2 i (o + k * 4) 4 (legc s.lines[k]) := (hr k hlt).grow hG
  have r2 : Rd1 M2 i2 (o2 + k * 1) (.slice a' s.opn[k].length f' 2) := g1.grow hG
  have hw := fun M' (hg : Grow M M') => c_windows (f := f') (g2.grow hg) g3
  have hi1 := r1.2
  have hi2 := r2.2
  have hbad : ¬ (LineOk s.lines[k] /\ WinOk s.opn[k]) -> crB s = false := fun hn => crB_f fun hc => hn ⟨hc.lines _ (List.getElem_mem hlt), hc.opn _ (List.getElem_mem hlt2)⟩
  have hgood : LineOk s.lines[k] /\ WinOk s.opn[k] -> ∀ j (hj : j < s.lines.length), j < k + 1 -> LineOk s.lines[j] /\ WinOk (s.opn[j]'(by omega)) := fun hg j hj h => by
   by_cases hjk : j = k
   ·subst hjk; exact hg
   ·exact hall j hj (by omega)
  clear hall
  by_cases q1 : PlP s.lines[k].1
  ·have e1 : ePt s.lines[k].1.1 s.lines[k].1.2 = 0 := if_pos q1
   by_cases q2 : PlP s.lines[k].2
   ·have e2 : ePt s.lines[k].2.1 s.lines[k].2.2 = 0 := if_pos q2
    by_cases q3 : s.lines[k].1.1 = s.lines[k].2.1 /\ s.lines[k].1.2 = s.lines[k].2.2
    ·have hb := hbad fun hh => hh.1.2.2 (Prod.ext q3.1 q3.2)
     (have hrd0 := r1;have hrd1 := r2;repeat' first|with_reducible intro _|refine sv ?_|refine sc ?_ ?_<;>(intro h;try exact sz h)|(with_reducible first|apply x_pure|apply d_pure|apply d_pure0);exact gd;exact rfl;exact rfl;exact c_CheckPoint _ _ _|refine sg ?_ ?_<;>(intro h;first|exact sz h|refine sy h ?_)|exact sq|fail)
     all_goals (refine kf ?_)
     all_goals exact ⟨by rw [hb]; rfl, xg⟩
    ·by_cases q4 : WinOk s.opn[k]
     ·rw [winB_t q4] at hw
      have hg := hgood ⟨⟨q1, q2, fun e => q3 (by rw [e]; exact ⟨rfl, rfl⟩)⟩, q4⟩
      (have hrd0 := r1;have hrd1 := r2;repeat' first|with_reducible intro _|refine sv ?_|refine sc ?_ ?_<;>(intro h;try exact sz h)|(with_reducible first|apply x_pure|apply d_pure|apply d_pure0);exact gd;exact rfl;exact rfl;(first|exact c_CheckPoint _ _ _|exact hw _ (xg))|refine sg ?_ ?_<;>(intro h;first|exact sz h|refine sy h ?_)|exact sq|fail)
      refine k_step (s.lines.length - (k + 1)) (by omega) ⟨k + 1, rfl, by omega, rfl, .cons rfl (.cons rfl (.cons rfl (.cons rfl .nil))), xg, by omega, xm, hg⟩
     ·have hb := hbad fun hh => q4 hh.2
      rw [winB_f q4] at hw
      (have hrd0 := r1;have hrd1 := r2;repeat' first|with_reducible intro _|refine sv ?_|refine sc ?_ ?_<;>(intro h;try exact sz h)|(with_reducible first|apply x_pure|apply d_pure|apply d_pure0);exact gd;exact rfl;exact rfl;(first|exact c_CheckPoint _ _ _|exact hw _ (xg))|refine sg ?_ ?_<;>(intro h;first|exact sz h|refine sy h ?_)|exact sq|fail)
      all_goals (refine kf ?_)
      all_goals exact ⟨by rw [hb]; rfl, xg⟩
   ·have e2 : ePt s.lines[k].2.1 s.lines[k].2.2 = 10 := if_neg q2
    have hb := hbad fun hh => q2 hh.1.2.1
    (have hrd0 := r1;have hrd1 := r2;repeat' first|with_reducible intro _|refine sv ?_|refine sc ?_ ?_<;>(intro h;try exact sz h)|(with_reducible first|apply x_pure|apply d_pure|apply d_pure0);exact gd;exact rfl;exact rfl;exact c_CheckPoint _ _ _|refine sg ?_ ?_<;>(intro h;first|exact sz h|refine sy h ?_)|exact sq|fail)
    all_goals (refine kf ?_)
    all_goals exact ⟨by rw [hb]; rfl, xg⟩
  ·have e1 : ePt s.lines[k].1.1 s.lines[k].1.2 = 10 := if_neg q1
   have hb := hbad fun hh => q1 hh.1.1
   (have hrd0 := r1;have hrd1 := r2;repeat' first|with_reducible intro _|refine sv ?_|refine sc ?_ ?_<;>(intro h;try exact sz h)|(with_reducible first|apply x_pure|apply d_pure|apply d_pure0);exact gd;exact rfl;exact rfl;exact c_CheckPoint _ _ _|refine sg ?_ ?_<;>(intro h;first|exact sz h|refine sy h ?_)|exact sq|fail)
   all_goals (refine kf ?_)
   all_goals exact ⟨by rw [hb]; rfl, xg⟩
 subst hlast
 (repeat' first|with_reducible intro _|refine sv ?_|refine sc ?_ ?_<;>(intro h;try exact sz h)|refine sg ?_ ?_<;>(intro h;first|exact sz h|refine sy h ?_)|exact sq|fail)
 have hfld := fun M' (hg : Grow M M') => (show SlE 2 ptc M aF s.fields from hM.fields).grow hg
 obtain ⟨ea, ef, eq, hel⟩ := (show SlE 2 ptc M aF s.fields from hM.fields).elems
 have hbu := show SlA 2 ptc M aB s.buoys from hM.buoys
 have hcF := fun (M' : Mem) (hg : Grow M M') => c_ContainsFunc_sPt (a := aF) (n := s.fields.length) (f := fF) (e := eF) (g := 90) (fi := []) (ca := []) (M := M') (fun k => .slice (ea k) (s.fields.getD k []).length (ef k) (eq k)) (fun k => decide (eFd (s.fields.getD k []) ≠ 0)) hnf
  (fun k hk => by obtain ⟨⟨i, o, h1, h2⟩, _⟩ := hel k hk; exact ⟨i, o, h1, by rw [getD_eq hk]; exact h2.grow hg⟩)
  (fun k hk M'' hg2 => by obtain ⟨_, h2, h3⟩ := hel k hk; rw [getD_eq hk]; exact c_cruise1 (h2.grow (hg.trans hg2)) h3)
 have hcB := fun (M' : Mem) (hg : Grow M M') => c_ContainsFunc_Pt (a := aB) (n := s.buoys.length) (f := fB) (e := eB) (g := 92) (fi := []) (ca := []) (M := M') (fun k => ptc (s.buoys.getD k (0, 0))) (fun k => decide (ePt (s.buoys.getD k (0, 0)).1 (s.buoys.getD k (0, 0)).2 ≠ 0)) hnb
  (fun k hk => by
   obtain ⟨i, o, h1, h2⟩ := hbu.resolve_left (fun e => by rw [e] at hk; simp at hk)
   exact ⟨i, o, h1, by rw [getD_eq hk]; exact (h2 k hk).grow hg⟩)
  (fun k hk M'' hg2 => c_cruise2 _ _)
 have hokF : ((List.range s.fields.length).any fun k => decide (eFd (s.fields.getD k []) ≠ 0)) = true ↔ ¬ ∀ l ∈ s.fields, FieldOk l := by
  rw [anyR_iff]
  constructor
  ·rintro ⟨k, hk, h2⟩ hall2
   rw [getD_eq hk] at h2
   exact absurd (if_pos (hall2 _ (List.getElem_mem hk))) (of_decide_eq_true h2)
  ·intro hn
   refine Classical.byContradiction fun hc => hn fun l hl => ?_
   obtain ⟨k, hk, rfl⟩ := List.getElem_of_mem hl
   refine Classical.byContradiction fun hf => hc ⟨k, hk, ?_⟩
   rw [getD_eq hk]
   exact decide_eq_true (by unfold eFd; rw [if_neg hf]; decide)
 have hokB : ((List.range s.buoys.length).any fun k => decide (ePt (s.buoys.getD k (0, 0)).1 (s.buoys.getD k (0, 0)).2 ≠ 0)) = true ↔ ¬ ∀ p ∈ s.buoys, PlP p := by
  rw [anyR_iff]
  constructor
  ·rintro ⟨k, hk, h2⟩ hall2
   rw [getD_eq hk] at h2
   exact absurd (if_pos (hall2 _ (List.getElem_mem hk))) (of_decide_eq_true h2)
  ·intro hn
   refine Classical.byContradiction fun hc => hn fun l hl => ?_
   obtain ⟨k, hk, rfl⟩ := List.getElem_of_mem hl
   refine Classical.byContradiction fun hf => hc ⟨k, hk, ?_⟩
   rw [getD_eq hk]
   exact decide_eq_true (by unfold ePt; rw [if_neg hf]; decide)
 have hlines : ∀ l ∈ s.lines, LineOk l := fun l hl => by
  obtain ⟨k, hk, rfl⟩ := List.getElem_of_mem hl
  exact (hall k hk hk).1
 have hopn : ∀ l ∈ s.opn, WinOk l := fun l hl => by
  obtain ⟨k, hk, rfl⟩ := List.getElem_of_mem hl
  exact (hall k (by omega) (by omega)).2
 generalize (List.range s.fields.length).any (fun k => decide (eFd (s.fields.getD k []) ≠ 0)) = bF at hokF hcF
 generalize (List.range s.buoys.length).any (fun k => decide (ePt (s.buoys.getD k (0, 0)).1 (s.buoys.getD k (0, 0)).2 ≠ 0)) = bB at hokB hcB
 cases bF with
 | true =>
  have hb : crB s = false := crB_f fun hc => hokF.1 rfl hc.fields
  (repeat' first|with_reducible intro _|refine sv ?_|refine sc ?_ ?_<;>(intro h;try exact sz h)|(with_reducible first|apply x_pure|apply d_pure|apply d_pure0);exact gd;exact rfl;exact rfl;exact hcF _ (xg)|refine sg ?_ ?_<;>(intro h;first|exact sz h|refine sy h ?_)|exact sq|fail)
  all_goals (refine kf ?_)
  all_goals exact ⟨by rw [hb]; rfl, xg⟩
 | false =>
 cases bB with
 | true =>
  have hb : crB s = false := crB_f fun hc => hokB.1 rfl hc.buoys
  (repeat' first|with_reducible intro _|refine sv ?_|refine sc ?_ ?_<;>(intro h;try exact sz h)|(with_reducible first|apply x_pure|apply d_pure|apply d_pure0);exact gd;exact rfl;exact rfl;(first|exact hcF _ (xg)|exact hcB _ (xg))|refine sg ?_ ?_<;>(intro h;first|exact sz h|refine sy h ?_)|exact sq|fail)
  all_goals (refine kf ?_)
  all_goals exact ⟨by rw [hb]; rfl, xg⟩
 | false =>
 have hf1 : ∀ l ∈ s.fields, FieldOk l := Classical.byContradiction fun hc => by have := hokF.2 hc; cases this
 have hb1 : ∀ p ∈ s.buoys, PlP p := Classical.byContradiction fun hc => by have := hokB.2 hc; cases this
 by_cases hT : RgOk s.spread /\ (tightO s.spread).isSome = true
 rotate_left
 ·have hb : crB s = false := crB_f fun hc => hT ⟨hc.spread.1, hc.spread.2.1⟩
  have ht := tightF_no hT
  (repeat' first|with_reducible intro _|refine sv ?_|refine sc ?_ ?_<;>(intro h;try exact sz h)|(with_reducible first|apply x_pure|apply d_pure|apply d_pure0);exact gd;exact rfl;exact rfl;(first|exact hcF _ (xg)|exact hcB _ (xg)|exact c_Tight s.spread _)|refine sg ?_ ?_<;>(intro h;first|exact sz h|refine sy h ?_)|exact sq|fail)
  all_goals (refine kf ?_)
  all_goals exact ⟨by rw [hb]; rfl, xg⟩
 have ht := tightF_ok hT
 have hrg := hT.1
 dsimp only [RgOk, fitsP] at hrg
 by_cases hW : s.spread.1.2 - s.spread.1.1 <= 256 /\ s.spread.2.1.2 - s.spread.2.1.1 <= 256
 rotate_left
 ·have hb : crB s = false := crB_f fun hc => hW ⟨hc.spread.2.2.1, hc.spread.2.2.2⟩
  (repeat' first|with_reducible intro _|refine sv ?_|refine sc ?_ ?_<;>(intro h;try exact sz h)|(with_reducible first|apply x_pure|apply d_pure|apply d_pure0);exact gd;exact rfl;exact rfl;(first|exact hcF _ (xg)|exact hcB _ (xg)|exact c_Tight s.spread _)|refine sg ?_ ?_<;>(intro h;first|exact sz h|refine sy h ?_)|exact sq|fail)
  all_goals first
   |(exfalso; omega)
   |((refine kf ?_)
     exact ⟨by rw [hb]; rfl, xg⟩)
 by_cases hp : PlP s.start.1 /\ 0 <= s.start.2 /\ s.start.2 <= 7
 rotate_left
 ·have hb : crB s = false := crB_f fun hc => hp hc.start
  (repeat' first|with_reducible intro _|refine sv ?_|refine sc ?_ ?_<;>(intro h;try exact sz h)|(with_reducible first|apply x_same|apply d_same|apply d_same0);exact gd;exact rfl;exact rfl;exact c_within _ _ _ _|(with_reducible first|apply x_pure|apply d_pure|apply d_pure0);exact gd;exact rfl;exact rfl;(first|exact hcF _ (xg)|exact hcB _ (xg)|exact c_Tight s.spread _|exact c_valid s.start _)|refine sg ?_ ?_<;>(intro h;first|exact sz h|refine sy h ?_)|exact sq|fail)
  all_goals first
   |(exact absurd (by assumption) hp)
   |((refine kf ?_)
     exact ⟨by rw [hb]; rfl, xg⟩)
 by_cases hS : (1 <= s.speed /\ s.speed <= 1000) /\ (0 <= s.turn /\ s.turn <= 1000)
 ·have hb : crB s = true := crB_t ⟨h0.1.1, h0.1.2, h0.2.1, h0.2.2.1, h0.2.2.2, hlines, hopn, hf1, hb1, ⟨hT.1, hT.2, hW.1, hW.2⟩, hp, hS.1, hS.2⟩
  (repeat' first|with_reducible intro _|refine sv ?_|refine sc ?_ ?_<;>(intro h;try exact sz h)|(with_reducible first|apply x_same|apply d_same|apply d_same0);exact gd;exact rfl;exact rfl;exact c_within _ _ _ _|(with_reducible first|apply x_pure|apply d_pure|apply d_pure0);exact gd;exact rfl;exact rfl;(first|exact hcF _ (xg)|exact hcB _ (xg)|exact c_Tight s.spread _|exact c_valid s.start _)|refine sg ?_ ?_<;>(intro h;first|exact sz h|refine sy h ?_)|exact sq|fail)
  all_goals first
   |(exact absurd hp (by assumption))
   |((refine kf ?_)
     refine ⟨?_, xg⟩
     rw [hb]
     exact congrArg LV.bool (decide_eq_true hS.2))
 ·have hb : crB s = false := crB_f fun hc => hS ⟨hc.speed, hc.turn⟩
  (repeat' first|with_reducible intro _|refine sv ?_|refine sc ?_ ?_<;>(intro h;try exact sz h)|(with_reducible first|apply x_same|apply d_same|apply d_same0);exact gd;exact rfl;exact rfl;exact c_within _ _ _ _|(with_reducible first|apply x_pure|apply d_pure|apply d_pure0);exact gd;exact rfl;exact rfl;(first|exact hcF _ (xg)|exact hcB _ (xg)|exact c_Tight s.spread _|exact c_valid s.start _)|refine sg ?_ ?_<;>(intro h;first|exact sz h|refine sy h ?_)|exact sq|fail)
  all_goals first
   |(exact absurd hp (by assumption))
   |((refine kf ?_)
     refine ⟨?_, xg⟩
     rw [hb]
     first | rfl | exact congrArg LV.bool (decide_eq_false fun ht => hS ⟨by assumption, ht⟩))
noncomputable def eCrB (s : Cr) : Int := if crB s = true then 0 else 40
theorem c_CheckCruise {A : CrA} {s : Cr} {M : Mem} (hM : CrM M A s) : CallOk Tryz.prog 54 [crv A s] M (fun w M' => w = I (eCrB s) /\ Grow M M') := by
 refine call_in kq54 rfl ?_
 dsimp only [xq54, qL, qi, qb, qc, qo, qq, zipE, Nat.reduceAdd]
 have hc := fun M' (hg : Grow M M') => c_cruise (hM.grow hg)
 (repeat' first|with_reducible intro _|refine sv ?_|refine sc ?_ ?_<;>(intro h;try exact sz h)|(with_reducible first|apply x_pure|apply d_pure|apply d_pure0);exact gd;exact rfl;exact rfl;exact hc _ (xg)|refine sg ?_ ?_<;>(intro h;first|exact sz h|refine sy h ?_)|exact sq|fail)
 all_goals (refine kf ?_)
 all_goals refine ⟨?_, xg⟩
 ·unfold eCrB; rw [if_neg (by rw [h]; decide)]; rfl
 ·unfold eCrB; rw [if_pos h]; rfl
abbrev chc (A : CrA) (s : Cr) (pm : Nat) : List LV := [.slice A.aL s.lines.length A.fL A.eL, .slice A.aF s.fields.length A.fF A.eF, .slice A.aB s.buoys.length A.fB A.eB, I s.spread.1.1, I s.spread.1.2, I s.spread.2.1.1, I s.spread.2.1.2, I s.spread.2.2.1.1, I s.spread.2.2.1.2, I s.spread.2.2.2.1, I s.spread.2.2.2.2,
 I s.start.1.1, I s.start.1.2, I s.start.2, I s.speed, I s.turn, .slice A.aO s.opn.length A.fO 1, .map (some pm)]
abbrev wayw (a b : Pt) : LV := .agg [I a.1, I a.2, I b.1, I b.2]
abbrev wayv (q : Pt × Pt) : LV := wayw q.1 q.2
def KnM (M : Mem) (s : Cr) (pm : Nat) : Prop := ∃ L : List ((Pt × Pt) × Bool), At M pm (.map (encM wayv .bool L)) /\ ∀ p ∈ L, p.2 = clearF s p.1.1 p.1.2
structure ChM (M : Mem) (A : CrA) (s : Cr) (pc pm : Nat) : Prop where
 cr : CrM M A s
 cells : At M pc (.cells true (chc A s pm) 82)
 ne : pc ≠ pm
 known : KnM M s pm
theorem c_chartOf {A : CrA} {s : Cr} {M : Mem} (hM : CrM M A s) : CallOk Tryz.prog 38 [crv A s] M (fun w M' => Grow M M' /\ ((¬ CrOk s /\ w = .tup [.ptr none, I 40]) ∨ (CrOk s /\ ∃ pc pm, w = .tup [.ptr (some (pc, 0)), I 0] /\ ChM M' A s pc pm /\ M.next <= pc /\ M.next <= pm))) := by
 refine call_in kq38 rfl ?_
 dsimp only [xq38, qm, qL, qi, qb, qc, qC, qo, qq, qZ, qN, zipE, Nat.reduceAdd]
 have hc := fun M' (hg : Grow M M') => c_CheckCruise (hM.grow hg)
 by_cases hok : CrOk s
 ·have he : eCrB s = 0 := if_pos (crB_t hok)
  rw [he] at hc
  (repeat' first|with_reducible intro _|refine sv ?_|refine sc ?_ ?_<;>(intro h;try exact sz h)|(with_reducible first|apply x_pure|apply d_pure|apply d_pure0);exact gd;exact rfl;exact rfl;exact hc _ (xg)|refine sg ?_ ?_<;>(intro h;first|exact sz h|refine sy h ?_)|exact sq|fail)
  (refine kf ?_)
  exact ⟨xg, .inr ⟨hok, _, _, rfl, ⟨hM.grow (xg), xm, by omega, [], xm, fun p hp => by cases hp⟩, by omega, by omega⟩⟩
 ·have he : eCrB s = 40 := if_neg (by rw [crB_f hok]; decide)
  rw [he] at hc
  (repeat' first|with_reducible intro _|refine sv ?_|refine sc ?_ ?_<;>(intro h;try exact sz h)|(with_reducible first|apply x_pure|apply d_pure|apply d_pure0);exact gd;exact rfl;exact rfl;exact hc _ (xg)|refine sg ?_ ?_<;>(intro h;first|exact sz h|refine sy h ?_)|exact sq|fail)
  (refine kf ?_)
  exact ⟨xg, .inl ⟨hok, rfl⟩⟩
theorem ko_straight (q : Pt × Pt) : keyOk Tryz.prog 10000 98 (wayv q) = true := by kernel_rfl
theorem eq_straight (a b : Pt × Pt) : eqL Tryz.prog Op.maxDepth 98 (wayv a) (wayv b) = some (decide (a = b)) := by
 refine shape_ok 6 Op.maxDepth 98 [0, 1, 2, 3] (by decide) (by kernel_rfl) _ _ _ (fun N hN => ?_) ?_
 ·have h4 : szOf Tryz.prog 98 = some 4 := by kernel_rfl
  rw [h4] at hN
  cases hN
  exact ⟨Nat.le_refl _, Nat.le_refl _⟩
 ·show some (decide (a.1.1 = b.1.1) && (decide (a.1.2 = b.1.2) && (decide (a.2.1 = b.2.1) && (decide (a.2.2 = b.2.2) && true)))) = _
  congr 1
  rw [Bool.eq_iff_iff]
  simp only [Bool.and_eq_true, decide_eq_true_eq, and_true]
  exact ⟨fun ⟨h1, h2, h3, h4⟩ => Prod.ext (Prod.ext h1 h2) (Prod.ext h3 h4), fun h => by rw [h]; exact ⟨rfl, rfl, rfl, rfl⟩⟩
set_option maxHeartbeats 1000000 in
theorem c_steps {A : CrA} {s : Cr} {pc pm : Nat} {a b : Pt} {M : Mem} (hC : At M pc (.cells true (chc A s pm) 82)) (hs : 1 <= s.speed /\ s.speed <= 1000) (ha : PlP a) (hb : PlP b) :
  CallOk Tryz.prog 35 [.ptr (some (pc, 0)), wayw a b] M (fun w M' => w = I (stepsF s.speed a b) /\ Grow M M') := by
 have hd := dist_bd ha hb
 have hpc := hC.2
 have hn : 0 <= distF a b /\ distF a b <= 8589934592 := by unfold distF; omega
 have hsq := sqF_spec hn.1
 have hsb := sqF_le (B := 100000) hn.1 (by omega) (by omega)
 have hm := mul_bd (a := sqF (distF a b)) (b := sqF (distF a b)) (A := 100000) (B := 100000) (by omega) (by omega)
 unfold stepsF sqU
 unfold distF at *
 dsimp only [PlP, Pl] at ha hb
 refine call_in kq35 rfl ?_
 dsimp only [xq35, qm, qf, ql, qi, qb, qe, qc, qB, qC, qo, qk, qK, qq, zipE, Nat.reduceAdd]
 (repeat' first|with_reducible intro _|refine sv ?_|refine sc ?_ ?_<;>(intro h;try exact sz h)|(with_reducible first|apply x_same|apply d_same|apply d_same0);exact gd;exact rfl;exact rfl;exact c_Root _ (by omega) _|refine sg ?_ ?_<;>(intro h;first|exact sz h|refine sy h ?_)|exact sq|fail)
 all_goals (refine kf ?_)
 all_goals refine ⟨?_, xg⟩
 ·rw [if_pos (by omega)]; rfl
 ·rw [if_neg (by omega)]; rfl
theorem c_clear1 {a : Option (Nat × Nat)} {f : Bool} {q : Nat} {l : List Pt} {r : Rg} {p : Nat} {own : Bool} {ty : TypeId} {M : Mem} (hl : SlA 2 ptc M a l) (hlen : l.length <= 1000000000000000) (hp : At M p (.cells own (rgc r) ty)) :
  CallOk Tryz.prog 64 [.slice a l.length f q, .ptr (some (p, 0))] M (fun w M' => w = .bool (decide ((hitsF l r).2 = 0)) /\ Grow M M') := by
 refine call_in kq64 rfl ?_
 dsimp only [xq64, qm, qL, qe, qc, qC, qS, qo, qq, qZ, zipE, Nat.reduceAdd]
 have hh := fun M' (hg : Grow M M') => c_Hits (f := f) (q := q) (r := r) (hl.grow hg) hlen
 (repeat' first|with_reducible intro _|refine sv ?_|refine sc ?_ ?_<;>(intro h;try exact sz h)|(with_reducible first|apply x_pure|apply d_pure|apply d_pure0);exact gd;exact rfl;exact rfl;exact hh _ (xg)|refine sg ?_ ?_<;>(intro h;first|exact sz h|refine sy h ?_)|exact sq|fail)
 (refine kf ?_)
 exact ⟨rfl, xg⟩
set_option maxHeartbeats 1000000 in
theorem c_clear {A : CrA} {s : Cr} {pc pm : Nat} {a b : Pt} {M : Mem} (hC : ChM M A s pc pm) :
  CallOk Tryz.prog 49 [.ptr (some (pc, 0)), wayw a b] M (fun w M' => w = .bool (clearF s a b) /\ Keep (fun i => i = pm) M M' /\ KnM M' s pm) := by
 obtain ⟨hM, hcell, hne, L, hL, hkn⟩ := hC
 have hpc := hcell.2
 have hpm := hL.2
 refine call_in kq49 rfl ?_
 dsimp only [xq49, qm, qf, ql, qL, qb, qe, qc, qC, qg, qS, qo, qk, qK, qq, qZ, zipE, Nat.reduceAdd]
 (repeat' first|with_reducible intro _|refine sv ?_|refine sc ?_ ?_<;>(intro h;try exact sz h)|refine sg ?_ ?_<;>(intro h;first|exact sz h|refine sy h ?_)|exact sq|fail)
 rename_i n3 M1 hn3 e1 e2
 have hL1 : At M1 pm (.map (encM wayv .bool L)) := xm
 rcases findL_enc (P := Tryz.prog) (ek := wayv) (ev := LV.bool) eq_straight (a, b) L 0 with ⟨hf, hnew⟩ | ⟨j, v, hf, hin⟩
 ·refine d_lkp_none (by exact gd) rfl rfl (ko_straight (a, b)) hL1 hf ?_
  have hfin : ∀ (M2 M3 : Mem) (v : Bool), v = clearF s a b -> At M2 pm (.map (encM wayv .bool L)) -> Keep (fun i => i = pm) M M2 -> Upd M2 pm (.map (encM wayv .bool L ++ [(wayw a b, .bool v)])) M3 -> Keep (fun i => i = pm) M M3 /\ KnM M3 s pm := fun M2 M3 v hv h2 hk hu => by
   refine ⟨xk, L ++ [((a, b), v)], ?_, fun p hp => ?_⟩
   ·rw [<- encM_append]; exact At.upd_same hu h2
   ·rcases List.mem_append.1 hp with hp | hp
    ·exact hkn p hp
    ·obtain rfl := List.mem_singleton.1 hp; exact hv
  by_cases hsw : (sweptF s.spread a b).2 = 0
  ·obtain ⟨aL, fL, aF, fF, aB, fB, aO, fO, eF, eL, eB⟩ := A
   obtain ⟨ea, ef, eq, hel⟩ := (show SlE 2 ptc M aF s.fields from hM.fields).elems
   have hnf := hM.nf
   have hany : ((List.range s.fields.length).any fun k => decide ((hitsF (s.fields.getD k []) (sweptF s.spread a b).1).2 = 0)) = s.fields.any fun f => decide ((hitsF f (sweptF s.spread a b).1).2 = 0) := by
    rw [Bool.eq_iff_iff, anyR_iff, List.any_eq_true]
    constructor
    ·rintro ⟨k, hk, h2⟩; rw [getD_eq hk] at h2; exact ⟨_, List.getElem_mem hk, h2⟩
    ·rintro ⟨l, hl, h2⟩
     obtain ⟨k, hk, rfl⟩ := List.getElem_of_mem hl
     exact ⟨k, hk, by rw [getD_eq hk]; exact h2⟩
   (repeat' first|with_reducible intro _|refine sv ?_|refine sc ?_ ?_<;>(intro h;try exact sz h)|(with_reducible first|apply x_pure|apply d_pure|apply d_pure0);exact gd;exact rfl;exact rfl;exact c_Swept s.spread a b _|refine sg ?_ ?_<;>(intro h;first|exact sz h|refine sy h ?_)|exact sq|fail)
   rename_i M4 hg4 e4 n7 M5 hn7 e5 e6 M6 hu6 e7 a7
   have hg6 : Grow M M6 := xg
   have hcc := c_ContainsFunc_sPt (a := aF) (n := s.fields.length) (f := fF) (e := eF) (g := 64) (fi := []) (ca := [.ptr (some (n7, 0))]) (M := M6) (fun k => .slice (ea k) (s.fields.getD k []).length (ef k) (eq k)) (fun k => decide ((hitsF (s.fields.getD k []) (sweptF s.spread a b).1).2 = 0)) hnf
    (fun k hk => by obtain ⟨⟨i, o, h1, h2⟩, _⟩ := hel k hk; exact ⟨i, o, h1, by rw [getD_eq hk]; exact h2.grow hg6⟩)
    (fun k hk M'' hg2 => by obtain ⟨_, h2, h3⟩ := hel k hk; rw [getD_eq hk]; exact c_clear1 (h2.grow (hg6.trans hg2)) h3 (a7.grow hg2))
   rw [hany] at hcc
   (repeat' first|with_reducible intro _|refine sv ?_|refine sc ?_ ?_<;>(intro h;try exact sz h)|(with_reducible first|apply x_pure|apply d_pure|apply d_pure0);exact gd;exact rfl;exact rfl;exact hcc|refine sg ?_ ?_<;>(intro h;first|exact sz h|refine sy h ?_)|exact sq|fail)
   refine d_mset_none (by exact gd) rfl rfl rfl (ko_straight (a, b)) (xm) hf ?_
   intro M8 hu8 e8 a8
   have hv : (!(s.fields.any fun f => decide ((hitsF f (sweptF s.spread a b).1).2 = 0))) = clearF s a b := by unfold clearF; rw [decide_eq_true hsw, Bool.true_and]
   obtain ⟨hk8, hkn8⟩ := hfin _ M8 _ hv (xm) (xk) hu8
   (repeat' first|with_reducible intro _|refine sv ?_|refine sc ?_ ?_<;>(intro h;try exact sz h)|refine sg ?_ ?_<;>(intro h;first|exact sz h|refine sy h ?_)|exact sq|fail)
   (refine kf ?_)
   exact ⟨congrArg LV.bool hv, hk8, hkn8⟩
  ·(repeat' first|with_reducible intro _|refine sv ?_|refine sc ?_ ?_<;>(intro h;try exact sz h)|(with_reducible first|apply x_pure|apply d_pure|apply d_pure0);exact gd;exact rfl;exact rfl;exact c_Swept s.spread a b _|refine sg ?_ ?_<;>(intro h;first|exact sz h|refine sy h ?_)|exact sq|fail)
   refine d_mset_none (by exact gd) rfl rfl rfl (ko_straight (a, b)) (xm) hf ?_
   intro M8 hu8 e8 a8
   have hv : false = clearF s a b := by unfold clearF; rw [decide_eq_false hsw, Bool.false_and]
   obtain ⟨hk8, hkn8⟩ := hfin _ M8 _ hv (xm) (xk) hu8
   (repeat' first|with_reducible intro _|refine sv ?_|refine sc ?_ ?_<;>(intro h;try exact sz h)|refine sg ?_ ?_<;>(intro h;first|exact sz h|refine sy h ?_)|exact sq|fail)
   (refine kf ?_)
   exact ⟨congrArg LV.bool hv, hk8, hkn8⟩
 ·obtain rfl : v = clearF s a b := hkn _ hin
  refine d_lkp_some (by exact gd) rfl rfl (ko_straight (a, b)) hL1 hf ?_
  (repeat' first|with_reducible intro _|refine sv ?_|refine sc ?_ ?_<;>(intro h;try exact sz h)|refine sg ?_ ?_<;>(intro h;first|exact sz h|refine sy h ?_)|exact sq|fail)
  (refine kf ?_)
  exact ⟨rfl, xk, L, hL1, hkn⟩
theorem ChM.grow {M M' : Mem} {A : CrA} {s : Cr} {pc pm : Nat} (h : ChM M A s pc pm) (hg : Grow M M') : ChM M' A s pc pm :=
 ⟨h.cr.grow hg, h.cells.grow hg, h.ne, let ⟨L, h1, h2⟩ := h.known; ⟨L, h1.grow hg, h2⟩⟩
noncomputable def askE (s : Cr) (a b : Pt) : Int := if crB s = true then (if Pl a.1 a.2 /\ Pl b.1 b.2 then 0 else 10) else 40
noncomputable def StepsF (s : Cr) (a b : Pt) : Int × Int := (if askE s a b = 0 then stepsF s.speed a b else 0, askE s a b)
noncomputable def ClearF (s : Cr) (a b : Pt) : Bool × Int := (if askE s a b = 0 then clearF s a b else false, askE s a b)
end Go.Proofs.YtifcpjfpjkoicaaGreat.C
end
