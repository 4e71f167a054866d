/-
 Part of the proof of CourseMovedUpto: what functions of the program and of the statement come to, walked by the rules. No condition beyond those in each theorem.
-/
import Derived.Test.YtifcpjfpjkoicaaGreatTA
import Derived.Test.YtifcpjfpjkoicaaGreatTS
section
open Go PvL Go.Proofs
set_option linter.unusedSimpArgs false
set_option linter.unusedVariables false
namespace Go.Proofs.YtifcpjfpjkoicaaGreat.C
theorem c_left (a b c : Pt) (ha : PlP a) (hb : PlP b) (hc : PlP c) (M : Mem) : CallOk Tryz.prog 102 [ptv a, ptv b, ptv c] M (fun w M' => w = I (turnP a b c) /\ Grow M M') := by
 have ht := turn_bd ha hb hc
 dsimp only [PlP, Pl] at ha hb hc
 refine call_in kq102 rfl ?_
 dsimp only [xq102, qm, qf, ql, qi, qb, qB, qq, zipE, Nat.reduceAdd]
 (repeat' first|with_reducible intro _|refine sv ?_|refine sc ?_ ?_<;>(intro h;try exact sz h)|refine sg ?_ ?_<;>(intro h;first|exact sz h|refine sy h ?_)|exact sq|fail)
 (refine kf ?_)
 exact ⟨rfl, xg⟩
set_option maxHeartbeats 4000000 in
theorem c_CheckField {a : Option (Nat × Nat)} {f : Bool} {q : Nat} {l : List Pt} {M : Mem} (hl : SlA 2 ptc M a l) (hlen : l.length <= 1000000000000000) : CallOk Tryz.prog 82 [.slice a l.length f q] M (fun w M' => w = I (eFd l) /\ Grow M M') := by
 refine call_in kq82 rfl ?_
 dsimp only [xq82, qm, qL, qi, qc, qa, qn, qB, qC, qg, qS, qo, qk, qK, qq, qZ, zipE, Nat.reduceAdd]
 by_cases hn : 3 <= l.length /\ l.length <= 8
 rotate_left
 ·have hno : eFd l = 12 := if_neg fun h => hn ⟨h.1, h.2.1⟩
  have hw : ¬ (3 <= (l.length : Int) /\ (l.length : Int) <= 8) := by omega
  (repeat' first|with_reducible intro _|refine sv ?_|refine sc ?_ ?_<;>(intro h;try exact sz h)|(with_reducible first|apply x_same|apply d_same|apply d_same0);exact gd;exact rfl;exact rfl;exact c_rwithin _ _ _ _|refine sg ?_ ?_<;>(intro h;first|exact sz h|refine sy h ?_)|exact sq|fail)
  all_goals (refine kf ?_)
  all_goals exact ⟨by rw [hno]; rfl, xg⟩
 obtain ⟨i, o, rfl, hr⟩ := hl.resolve_left (fun h => by subst h; simp at hn)
 have hw : (3 <= (l.length : Int) /\ (l.length : Int) <= 8) := by omega
 (repeat' first|with_reducible intro _|refine sv ?_|refine sc ?_ ?_<;>(intro h;try exact sz h)|(with_reducible first|apply x_same|apply d_same|apply d_same0);exact gd;exact rfl;exact rfl;exact c_rwithin _ _ _ _|refine sg ?_ ?_<;>(intro h;first|exact sz h|refine sy h ?_)|exact sq|fail)
 refine w_loop_ind (fun n E ms M' => ∃ k : Nat, n = l.length - k /\ k <= l.length /\ ms = [] /\ Has E [(0, .slice (some (i, o)) l.length f q), (14, .slice (some (i, o)) l.length f q), (15, I l.length), (16, I k)] /\ Grow M M' /\ ∀ p ∈ l.take k, PlP p)
  ?_ l.length _ _ _ ⟨0, by omega, by omega, rfl, .cons rfl (.cons rfl (.cons rfl (.cons rfl .nil))), xg, by simp⟩
 rintro n E ms M1 ⟨k, rfl, hk, rfl, hE, hg, hpl⟩
 have hle := hg.le
 refine w_has hE ?_
 have hr1 : ∀ k (hk : k < l.length), Rd M1 i (o + k * 2) 2 (ptc l[k]) := fun k hk => (hr k hk).grow hg
 by_cases hlast : k = l.length
 rotate_left
 ·have hlt : k < l.length := by omega
  have htake : l.take (k + 1) = l.take k ++ [l[k]] := List.take_succ_eq_append_getElem hlt
  by_cases hp : PlP l[k]
  ·have he : ePt l[k].1 l[k].2 = 0 := if_pos hp
   (have hrd0 := hr1 k hlt;repeat' first|with_reducible intro _|refine sv ?_|refine sc ?_ ?_<;>(intro h;try exact sz h)|(with_reducible first|apply x_pure|apply d_pure|apply d_pure0);exact gd;exact rfl;exact rfl;exact c_CheckPoint _ _ _|refine sg ?_ ?_<;>(intro h;first|exact sz h|refine sy h ?_)|exact sq|fail)
   refine k_step (l.length - (k + 1)) (by omega) ⟨k + 1, rfl, by omega, rfl, .cons rfl (.cons rfl (.cons rfl (.cons rfl .nil))), xg, ?_⟩
   rw [htake]
   intro p hp'
   rcases List.mem_append.1 hp' with h | h
   ·exact hpl p h
   ·obtain rfl := List.mem_singleton.1 h; exact hp
  ·have he : ePt l[k].1 l[k].2 = 10 := if_neg hp
   have hno : eFd l = 12 := if_neg fun h => hp (h.2.2.1 _ (List.getElem_mem hlt))
   (have hrd0 := hr1 k hlt;repeat' first|with_reducible intro _|refine sv ?_|refine sc ?_ ?_<;>(intro h;try exact sz h)|(with_reducible first|apply x_pure|apply d_pure|apply d_pure0);exact gd;exact rfl;exact rfl;exact c_CheckPoint _ _ _|refine sg ?_ ?_<;>(intro h;first|exact sz h|refine sy h ?_)|exact sq|fail)
   all_goals (refine kf ?_)
   all_goals exact ⟨by rw [hno]; rfl, xg⟩
 subst hlast
 rw [List.take_length] at hpl
 (repeat' first|with_reducible intro _|refine sv ?_|refine sc ?_ ?_<;>(intro h;try exact sz h)|refine sg ?_ ?_<;>(intro h;first|exact sz h|refine sy h ?_)|exact sq|fail)
 have hpl' : ∀ (i : Nat) (h : i < l.length), PlP l[i] := fun i h => hpl _ (List.getElem_mem h)
 have hmod : ∀ i : Nat, ((i : Int) + 1) % (l.length : Int) = (((i + 1) % l.length : Nat) : Int) := fun i => by rw [Int.natCast_emod]; rfl
 have hml : ∀ i : Nat, (i + 1) % l.length < l.length := fun i => mod_lt' (by omega)
 refine w_loop_ind (fun n E ms M' => ∃ k : Nat, n = l.length - k /\ k <= l.length /\ ms = [] /\ Has E [(0, .slice (some (i, o)) l.length f q), (24, .slice (some (i, o)) l.length f q), (25, I l.length), (26, I k)] /\ Grow M M' /\
   ∀ (i j : Nat) (hi : i < k) (hi' : i < l.length) (hj : j < l.length), j ≠ i -> j ≠ (i + 1) % l.length -> 0 < turnP l[i] (l[(i + 1) % l.length]'(hml i)) l[j])
  ?_ l.length _ _ _ ⟨0, by omega, by omega, rfl, .cons rfl (.cons rfl (.cons rfl (.cons rfl .nil))), xg, fun i j hi => absurd hi (Nat.not_lt_zero _)⟩
 clear hE hr1 hg hle
 clear M1
 rintro n E ms M1 ⟨k, rfl, hk, rfl, hE, hg, hall⟩
 have hle := hg.le
 refine w_has hE ?_
 have hr1 : ∀ k (hk : k < l.length), Rd M1 i (o + k * 2) 2 (ptc l[k]) := fun k hk => (hr k hk).grow hg
 by_cases hlast : k = l.length
 ·subst hlast
  have hyes : eFd l = 0 := if_pos ⟨hn.1, hn.2, hpl, fun i j hi hj => hall i j hi hi hj⟩
  (repeat' first|with_reducible intro _|refine sv ?_|refine sc ?_ ?_<;>(intro h;try exact sz h)|refine sg ?_ ?_<;>(intro h;first|exact sz h|refine sy h ?_)|exact sq|fail)
  all_goals (refine kf ?_)
  all_goals exact ⟨by rw [hyes]; rfl, xg⟩
 have hlt : k < l.length := by omega
 have hk1 := hmod k
 have hk1' := hml k
 (have hrd0 := hr1 k hlt;repeat' first|with_reducible intro _|refine sv ?_|refine sc ?_ ?_<;>(intro h;try exact sz h)|refine sg ?_ ?_<;>(intro h;first|exact sz h|refine sy h ?_)|exact sq|fail)
 rename_i n6 M2 hn6 e6 e6' M3 hu3 e7 a3
 refine w_loop_ind (fun n E ms M' => ∃ kk : Nat, n = l.length - kk /\ kk <= l.length /\ ms = [] /\ Has E [(0, .slice (some (i, o)) l.length f q), (24, .slice (some (i, o)) l.length f q), (25, I l.length), (26, I k), (5, I k), (7, I ((k + 1) % l.length : Nat)), (6, .ptr (some (n6, 0))), (36, .slice (some (i, o)) l.length f q), (37, I l.length), (38, I kk)] /\
   Grow M3 M' /\ ∀ (j : Nat) (hi : j < kk) (hj : j < l.length), j ≠ k -> j ≠ (k + 1) % l.length -> 0 < turnP l[k] (l[(k + 1) % l.length]'(hml k)) l[j])
  ?_ l.length _ _ _ ⟨0, by omega, by omega, rfl, .cons rfl (.cons rfl (.cons rfl (.cons rfl (.cons rfl (.cons (by rw [<- hk1]; rfl) (.cons rfl (.cons rfl (.cons rfl (.cons rfl .nil))))))))), xg, fun j hi => absurd hi (Nat.not_lt_zero _)⟩
 rintro n E ms M4 ⟨kk, rfl, hkk, rfl, hE4, hg4, hall4⟩
 have hle4 := hg4.le
 refine w_has hE4 ?_
 have hr4 : ∀ k (hk : k < l.length), Rd M4 i (o + k * 2) 2 (ptc l[k]) := fun k hk => (((hr1 k hk).new_old hn6).upd_ne hu3 (by have := (hr1 k hk).2; omega)).grow hg4
 have a4 := At.grow hg4 a3
 by_cases hlast4 : kk = l.length
 ·subst hlast4
  (repeat' first|with_reducible intro _|refine sv ?_|refine sc ?_ ?_<;>(intro h;try exact sz h)|refine sg ?_ ?_<;>(intro h;first|exact sz h|refine sy h ?_)|exact sq|fail)
  refine k_step (l.length - (k + 1)) (by omega) ⟨k + 1, rfl, by omega, rfl, .cons rfl (.cons rfl (.cons rfl (.cons rfl .nil))), xg, fun i' j hi hi' hj h1 h2 => ?_⟩
  by_cases hik : i' = k
  ·subst hik; exact hall4 j hj hj h1 h2
  ·exact hall i' j (by omega) hi' hj h1 h2
 have hlt4 : kk < l.length := by omega
 have hstep : (kk = k ∨ kk = (k + 1) % l.length ∨ 0 < turnP l[k] (l[(k + 1) % l.length]'(hml k)) l[kk]) -> ∀ (j : Nat) (hi : j < kk + 1) (hj : j < l.length), j ≠ k -> j ≠ (k + 1) % l.length -> 0 < turnP l[k] (l[(k + 1) % l.length]'(hml k)) l[j] := fun hc j hi hj h1 h2 => by
  by_cases hjk : j = kk
  ·subst hjk
   rcases hc with hc | hc | hc
   ·exact absurd hc h1
   ·exact absurd hc h2
   ·exact hc
  ·exact hall4 j (by omega) hj h1 h2
 have hi4 : i < M4.next := (hr4 kk hlt4).2
 have hpa := hpl' k hlt
 have hpb := hpl' _ (hml k)
 have hpc := hpl' kk hlt4
 have cl := c_left l[k] (l[(k + 1) % l.length]'(hml k)) l[kk] hpa hpb hpc
 (have hrd0 := hr4 kk hlt4;have hrd1 := hr4 _ (hml k);repeat' first|with_reducible intro _|refine sv ?_|refine sc ?_ ?_<;>(intro h;try exact sz h)|(with_reducible first|apply x_pure|apply d_pure|apply d_pure0);exact gd;exact rfl;exact rfl;exact cl _|refine sg ?_ ?_<;>(intro h;first|exact sz h|refine sy h ?_)|exact sq|fail)
 rotate_left
 all_goals first
  |(refine k_step (l.length - (kk + 1)) (by omega) ⟨kk + 1, rfl, by omega, rfl, .cons rfl (.cons rfl (.cons rfl (.cons rfl (.cons rfl (.cons rfl (.cons rfl (.cons rfl (.cons rfl (.cons rfl .nil))))))))), xg, hstep (by omega)⟩; done)
  |((refine kf ?_)
    refine ⟨?_, xg⟩
    rw [show eFd l = 12 from if_neg fun hF => by have := hF.2.2.2 k kk hlt hlt4 (by omega) (by omega); omega]; rfl)
abbrev sidesV (p : Nat) : LV := .func (.func 105) [] [.ptr (some (p, 0))]
theorem c_sides (a : Option (Nat × Nat)) (n : Nat) (f : Bool) (e : Nat) (M : Mem) : CallOk Tryz.prog 86 [.slice a n f e] M (MkAt sidesV (.cells true [.slice a n f e] 24) M) := by
 refine call_in kq86 rfl ?_
 dsimp only [xq86, qm, qb, qo, qq, zipE, Nat.reduceAdd]
 (repeat' first|with_reducible intro _|refine sv ?_|refine sc ?_ ?_<;>(intro h;try exact sz h)|refine sg ?_ ?_<;>(intro h;first|exact sz h|refine sy h ?_)|exact sq|fail)
 (refine kf ?_)
 exact ⟨_, rfl, xm, by omega, by omega, xg⟩
set_option maxHeartbeats 4000000 in
theorem y_sides {l : List Pt} (hn0 : 0 < l.length) (hlen : l.length <= 1000) {p : Nat} {own : Bool} {ty : TypeId} {f : Bool} {q s o : Nat} {M0 : Mem} (hp : At M0 p (.cells own [.slice (some (s, o)) l.length f q] ty)) (hr : ∀ k (hk : k < l.length), Rd M0 s (o + k * 2) 2 (ptc l[k])) :
  PvL.Yields Tryz.prog 105 [] [.ptr (some (p, 0))] (fun i => i = p ∨ i = s) ((sidesL l).map fun q => [ptv q.1, ptv q.2]) M0 := by
 intro ll A J D hA hS stab stabD step h0
 have hpA : ¬ A p := hS p (.inl rfl)
 have hsA : ¬ A s := hS s (.inr rfl)
 have hmod : ∀ i : Nat, ((i : Int) + 1) % (l.length : Int) = (((i + 1) % l.length : Nat) : Int) := fun i => by rw [Int.natCast_emod]; rfl
 have hml : ∀ i : Nat, (i + 1) % l.length < l.length := fun i => mod_lt' hn0
 refine call_in kq105 rfl ?_
 dsimp only [xq105, qm, ql, qL, qi, qa, qn, qB, qC, qS, qo, qk, qK, qq, qZ, zipE, Nat.reduceAdd, List.nil_append, List.cons_append]
 (repeat' first|with_reducible intro _|refine sv ?_|refine sc ?_ ?_<;>(intro h;try exact sz h)|refine sg ?_ ?_<;>(intro h;first|exact sz h|refine sy h ?_)|exact sq|fail)
 refine w_loop_ind (fun n E ms M => ∃ k : Nat, n = l.length - k /\ k <= l.length /\ ms = [] /\ Has E [(0, .func (.yield ll) [] []), (1, .ptr (some (p, 0))), (5, .slice (some (s, o)) l.length f q), (6, I l.length), (7, I k)] /\ Keep A M0 M /\ J k M) ?_ l.length _ _ _
  ⟨0, by omega, by omega, rfl, .cons rfl (.cons rfl (.cons rfl (.cons rfl (.cons rfl .nil)))), Keep.refl _ _, h0⟩
 rintro n E ms M ⟨k, rfl, hk, rfl, hE, hkeep, hJ⟩
 have hp1 : At M p (.cells own [.slice (some (s, o)) l.length f q] ty) := hkeep.at hp hpA
 have hr1 : ∀ k (hk : k < l.length), Rd M s (o + k * 2) 2 (ptc l[k]) := fun k hk => (hr k hk).keep hkeep hsA
 have hle := hkeep.le
 have hJ' : ∀ M', Grow M M' -> J k M' := fun M' hg => stab _ _ _ hJ hg.le fun i hi => hg.old i (Nat.lt_of_lt_of_le hi hle)
 refine w_has hE ?_
 by_cases hlast : k = l.length
 ·subst hlast
  (repeat' first|with_reducible intro _|refine sv ?_|refine sc ?_ ?_<;>(intro h;try exact sz h)|refine sg ?_ ?_<;>(intro h;first|exact sz h|refine sy h ?_)|exact sq|fail)
  (refine kf ?_)
  exact ⟨hkeep, .inl (by rw [List.length_map, sidesL_length]; exact hJ)⟩
 have hlt : k < l.length := by omega
 have hs1 := (hr1 k hlt).2
 have hp2 := hp1.2
 have hk1 := hmod k
 have hk2 := hml k
 have hx : ((sidesL l).map fun q => [ptv q.1, ptv q.2])[k]? = some [ptv l[k], ptv (l[(k + 1) % l.length]'(hml k))] := by
  rw [List.getElem?_map, sidesL_get hlt, atP_eq hlt, atP_eq (hml k)]; rfl
 have hrm : Rd M s (o + (((k : Int) + 1) % (l.length : Int)).toNat * 2) 2 (ptc (l[(k + 1) % l.length]'(hml k))) := by rw [hmod k]; exact hr1 _ (hml k)
 (have hrd0 := hr1 k hlt;have hrd1 := hrm;repeat' first|with_reducible intro _|refine sv ?_|refine sc ?_ ?_<;>(intro h;try exact sz h)|(with_reducible first|apply x_call|apply d_call|apply x_call0);exact gd;exact rfl;exact rfl;exact step _ _ hx _ (by omega) (hJ' _ (xg))|refine sg ?_ ?_<;>(intro h;first|exact sz h|refine sy h ?_)|exact sq|fail)
 obtain ⟨hk2', ⟨rfl, hJ2⟩ | ⟨rfl, hD⟩⟩ := ‹Keep A _ _ /\ _›
 ·have := hk2'.le
  (have hrd0 := hr1 k hlt;have hrd1 := hrm;repeat' first|with_reducible intro _|refine sv ?_|refine sc ?_ ?_<;>(intro h;try exact sz h)|refine sg ?_ ?_<;>(intro h;first|exact sz h|refine sy h ?_)|exact sq|fail)
  refine k_step (l.length - (k + 1)) (by omega) ⟨k + 1, rfl, by omega, rfl, .cons rfl (.cons rfl (.cons rfl (.cons rfl (.cons rfl .nil)))), Keep.trans (xk) hk2' (fun i hi => .inl hi), hJ2⟩
 ·have := hk2'.le
  (have hrd0 := hr1 k hlt;have hrd1 := hrm;repeat' first|with_reducible intro _|refine sv ?_|refine sc ?_ ?_<;>(intro h;try exact sz h)|refine sg ?_ ?_<;>(intro h;first|exact sz h|refine sy h ?_)|exact sq|fail)
  (refine kf ?_)
  exact ⟨Keep.trans (xk) hk2' (fun i hi => .inl hi), .inr hD⟩
theorem c_down (a b : Int) (ha : -1000000000000000 <= a /\ a <= 1000000000000000) (hb : 0 < b /\ b <= 1000000000000000) (M : Mem) : CallOk Tryz.prog 88 [I a, I b] M (fun w M' => w = I (a / b) /\ M' = M) := by
 have h1 := Int.tdiv_eq_ediv (a := a) (b := b)
 have h2 := Int.tmod_eq_emod (a := a) (b := b)
 have h3 : -1000000000000000 <= a / b /\ a / b <= 1000000000000000 := ⟨Int.le_ediv_of_mul_le hb.1 (by have : 1000000000000000 * 1 <= 1000000000000000 * b := Int.mul_le_mul_of_nonneg_left (by omega) (by omega); omega), Int.ediv_le_of_le_mul hb.1 (by have : 1000000000000000 * 1 <= 1000000000000000 * b := Int.mul_le_mul_of_nonneg_left (by omega) (by omega); omega)⟩
 have hsign : b.sign = 1 := Int.sign_eq_one_of_pos hb.1
 have hnat : (b.natAbs : Int) = b := Int.natAbs_of_nonneg (by omega)
 have hm0 := Int.emod_nonneg a (by omega : b ≠ 0)
 have hm1 := Int.emod_lt_of_pos a hb.1
 rw [hsign] at h1
 refine call_in kq88 rfl ?_
 dsimp only [xq88, qm, qi, qB, qC, qq, zipE, Nat.reduceAdd]
 by_cases hc : 0 <= a ∨ b ∣ a
 ·rw [if_pos hc] at h1 h2
  have hm2 : 0 <= a.tmod b := by omega
  (repeat' first|with_reducible intro _|refine sv ?_|refine sc ?_ ?_<;>(intro h;try exact sz h)|refine sg ?_ ?_<;>(intro h;first|exact sz h|refine sy h ?_)|exact sq|fail)
  all_goals (refine kf ?_)
  all_goals exact ⟨congrArg I (by omega), rfl⟩
 ·rw [if_neg hc] at h1 h2
  have hm2 : a.tmod b < 0 := by omega
  (repeat' first|with_reducible intro _|refine sv ?_|refine sc ?_ ?_<;>(intro h;try exact sz h)|refine sg ?_ ?_<;>(intro h;first|exact sz h|refine sy h ?_)|exact sq|fail)
  all_goals (refine kf ?_)
  all_goals exact ⟨congrArg I (by omega), rfl⟩
theorem c_up (a b : Int) (ha : -1000000000000000 <= a /\ a <= 1000000000000000) (hb : 0 < b /\ b <= 1000000000000000) (M : Mem) : CallOk Tryz.prog 87 [I a, I b] M (fun w M' => w = I (-((-a) / b)) /\ M' = M) := by
 have h3 : -1000000000000000 <= (-a) / b /\ (-a) / b <= 1000000000000000 := ⟨Int.le_ediv_of_mul_le hb.1 (by have : 1000000000000000 * 1 <= 1000000000000000 * b := Int.mul_le_mul_of_nonneg_left (by omega) (by omega); omega), Int.ediv_le_of_le_mul hb.1 (by have : 1000000000000000 * 1 <= 1000000000000000 * b := Int.mul_le_mul_of_nonneg_left (by omega) (by omega); omega)⟩
 refine call_in kq87 rfl ?_
 dsimp only [xq87, qm, qi, qc, qo, qq, zipE, Nat.reduceAdd]
 (repeat' first|with_reducible intro _|refine sv ?_|refine sc ?_ ?_<;>(intro h;try exact sz h)|(with_reducible first|apply x_same|apply d_same|apply d_same0);exact gd;exact rfl;exact rfl;exact c_down _ _ (by omega) (by omega) _|refine sg ?_ ?_<;>(intro h;first|exact sz h|refine sy h ?_)|exact sq|fail)
 all_goals (refine kf ?_)
 all_goals exact ⟨rfl, rfl⟩
set_option maxHeartbeats 8000000 in
theorem c_Hits {a : Option (Nat × Nat)} {f : Bool} {q : Nat} {l : List Pt} {r : Rg} {M : Mem} (hl : SlA 2 ptc M a l) (hlen : l.length <= 1000000000000000) : CallOk Tryz.prog 65 [.slice a l.length f q, rgv r] M (fun w M' => w = .tup [ptv (hitsF l r).1, I (hitsF l r).2] /\ Grow M M') := by
 refine call_in kq65 rfl ?_
 dsimp only [xq65, qm, qf, ql, qL, qb, qc, qB, qC, qS, qo, qk, qK, qq, qZ, zipE, Nat.reduceAdd]
 have hcf := fun M' (hg : Grow M M') => c_CheckField (f := f) (q := q) (hl.grow hg) hlen
 by_cases hok : FieldOk l /\ RgOk r
 rotate_left
 ·have he : (if eFd l = 0 then eRg r else eFd l) ≠ 0 /\ (hitsF l r).1 = (0, 0) /\ (hitsF l r).2 = (if eFd l = 0 then eRg r else eFd l) := by
   unfold eFd eRg hitsF
   by_cases h1 : FieldOk l
   ·have h2 : ¬ RgOk r := fun h => hok ⟨h1, h⟩
    simp [h1, h2]
   ·simp [h1]
  obtain ⟨he1, he2, he3⟩ := he
  (repeat' first|with_reducible intro _|refine sv ?_|refine sc ?_ ?_<;>(intro h;try exact sz h)|(with_reducible first|apply x_same|apply d_same|apply d_same0);exact gd;exact rfl;exact rfl;exact c_first2 _ _ (Rd1.of_at (At.new_same (by assumption)) rfl) (Rd1.of_at (At.new_same (by assumption)) rfl)|(with_reducible first|apply x_pure|apply d_pure|apply d_pure0);exact gd;exact rfl;exact rfl;(first|exact hcf _ (xg)|exact c_Check r _)|refine sg ?_ ?_<;>(intro h;first|exact sz h|refine sy h ?_)|exact sq|fail)
  all_goals (refine kf ?_)
  all_goals exact ⟨by rw [he2, he3]; rfl, xg⟩
 obtain ⟨hf, hrg⟩ := hok
 have he : (if eFd l = 0 then eRg r else eFd l) = 0 := by unfold eFd eRg; simp [hf, hrg]
 have hpl := hf.2.2.1
 have hlen3 := hf.1
 have hlen8 := hf.2.1
 obtain ⟨s, o, rfl, hr⟩ := hl.resolve_left (fun h => by subst h; simp at hlen3)
 (repeat' first|with_reducible intro _|refine sv ?_|refine sc ?_ ?_<;>(intro h;try exact sz h)|(with_reducible first|apply x_same|apply d_same|apply d_same0);exact gd;exact rfl;exact rfl;exact c_first2 _ _ (Rd1.of_at (At.new_same (by assumption)) rfl) (Rd1.of_at (At.new_same (by assumption)) rfl)|(with_reducible first|apply x_pure|apply d_pure|apply d_pure0);exact gd;exact rfl;exact rfl;(first|exact hcf _ (xg)|exact c_Check r _|exact c_bounds r _)|(with_reducible first|apply x_mkat|apply d_mkat);exact gd;exact rfl;exact rfl;exact c_rows r _|refine sg ?_ ?_<;>(intro h;first|exact sz h|refine sy h ?_)|exact sq|fail)
 rename_i n2 Mb2 hb2 q1 q2 n3 Mb3 hb3 q3 q4 n4 Mb4 hb4 q5 q6 n5 Mb5 hb5 q7 q8 Mc hgc q9 Md hgd q10 n6 Me he6 q11 q12 Mf hgf q13 p2 Mg hp2 q14 q15 hg2 q16
 refine w_has (E' := [(2, .ptr (some (n2, 0))), (4, .ptr (some (n4, 0))), (5, .ptr (some (n5, 0))), (24, rowsV p2)]) (.cons rfl (.cons rfl (.cons rfl (.cons rfl .nil)))) ?_
 apply w_rfun
 exact rfl
 intro lb d l1 M1 M2 hlb hd e1 e2 hl1 e3 e4
 have ed : At M2 d .defr := At.new_old hl1 (At.new_same hd)
 have el : At M2 l1 (lb .ready none) := At.new_same hl1
 have ep : At M2 p2 (.cells true (rgc r) 159) := At.new_old hl1 (At.new_old hd hp2)
 have gM : Grow M M2 := xg
 refine (y_rows r (hrg.sm.mono (by omega)) ep l1 (fun i => M.next <= i /\ i < M2.next /\ i ≠ p2)
  (fun k M' => (∀ t ∈ (rowsL r).take k, hitRow l t = none) /\ At M' l1 (lb .ready none) /\ At M' d .defr /\ At M' n2 (.cells true [.slice (some (s, o)) l.length f q] 24) /\ At M' n4 (.cells true [I 0, I 0] 30) /\ At M' n5 (.cells true [I 0] 41) /\ ∀ k (hk : k < l.length), Rd M' s (o + k * 2) 2 (ptc l[k]))
  (fun M' => ∃ p, hitsO l r = some p /\ At M' l1 (lb .done (some .ret)) /\ At M' d .defr /\ At M' n4 (.cells true [I p.1, I p.2] 30) /\ At M' n5 (.cells true [I 0] 41)) ?_ ?_ ?_ ?_ ?_ ⟨by simp, el, ed, xm, xm, xm, fun k hk => (hr k hk).grow gM⟩).mono ?_
 ·rintro i ⟨h1, h2, h3⟩; exact h2
 ·rintro i rfl ⟨h1, h2, h3⟩; exact h3 rfl
 ·rintro k M3 M3' ⟨h1, h2, h3, h4, h5, h6, h7⟩ hle' hA'
  exact ⟨h1, h2.same hle' (hA' _ (by omega)), h3.same hle' (hA' _ (by omega)), h4.same hle' (hA' _ (by omega)), h5.same hle' (hA' _ (by omega)), h6.same hle' (hA' _ (by omega)), fun k hk => (h7 k hk).same hle' (hA' _ (by have := (hr k hk).2; omega))⟩
 ·rintro M3 M3' ⟨p, h1, h2, h3, h4, h5⟩ hle' hA'
  exact ⟨p, h1, h2.same hle' (hA' _ (by omega)), h3.same hle' (hA' _ (by omega)), h4.same hle' (hA' _ (by omega)), h5.same hle' (hA' _ (by omega))⟩
 ·rintro k x hx M3 hle3 ⟨h1, h2, h3, h4, h5, h6, h7⟩
  rw [List.getElem?_map] at hx
  obtain ⟨t, ht, rfl⟩ := Option.map_eq_some_iff.1 hx
  obtain ⟨x0, hx1, hx2, hxt, hx3⟩ := mem_rows (List.mem_of_getElem? ht)
  have htx : -32768 <= t.1 /\ t.1 <= 32768 := by rw [hxt]; dsimp only [rowOf]; dsimp only [RgOk, fitsP] at hrg; omega
  have htake : (rowsL r).take (k + 1) = (rowsL r).take k ++ [t] := by
   obtain ⟨hlt, rfl⟩ := List.getElem?_eq_some_iff.1 ht
   exact List.take_succ_eq_append_getElem hlt
  have hnext : hitRow l t = none -> ∀ t' ∈ (rowsL r).take (k + 1), hitRow l t' = none := fun hh t' ht' => by
   rw [htake] at ht'
   rcases List.mem_append.1 ht' with ht' | ht'
   ·exact h1 t' ht'
   ·obtain rfl := List.mem_singleton.1 ht'; exact hh
  have gs3 : ∀ k (hk : k < l.length), s < M.next := fun k hk => (hr k hk).2
  have hsM := gs3 0 (by omega)
  refine round_in hlb h2 rfl ?_
  dsimp only [zipP]
  (repeat' first|with_reducible intro _|refine sv ?_|refine sc ?_ ?_<;>(intro h;try exact sz h)|(with_reducible first|apply x_mkat|apply d_mkat);exact gd;exact rfl;exact rfl;exact c_sides _ _ _ _ _|refine sg ?_ ?_<;>(intro h;first|exact sz h|refine sy h ?_)|exact sq|fail)
  rename_i n7 Mh hh7 r1 r2 Mi hui r3 ai Mj huj r4 aj p3 Mk hp3 r5 r6 hgk r7
  apply w_rfun_in hlb (xm : At Mk l1 (lb .busy none))
  exact rfl
  intro lb2 l2 M5 hlb2 hl2 e5 e6
  have k2 : At M5 n2 (.cells true [.slice (some (s, o)) l.length f q] 24) := xm
  have k4 : At M5 n4 (.cells true [I 0, I 0] 30) := xm
  have k5 : At M5 n5 (.cells true [I 0] 41) := xm
  have k7 : At M5 n7 (.cells true [I t.1, I t.2.1, I t.2.2] 163) := xm
  have kl1 : At M5 l1 (lb .busy none) := xm
  have kl2 : At M5 l2 (lb2 .ready none) := At.new_same hl2
  have kd : At M5 d .defr := xm
  have kp3 : At M5 p3 (.cells true [.slice (some (s, o)) l.length f q] 24) := xm
  have krd : ∀ k (hk : k < l.length), Rd M5 s (o + k * 2) 2 (ptc l[k]) := fun k hk => by
   have h0 : Rd M3 s (o + k * 2) 2 (ptc l[k]) := h7 k hk
   exact xm
  have hK5 : Keep (fun i => M.next <= i /\ i < M2.next /\ i ≠ p2) M3 M5 := xk
  have hp3lo : M3.next <= p3 := by omega
  refine (y_sides (by omega) (by omega) kp3 krd l2 (fun i => (M.next <= i /\ i < M2.next /\ i ≠ p2) ∨ (M3.next <= i /\ i < M5.next /\ i ≠ p3))
   (fun j M' => At M' n7 (.cells true [I t.1, I (clips t.1 (t.2.1, t.2.2) ((sidesL l).take j)).1, I (clips t.1 (t.2.1, t.2.2) ((sidesL l).take j)).2] 163) /\ At M' l2 (lb2 .ready none) /\ At M' l1 (lb .busy none) /\ At M' d .defr /\ At M' n2 (.cells true [.slice (some (s, o)) l.length f q] 24) /\ At M' n4 (.cells true [I 0, I 0] 30) /\ At M' n5 (.cells true [I 0] 41) /\ ∀ k (hk : k < l.length), Rd M' s (o + k * 2) 2 (ptc l[k]))
   (fun M' => hitRow l t = none /\ At M' l2 (lb2 .done (some (.exit 1))) /\ At M' l1 (lb .busy none) /\ At M' d .defr /\ At M' n2 (.cells true [.slice (some (s, o)) l.length f q] 24) /\ At M' n4 (.cells true [I 0, I 0] 30) /\ At M' n5 (.cells true [I 0] 41) /\ ∀ k (hk : k < l.length), Rd M' s (o + k * 2) 2 (ptc l[k])) ?_ ?_ ?_ ?_ ?_ ⟨k7, kl2, kl1, kd, k2, k4, k5, krd⟩).mono ?_
  ·rintro i (h1 | h1)
   ·exact Nat.lt_of_lt_of_le h1.2.1 (by omega)
   ·exact h1.2.1
  ·rintro i (rfl | rfl) (h1 | h1)
   all_goals omega
  ·rintro j M6 M6' ⟨g1, g2, g3, g4, g5, g6, g7, g8⟩ hle' hA'
   exact ⟨g1.same hle' (hA' _ (by omega)), g2.same hle' (hA' _ (by omega)), g3.same hle' (hA' _ (by omega)), g4.same hle' (hA' _ (by omega)), g5.same hle' (hA' _ (by omega)), g6.same hle' (hA' _ (by omega)), g7.same hle' (hA' _ (by omega)), fun k hk => (g8 k hk).same hle' (hA' _ (by have := (krd k hk).2; omega))⟩
  ·rintro M6 M6' ⟨g0, g2, g3, g4, g5, g6, g7, g8⟩ hle' hA'
   exact ⟨g0, g2.same hle' (hA' _ (by omega)), g3.same hle' (hA' _ (by omega)), g4.same hle' (hA' _ (by omega)), g5.same hle' (hA' _ (by omega)), g6.same hle' (hA' _ (by omega)), g7.same hle' (hA' _ (by omega)), fun k hk => (g8 k hk).same hle' (hA' _ (by have := (krd k hk).2; omega))⟩
  ·rintro j y hy M6 hle6 ⟨g1, g2, g3, g4, g5, g6, g7, g8⟩
   rw [List.getElem?_map] at hy
   obtain ⟨q, hq, rfl⟩ := Option.map_eq_some_iff.1 hy
   obtain ⟨hpq1, hpq2⟩ := sides_mem hpl (List.mem_of_getElem? hq)
   obtain ⟨b1, b2, b3, b4⟩ := side_bd htx hpq1 hpq2
   have hclip := clips_take (x := t.1) (t := (t.2.1, t.2.2)) hq
   have hjl : j + 1 <= (sidesL l).length := (List.getElem?_eq_some_iff.1 hq).1
   have hdead := hitRow_dead (l := l) (t := t) hjl
   rw [hclip] at hdead ⊢
   generalize clips t.1 (t.2.1, t.2.2) ((sidesL l).take j) = c at *
   unfold clip1 at hdead ⊢
   unfold sideK sideN at *
   dsimp only [PlP, Pl] at hpq1 hpq2
   have g8' : ∀ M', Keep (fun i => (M.next <= i /\ i < M2.next /\ i ≠ p2) ∨ (M3.next <= i /\ i < M5.next /\ i ≠ p3)) M6 M' -> ∀ k (hk : k < l.length), Rd M' s (o + k * 2) 2 (ptc l[k]) := fun M' hK k hk => (g8 k hk).keep hK (by intro hh; omega)
   refine round_in hlb2 g2 rfl ?_
   dsimp only [zipP]
   by_cases hk0 : 0 < q.2.1 - q.1.1
   ·rw [if_pos hk0]
    (repeat' first|with_reducible intro _|refine sv ?_|refine sc ?_ ?_<;>(intro h;try exact sz h)|(with_reducible first|apply x_same|apply d_same|apply d_same0);exact gd;exact rfl;exact rfl;exact c_up _ _ (by omega) (by omega) _|refine sg ?_ ?_<;>(intro h;first|exact sz h|refine sy h ?_)|exact sq|fail)
    exact ⟨xk, .inl ⟨rfl, xm, xm, xm, xm, xm, xm, xm, g8' _ (xk)⟩⟩
   ·rw [if_neg hk0] at hdead ⊢
    by_cases hk1 : q.2.1 - q.1.1 < 0
    ·rw [if_pos hk1]
     (repeat' first|with_reducible intro _|refine sv ?_|refine sc ?_ ?_<;>(intro h;try exact sz h)|(with_reducible first|apply x_same|apply d_same|apply d_same0);exact gd;exact rfl;exact rfl;exact c_down _ _ (by omega) (by omega) _|refine sg ?_ ?_<;>(intro h;first|exact sz h|refine sy h ?_)|exact sq|fail)
     exact ⟨xk, .inl ⟨rfl, xm, xm, xm, xm, xm, xm, xm, g8' _ (xk)⟩⟩
    ·rw [if_neg hk1] at hdead ⊢
     by_cases hn0 : 0 < (q.2.1 - q.1.1) * q.1.2 + (q.2.2 - q.1.2) * (t.1 - q.1.1)
     ·rw [if_pos hn0] at hdead
      (repeat' first|with_reducible intro _|refine sv ?_|refine sc ?_ ?_<;>(intro h;try exact sz h)|refine sg ?_ ?_<;>(intro h;first|exact sz h|refine sy h ?_)|exact sq|fail)
      exact ⟨xk, .inr ⟨rfl, hdead (by dsimp only; omega), xm, xm, xm, xm, xm, xm, g8' _ (xk)⟩⟩
     ·rw [if_neg hn0]
      (repeat' first|with_reducible intro _|refine sv ?_|refine sc ?_ ?_<;>(intro h;try exact sz h)|refine sg ?_ ?_<;>(intro h;first|exact sz h|refine sy h ?_)|exact sq|fail)
      exact ⟨xk, .inl ⟨rfl, xm, xm, xm, xm, xm, xm, xm, g8' _ (xk)⟩⟩
  ·rintro v M6 ⟨hk6, hq6⟩
   have hle6 := hk6.le
   have hK6 : Keep (fun i => M.next <= i /\ i < M2.next /\ i ≠ p2) M3 M6 := Keep.trans hK5 hk6 (fun i w => w.elim .inl fun w => .inr w.1)
   clear hk6
   rcases hq6 with ⟨g1, g2, g3, g4, g5, g6, g7, g8⟩ | ⟨g0, g2, g3, g4, g5, g6, g7, g8⟩
   ·rw [show ((sidesL l).map fun q => [ptv q.1, ptv q.2]).length = (sidesL l).length from List.length_map _, List.take_length] at g1
    refine k_iter g2 (by simp) fun M7 hu7 e7 a7 => ?_
    by_cases hh : (clips t.1 (t.2.1, t.2.2) (sidesL l)).1 <= (clips t.1 (t.2.1, t.2.2) (sidesL l)).2
    ·have hrow : hitRow l t = some (t.1, (clips t.1 (t.2.1, t.2.2) (sidesL l)).1) := if_pos hh
     have hhit : hitsO l r = some (t.1, (clips t.1 (t.2.1, t.2.2) (sidesL l)).1) := findSome_at ht h1 hrow
     (repeat' first|with_reducible intro _|refine sv ?_|refine sc ?_ ?_<;>(intro h;try exact sz h)|refine sg ?_ ?_<;>(intro h;first|exact sz h|refine sy h ?_)|exact sq|fail)
     exact ⟨xk, .inr ⟨rfl, _, hhit, xm, xm, xm, xm⟩⟩
    ·have hrow : hitRow l t = none := if_neg hh
     (repeat' first|with_reducible intro _|refine sv ?_|refine sc ?_ ?_<;>(intro h;try exact sz h)|refine sg ?_ ?_<;>(intro h;first|exact sz h|refine sy h ?_)|exact sq|fail)
     exact ⟨xk, .inl ⟨rfl, hnext hrow, xm, xm, xm, xm, xm, fun k hk => by have := g8 k hk; exact xm⟩⟩
   ·refine k_iter_exit g2 (by simp) fun M7 hu7 e7 a7 => ?_
    (repeat' first|with_reducible intro _|refine sv ?_|refine sc ?_ ?_<;>(intro h;try exact sz h)|refine sg ?_ ?_<;>(intro h;first|exact sz h|refine sy h ?_)|exact sq|fail)
    exact ⟨xk, .inl ⟨rfl, hnext g0, xm, xm, xm, xm, xm, fun k hk => by have := g8 k hk; exact xm⟩⟩
 ·rintro v M3 ⟨hk3, hq3⟩
  have hle3 := hk3.le
  have hg3 : Grow M M3 := (gM.to_keep (fun _ => False) |>.trans hk3 (fun i hi => .inr hi.1)).to_grow (fun i hi => hi.elim)
  clear hk3
  rcases hq3 with ⟨h1, h2, h3, h4, h5, h6, h7⟩ | ⟨p, h1, h2, h3, h4, h5⟩
  ·rw [show ((rowsL r).map fun t => [rowv t]).length = (rowsL r).length from List.length_map _, List.take_length] at h1
   have hh : hitsO l r = none := findSome_none h1
   have hv : hitsF l r = ((0, 0), 4) := by unfold hitsF; rw [if_pos hf, if_pos hrg, hh]
   refine k_iter h2 (by simp) fun M4 hu4 e7 a7 => ?_
   (repeat' first|with_reducible intro _|refine sv ?_|refine sc ?_ ?_<;>(intro h;try exact sz h)|refine sg ?_ ?_<;>(intro h;first|exact sz h|refine sy h ?_)|exact sq|fail)
   rename_i M5 _ _ _ M6 _ _ _
   refine k_fun_end (.inr rfl) (by simp) (fun d' hd' => by obtain rfl := List.mem_singleton.1 hd'; exact xm) fun M7 hm => ?_
   have a4 : At M6 n4 (.cells true [I 0, I 0] 30) := xm
   have a5 : At M6 n5 (.cells true [I 4] 41) := xm
   have n4' : n4 ∉ [d] := by simp; omega
   have n5' : n5 ∉ [d] := by simp; omega
   refine ⟨_, .cellN rfl (Rd.of_at (a4.unmark hm n4') rfl).1 (.cell1 rfl (Rd1.of_at (a5.unmark hm n5') rfl).1 .nil), ?_, Grow.unmark (xg) hm (fun d' hd' => by obtain rfl := List.mem_singleton.1 hd'; omega)⟩
   rw [hv]; rfl
  ·have hv : hitsF l r = (p, 0) := by unfold hitsF; rw [if_pos hf, if_pos hrg, h1]
   refine k_iter_ret h2 (by simp) fun M4 hu4 e7 a7 => ?_
   (repeat' first|with_reducible intro _|refine sv ?_|refine sc ?_ ?_<;>(intro h;try exact sz h)|refine sg ?_ ?_<;>(intro h;first|exact sz h|refine sy h ?_)|exact sq|fail)
   refine k_fun_end (.inr rfl) (by simp) (fun d' hd' => by obtain rfl := List.mem_singleton.1 hd'; exact xm) fun M7 hm => ?_
   have a4 : At M4 n4 (.cells true [I p.1, I p.2] 30) := xm
   have a5 : At M4 n5 (.cells true [I 0] 41) := xm
   have n4' : n4 ∉ [d] := by simp; omega
   have n5' : n5 ∉ [d] := by simp; omega
   refine ⟨_, .cellN rfl (Rd.of_at (a4.unmark hm n4') rfl).1 (.cell1 rfl (Rd1.of_at (a5.unmark hm n5') rfl).1 .nil), ?_, Grow.unmark (xg) hm (fun d' hd' => by obtain rfl := List.mem_singleton.1 hd'; omega)⟩
   rw [hv]; rfl
end Go.Proofs.YtifcpjfpjkoicaaGreat.C
end
