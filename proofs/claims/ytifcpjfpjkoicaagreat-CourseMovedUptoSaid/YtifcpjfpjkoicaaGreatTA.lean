/-
 Part of the proof of CourseMovedUpto: what functions of the program and of the statement come to, walked by the rules. No condition beyond those in each theorem.
-/
import Derived.Test.YtifcpjfpjkoicaaGreatTV
import Derived.Test.YtifcpjfpjkoicaaGreatPvD
import Derived.Test.YtifcpjfpjkoicaaGreatTS
section
open Go PvL Go.Proofs
set_option linter.unusedSimpArgs false
set_option linter.unusedVariables false
namespace Go.Proofs.YtifcpjfpjkoicaaGreat.C
instance : Orc Tryz.prog := ⟨fun f l => match l with | [] => bif Nat.beq f 6 then some (.bool true) else none | _ => none⟩
instance : IsB Tryz.prog 4 := ⟨by kernel_rfl⟩
theorem c_within (n lo hi : Int) (M : Mem) : CallOk Tryz.prog 36 [I n, I lo, I hi] M (fun w M' => w = .bool (decide (lo <= n /\ n <= hi)) /\ M' = M) := by
 refine call_in kq36 rfl ?_
 dsimp only [xq36, qm, qB, qg, qo, qq, zipE, Nat.reduceAdd]
 (repeat' first|with_reducible intro _|refine sv ?_|refine sc ?_ ?_<;>(intro h;try exact sz h)|refine sg ?_ ?_<;>(intro h;first|exact sz h|refine sy h ?_)|exact sq|fail)
 all_goals (apply k_fun; exact .tmp rfl .nil; refine ⟨?_, rfl⟩)
 all_goals first
  | exact lb_iff (by omega)
  | exact lb_f (by omega)
  | exact lb_t (by omega)
theorem c_rwithin (n lo hi : Int) (M : Mem) : CallOk Tryz.prog 67 [I n, I lo, I hi] M (fun w M' => w = .bool (decide (lo <= n /\ n <= hi)) /\ M' = M) := by
 refine call_in kq67 rfl ?_
 dsimp only [xq67, qm, qB, qg, qo, qq, zipE, Nat.reduceAdd]
 (repeat' first|with_reducible intro _|refine sv ?_|refine sc ?_ ?_<;>(intro h;try exact sz h)|refine sg ?_ ?_<;>(intro h;first|exact sz h|refine sy h ?_)|exact sq|fail)
 all_goals (apply k_fun; exact .tmp rfl .nil; refine ⟨?_, rfl⟩)
 all_goals first
  | exact lb_iff (by omega)
  | exact lb_f (by omega)
  | exact lb_t (by omega)
theorem c_between (n lo hi : Int) (M : Mem) : CallOk Tryz.prog 33 [I n, I lo, I hi] M (fun w M' => w = .bool (decide (lo <= n /\ n <= hi)) /\ M' = M) := by
 refine call_in kq33 rfl ?_
 dsimp only [xq33, qm, qB, qg, qo, qq, zipE, Nat.reduceAdd]
 (repeat' first|with_reducible intro _|refine sv ?_|refine sc ?_ ?_<;>(intro h;try exact sz h)|refine sg ?_ ?_<;>(intro h;first|exact sz h|refine sy h ?_)|exact sq|fail)
 all_goals (apply k_fun; exact .tmp rfl .nil; refine ⟨?_, rfl⟩)
 all_goals first
  | exact lb_iff (by omega)
  | exact lb_f (by omega)
  | exact lb_t (by omega)
theorem c_into (l n : Int) (hl : 0 <= l /\ l <= 1000000) (M : Mem) : CallOk Tryz.prog 66 [I l, I n] M (fun w M' => w = I (iMax (-l) (iMin n l)) /\ M' = M) := by
 refine call_in kq66 rfl ?_
 dsimp only [xq66, qm, qi, qo, qq, zipE, Nat.reduceAdd]
 (repeat' first|with_reducible intro _|refine sv ?_|refine sc ?_ ?_<;>(intro h;try exact sz h)|refine sg ?_ ?_<;>(intro h;first|exact sz h|refine sy h ?_)|exact sq|fail)
 all_goals (apply k_fun; exact .tmp rfl .nil; refine ⟨rfl, rfl⟩)
def ePt (x y : Int) : Int := if Pl x y then 0 else 10
theorem c_CheckPoint (x y : Int) (M : Mem) : CallOk Tryz.prog 52 [.agg [I x, I y]] M (fun w M' => w = I (ePt x y) /\ Grow M M') := by
 refine call_in kq52 rfl ?_
 dsimp only [xq52, qm, qf, ql, qi, qb, qc, qB, qC, qo, qq, qZ, zipE, Nat.reduceAdd]
 (repeat' first|with_reducible intro _|refine sv ?_|refine su ?_|refine sc ?_ ?_<;>(intro h;try exact sz h)|(with_reducible first|apply x_same|apply d_same|apply d_same0);exact gd;exact rfl;exact rfl;exact c_into _ _ (by omega) _|refine sg ?_ ?_<;>(intro h;first|exact sz h|refine sy h ?_)|exact sq|fail)
 all_goals (apply k_fun; exact .tmp rfl .nil; refine ⟨?_, ?_⟩)
 all_goals (try unfold iMax iMin at *)
 all_goals first
  |(exact xg; done)
  |(unfold ePt; split <;> first | rfl | (exfalso; omega))
theorem c_fits (l a b : Int) (hl : 0 <= l /\ l <= 1000000) (M : Mem) : CallOk Tryz.prog 103 [I l, .agg [I a, I b]] M (fun w M' => w = .bool (decide (-l <= a /\ a <= b /\ b <= l)) /\ Grow M M') := by
 refine call_in kq103 rfl ?_
 dsimp only [xq103, qm, qf, ql, qb, qB, qg, qo, qq, zipE, Nat.reduceAdd]
 (repeat' first|with_reducible intro _|refine sv ?_|refine sc ?_ ?_<;>(intro h;try exact sz h)|refine sg ?_ ?_<;>(intro h;first|exact sz h|refine sy h ?_)|exact sq|fail)
 all_goals (apply k_fun; exact .tmp rfl .nil; refine ⟨?_, ?_⟩)
 all_goals first
  |(exact xg; done)
  | exact lb_iff (by omega)
  | exact lb_f (by omega)
  | exact lb_t (by omega)
theorem c_bounds (r : Rg) (M : Mem) : CallOk Tryz.prog 84 [rgv r] M (fun w M' => w = rgv r /\ Grow M M') := by
 refine call_in kq84 rfl ?_
 dsimp only [xq84, qf, qL, qb, qS, qo, qq, qZ, zipE, Nat.reduceAdd]
 (repeat' first|with_reducible intro _|refine sv ?_|refine sc ?_ ?_<;>(intro h;try exact sz h)|refine sg ?_ ?_<;>(intro h;first|exact sz h|refine sy h ?_)|exact sq|fail)
 (refine kf ?_)
 exact ⟨rfl, xg⟩
theorem c_region (r : Rg) (M : Mem) : CallOk Tryz.prog 101 [rgv r] M (fun w M' => w = rgv r /\ Grow M M') := by
 refine call_in kq101 rfl ?_
 dsimp only [xq101, qL, qb, qS, qo, qq, qZ, zipE, Nat.reduceAdd]
 (repeat' first|with_reducible intro _|refine sv ?_|refine sc ?_ ?_<;>(intro h;try exact sz h)|refine sg ?_ ?_<;>(intro h;first|exact sz h|refine sy h ?_)|exact sq|fail)
 (refine kf ?_)
 exact ⟨rfl, xg⟩
theorem c_of (p : Int × Int) (h : -1000000 <= p.1 /\ p.1 <= 1000000 /\ -1000000 <= p.2 /\ p.2 <= 1000000) (M : Mem) : CallOk Tryz.prog 97 [ptv p] M (fun w M' => w = rgv (ofP p) /\ Grow M M') := by
 refine call_in kq97 rfl ?_
 dsimp only [xq97, qm, qf, ql, qL, qi, qb, qB, qC, qS, qo, qq, qZ, zipE, Nat.reduceAdd]
 (repeat' first|with_reducible intro _|refine sv ?_|refine su ?_|refine sc ?_ ?_<;>(intro h;try exact sz h)|refine sg ?_ ?_<;>(intro h;first|exact sz h|refine sy h ?_)|exact sq|fail)
 (refine kf ?_)
 exact ⟨rfl, xg⟩
theorem c_span (a a' b b' : Int) (M : Mem) : CallOk Tryz.prog 108 [.agg [I a, I a'], .agg [I b, I b']] M (fun w M' => w = .agg [I (iMin a b), I (iMax a' b')] /\ Grow M M') := by
 refine call_in kq108 rfl ?_
 dsimp only [xq108, qf, ql, qb, qS, qo, qq, qZ, zipE, Nat.reduceAdd]
 (repeat' first|with_reducible intro _|refine sv ?_|refine sc ?_ ?_<;>(intro h;try exact sz h)|refine sg ?_ ?_<;>(intro h;first|exact sz h|refine sy h ?_)|exact sq|fail)
 (refine kf ?_)
 exact ⟨rfl, xg⟩
abbrev SmB (B : Int) (b : Bd) : Prop := -B <= b.1 /\ b.1 <= B /\ -B <= b.2 /\ b.2 <= B
theorem c_plus (a a' b b' : Int) (h1 : -1000000 <= a /\ a <= 1000000) (h2 : -1000000 <= a' /\ a' <= 1000000) (h3 : -1000000 <= b /\ b <= 1000000) (h4 : -1000000 <= b' /\ b' <= 1000000) (M : Mem) : CallOk Tryz.prog 98 [.agg [I a, I a'], .agg [I b, I b']] M (fun w M' => w = .agg [I (a + b), I (a' + b')] /\ Grow M M') := by
 refine call_in kq98 rfl ?_
 dsimp only [xq98, qf, ql, qb, qB, qS, qo, qq, qZ, zipE, Nat.reduceAdd]
 (repeat' first|with_reducible intro _|refine sv ?_|refine sc ?_ ?_<;>(intro h;try exact sz h)|refine sg ?_ ?_<;>(intro h;first|exact sz h|refine sy h ?_)|exact sq|fail)
 (refine kf ?_)
 exact ⟨rfl, xg⟩
theorem c_combined_span (r q : Rg) (M : Mem) : CallOk Tryz.prog 96 [rgv r, rgv q, .func (.func 108) [] []] M (fun w M' => w = rgv (map4 spanB r q) /\ Grow M M') := by
 refine call_in kq96 rfl ?_
 dsimp only [xq96, qm, qL, qi, qb, qC, qS, qo, qk, qK, qq, qZ, zipE, Nat.reduceAdd]
 (repeat' first|with_reducible intro _|refine sv ?_|refine su ?_|refine sc ?_ ?_<;>(intro h;try exact sz h)|(with_reducible first|apply x_pure|apply d_pure|apply d_pure0);exact gd;exact rfl;exact rfl;exact c_span _ _ _ _ _|refine sg ?_ ?_<;>(intro h;first|exact sz h|refine sy h ?_)|exact sq|fail)
 (refine kf ?_)
 exact ⟨rfl, xg⟩
theorem c_combined_plus (r q : Rg) (hr : Sm 1000000 r) (hq : Sm 1000000 q) (M : Mem) : CallOk Tryz.prog 96 [rgv r, rgv q, .func (.func 98) [] []] M (fun w M' => w = rgv (map4 plusB r q) /\ Grow M M') := by
 unfold Sm at hr hq
 refine call_in kq96 rfl ?_
 dsimp only [xq96, qm, qL, qi, qb, qC, qS, qo, qk, qK, qq, qZ, zipE, Nat.reduceAdd]
 (repeat' first|with_reducible intro _|refine sv ?_|refine su ?_|refine sc ?_ ?_<;>(intro h;try exact sz h)|(with_reducible first|apply x_pure|apply d_pure|apply d_pure0);exact gd;exact rfl;exact rfl;exact c_plus _ _ _ _ (by omega) (by omega) (by omega) (by omega) _|refine sg ?_ ?_<;>(intro h;first|exact sz h|refine sy h ?_)|exact sq|fail)
 (refine kf ?_)
 exact ⟨rfl, xg⟩
theorem c_Check (r : Rg) (M : Mem) : CallOk Tryz.prog 83 [rgv r] M (fun w M' => w = I (eRg r) /\ Grow M M') := by
 refine call_in kq83 rfl ?_
 dsimp only [xq83, qm, ql, qL, qi, qb, qc, qC, qS, qo, qk, qK, qq, qZ, zipE, Nat.reduceAdd]
 (repeat' first|with_reducible intro _|refine sv ?_|refine su ?_|refine sc ?_ ?_<;>(intro h;try exact sz h)|(with_reducible first|apply x_pure|apply d_pure|apply d_pure0);exact gd;exact rfl;exact rfl;(first|exact c_bounds _ _|exact c_fits _ _ _ (by omega) _)|refine sg ?_ ?_<;>(intro h;first|exact sz h|refine sy h ?_)|exact sq|fail)
 all_goals (refine kf ?_)
 all_goals refine ⟨?_, ?_⟩
 all_goals first
  |(exact xg; done)
  |(unfold eRg; split <;> first | rfl | (exfalso; omega))
set_option maxHeartbeats 4000000 in
theorem y_rows (r : Rg) (hr : Sm 10000000 r) {p : Nat} {own : Bool} {ty : TypeId} {M0 : Mem} (hp : At M0 p (.cells own (rgc r) ty)) :
  PvL.Yields Tryz.prog 104 [] [.ptr (some (p, 0))] (fun i => i = p) ((rowsL r).map fun t => [rowv t]) M0 := by
 intro l A J D hA hS stab stabD step h0
 have hpA : ¬ A p := hS p rfl
 unfold Sm at hr
 refine call_in kq104 rfl ?_
 dsimp only [xq104, qm, qf, ql, qB, qC, qg, qS, qo, qq, qZ, zipE, Nat.reduceAdd, List.nil_append, List.cons_append]
 (repeat' first|with_reducible intro _|refine sv ?_|refine sc ?_ ?_<;>(intro h;try exact sz h)|refine sg ?_ ?_<;>(intro h;first|exact sz h|refine sy h ?_)|exact sq|fail)
 refine w_loop_ind (fun n E ms M => ∃ k : Nat, n = rowsN r - k /\ k <= rowsN r /\ ms = [] /\ Has E [(0, .func (.yield l) [] []), (1, .ptr (some (p, 0))), (3, I (r.1.1 + (k : Int)))] /\ Keep A M0 M /\ J (rowsK r k).length M) ?_ (rowsN r) _ _ _ ⟨0, by omega, by omega, rfl, .cons rfl (.cons rfl (.cons (congrArg (fun z => some (I z)) (Int.add_zero _).symm) .nil)), Keep.refl _ _, h0⟩
 rintro n E ms M ⟨k, rfl, hk, rfl, hE, hkeep, hJ⟩
 have hp1 : At M p (.cells own (rgc r) ty) := hkeep.at hp hpA
 have hle := hkeep.le
 have hJ' : ∀ M', Grow M M' -> J (rowsK r k).length M' := fun M' hg => stab _ _ _ hJ hg.le fun i hi => hg.old i (Nat.lt_of_lt_of_le hi hle)
 have hn : rowsN r = (r.1.2 + 1 - r.1.1).toNat := rfl
 refine w_has hE ?_
 by_cases hlast : k = rowsN r
 ·have hl : r.1.2 < r.1.1 + (k : Int) := by omega
  (repeat' first|with_reducible intro _|refine sv ?_|refine sc ?_ ?_<;>(intro h;try exact sz h)|refine sg ?_ ?_<;>(intro h;first|exact sz h|refine sy h ?_)|exact sq|fail)
  (refine kf ?_)
  exact ⟨hkeep, .inl (by rw [List.length_map]; unfold rowsL; rw [<- hlast]; exact hJ)⟩
 ·have hl : r.1.1 + (k : Int) <= r.1.2 := by omega
  have hE' : ∀ E' : Env, PvL.look E' 0 = some (.func (.yield l) [] []) -> PvL.look E' 1 = some (.ptr (some (p, 0))) -> PvL.look E' 3 = some (I (r.1.1 + (k : Int) + 1)) -> Has E' [(0, .func (.yield l) [] []), (1, .ptr (some (p, 0))), (3, I (r.1.1 + ((k + 1 : Nat) : Int)))] := fun E' h0 h1 h3 =>
   .cons h0 (.cons h1 (.cons (by rw [h3, Int.natCast_add, Int.add_assoc]; rfl) .nil))
  by_cases hok : okRow (rowOf r (r.1.1 + (k : Int))) = true
  ·have hx : ((rowsL r).map fun t => [rowv t])[(rowsK r k).length]? = some [rowv (rowOf r (r.1.1 + (k : Int)))] := by
    rw [List.getElem?_map]; unfold rowsL; rw [rowsK_get r (by omega) hok]; rfl
   have hs : (rowsK r (k + 1)).length = (rowsK r k).length + 1 := by rw [rowsK_succ, if_pos hok, List.length_append]; rfl
   have hok' : iMax (iMax r.2.1.1 (r.2.2.1.1 - (r.1.1 + (k : Int)))) (r.1.1 + (k : Int) - r.2.2.2.2) <= iMin (iMin r.2.1.2 (r.2.2.1.2 - (r.1.1 + (k : Int)))) (r.1.1 + (k : Int) - r.2.2.2.1) := of_decide_eq_true hok
   (repeat' first|with_reducible intro _|refine sv ?_|refine sc ?_ ?_<;>(intro h;try exact sz h)|(with_reducible first|apply x_call|apply d_call|apply x_call0);exact gd;exact rfl;exact rfl;exact step _ _ hx _ (by omega) (hJ' _ (xg))|refine sg ?_ ?_<;>(intro h;first|exact sz h|refine sy h ?_)|exact sq|fail)
   obtain ⟨hk2, ⟨rfl, hJ2⟩ | ⟨rfl, hD⟩⟩ := ‹Keep A _ _ /\ _›
   ·have := hk2.le
    (repeat' first|with_reducible intro _|refine sv ?_|refine sc ?_ ?_<;>(intro h;try exact sz h)|refine sg ?_ ?_<;>(intro h;first|exact sz h|refine sy h ?_)|exact sq|fail)
    refine k_step (rowsN r - (k + 1)) (by omega) ⟨k + 1, rfl, by omega, rfl, hE' _ rfl rfl rfl, Keep.trans (xk) hk2 (fun i hi => .inl hi), by rw [hs]; exact hJ2⟩
   ·have := hk2.le
    (repeat' first|with_reducible intro _|refine sv ?_|refine sc ?_ ?_<;>(intro h;try exact sz h)|refine sg ?_ ?_<;>(intro h;first|exact sz h|refine sy h ?_)|exact sq|fail)
    (refine kf ?_)
    exact ⟨Keep.trans (xk) hk2 (fun i hi => .inl hi), .inr hD⟩
  ·have hs : rowsK r (k + 1) = rowsK r k := by rw [rowsK_succ, if_neg hok, List.append_nil]
   have hok' : iMin (iMin r.2.1.2 (r.2.2.1.2 - (r.1.1 + (k : Int)))) (r.1.1 + (k : Int) - r.2.2.2.1) < iMax (iMax r.2.1.1 (r.2.2.1.1 - (r.1.1 + (k : Int)))) (r.1.1 + (k : Int) - r.2.2.2.2) := by
    have : ¬ _ := fun h => hok (decide_eq_true h)
    exact Int.not_le.1 this
   (repeat' first|with_reducible intro _|refine sv ?_|refine sc ?_ ?_<;>(intro h;try exact sz h)|refine sg ?_ ?_<;>(intro h;first|exact sz h|refine sy h ?_)|exact sq|fail)
   refine k_step (rowsN r - (k + 1)) (by omega) ⟨k + 1, rfl, by omega, rfl, hE' _ rfl rfl rfl, xk, by rw [hs]; exact hJ' _ (xg)⟩
abbrev rowsV (p : Nat) : LV := .func (.func 104) [] [.ptr (some (p, 0))]
abbrev endsV (p : Nat) : LV := .func (.func 109) [] [.ptr (some (p, 0))]
theorem c_rows (r : Rg) (M : Mem) : CallOk Tryz.prog 85 [rgv r] M (MkAt rowsV (.cells true (rgc r) 159) M) := by
 refine call_in kq85 rfl ?_
 dsimp only [xq85, qm, qb, qo, qq, zipE, Nat.reduceAdd]
 (repeat' first|with_reducible intro _|refine sv ?_|refine sc ?_ ?_<;>(intro h;try exact sz h)|refine sg ?_ ?_<;>(intro h;first|exact sz h|refine sy h ?_)|exact sq|fail)
 (refine kf ?_)
 exact ⟨_, rfl, xm, by omega, by omega, xg⟩
theorem c_ends (r : Rg) (M : Mem) : CallOk Tryz.prog 100 [rgv r] M (MkAt endsV (.cells true (rgc r) 159) M) := by
 refine call_in kq100 rfl ?_
 dsimp only [xq100, qm, qb, qo, qq, zipE, Nat.reduceAdd]
 (repeat' first|with_reducible intro _|refine sv ?_|refine sc ?_ ?_<;>(intro h;try exact sz h)|refine sg ?_ ?_<;>(intro h;first|exact sz h|refine sy h ?_)|exact sq|fail)
 (refine kf ?_)
 exact ⟨_, rfl, xm, by omega, by omega, xg⟩
set_option maxHeartbeats 4000000 in
theorem y_ends (r : Rg) (hr : Sm 10000000 r) {p : Nat} {own : Bool} {ty : TypeId} {M0 : Mem} (hp : At M0 p (.cells own (rgc r) ty)) :
  PvL.Yields Tryz.prog 109 [] [.ptr (some (p, 0))] (fun i => i = p) ((endsL r).map fun q => [ptv q]) M0 := by
 intro l A J D hA hS stab stabD step h0
 have hpA : ¬ A p := hS p rfl
 refine call_in kq109 rfl ?_
 dsimp only [xq109, qm, qf, ql, qL, qb, qc, qg, qS, qo, qk, qK, qq, qZ, zipE, Nat.reduceAdd, List.nil_append, List.cons_append]
 (repeat' first|with_reducible intro _|refine sv ?_|refine sc ?_ ?_<;>(intro h;try exact sz h)|(with_reducible first|apply x_mkat|apply d_mkat);exact gd;exact rfl;exact rfl;exact c_rows r _|refine sg ?_ ?_<;>(intro h;first|exact sz h|refine sy h ?_)|exact sq|fail)
 rename_i n1 Ma hn1 e1 e2 p2 Mb hp2 e3 e3' hg2 hgl
 apply w_rfun
 exact rfl
 intro lb d l2 M1 M2 hlb hd e4 e5 hl e6 e7
 have ed : At M2 d .defr := At.new_old hl (At.new_same hd)
 have el : At M2 l2 (lb .ready none) := At.new_same hl
 have hp2' : At M2 p2 (.cells true (rgc r) 159) := At.new_old hl (At.new_old hd hp2)
 have hy : At M2 n1 (.cells true [.func (.yield l) [] []] _) := At.new_old hl (At.new_old hd (At.grow hg2 (At.new_same hn1)))
 have hJ0 : J 0 M2 := stab _ _ _ h0 (by omega) fun i hi => by
  rw [hl.grow.old i (by omega), hd.grow.old i (by omega), hg2.old i (by omega), hn1.grow.old i (by omega)]
 refine (y_rows r hr hp2' l2 (fun i => A i ∨ i = l2 ∨ i = n1 ∨ i = d)
  (fun k M => J (endsOf ((rowsL r).take k)).length M /\ At M l2 (lb .ready none) /\ At M n1 (.cells true [.func (.yield l) [] []] _) /\ At M d .defr)
  (fun M => D M /\ At M l2 (lb .done (some .ret)) /\ At M d .defr) ?_ ?_ ?_ ?_ ?_ ⟨hJ0, el, hy, ed⟩).mono ?_
 ·rintro i (hi | rfl | rfl | rfl)
  ·have := hA i hi; omega
  all_goals omega
 ·rintro i rfl (hi | hi | hi | hi)
  ·have := hA _ hi; omega
  all_goals omega
 ·rintro k M M' ⟨h1, h2, h3, h4⟩ hle hA'
  exact ⟨stab _ _ _ h1 hle fun i hi => hA' i (by omega), h2.same hle (hA' _ (by omega)), h3.same hle (hA' _ (by omega)), h4.same hle (hA' _ (by omega))⟩
 ·rintro M M' ⟨h1, h2, h3⟩ hle hA'
  exact ⟨stabD _ _ h1 hle fun i hi => hA' i (by omega), h2.same hle (hA' _ (by omega)), h3.same hle (hA' _ (by omega))⟩
 ·rintro k x hx M hle ⟨h1, h2, h3, h4⟩
  rw [List.getElem?_map] at hx
  obtain ⟨t, ht, rfl⟩ := Option.map_eq_some_iff.1 hx
  refine round_in hlb h2 rfl ?_
  dsimp only [zipP]
  have hgA : ∀ M', Keep (fun i => i = l2) M M' -> ∀ i, i < M0.next -> M'.get i = M.get i := fun M' hg i hi => hg.old i (by omega) (by intro e; omega)
  have hJ' : ∀ M', Keep (fun i => i = l2) M M' -> J (endsOf ((rowsL r).take k)).length M' := fun M' hg => stab _ _ _ h1 hg.le (hgA M' hg)
  have hsp := endsOf_split (rowsL r) ht
  have hsu := endsOf_succ (rowsL r) ht
  have hx1 : ((endsL r).map fun q => [ptv q])[(endsOf ((rowsL r).take k)).length]? = some [ptv (t.1, t.2.1)] := by
   rw [List.getElem?_map]; unfold endsL; rw [hsp, List.getElem?_append_right (Nat.le_refl _), Nat.sub_self]
   unfold ends1
   split <;> rfl
  (repeat' first|with_reducible intro _|refine sv ?_|refine sc ?_ ?_<;>(intro h;try exact sz h)|(with_reducible first|apply x_call|apply d_call|apply x_call0);exact gd;exact rfl;exact rfl;exact step _ _ hx1 _ (by omega) (hJ' _ (xk))|refine sg ?_ ?_<;>(intro h;first|exact sz h|refine sy h ?_)|exact sq|fail)
  rename_i w4 M4 hq4
  obtain ⟨hk4, hq4⟩ := hq4
  have hKM4 : Keep (fun i => A i ∨ i = l2 ∨ i = n1 ∨ i = d) M M4 := Keep.trans (xk) hk4 (fun i hi => .inl (.inl hi))
  have hle4 := hk4.le
  have hkw := hk4.weaken hA
  clear hk4
  rcases hq4 with ⟨rfl, hJ4⟩ | ⟨rfl, hD4⟩
  ·have hJ4' : ∀ M', Keep (fun i => i = l2) M4 M' -> J ((endsOf ((rowsL r).take k)).length + 1) M' := fun M' hg => stab _ _ _ hJ4 hg.le fun i hi => hg.old i (by omega) (by intro e; omega)
   by_cases hte : t.2.1 = t.2.2
   ·have he : ends1 t = [(t.1, t.2.1)] := if_pos hte
    have hlen : (endsOf ((rowsL r).take (k + 1))).length = (endsOf ((rowsL r).take k)).length + 1 := by rw [hsu, List.length_append, he]; rfl
    (repeat' first|with_reducible intro _|refine sv ?_|refine sc ?_ ?_<;>(intro h;try exact sz h)|refine sg ?_ ?_<;>(intro h;first|exact sz h|refine sy h ?_)|exact sq|fail)
    exact ⟨xk, .inl ⟨rfl, by rw [hlen]; exact hJ4' _ (xk), xm, xm, xm⟩⟩
   ·have he : ends1 t = [(t.1, t.2.1), (t.1, t.2.2)] := if_neg hte
    have hlen : (endsOf ((rowsL r).take (k + 1))).length = (endsOf ((rowsL r).take k)).length + 1 + 1 := by rw [hsu, List.length_append, he]; rfl
    have hx2 : ((endsL r).map fun q => [ptv q])[(endsOf ((rowsL r).take k)).length + 1]? = some [ptv (t.1, t.2.2)] := by
     rw [List.getElem?_map]; unfold endsL; rw [hsp, List.getElem?_append_right (by omega), Nat.add_sub_cancel_left, he]; rfl
    (repeat' first|with_reducible intro _|refine sv ?_|refine sc ?_ ?_<;>(intro h;try exact sz h)|(with_reducible first|apply x_call|apply d_call|apply x_call0);exact gd;exact rfl;exact rfl;exact step _ _ hx2 _ (by omega) hJ4|refine sg ?_ ?_<;>(intro h;first|exact sz h|refine sy h ?_)|exact sq|fail)
    rename_i w5 M5 hq5
    obtain ⟨hk5, hq5⟩ := hq5
    have hKM5 : Keep (fun i => A i ∨ i = l2 ∨ i = n1 ∨ i = d) M M5 := Keep.trans (xk) hk5 (fun i hi => .inl (.inl hi))
    have hle5 := hk5.le
    have hkw5 := hk5.weaken hA
    clear hk5
    rcases hq5 with ⟨rfl, hJ5⟩ | ⟨rfl, hD5⟩
    ·have hJ5' : ∀ M', Keep (fun i => i = l2) M5 M' -> J ((endsOf ((rowsL r).take k)).length + 1 + 1) M' := fun M' hg => stab _ _ _ hJ5 hg.le fun i hi => hg.old i (by omega) (by intro e; omega)
     (repeat' first|with_reducible intro _|refine sv ?_|refine sc ?_ ?_<;>(intro h;try exact sz h)|refine sg ?_ ?_<;>(intro h;first|exact sz h|refine sy h ?_)|exact sq|fail)
     exact ⟨xk, .inl ⟨rfl, by rw [hlen]; exact hJ5' _ (xk), xm, xm, xm⟩⟩
    ·have hD5' : ∀ M', Keep (fun i => i = l2) M5 M' -> D M' := fun M' hg => stabD _ _ hD5 hg.le fun i hi => hg.old i (by omega) (by intro e; omega)
     (repeat' first|with_reducible intro _|refine sv ?_|refine sc ?_ ?_<;>(intro h;try exact sz h)|refine sg ?_ ?_<;>(intro h;first|exact sz h|refine sy h ?_)|exact sq|fail)
     exact ⟨xk, .inr ⟨rfl, hD5' _ (xk), xm, xm⟩⟩
  ·have hD4' : ∀ M', Keep (fun i => i = l2) M4 M' -> D M' := fun M' hg => stabD _ _ hD4 hg.le fun i hi => hg.old i (by omega) (by intro e; omega)
   (repeat' first|with_reducible intro _|refine sv ?_|refine sc ?_ ?_<;>(intro h;try exact sz h)|refine sg ?_ ?_<;>(intro h;first|exact sz h|refine sy h ?_)|exact sq|fail)
   exact ⟨xk, .inr ⟨rfl, hD4' _ (xk), xm, xm⟩⟩
 ·rintro v M3 ⟨hk, hq⟩
  have hK3 : Keep A M0 M3 := Keep.trans (xk) hk (by rintro i (hi | rfl | rfl | rfl) <;> first | exact .inl hi | exact .inr (by omega))
  have hle3 := hk.le
  clear hk
  have hst : ∀ M', Keep (fun i => i = l2 ∨ i = d) M3 M' -> ∀ i, i < M0.next -> M'.get i = M3.get i := fun M' hg i hi => hg.old i (by omega) (by rintro (e | e) <;> omega)
  rcases hq with ⟨h1, h2, h3, h4⟩ | ⟨h1, h2, h4⟩
  ·refine k_iter h2 (by simp) fun M4 hu e8 a8 => ?_
   (repeat' first|with_reducible intro _|refine sv ?_|refine sc ?_ ?_<;>(intro h;try exact sz h)|refine sg ?_ ?_<;>(intro h;first|exact sz h|refine sy h ?_)|exact sq|fail)
   refine k_fun_end (.inl rfl) (by simp) (by intro q hq; obtain rfl := List.mem_singleton.1 hq; exact xm) fun M5 hm => ⟨_, .nil, ?_⟩
   have hK5 : Keep A M0 M5 := Keep.unmark (xk) hm (by intro q hq; obtain rfl := List.mem_singleton.1 hq; right; omega)
   refine ⟨hK5, .inl ?_⟩
   rw [List.length_map]
   rw [show (endsL r).length = (endsOf ((rowsL r).take ((rowsL r).map fun t => [rowv t]).length)).length by rw [List.length_map, List.take_length]; rfl]
   exact stab _ _ _ h1 (by rw [hm.next]; omega) (hst _ (Keep.unmark (xk) hm (by intro q hq; obtain rfl := List.mem_singleton.1 hq; exact .inl (.inr rfl))))
  ·refine k_iter_ret h2 (by simp) fun M4 hu e8 a8 => ?_
   (repeat' first|with_reducible intro _|refine sv ?_|refine sc ?_ ?_<;>(intro h;try exact sz h)|refine sg ?_ ?_<;>(intro h;first|exact sz h|refine sy h ?_)|exact sq|fail)
   refine k_fun_end (.inr rfl) (by simp) (by intro q hq; obtain rfl := List.mem_singleton.1 hq; exact xm) fun M5 hm => ⟨_, .nil, ?_⟩
   have hK5 : Keep A M0 M5 := Keep.unmark (xk) hm (by intro q hq; obtain rfl := List.mem_singleton.1 hq; right; omega)
   refine ⟨hK5, .inr ?_⟩
   exact stabD _ _ h1 (by rw [hm.next]; omega) (hst _ (Keep.unmark (xk) hm (by intro q hq; obtain rfl := List.mem_singleton.1 hq; exact .inl (.inr rfl))))
structure Gv where
 gf : FuncId
 ca : List LV
 S : Nat -> Prop
 pts : List (Int × Int)
abbrev Gv.lv (g : Gv) : LV := .func (.func g.gf) [] g.ca
set_option maxHeartbeats 4000000 in
theorem c_hull (gs : List Gv) {s o : Nat} {f : Bool} {e : Nat} {M0 : Mem} (hs : ∀ k (hk : k < gs.length), Rd1 M0 s (o + k * 1) gs[k].lv) (hsz : gs.length <= 1000000)
  (hy : ∀ g ∈ gs, ∀ M', Grow M0 M' -> PvL.Yields Tryz.prog g.gf [] g.ca g.S (g.pts.map fun p => [ptv p]) M') (hS : ∀ g ∈ gs, ∀ i, g.S i -> i < M0.next) (hp : ∀ g ∈ gs, ∀ p ∈ g.pts, SmP 1000000 p) :
  CallOk Tryz.prog 99 [.slice (some (s, o)) gs.length f e] M0 (fun w M' => w = .tup [rgv ((hullO none (gs.flatMap (·.pts))).getD zRg), .bool (hullO none (gs.flatMap (·.pts))).isSome] /\ Grow M0 M') := by
 refine call_in kq99 rfl ?_
 dsimp only [xq99, qm, ql, qL, qi, qc, qa, qn, qB, qC, qS, qo, qK, qq, qZ, zipE, Nat.reduceAdd]
 (repeat' first|with_reducible intro _|refine sv ?_|refine sc ?_ ?_<;>(intro h;try exact sz h)|refine sg ?_ ?_<;>(intro h;first|exact sz h|refine sy h ?_)|exact sq|fail)
 rename_i n2 M1 hn2 e1 e2 n3 M2 hn3 e3 e4
 refine w_loop_ind (fun n E ms M => ∃ k : Nat, n = gs.length - k /\ k <= gs.length /\ ms.Nodup /\ (∀ d ∈ ms, At M d .defr /\ M2.next <= d) /\
   Has E [(2, .ptr (some (n2, 0))), (3, .ptr (some (n3, 0))), (7, .slice (some (s, o)) gs.length f e), (8, I gs.length), (9, I k)] /\ Grow M0 M /\ M2.next <= M.next /\
   At M n2 (.cells true (rgc ((hullO none ((gs.take k).flatMap (·.pts))).getD zRg)) 159) /\ At M n3 (.cells true [.bool (hullO none ((gs.take k).flatMap (·.pts))).isSome] 4))
  ?_ gs.length _ _ _ ⟨0, by omega, by omega, List.nodup_nil, fun d hd => (by cases hd), .cons rfl (.cons rfl (.cons rfl (.cons rfl (.cons rfl .nil)))), xg, by omega, xm, xm⟩
 rintro n E ms M ⟨k, rfl, hk, hnd, hms, hE, hg, hle, hA2, hA3⟩
 refine w_has hE ?_
 by_cases hlast : k = gs.length
 ·subst hlast
  (repeat' first|with_reducible intro _|refine sv ?_|refine sc ?_ ?_<;>(intro h;try exact sz h)|refine sg ?_ ?_<;>(intro h;first|exact sz h|refine sy h ?_)|exact sq|fail)
  rename_i M5 _ _ _ M6 _ _ _
  refine k_fun_end (.inr rfl) hnd (fun d hd => by obtain ⟨h1, h2⟩ := hms d hd; exact xm) fun M7 hm => ?_
  have hn2' : n2 ∉ ms := fun h => by have := (hms _ h).2; omega
  have hn3' : n3 ∉ ms := fun h => by have := (hms _ h).2; omega
  have a2 : At M6 n2 (.cells true (rgc ((hullO none ((gs.take gs.length).flatMap (·.pts))).getD zRg)) 159) := xm
  have a3 : At M6 n3 (.cells true [.bool (hullO none ((gs.take gs.length).flatMap (·.pts))).isSome] 4) := xm
  refine ⟨_, .cellN rfl (Rd.of_at (a2.unmark hm hn2') rfl).1 (.cell1 rfl (Rd1.of_at (a3.unmark hm hn3') rfl).1 .nil), ?_, Grow.unmark (xg) hm (fun d hd => by have := (hms d hd).2; omega)⟩
  rw [List.take_length]; rfl
 ·have hlt : k < gs.length := by omega
  have hmem : gs[k] ∈ gs := List.getElem_mem hlt
  have htake : (gs.take (k + 1)).flatMap (·.pts) = (gs.take k).flatMap (·.pts) ++ gs[k].pts := by rw [List.take_succ_eq_append_getElem hlt, List.flatMap_append]; simp
  (have hrd0 := hs k hlt;repeat' first|with_reducible intro _|refine sv ?_|refine sc ?_ ?_<;>(intro h;try exact sz h)|refine sg ?_ ?_<;>(intro h;first|exact sz h|refine sy h ?_)|exact sq|fail)
  apply w_rfun
  exact rfl
  intro lb d l M3 M4 hlb hd e5 e6 hl e7 e8
  have hdef : ∀ d' ∈ d :: ms, At M4 d' .defr /\ M2.next <= d' /\ d' < l := fun d' hd' => by
   rcases List.mem_cons.1 hd' with rfl | hd'
   ·exact ⟨At.new_old hl (At.new_same hd), by omega, by omega⟩
   ·obtain ⟨h1, h2⟩ := hms d' hd'
    have := h1.lt
    exact ⟨At.new_old hl (At.new_old hd h1), h2, by omega⟩
  have hnd' : (d :: ms).Nodup := List.nodup_cons.2 ⟨fun h => by have := (hms d h).1.lt; omega, hnd⟩
  refine (hy gs[k] hmem M4 (xg) l (fun i => M0.next <= i /\ i < M4.next)
   (fun q M => At M n2 (.cells true (rgc ((hullO (hullO none ((gs.take k).flatMap (·.pts))) (gs[k].pts.take q)).getD zRg)) 159) /\ At M n3 (.cells true [.bool (hullO (hullO none ((gs.take k).flatMap (·.pts))) (gs[k].pts.take q)).isSome] 4) /\ At M l (lb .ready none) /\ ∀ d' ∈ d :: ms, At M d' .defr)
   (fun _ => False) ?_ ?_ ?_ ?_ ?_ ⟨xm, xm, xm, fun d' hd' => (hdef d' hd').1⟩).mono ?_
  ·rintro i ⟨h1, h2⟩; exact h2
  ·intro i hi h
   have := hS gs[k] hmem i hi
   omega
  ·rintro q M M' ⟨h1, h2, h3, h4⟩ hle' hA'
   exact ⟨h1.same hle' (hA' _ (by omega)), h2.same hle' (hA' _ (by omega)), h3.same hle' (hA' _ (by omega)), fun d' hd' => (h4 d' hd').same hle' (hA' _ (by have := (hdef d' hd').2.2; omega))⟩
  ·intro M M' h; exact h.elim
  ·rintro q x hx M' hle' ⟨h1, h2, h3, h4⟩
   rw [List.getElem?_map] at hx
   obtain ⟨p, hpq, rfl⟩ := Option.map_eq_some_iff.1 hx
   have hsm : SmP 1000000 p := hp gs[k] hmem p (List.mem_of_getElem? hpq)
   have hsu := hullO_take (hullO none ((gs.take k).flatMap (·.pts))) gs[k].pts hpq
   rw [hsu]
   generalize hullO (hullO none ((gs.take k).flatMap (·.pts))) (gs[k].pts.take q) = oq at *
   unfold SmP at hsm
   refine round_in hlb h3 rfl ?_
   dsimp only [zipP]
   cases oq with
   | none =>
    (repeat' first|with_reducible intro _|refine sv ?_|refine sc ?_ ?_<;>(intro h;try exact sz h)|(with_reducible first|apply x_pure|apply d_pure|apply d_pure0);exact gd;exact rfl;exact rfl;(first|exact c_of p (by omega) _|exact c_combined_span (ofP p) (ofP p) _)|refine sg ?_ ?_<;>(intro h;first|exact sz h|refine sy h ?_)|exact sq|fail)
    exact ⟨xk, .inl ⟨rfl, xm, xm, xm, fun d' hd' => by have hq := h4 d' hd'; obtain ⟨_, q1, q2⟩ := hdef d' hd'; exact xm⟩⟩
   | some r =>
    (repeat' first|with_reducible intro _|refine sv ?_|refine sc ?_ ?_<;>(intro h;try exact sz h)|(with_reducible first|apply x_pure|apply d_pure|apply d_pure0);exact gd;exact rfl;exact rfl;(first|exact c_of p (by omega) _|exact c_combined_span r (ofP p) _)|refine sg ?_ ?_<;>(intro h;first|exact sz h|refine sy h ?_)|exact sq|fail)
    exact ⟨xk, .inl ⟨rfl, xm, xm, xm, fun d' hd' => by have hq := h4 d' hd'; obtain ⟨_, q1, q2⟩ := hdef d' hd'; exact xm⟩⟩
  ·rintro v M5 ⟨hk5, ⟨h1, h2, h3, h4⟩ | h⟩
   ·have hg5 : Grow M0 M5 := (Grow.to_keep (xg) (fun _ => False) |>.trans hk5 (fun i hi => .inr hi.1)).to_grow (fun i hi => hi.elim)
    have hle5 := hk5.le
    have hfold : hullO none ((gs.take (k + 1)).flatMap (·.pts)) = hullO (hullO none ((gs.take k).flatMap (·.pts))) (gs[k].pts.take (gs[k].pts.map fun p => [ptv p]).length) := by
     rw [htake, List.length_map, List.take_length]; unfold hullO; rw [List.foldl_append]
    clear hk5
    refine k_iter h3 (by simp) fun M6 hu e9 a9 => ?_
    (repeat' first|with_reducible intro _|refine sv ?_|refine sc ?_ ?_<;>(intro h;try exact sz h)|refine sg ?_ ?_<;>(intro h;first|exact sz h|refine sy h ?_)|exact sq|fail)
    refine k_step (gs.length - (k + 1)) (by omega) ⟨k + 1, rfl, by omega, hnd', fun d' hd' => ⟨by have hq := h4 d' hd'; obtain ⟨_, q1, q2⟩ := hdef d' hd'; exact xm, (hdef d' hd').2.1⟩, .cons rfl (.cons rfl (.cons rfl (.cons rfl (.cons rfl .nil)))), xg, by omega, ?_, ?_⟩
    ·rw [hfold]; exact xm
    ·rw [hfold]; exact xm
   ·exact h.elim
theorem c_hull1 (r : Rg) (hr : Sm 500000 r) {p : Nat} {own : Bool} {ty : TypeId} {s : Nat} {f : Bool} {e : Nat} {M0 : Mem} (hp : At M0 p (.cells own (rgc r) ty)) (hs : Rd1 M0 s 0 (endsV p)) :
  CallOk Tryz.prog 99 [.slice (some (s, 0)) 1 f e] M0 (fun w M' => w = .tup [rgv ((tightO r).getD zRg), .bool (tightO r).isSome] /\ Grow M0 M') := by
 have h := c_hull [⟨109, [.ptr (some (p, 0))], (fun i => i = p), endsL r⟩] (s := s) (o := 0) (f := f) (e := e) (M0 := M0)
  (fun k hk => by obtain rfl : k = 0 := by simpa using hk
                  exact hs) (by simp)
  (fun g hg M' hM => by obtain rfl := List.mem_singleton.1 hg; exact y_ends r (hr.mono (by omega)) (At.grow hM hp))
  (fun g hg i hi => by obtain rfl := List.mem_singleton.1 hg; obtain rfl : i = p := hi; exact hp.2)
  (fun g hg q hq => by obtain rfl := List.mem_singleton.1 hg; exact (ends_sm hr hq).mono (by omega))
 rw [show List.flatMap (fun x : Gv => x.pts) [⟨109, [.ptr (some (p, 0))], (fun i => i = p), endsL r⟩] = endsL r by simp] at h
 exact h
theorem c_tight (r : Rg) (hr : Sm 500000 r) (M : Mem) : CallOk Tryz.prog 94 [rgv r] M (fun w M' => w = .tup [rgv ((tightO r).getD zRg), I (eTi r)] /\ Grow M M') := by
 refine call_in kq94 rfl ?_
 dsimp only [xq94, qm, qL, qi, qb, qe, qc, qS, qo, qq, qZ, zipE, Nat.reduceAdd]
 (repeat' first|with_reducible intro _|refine sv ?_|refine sc ?_ ?_<;>(intro h;try exact sz h)|(with_reducible first|apply x_pure|apply d_pure|apply d_pure0);exact gd;exact rfl;exact rfl;exact c_hull1 r hr (xm) (Rd1.of_at (At.new_same (by assumption)) rfl)|(with_reducible first|apply x_mkat|apply d_mkat);exact gd;exact rfl;exact rfl;exact c_ends r _|refine sg ?_ ?_<;>(intro h;first|exact sz h|refine sy h ?_)|exact sq|fail)
 all_goals (refine kf ?_)
 all_goals refine ⟨?_, xg⟩
 all_goals (unfold eTi; cases ht : tightO r <;> first | rfl | (simp [ht] at *; done))
theorem c_done (r : Rg) (e : Int) (M : Mem) : CallOk Tryz.prog 107 [rgv r, I e] M (fun w M' => w = resv (if e = 0 then (r, 0) else (zRg, e)) /\ Grow M M') := by
 refine call_in kq107 rfl ?_
 dsimp only [xq107, qm, qL, qi, qb, qc, qC, qS, qo, qq, qZ, zipE, Nat.reduceAdd]
 (repeat' first|with_reducible intro _|refine sv ?_|refine sc ?_ ?_<;>(intro h;try exact sz h)|(with_reducible first|apply x_pure|apply d_pure|apply d_pure0);exact gd;exact rfl;exact rfl;exact c_region r _|refine sg ?_ ?_<;>(intro h;first|exact sz h|refine sy h ?_)|exact sq|fail)
 all_goals (refine kf ?_)
 all_goals refine ⟨?_, xg⟩
 ·rw [if_neg (by omega)]; rfl
 ·rw [if_pos (by omega)]; rfl
theorem c_inside (r : Rg) (M : Mem) : CallOk Tryz.prog 95 [rgv r] M (fun w M' => w = resv (insideF r) /\ Grow M M') := by
 refine call_in kq95 rfl ?_
 dsimp only [xq95, qm, qL, qi, qb, qc, qg, qS, qo, qq, qZ, zipE, Nat.reduceAdd]
 (repeat' first|with_reducible intro _|refine sv ?_|refine sc ?_ ?_<;>(intro h;try exact sz h)|(with_reducible first|apply x_pure|apply d_pure|apply d_pure0);exact gd;exact rfl;exact rfl;(first|exact c_region r _|exact c_fits _ _ _ (by omega) _)|refine sg ?_ ?_<;>(intro h;first|exact sz h|refine sy h ?_)|exact sq|fail)
 all_goals (refine kf ?_)
 all_goals refine ⟨?_, xg⟩
 all_goals (unfold insideF; first | (rw [if_neg (by omega)]; rfl) | (rw [if_pos (by omega)]; rfl))
theorem c_Tight (r : Rg) (M : Mem) : CallOk Tryz.prog 93 [rgv r] M (fun w M' => w = resv (tightF r) /\ Grow M M') := by
 refine call_in kq93 rfl ?_
 dsimp only [xq93, qm, qL, qi, qb, qe, qc, qC, qS, qo, qq, qZ, zipE, Nat.reduceAdd]
 by_cases hok : RgOk r
 ·have hc : eRg r = 0 := if_pos hok
  (repeat' first|with_reducible intro _|refine sv ?_|refine sc ?_ ?_<;>(intro h;try exact sz h)|(with_reducible first|apply x_pure|apply d_pure|apply d_pure0);exact gd;exact rfl;exact rfl;(first|exact c_Check r _|exact c_bounds r _|exact c_tight r (hok.sm.mono (by omega)) _|exact c_done ((tightO r).getD zRg) (eTi r) _)|refine sg ?_ ?_<;>(intro h;first|exact sz h|refine sy h ?_)|exact sq|fail)
  all_goals (refine kf ?_)
  all_goals refine ⟨?_, xg⟩
  all_goals (unfold tightF eTi; rw [if_pos hok]; cases tightO r <;> rfl)
 ·have hc : eRg r = 11 := if_neg hok
  (repeat' first|with_reducible intro _|refine sv ?_|refine sc ?_ ?_<;>(intro h;try exact sz h)|(with_reducible first|apply x_pure|apply d_pure|apply d_pure0);exact gd;exact rfl;exact rfl;exact c_Check r _|refine sg ?_ ?_<;>(intro h;first|exact sz h|refine sy h ?_)|exact sq|fail)
  all_goals (refine kf ?_)
  all_goals refine ⟨?_, xg⟩
  all_goals (unfold tightF; rw [if_neg hok, hc]; rfl)
end Go.Proofs.YtifcpjfpjkoicaaGreat.C
end
section
open Go PvL Go.Proofs
set_option linter.unusedSimpArgs false
set_option linter.unusedVariables false
set_option maxHeartbeats 4000000
namespace Go.Proofs.YtifcpjfpjkoicaaGreat.C
theorem c_first2 (a b : Int) {s : Nat} {f : Bool} {e : Nat} {M : Mem} (h0 : Rd1 M s 0 (I a)) (h1 : Rd1 M s 1 (I b)) : CallOk Tryz.prog 81 [.slice (some (s, 0)) 2 f e] M (fun w M' => w = I (if a = 0 then b else a) /\ M' = M) := by
 refine call_in kq81 rfl ?_
 dsimp only [xq81, qm, ql, qi, qa, qn, qB, qC, qq, zipE, Nat.reduceAdd]
 (repeat' first|with_reducible intro _|refine sv ?_|refine su ?_|refine sc ?_ ?_<;>(intro h;try exact sz h)|refine sg ?_ ?_<;>(intro h;first|exact sz h|refine sy h ?_)|exact sq|fail)
 all_goals (refine kf ?_)
 all_goals refine ⟨?_, rfl⟩
 ·rw [if_neg (by omega)]; rfl
 ·rw [if_pos (by omega)]; rfl
 ·rw [if_pos (by omega)]; exact congrArg I (by omega)
theorem into_in {l n : Int} (h : -l <= n /\ n <= l) : iMax (-l) (iMin n l) = n := by unfold iMax iMin; omega
theorem into_out {l n : Int} (hl : 0 <= l) (h : ¬ (-l <= n /\ n <= l)) : iMax (-l) (iMin n l) ≠ n := by unfold iMax iMin; omega
theorem c_Move (r : Rg) (p : Int × Int) (M : Mem) : CallOk Tryz.prog 78 [rgv r, ptv p] M (fun w M' => w = resv (moveF r p) /\ Grow M M') := by
 refine call_in kq78 rfl ?_
 dsimp only [xq78, qm, qf, ql, qL, qi, qb, qe, qc, qB, qC, qg, qS, qo, qk, qK, qq, qZ, zipE, Nat.reduceAdd]
 by_cases hok : RgOk r
 ·have hc : eRg r = 0 := if_pos hok
  by_cases hp : SmP 65536 p
  ·have hsof : Sm 1000000 (ofP p) := by unfold Sm ofP; dsimp only; omega
   have h1 := into_in hp.1
   have h2 := into_in hp.2
   cases ht : tightO r with
   | none =>
    have he : eTi r = 4 := by unfold eTi; rw [ht]; rfl
    (repeat' first|with_reducible intro _|refine sv ?_|refine sc ?_ ?_<;>(intro h;try exact sz h)|(with_reducible first|apply x_same|apply d_same|apply d_same0);exact gd;exact rfl;exact rfl;exact c_into _ _ (by omega) _|(with_reducible first|apply x_pure|apply d_pure|apply d_pure0);exact gd;exact rfl;exact rfl;(first|exact c_Check r _|exact c_bounds r _|exact c_tight r (hok.sm.mono (by omega)) _)|refine sg ?_ ?_<;>(intro h;first|exact sz h|refine sy h ?_)|exact sq|fail)
    all_goals (refine kf ?_)
    all_goals refine ⟨?_, xg⟩
    all_goals (unfold moveF; rw [if_pos hok, if_pos hp, ht, he]; rfl)
   | some t =>
    have he : eTi r = 0 := by unfold eTi; rw [ht]; rfl
    have hs := tight_sm hok.sm
    (repeat' first|with_reducible intro _|refine sv ?_|refine sc ?_ ?_<;>(intro h;try exact sz h)|(with_reducible first|apply x_same|apply d_same|apply d_same0);exact gd;exact rfl;exact rfl;exact c_into _ _ (by omega) _|(with_reducible first|apply x_pure|apply d_pure|apply d_pure0);exact gd;exact rfl;exact rfl;(first|exact c_Check r _|exact c_bounds r _|exact c_tight r (hok.sm.mono (by omega)) _|exact c_of p (by omega) _|exact c_combined_plus ((tightO r).getD zRg) (ofP p) (hs.mono (by omega)) hsof _|exact c_inside (map4 plusB ((tightO r).getD zRg) (ofP p)) _)|refine sg ?_ ?_<;>(intro h;first|exact sz h|refine sy h ?_)|exact sq|fail)
    all_goals (refine kf ?_)
    all_goals refine ⟨?_, xg⟩
    all_goals (unfold moveF; rw [if_pos hok, if_pos hp, ht]; rfl)
  ·have hz : moveF r p = (zRg, 7) := by unfold moveF; rw [if_pos hok, if_neg hp]
   by_cases hx : -65536 <= p.1 /\ p.1 <= 65536
   ·have h1 := into_in hx
    have h2 := into_out (l := 65536) (n := p.2) (by omega) (fun h => hp ⟨hx, h⟩)
    (repeat' first|with_reducible intro _|refine sv ?_|refine sc ?_ ?_<;>(intro h;try exact sz h)|(with_reducible first|apply x_same|apply d_same|apply d_same0);exact gd;exact rfl;exact rfl;exact c_into _ _ (by omega) _|(with_reducible first|apply x_pure|apply d_pure|apply d_pure0);exact gd;exact rfl;exact rfl;exact c_Check r _|refine sg ?_ ?_<;>(intro h;first|exact sz h|refine sy h ?_)|exact sq|fail)
    all_goals (refine kf ?_)
    all_goals refine ⟨?_, xg⟩
    all_goals (rw [hz]; rfl)
   ·have h1 := into_out (l := 65536) (n := p.1) (by omega) hx
    (repeat' first|with_reducible intro _|refine sv ?_|refine sc ?_ ?_<;>(intro h;try exact sz h)|(with_reducible first|apply x_same|apply d_same|apply d_same0);exact gd;exact rfl;exact rfl;exact c_into _ _ (by omega) _|(with_reducible first|apply x_pure|apply d_pure|apply d_pure0);exact gd;exact rfl;exact rfl;exact c_Check r _|refine sg ?_ ?_<;>(intro h;first|exact sz h|refine sy h ?_)|exact sq|fail)
    all_goals (refine kf ?_)
    all_goals refine ⟨?_, xg⟩
    all_goals (rw [hz]; rfl)
 ·have hc : eRg r = 11 := if_neg hok
  (repeat' first|with_reducible intro _|refine sv ?_|refine sc ?_ ?_<;>(intro h;try exact sz h)|(with_reducible first|apply x_pure|apply d_pure|apply d_pure0);exact gd;exact rfl;exact rfl;exact c_Check r _|refine sg ?_ ?_<;>(intro h;first|exact sz h|refine sy h ?_)|exact sq|fail)
  all_goals (refine kf ?_)
  all_goals refine ⟨?_, xg⟩
  all_goals (unfold moveF; rw [if_neg hok, hc]; rfl)
theorem c_hull2 (a b : Rg) (ha : Sm 500000 a) (hb : Sm 500000 b) {p q : Nat} {own own' : Bool} {ty ty' : TypeId} {s : Nat} {f : Bool} {e : Nat} {M0 : Mem} (hp : At M0 p (.cells own (rgc a) ty)) (hq : At M0 q (.cells own' (rgc b) ty')) (h0 : Rd1 M0 s 0 (endsV p)) (h1 : Rd1 M0 s 1 (endsV q)) :
  CallOk Tryz.prog 99 [.slice (some (s, 0)) 2 f e] M0 (fun w M' => w = .tup [rgv ((hullO none (endsL a ++ endsL b)).getD zRg), .bool (hullO none (endsL a ++ endsL b)).isSome] /\ Grow M0 M') := by
 have h := c_hull [⟨109, [.ptr (some (p, 0))], (fun i => i = p), endsL a⟩, ⟨109, [.ptr (some (q, 0))], (fun i => i = q), endsL b⟩] (s := s) (o := 0) (f := f) (e := e) (M0 := M0)
  (fun k hk => by
   match k, hk with
   | 0, _ => exact h0
   | 1, _ => exact h1
   | k + 2, hk => exact absurd hk (by simp)) (by simp)
  (fun g hg M' hM => by
   rcases List.mem_cons.1 hg with rfl | hg
   ·exact y_ends a (ha.mono (by omega)) (At.grow hM hp)
   ·obtain rfl := List.mem_singleton.1 hg; exact y_ends b (hb.mono (by omega)) (At.grow hM hq))
  (fun g hg i hi => by
   rcases List.mem_cons.1 hg with rfl | hg
   ·obtain rfl : i = p := hi; exact hp.2
   ·obtain rfl := List.mem_singleton.1 hg; obtain rfl : i = q := hi; exact hq.2)
  (fun g hg r hr => by
   rcases List.mem_cons.1 hg with rfl | hg
   ·exact (ends_sm ha hr).mono (by omega)
   ·obtain rfl := List.mem_singleton.1 hg; exact (ends_sm hb hr).mono (by omega))
 rw [show List.flatMap (fun x : Gv => x.pts) [⟨109, [.ptr (some (p, 0))], (fun i => i = p), endsL a⟩, ⟨109, [.ptr (some (q, 0))], (fun i => i = q), endsL b⟩] = endsL a ++ endsL b by simp] at h
 exact h
theorem c_Join (a b : Rg) (M : Mem) : CallOk Tryz.prog 79 [rgv a, rgv b] M (fun w M' => w = resv (joinF a b) /\ Grow M M') := by
 refine call_in kq79 rfl ?_
 dsimp only [xq79, qm, qL, qi, qb, qe, qc, qC, qS, qo, qk, qK, qq, qZ, zipE, Nat.reduceAdd]
 by_cases hok : RgOk a /\ RgOk b
 ·have hc : eRg a = 0 := if_pos hok.1
  have hc' : eRg b = 0 := if_pos hok.2
  have h0 : (if eRg a = 0 then eRg b else eRg a) = 0 := by rw [hc, hc']; rfl
  (repeat' first|with_reducible intro _|refine sv ?_|refine sc ?_ ?_<;>(intro h;try exact sz h)|(with_reducible first|apply x_same|apply d_same|apply d_same0);exact gd;exact rfl;exact rfl;exact c_first2 _ _ (Rd1.of_at (At.new_same (by assumption)) rfl) (Rd1.of_at (At.new_same (by assumption)) rfl)|(with_reducible first|apply x_pure|apply d_pure|apply d_pure0);exact gd;exact rfl;exact rfl;(first|exact c_Check a _|exact c_Check b _|exact c_bounds a _|exact c_bounds b _|exact c_hull2 a b (hok.1.sm.mono (by omega)) (hok.2.sm.mono (by omega)) (xm) (xm) (Rd1.of_at (At.new_same (by assumption)) rfl) (Rd1.of_at (At.new_same (by assumption)) rfl)|exact c_region ((hullO none (endsL a ++ endsL b)).getD zRg) _)|(with_reducible first|apply x_mkat|apply d_mkat);exact gd;exact rfl;exact rfl;(first|exact c_ends a _|exact c_ends b _)|refine sg ?_ ?_<;>(intro h;first|exact sz h|refine sy h ?_)|exact sq|fail)
  all_goals (refine kf ?_)
  all_goals refine ⟨?_, xg⟩
  all_goals first | (rw [joinF_some hok (by assumption)]; rfl) | (rw [joinF_none hok (by assumption)]; rfl)
 ·have h0 : (if eRg a = 0 then eRg b else eRg a) = 11 := by
   unfold eRg
   by_cases h1 : RgOk a
   ·rw [if_pos h1, if_pos rfl, if_neg (fun h2 => hok ⟨h1, h2⟩)]
   ·rw [if_neg h1]; rfl
  (repeat' first|with_reducible intro _|refine sv ?_|refine sc ?_ ?_<;>(intro h;try exact sz h)|(with_reducible first|apply x_same|apply d_same|apply d_same0);exact gd;exact rfl;exact rfl;exact c_first2 _ _ (Rd1.of_at (At.new_same (by assumption)) rfl) (Rd1.of_at (At.new_same (by assumption)) rfl)|(with_reducible first|apply x_pure|apply d_pure|apply d_pure0);exact gd;exact rfl;exact rfl;(first|exact c_Check a _|exact c_Check b _)|refine sg ?_ ?_<;>(intro h;first|exact sz h|refine sy h ?_)|exact sq|fail)
  all_goals (refine kf ?_)
  all_goals refine ⟨?_, xg⟩
  all_goals (unfold joinF; rw [if_neg hok, h0]; rfl)
theorem c_Swept (r : Rg) (p q : Int × Int) (M : Mem) : CallOk Tryz.prog 62 [rgv r, ptv p, ptv q] M (fun w M' => w = resv (sweptF r p q) /\ Grow M M') := by
 refine call_in kq62 rfl ?_
 dsimp only [xq62, qm, qL, qi, qb, qe, qc, qC, qS, qo, qq, qZ, zipE, Nat.reduceAdd]
 by_cases h1 : (moveF r p).2 = 0
 ·by_cases h2 : (moveF r q).2 = 0
  ·(repeat' first|with_reducible intro _|refine sv ?_|refine sc ?_ ?_<;>(intro h;try exact sz h)|(with_reducible first|apply x_pure|apply d_pure|apply d_pure0);exact gd;exact rfl;exact rfl;(first|exact c_Move r p _|exact c_Move r q _|exact c_Join (moveF r p).1 (moveF r q).1 _)|refine sg ?_ ?_<;>(intro h;first|exact sz h|refine sy h ?_)|exact sq|fail)
   all_goals (refine kf ?_)
   all_goals refine ⟨?_, xg⟩
   all_goals (unfold sweptF; rw [if_pos h1, if_pos h2]; rfl)
  ·(repeat' first|with_reducible intro _|refine sv ?_|refine sc ?_ ?_<;>(intro h;try exact sz h)|(with_reducible first|apply x_pure|apply d_pure|apply d_pure0);exact gd;exact rfl;exact rfl;(first|exact c_Move r p _|exact c_Move r q _)|refine sg ?_ ?_<;>(intro h;first|exact sz h|refine sy h ?_)|exact sq|fail)
   all_goals (refine kf ?_)
   all_goals refine ⟨?_, xg⟩
   all_goals (unfold sweptF; rw [if_pos h1, if_neg h2]; rfl)
 ·(repeat' first|with_reducible intro _|refine sv ?_|refine sc ?_ ?_<;>(intro h;try exact sz h)|(with_reducible first|apply x_pure|apply d_pure|apply d_pure0);exact gd;exact rfl;exact rfl;exact c_Move r p _|refine sg ?_ ?_<;>(intro h;first|exact sz h|refine sy h ?_)|exact sq|fail)
  all_goals (refine kf ?_)
  all_goals refine ⟨?_, xg⟩
  all_goals (unfold sweptF; rw [if_neg h1]; rfl)
end Go.Proofs.YtifcpjfpjkoicaaGreat.C
end
