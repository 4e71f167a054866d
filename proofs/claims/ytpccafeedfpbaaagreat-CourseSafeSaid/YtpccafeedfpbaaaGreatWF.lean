/-
  Part of the proof of CourseSafe: what functions of the program and of the statement come to, walked by the rules. No condition beyond those in each theorem.
-/
import Derived.Test.YtpccafeedfpbaaaGreatWB
import Derived.Test.YtpccafeedfpbaaaGreatSA
import Derived.Test.YtpccafeedfpbaaaGreatWE
section
open Go PvL Go.Proofs
set_option linter.unusedVariables false
set_option linter.unusedSimpArgs false
namespace Go.Proofs.YtpccafeedfpbaaaGreat.C
set_option maxHeartbeats 8000000 in
theorem c_in {l : List Pt} (hf : FieldOk l) {p : Pt} (hp : PlP p) {s o : Nat} {f : Bool} {M : Mem} (hr : ∀ k (hk : k < l.length), Rd M s (o + k * 2) 2 (ptc l[k])) : CallOk Tryz.prog 93 [.slice (some (s, o)) l.length f 2, ptv p] M (fun w M' => w = .bool (inF l p) ∧ Grow M M') := by
  refine call_in k93 rfl ?_
  dsimp only [x93, zipE, Nat.reduceAdd]
  have hpl := hf.2.2.1
  have hlen3 := hf.1
  have hlen8 := hf.2.1
  (repeat' (first | (with_reducible intro _) | refine sv ?_ | (refine sc ?_ ?_ <;> (intro h; try first | exact h.elim | exact absurd rfl h | (exfalso; omega))) | ((with_reducible first | apply x_mkat | apply d_mkat); exact gd; exact rfl; exact rfl; (first | exact c_sides _ _ _ _ _)) | (refine sg ?_ ?_ <;> (intro h; (fail_if_success (have : True := h)); try first | exact h.elim | exact absurd rfl h | (exfalso; omega))) | assumption | exact xm | exact rfl))
  rename_i n3 Mb3 hb3 q1 q2 n4 Mb4 hb4 q3 q4 p2 Mg hp2 q14 q15 hg2 q16
  refine w_has (E' := [(3, .ptr (some (n3, 0))), (4, .ptr (some (n4, 0))), (8, sidesV p2)]) (.cons rfl (.cons rfl (.cons rfl .nil))) ?_
  apply w_rfun
  exact rfl
  intro lb d l1 M1 M2 hlb hd e1 e2 hl1 e3 e4
  have ed : At M2 d .defr := At.new_old hl1 (At.new_same hd)
  have el : At M2 l1 (lb .ready none) := At.new_same hl1
  have ep : At M2 p2 (.cells true [.slice (some (s, o)) l.length f 2] 24) := At.new_old hl1 (At.new_old hd hp2)
  have gM : Grow M M2 := xg
  have gs3 : ∀ k (hk : k < l.length), s < M.next := fun k hk => (hr k hk).2
  have hsM := gs3 0 (by omega)
  refine (y_sides (by omega) (by omega) ep (fun k hk => (hr k hk).grow gM) l1 (fun i => M.next ≤ i ∧ i < M2.next ∧ i ≠ p2)
    (fun k M' => (∀ q ∈ (sidesL l).take k, 0 ≤ turnP q.1 q.2 p) ∧ At M' l1 (lb .ready none) ∧ At M' d .defr ∧ At M' n3 (.cells true [I p.1, I p.2] 30) ∧ At M' n4 (.cells true [.bool false] 4))
    (fun M' => inF l p = false ∧ At M' l1 (lb .done (some .ret)) ∧ At M' d .defr ∧ At M' n4 (.cells true [.bool false] 4)) ?_ ?_ ?_ ?_ ?_ ⟨by simp, el, ed, xm, xm⟩).mono ?_
  · rintro i ⟨h1, h2, h3⟩; exact h2
  · rintro i (rfl | rfl) ⟨h1, h2, h3⟩
    · exact h3 rfl
    · omega
  · rintro k M3 M3' ⟨h1, h2, h3, h4, h5⟩ hle' hA'
    exact ⟨h1, h2.same hle' (hA' _ (by omega)), h3.same hle' (hA' _ (by omega)), h4.same hle' (hA' _ (by omega)), h5.same hle' (hA' _ (by omega))⟩
  · rintro M3 M3' ⟨h1, h2, h3, h4⟩ hle' hA'
    exact ⟨h1, h2.same hle' (hA' _ (by omega)), h3.same hle' (hA' _ (by omega)), h4.same hle' (hA' _ (by omega))⟩
  · rintro k x hx M3 hle3 ⟨h1, h2, h3, h4, h5⟩
    rw [List.getElem?_map] at hx
    obtain ⟨q, hq, rfl⟩ := Option.map_eq_some_iff.1 hx
    obtain ⟨hpq1, hpq2⟩ := sides_mem hpl (List.mem_of_getElem? hq)
    have htake : (sidesL l).take (k + 1) = (sidesL l).take k ++ [q] := by
      obtain ⟨hlt, rfl⟩ := List.getElem?_eq_some_iff.1 hq
      exact List.take_succ_eq_append_getElem hlt
    refine round_in hlb h2 rfl ?_
    dsimp only [zipP]
    by_cases ht : turnP q.1 q.2 p < 0
    · have hin : inF l p = false := by
        unfold inF
        rw [← Bool.not_eq_true, List.all_eq_true]
        intro hc
        have := of_decide_eq_true (hc q (List.mem_of_getElem? hq))
        omega
      (repeat' (first | (with_reducible intro _) | refine sv ?_ | (refine sc ?_ ?_ <;> (intro h; try first | exact h.elim | exact absurd rfl h | (exfalso; omega))) | ((with_reducible first | apply x_pure | apply d_pure); exact gd; exact rfl; exact rfl; (first | exact c_left q.1 q.2 p hpq1 hpq2 hp _)) | (refine sg ?_ ?_ <;> (intro h; (fail_if_success (have : True := h)); try first | exact h.elim | exact absurd rfl h | (exfalso; omega))) | assumption | exact xm | exact rfl))
      exact ⟨xk, .inr ⟨rfl, hin, xm, xm, xm⟩⟩
    · (repeat' (first | (with_reducible intro _) | refine sv ?_ | (refine sc ?_ ?_ <;> (intro h; try first | exact h.elim | exact absurd rfl h | (exfalso; omega))) | ((with_reducible first | apply x_pure | apply d_pure); exact gd; exact rfl; exact rfl; (first | exact c_left q.1 q.2 p hpq1 hpq2 hp _)) | (refine sg ?_ ?_ <;> (intro h; (fail_if_success (have : True := h)); try first | exact h.elim | exact absurd rfl h | (exfalso; omega))) | assumption | exact xm | exact rfl))
      exact ⟨xk, .inl ⟨rfl, fun q' hq' => by
        rw [htake] at hq'
        rcases List.mem_append.1 hq' with hq' | hq'
        · exact h1 q' hq'
        · obtain rfl := List.mem_singleton.1 hq'; omega, xm, xm, xm, xm⟩⟩
  · rintro v M3 ⟨hk3, hq3⟩
    have hle3 := hk3.le
    have hg3 : Grow M M3 := (gM.to_keep (fun _ => False) |>.trans hk3 (fun i hi => .inr hi.1)).to_grow (fun i hi => hi.elim)
    clear hk3
    rcases hq3 with ⟨h1, h2, h3, h4, h5⟩ | ⟨h1, h2, h3, h4⟩
    · rw [show ((sidesL l).map fun q => [ptv q.1, ptv q.2]).length = (sidesL l).length from List.length_map _, List.take_length] at h1
      have hv : inF l p = true := by
        unfold inF
        rw [List.all_eq_true]
        exact fun q hq => decide_eq_true (h1 q hq)
      refine k_iter h2 (by simp) fun M4 hu4 e7 a7 => ?_
      (repeat' (first | (with_reducible intro _) | refine sv ?_ | (refine sc ?_ ?_ <;> (intro h; try first | exact h.elim | exact absurd rfl h | (exfalso; omega))) | (refine sg ?_ ?_ <;> (intro h; (fail_if_success (have : True := h)); try first | exact h.elim | exact absurd rfl h | (exfalso; omega))) | assumption | exact xm | exact rfl))
      rename_i M6 _ _ _
      refine k_fun_end (.inr rfl) (by simp) (fun d' hd' => by obtain rfl := List.mem_singleton.1 hd'; exact xm) fun M7 hm => ?_
      have a5 : At M6 n4 (.cells true [.bool true] 4) := xm
      have n4' : n4 ∉ [d] := by simp; omega
      refine ⟨_, .cell1 rfl (Rd1.of_at (a5.unmark hm n4') rfl).1 .nil, ?_, Grow.unmark (xg) hm (fun d' hd' => by obtain rfl := List.mem_singleton.1 hd'; omega)⟩
      rw [hv]; rfl
    · refine k_iter_ret h2 (by simp) fun M4 hu4 e7 a7 => ?_
      (repeat' (first | (with_reducible intro _) | refine sv ?_ | (refine sc ?_ ?_ <;> (intro h; try first | exact h.elim | exact absurd rfl h | (exfalso; omega))) | (refine sg ?_ ?_ <;> (intro h; (fail_if_success (have : True := h)); try first | exact h.elim | exact absurd rfl h | (exfalso; omega))) | assumption | exact xm | exact rfl))
      refine k_fun_end (.inr rfl) (by simp) (fun d' hd' => by obtain rfl := List.mem_singleton.1 hd'; exact xm) fun M7 hm => ?_
      have a5 : At M4 n4 (.cells true [.bool false] 4) := xm
      have n4' : n4 ∉ [d] := by simp; omega
      refine ⟨_, .cell1 rfl (Rd1.of_at (a5.unmark hm n4') rfl).1 .nil, ?_, Grow.unmark (xg) hm (fun d' hd' => by obtain rfl := List.mem_singleton.1 hd'; omega)⟩
      rw [h1]; rfl
end Go.Proofs.YtpccafeedfpbaaaGreat.C
end
section
open Go PvL Go.Proofs
set_option linter.unusedVariables false
set_option linter.unusedSimpArgs false
namespace Go.Proofs.YtpccafeedfpbaaaGreat.C
theorem c_Inside {a : Option (Nat × Nat)} {f : Bool} {l : List Pt} {p : Pt} {M : Mem} (hl : SlA 2 ptc M a l) (hlen : l.length ≤ 1000000000000000) (hf : FieldOk l) (hp : PlP p) : CallOk Tryz.prog 40 [.slice a l.length f 2, ptv p] M (fun w M' => w = .tup [.bool (inF l p), I 0] ∧ Grow M M') := by
  refine call_in k40 rfl ?_
  dsimp only [x40, zipE, Nat.reduceAdd]
  have hlen3 := hf.1
  obtain ⟨s, o, rfl, hr⟩ := hl.resolve_left (fun h => by subst h; simp at hlen3)
  have hcf := fun M' (hg : Grow M M') => c_CheckField (f := f) (SlA.grow hl hg) hlen
  have hci := fun M' (hg : Grow M M') => c_in (f := f) hf hp (fun k hk => (hr k hk).grow hg)
  have e1 : eFd l = 0 := if_pos hf
  have e2 : ePt p.1 p.2 = 0 := if_pos hp
  have he : (if eFd l = 0 then ePt p.1 p.2 else eFd l) = 0 := by rw [e1, e2]; rfl
  (repeat' (first | (with_reducible intro _) | refine sv ?_ | (refine sc ?_ ?_ <;> (intro h; try first | exact h.elim | exact absurd rfl h | (exfalso; omega))) | ((with_reducible first | apply x_same | apply d_same); exact gd; exact rfl; exact rfl; (first | exact c_first2 _ _ (Rd1.of_at (At.new_same (by assumption)) rfl) (Rd1.of_at (At.new_same (by assumption)) rfl))) | ((with_reducible first | apply x_pure | apply d_pure); exact gd; exact rfl; exact rfl; (first | exact hcf _ (xg) | exact c_CheckPoint _ _ _ | exact hci _ (xg))) | (refine sg ?_ ?_ <;> (intro h; (fail_if_success (have : True := h)); try first | exact h.elim | exact absurd rfl h | (exfalso; omega))) | assumption | exact xm | exact rfl))
  all_goals ((with_reducible first | apply k_fun | apply k_fun_norm); exact rx)
  all_goals exact ⟨rfl, xg⟩
theorem eq_bound {D : Nat} (hD : 6 < D) (a a' b b' : Int) : eqL Tryz.prog D 26 (.agg [I a, I a']) (.agg [I b, I b']) = some (decide (a = b) && (decide (a' = b') && true)) := by
  refine shape_ok 6 D 26 [0, 1] hD (by kernel_rfl) _ _ _ (fun N hN => ?_) ?_
  · have h4 : szOf Tryz.prog 26 = some 2 := by kernel_rfl
    rw [h4] at hN
    cases hN
    exact ⟨Nat.le_refl _, Nat.le_refl _⟩
  · rfl
theorem und_four : Tryz.prog.underlying 163 = some (.array 4 26) := by kernel_rfl
theorem sz_bound : szOf Tryz.prog 26 = some 2 := by kernel_rfl
theorem ag_bound : aggSz Tryz.prog 26 = some (some 2) := by kernel_rfl
theorem andO_some (p q : Bool) : andO (some p) (some q) = some (p && q) := by cases p <;> cases q <;> rfl
set_option maxRecDepth 100000 in
theorem eq_fourD {D : Nat} (hD : 6 < D) (a b : Rg) : eqL Tryz.prog (D + 1) 163 (rgv a) (rgv b) = some (decide (a = b)) := by
  unfold eqL
  rw [und_four]
  dsimp only
  show ob (szOf Tryz.prog 26) (fun n => arrEq Tryz.prog (eqL Tryz.prog D) 26 n (rgc a) (rgc b) [0, 1, 2, 3]) = _
  rw [sz_bound, ob_some]
  unfold arrEq arrEq arrEq arrEq arrEq eqPart
  show andO (ob (aggSz Tryz.prog 26) _) (andO (ob (aggSz Tryz.prog 26) _) (andO (ob (aggSz Tryz.prog 26) _) (andO (ob (aggSz Tryz.prog 26) _) (some true)))) = _
  rw [ag_bound, ob_some, ob_some, ob_some, ob_some]
  show andO (eqL Tryz.prog D 26 (.agg [I a.1.1, I a.1.2]) (.agg [I b.1.1, I b.1.2])) (andO (eqL Tryz.prog D 26 (.agg [I a.2.1.1, I a.2.1.2]) (.agg [I b.2.1.1, I b.2.1.2])) (andO (eqL Tryz.prog D 26 (.agg [I a.2.2.1.1, I a.2.2.1.2]) (.agg [I b.2.2.1.1, I b.2.2.1.2])) (andO (eqL Tryz.prog D 26 (.agg [I a.2.2.2.1, I a.2.2.2.2]) (.agg [I b.2.2.2.1, I b.2.2.2.2])) (some true)))) = _
  rw [eq_bound hD, eq_bound hD, eq_bound hD, eq_bound hD, andO_some, andO_some, andO_some, andO_some]
  congr 1
  rw [Bool.eq_iff_iff]
  simp only [Bool.and_eq_true, decide_eq_true_eq, and_true]
  exact ⟨fun ⟨⟨h1, h2⟩, ⟨h3, h4⟩, ⟨h5, h6⟩, h7, h8⟩ => Prod.ext (Prod.ext h1 h2) (Prod.ext (Prod.ext h3 h4) (Prod.ext (Prod.ext h5 h6) (Prod.ext h7 h8))), fun h => by rw [h]; exact ⟨⟨rfl, rfl⟩, ⟨rfl, rfl⟩, ⟨rfl, rfl⟩, rfl, rfl⟩⟩
theorem max_succ : ∃ D, Op.maxDepth = D + 1 ∧ 6 < D := ⟨Op.maxDepth - 1, by decide, by decide⟩
theorem guard_four : Tryz.prog.eqGuardType Tryz.prog.depth 163 = false := by kernel_rfl
theorem eqV_four (a b : Rg) : eqV Tryz.prog 163 (rgv a) (rgv b) = some (decide (a = b)) := by
  unfold eqV
  rw [guard_four]
  show ifb false none _ = _
  obtain ⟨D, e, hD⟩ := max_succ
  rw [ifb_false, e]
  exact eq_fourD hD a b
theorem xs_eq4 {E : Env} {M : Mem} {x y : XO} {a b : Rg} (hx : xval E x = some (rgv a)) (hy : xval E y = some (rgv b)) : xstep Tryz.prog (.eqg false 163 x y) E M = some (.val (.bool (decide (a = b))) M) := by
  show ob (xval E x) _ = _
  rw [hx, ob_some, hy, ob_some, eqV_four, ob_some]
  cases decide (a = b) <;> rfl
theorem cut_in {r : Rg} {p : Pt} (h : map4 meetB r (ofP p) = ofP p) : InR r p := by
  obtain ⟨⟨a1, a2⟩, ⟨a3, a4⟩, ⟨a5, a6⟩, a7, a8⟩ := r
  unfold map4 meetB ofP iMax iMin at h
  dsimp only at h
  simp only [Prod.mk.injEq] at h
  unfold InR
  dsimp only
  omega
theorem c_Has (r : Rg) (hr : RgOk r) (p : Pt) (M : Mem) : CallOk Tryz.prog 39 [rgv r, ptv p] M (fun w M' => (∃ (b : Bool) (e : Int), w = .tup [.bool b, I e] ∧ (b = true → e = 0 → InR r p)) ∧ Grow M M') := by
  refine call_in k39 rfl ?_
  dsimp only [x39, zipE, Nat.reduceAdd]
  have e1 : eRg r = 0 := if_pos hr
  by_cases hp : PlP p
  · have e2 : ePt p.1 p.2 = 0 := if_pos hp
    have he : (if eRg r = 0 then ePt p.1 p.2 else eRg r) = 0 := by rw [e1, e2]; rfl
    have hpp : -1000000 ≤ p.1 ∧ p.1 ≤ 1000000 ∧ -1000000 ≤ p.2 ∧ p.2 ≤ 1000000 := by dsimp only [PlP, Pl] at hp; omega
    (repeat' (first | (with_reducible intro _) | refine sv ?_ | (refine sc ?_ ?_ <;> (intro h; try first | exact h.elim | exact absurd rfl h | (exfalso; omega))) | ((with_reducible first | apply x_same | apply d_same); exact gd; exact rfl; exact rfl; (first | exact c_first2 _ _ (Rd1.of_at (At.new_same (by assumption)) rfl) (Rd1.of_at (At.new_same (by assumption)) rfl))) | ((with_reducible first | apply x_pure | apply d_pure); exact gd; exact rfl; exact rfl; (first | exact c_Check r _ | exact c_CheckPoint _ _ _ | exact c_bounds r _ | exact c_of p hpp _ | exact c_combined_cut r (ofP p) _)) | (refine sg ?_ ?_ <;> (intro h; (fail_if_success (have : True := h)); try first | exact h.elim | exact absurd rfl h | (exfalso; omega))) | assumption | exact xm | exact rfl))
    refine d_val (v := .bool (decide (map4 meetB r (ofP p) = ofP p))) (by exact gd) (xs_eq4 rfl rfl) ?_
    (repeat' (first | (with_reducible intro _) | refine sv ?_ | (refine sc ?_ ?_ <;> (intro h; try first | exact h.elim | exact absurd rfl h | (exfalso; omega))) | (refine sg ?_ ?_ <;> (intro h; (fail_if_success (have : True := h)); try first | exact h.elim | exact absurd rfl h | (exfalso; omega))) | assumption | exact xm | exact rfl))
    ((with_reducible first | apply k_fun | apply k_fun_norm); exact rx)
    exact ⟨⟨_, _, rfl, fun hb _ => cut_in (of_decide_eq_true hb)⟩, xg⟩
  · have e2 : ePt p.1 p.2 = 10 := if_neg hp
    have he : (if eRg r = 0 then ePt p.1 p.2 else eRg r) = 10 := by rw [e1, e2]; rfl
    (repeat' (first | (with_reducible intro _) | refine sv ?_ | (refine sc ?_ ?_ <;> (intro h; try first | exact h.elim | exact absurd rfl h | (exfalso; omega))) | ((with_reducible first | apply x_same | apply d_same); exact gd; exact rfl; exact rfl; (first | exact c_first2 _ _ (Rd1.of_at (At.new_same (by assumption)) rfl) (Rd1.of_at (At.new_same (by assumption)) rfl))) | ((with_reducible first | apply x_pure | apply d_pure); exact gd; exact rfl; exact rfl; (first | exact c_Check r _ | exact c_CheckPoint _ _ _)) | (refine sg ?_ ?_ <;> (intro h; (fail_if_success (have : True := h)); try first | exact h.elim | exact absurd rfl h | (exfalso; omega))) | assumption | exact xm | exact rfl))
    all_goals ((with_reducible first | apply k_fun | apply k_fun_norm); exact rx)
    all_goals exact ⟨⟨_, _, rfl, fun hb _ => by cases hb⟩, xg⟩
end Go.Proofs.YtpccafeedfpbaaaGreat.C
end
section
open Go PvL Go.Proofs
set_option linter.unusedVariables false
set_option linter.unusedSimpArgs false
namespace Go.Proofs.YtpccafeedfpbaaaGreat.C
def restF (x m : Int) : Int := if x.tmod m < 0 then x.tmod m + m else x.tmod m
theorem restF_bd {x m : Int} (hm : 1 ≤ m) : 0 ≤ restF x m ∧ restF x m < m := by
  have h1 := Int.lt_tmod_of_pos x (b := m) (by omega)
  have h2 := Int.tmod_lt_of_pos x (b := m) (by omega)
  unfold restF
  split <;> omega
theorem c_RestM (x m : Int) (hm : 1 ≤ m ∧ m ≤ 1000000000000000) (M : Mem) : CallOk Tryz.prog 28 [I x, I m] M (fun w M' => w = I (restF x m) ∧ M' = M) := by
  have h1 := Int.lt_tmod_of_pos x (b := m) (by omega)
  have h2 := Int.tmod_lt_of_pos x (b := m) (by omega)
  refine call_in k28 rfl ?_
  dsimp only [x28, zipE, Nat.reduceAdd]
  (repeat' (first | (with_reducible intro _) | refine sv ?_ | (refine sc ?_ ?_ <;> (intro h; try first | exact h.elim | exact absurd rfl h | (exfalso; omega))) | (refine sg ?_ ?_ <;> (intro h; (fail_if_success (have : True := h)); try first | exact h.elim | exact absurd rfl h | (exfalso; omega))) | assumption | exact xm | exact rfl))
  all_goals ((with_reducible first | apply k_fun | apply k_fun_norm); exact rx)
  all_goals refine ⟨?_, rfl⟩
  all_goals unfold restF
  · rw [if_pos (by omega)]; rfl
  · rw [if_neg (by omega)]; rfl
theorem c_mag (x : Int) (hx : -1000000000 ≤ x ∧ x ≤ 1000000000) (M : Mem) : CallOk Tryz.prog 84 [I x] M (fun w M' => w = I (x.natAbs : Nat) ∧ M' = M) := by
  refine call_in k84 rfl ?_
  dsimp only [x84, zipE, Nat.reduceAdd]
  have e : iMax x (-x) = (x.natAbs : Nat) := by unfold iMax; omega
  (repeat' (first | (with_reducible intro _) | refine sv ?_ | (refine sc ?_ ?_ <;> (intro h; try first | exact h.elim | exact absurd rfl h | (exfalso; omega))) | (refine sg ?_ ?_ <;> (intro h; (fail_if_success (have : True := h)); try first | exact h.elim | exact absurd rfl h | (exfalso; omega))) | assumption | exact xm | exact rfl))
  ((with_reducible first | apply k_fun | apply k_fun_norm); exact rx)
  exact ⟨congrArg I e, rfl⟩
def pickF (l : List Int) (k : Int) : Int := l.getD (restF k l.length).toNat 0
theorem c_Pick {aI : Option (Nat × Nat)} {f : Bool} {l : List Int} {k : Int} {M : Mem} (hl : SlA 1 (fun n => [I n]) M aI l) (hlen : l.length ≤ 1000000000000000) : CallOk Tryz.prog 38 [.slice aI l.length f 1, I k] M (fun w M' => w = I (pickF l k) ∧ M' = M) := by
  refine call_in k38 rfl ?_
  dsimp only [x38, zipE, Nat.reduceAdd]
  unfold pickF
  by_cases h0 : l.length = 0
  · have h0' : (l.length : Int) = 0 := by omega
    have hn : l = [] := List.length_eq_zero_iff.1 h0
    (repeat' (first | (with_reducible intro _) | refine sv ?_ | (refine sc ?_ ?_ <;> (intro h; try first | exact h.elim | exact absurd rfl h | (exfalso; omega))) | (refine sg ?_ ?_ <;> (intro h; (fail_if_success (have : True := h)); try first | exact h.elim | exact absurd rfl h | (exfalso; omega))) | assumption | exact xm | exact rfl))
    all_goals first
      | (exfalso; omega)
      | (((with_reducible first | apply k_fun | apply k_fun_norm); exact rx)
         exact ⟨by rw [hn]; rfl, rfl⟩)
  · have hb := restF_bd (x := k) (m := l.length) (by omega)
    have hk : (restF k l.length).toNat < l.length := by omega
    obtain ⟨i, o, rfl, hr⟩ := hl.resolve_left (fun h => h0 (by rw [h]; rfl))
    have hr1 : Rd1 M i (o + (restF k l.length).toNat * 1) (I l[(restF k l.length).toNat]) := Rd.nth (j := 0) (hr _ hk) rfl
    rw [getD_eq hk]
    (have hrd0 := hr1; repeat' (first | (with_reducible intro _) | refine sv ?_ | (refine sc ?_ ?_ <;> (intro h; try first | exact h.elim | exact absurd rfl h | (exfalso; omega))) | ((with_reducible first | apply x_same | apply d_same); exact gd; exact rfl; exact rfl; (first | exact c_RestM k l.length (by omega) _)) | (refine sg ?_ ?_ <;> (intro h; (fail_if_success (have : True := h)); try first | exact h.elim | exact absurd rfl h | (exfalso; omega))) | assumption | exact xm | exact rfl))
    all_goals ((with_reducible first | apply k_fun | apply k_fun_norm); exact rx)
    all_goals exact ⟨rfl, rfl⟩
theorem c_divisor (x y : Int) (hx : -1000000000 ≤ x ∧ x ≤ 1000000000) (hy : -1000000000 ≤ y ∧ y ≤ 1000000000) (M : Mem) : CallOk Tryz.prog 37 [I x, I y] M (fun w M' => w = I (Nat.gcd x.natAbs y.natAbs : Nat) ∧ M' = M) := by
  refine call_in k37 rfl ?_
  dsimp only [x37, zipE, Nat.reduceAdd]
  (repeat' (first | (with_reducible intro _) | refine sv ?_ | (refine sc ?_ ?_ <;> (intro h; try first | exact h.elim | exact absurd rfl h | (exfalso; omega))) | ((with_reducible first | apply x_same | apply d_same); exact gd; exact rfl; exact rfl; (first | exact c_mag _ hx _ | exact c_mag _ hy _)) | (refine sg ?_ ?_ <;> (intro h; (fail_if_success (have : True := h)); try first | exact h.elim | exact absurd rfl h | (exfalso; omega))) | assumption | exact xm | exact rfl))
  refine w_loop_ind (fun n E ms M' => ∃ a b : Nat, b = n ∧ ms = [] ∧ Has E [(0, I a), (1, I b)] ∧ M' = M ∧ Nat.gcd a b = Nat.gcd x.natAbs y.natAbs ∧ a ≤ 1000000000 ∧ b ≤ 1000000000) ?_ y.natAbs _ _ _
    ⟨x.natAbs, y.natAbs, rfl, rfl, .cons rfl (.cons rfl .nil), rfl, rfl, by omega, by omega⟩
  rintro n E ms M' ⟨a, b, rfl, rfl, hE, rfl, hg, ha, hb⟩
  refine w_has hE ?_
  by_cases h0 : b = 0
  · subst h0
    rw [Nat.gcd_zero_right] at hg
    (repeat' (first | (with_reducible intro _) | refine sv ?_ | (refine sc ?_ ?_ <;> (intro h; try first | exact h.elim | exact absurd rfl h | (exfalso; omega))) | (refine sg ?_ ?_ <;> (intro h; (fail_if_success (have : True := h)); try first | exact h.elim | exact absurd rfl h | (exfalso; omega))) | assumption | exact xm | exact rfl))
    all_goals ((with_reducible first | apply k_fun | apply k_fun_norm); exact rx)
    all_goals exact ⟨by rw [hg]; rfl, rfl⟩
  · have hlt := Nat.mod_lt a (Nat.pos_of_ne_zero h0)
    have e : (a : Int).tmod b = ((a % b : Nat) : Int) := by rw [Int.tmod_eq_emod_of_nonneg (by omega)]; rfl
    (repeat' (first | (with_reducible intro _) | refine sv ?_ | (refine sc ?_ ?_ <;> (intro h; try first | exact h.elim | exact absurd rfl h | (exfalso; omega))) | (refine sg ?_ ?_ <;> (intro h; (fail_if_success (have : True := h)); try first | exact h.elim | exact absurd rfl h | (exfalso; omega))) | assumption | exact xm | exact rfl))
    refine k_step (a % b) hlt ⟨b, a % b, rfl, rfl, .cons rfl (.cons (by rw [← e]; rfl) .nil), rfl, ?_, hb, by omega⟩
    rw [← hg, Nat.gcd_comm b, ← Nat.gcd_rec, Nat.gcd_comm]
end Go.Proofs.YtpccafeedfpbaaaGreat.C
end
