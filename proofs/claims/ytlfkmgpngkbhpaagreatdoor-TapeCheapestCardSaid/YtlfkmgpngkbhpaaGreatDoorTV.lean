/-
  Part of the proof of TapeCheapest: what functions of the program and of the statement come to, walked by the rules. No condition beyond those in each theorem.
-/
import Derived.Test.YtlfkmgpngkbhpaaGreatDoorTR
import Derived.Test.YtlfkmgpngkbhpaaGreatDoorTU
import Derived.Test.YtlfkmgpngkbhpaaGreatDoorTX
import Derived.Test.YtlfkmgpngkbhpaaGreatDoorTS
section
open Go PvL Go.Proofs
set_option linter.unusedSimpArgs false
set_option linter.unusedVariables false
namespace Go.Proofs.YtlfkmgpngkbhpaaGreatDoor.C
theorem rd_pair {M : Mem} {i o : Nat} {p : Int × Int} (h : Rd M i o 2 (prc p)) : Rd1 M i (o + Int.toNat 0 * 1) (I p.1) /\ Rd1 M i (o + Int.toNat 1 * 1) (I p.2) := ⟨h.nth rfl, h.nth rfl⟩
set_option maxHeartbeats 8000000 in
theorem c_costs {M : Mem} {a b : Option (Nat × Nat)} {s : List Int} {l : List (Int × Int)} {f f' : Bool} {e e' : Nat} {x y : Int} (hs : SlI M a s) (hl : s.length <= 1000000) (hp : SlP M b l) (hlp : l.length <= 1000000) (hx : 0 <= x /\ x <= 1000) (hy : y <= 1000) :
    CallOk Tryz.prog 50 [.slice a s.length f e, I x, I y, .slice b l.length f' e'] M (fun w M' => w = .tup [I (costF s x y l).1, .bool (costF s x y l).2] /\ M' = M) := by
  refine call_in k50 rfl ?_
  dsimp only [x50, zipE, Nat.reduceAdd]
  have hno : okC y l l.length = false -> costF s x y l = (0, false) := fun h1 => by unfold costF; rw [h1]; rfl
  have hna : allC s l s.length = false -> costF s x y l = (0, false) := fun h1 => by unfold costF; rw [h1, Bool.and_false]; rfl
  (repeat' (first | (with_reducible intro _) | refine sv ?_ | (refine sc ?_ ?_ <;> (intro h; try first | exact h.elim | exact absurd rfl h | (exfalso; omega))) | (refine sg ?_ ?_ <;> (intro h; (fail_if_success (have : True := h)); try first | exact h.elim | exact absurd rfl h | (exfalso; omega))) | assumption | exact xm | exact rfl))
  refine w_loop_ind (fun z E ms M' => ∃ k : Nat, z = l.length - k /\ k <= l.length /\ ms = [] /\ Has E [(0, .slice a s.length f e), (1, I x), (2, I y), (3, .slice b l.length f' e'), (10, I (sumC x l k)), (11, I k)] /\ M' = M /\ okC y l k = true)
    ?_ l.length _ _ _ ⟨0, by omega, by omega, rfl, .cons rfl (.cons rfl (.cons rfl (.cons rfl (.cons rfl (.cons rfl .nil))))), rfl, rfl⟩
  rintro z E ms M1 ⟨k, rfl, hk, rfl, hE, rfl, hok⟩
  refine w_has hE ?_
  by_cases hlast : k ≠ l.length
  · have hlt : k < l.length := by omega
    obtain ⟨i, o, rfl, hr⟩ := hp.rd hlt
    obtain ⟨r0, r1⟩ := rd_pair hr
    rw [<- pe_lt hlt] at r0 r1
    have hst := okC_s y l k
    rw [hok] at hst
    have hsm : sumC x l (k + 1) = sumC x l k + (x + mW (pe l k)) := rfl
    have hsb := sumC_bd (l := l) hx hy hok
    have hmw : mW (pe l k) = IntKind.wrap .i64 (IntKind.wrap .i64 ((pe l k).2 - (pe l k).1) + 1) := rfl
    generalize hcw : mW (pe l k) = W at *
    cases hbt : btB W 1 y with
    | false =>
      rw [hbt] at hst
      rw [hno (okC_no (k := k + 1) (by omega) (by rw [hst]; rfl))]
      have hc : ∀ M, CallOk Tryz.prog 45 [I W, I 1, I y] M (fun w M' => w = .bool false /\ M' = M) := fun M => by rw [<- hbt]; exact c_btw _ _ _ M
      rw [hmw] at hc
      (have hrd0 := r0; have hrd1 := r1; repeat' (first | (with_reducible intro _) | refine sv ?_ | (refine sc ?_ ?_ <;> (intro h; try first | exact h.elim | exact absurd rfl h | (exfalso; omega))) | ((with_reducible first | apply x_same | apply d_same | apply d_same0); exact gd; exact rfl; exact rfl; (first | exact hc _)) | (refine sg ?_ ?_ <;> (intro h; (fail_if_success (have : True := h)); try first | exact h.elim | exact absurd rfl h | (exfalso; omega))) | assumption | exact xm | exact rfl))
      ((with_reducible first | apply k_fun | apply k_fun_norm); exact rx)
      exact ⟨rfl, rfl⟩
    | true =>
    rw [hbt] at hst
    have hW : 1 <= W /\ W <= y := of_decide_eq_true hbt
    have hc : ∀ M, CallOk Tryz.prog 45 [I W, I 1, I y] M (fun w M' => w = .bool true /\ M' = M) := fun M => by rw [<- hbt]; exact c_btw _ _ _ M
    by_cases h0 : k = 0
    · subst h0
      have hst2 : okC y l (0 + 1) = true := hst
      generalize (pe l 0).1 = p1 at *
      generalize (pe l 0).2 = p2 at *
      rw [hmw] at hc
      (have hrd0 := r0; have hrd1 := r1; repeat' (first | (with_reducible intro _) | refine sv ?_ | (refine sc ?_ ?_ <;> (intro h; try first | exact h.elim | exact absurd rfl h | (exfalso; omega))) | ((with_reducible first | apply x_same | apply d_same | apply d_same0); exact gd; exact rfl; exact rfl; (first | exact hc _)) | (refine sg ?_ ?_ <;> (intro h; (fail_if_success (have : True := h)); try first | exact h.elim | exact absurd rfl h | (exfalso; omega))) | assumption | exact xm | exact rfl))
      exact k_step (l.length - (0 + 1)) (by omega) ⟨1, rfl, by omega, rfl, .cons rfl (.cons rfl (.cons rfl (.cons rfl (.cons (by rw [hsm, hmw]; rfl) (.cons rfl .nil))))), rfl, hst2⟩
    · rw [decide_eq_false h0, Bool.false_or] at hst
      obtain ⟨i2, o2, he2, hr2⟩ := hp.rd (k := k - 1) (by omega)
      obtain ⟨rfl, rfl⟩ : i2 = i /\ o2 = o := by injection he2 with q; injection q with q1 q2; exact ⟨q1.symm, q2.symm⟩
      obtain ⟨_, r2⟩ := rd_pair hr2
      rw [<- pe_lt (by omega)] at r2
      have hkk : ((k : Int) - 1).toNat = k - 1 := by omega
      rw [<- hkk] at r2 hst
      generalize (pe l (((k : Int) - 1).toNat)).2 = p3 at *
      generalize (pe l k).1 = p1 at *
      generalize (pe l k).2 = p2 at *
      rw [hmw] at hc
      by_cases hpp : p3 < p1
      · rw [decide_eq_true hpp] at hst
        (have hrd0 := r0; have hrd1 := r1; have hrd2 := r2; repeat' (first | (with_reducible intro _) | refine sv ?_ | (refine sc ?_ ?_ <;> (intro h; try first | exact h.elim | exact absurd rfl h | (exfalso; omega))) | ((with_reducible first | apply x_same | apply d_same | apply d_same0); exact gd; exact rfl; exact rfl; (first | exact hc _)) | (refine sg ?_ ?_ <;> (intro h; (fail_if_success (have : True := h)); try first | exact h.elim | exact absurd rfl h | (exfalso; omega))) | assumption | exact xm | exact rfl))
        all_goals try (exfalso; omega)
        exact k_step (l.length - (k + 1)) (by omega) ⟨k + 1, rfl, by omega, rfl, .cons rfl (.cons rfl (.cons rfl (.cons rfl (.cons (by rw [hsm, hmw]; rfl) (.cons rfl .nil))))), rfl, hst⟩
      · rw [decide_eq_false hpp] at hst
        rw [hno (okC_no (k := k + 1) (by omega) hst)]
        (have hrd0 := r0; have hrd1 := r1; have hrd2 := r2; repeat' (first | (with_reducible intro _) | refine sv ?_ | (refine sc ?_ ?_ <;> (intro h; try first | exact h.elim | exact absurd rfl h | (exfalso; omega))) | ((with_reducible first | apply x_same | apply d_same | apply d_same0); exact gd; exact rfl; exact rfl; (first | exact hc _)) | (refine sg ?_ ?_ <;> (intro h; (fail_if_success (have : True := h)); try first | exact h.elim | exact absurd rfl h | (exfalso; omega))) | assumption | exact xm | exact rfl))
        all_goals try (exfalso; omega)
        ((with_reducible first | apply k_fun | apply k_fun_norm); exact rx)
        exact ⟨rfl, rfl⟩
  obtain rfl : k = l.length := by omega
  clear hno
  (repeat' (first | (with_reducible intro _) | refine sv ?_ | (refine sc ?_ ?_ <;> (intro h; try first | exact h.elim | exact absurd rfl h | (exfalso; omega))) | (refine sg ?_ ?_ <;> (intro h; (fail_if_success (have : True := h)); try first | exact h.elim | exact absurd rfl h | (exfalso; omega))) | assumption | exact xm | exact rfl))
  refine w_loop_ind (fun z E ms M' => ∃ k : Nat, z = s.length - k /\ k <= s.length /\ ms = [] /\ Has E [(0, .slice a s.length f e), (3, .slice b l.length f' e'), (10, I (sumC x l l.length)), (13, I k)] /\ M' = M1 /\ allC s l k = true)
    ?_ s.length _ _ _ ⟨0, by omega, by omega, rfl, .cons rfl (.cons rfl (.cons rfl (.cons rfl .nil))), rfl, rfl⟩
  rintro z E ms M2 ⟨k, rfl, hk2, rfl, hE, rfl, hak⟩
  refine w_has hE ?_
  by_cases hlast2 : k = s.length
  · subst hlast2
    rw [show costF s x y l = (sumC x l l.length, true) from by unfold costF; rw [hok, hak]; rfl]
    (repeat' (first | (with_reducible intro _) | refine sv ?_ | (refine sc ?_ ?_ <;> (intro h; try first | exact h.elim | exact absurd rfl h | (exfalso; omega))) | (refine sg ?_ ?_ <;> (intro h; (fail_if_success (have : True := h)); try first | exact h.elim | exact absurd rfl h | (exfalso; omega))) | assumption | exact xm | exact rfl))
    ((with_reducible first | apply k_fun | apply k_fun_norm); exact rx)
    exact ⟨rfl, rfl⟩
  have hlt : k < s.length := by omega
  obtain ⟨p, o, rfl, hr⟩ := hs.rd hlt
  rw [<- el_lt hlt] at hr
  have hst : allC s l (k + 1) = (allC s l k && covB (el s k) l l.length) := rfl
  rw [hak, Bool.true_and] at hst
  generalize hT : el s k = T at *
  (repeat' (first | (with_reducible intro _) | refine sv ?_ | (refine sc ?_ ?_ <;> (intro h; try first | exact h.elim | exact absurd rfl h | (exfalso; omega))) | (refine sg ?_ ?_ <;> (intro h; (fail_if_success (have : True := h)); try first | exact h.elim | exact absurd rfl h | (exfalso; omega))) | assumption | exact xm | exact rfl))
  refine w_loop_ind (fun z E ms M' => ∃ j : Nat, z = l.length - j /\ j <= l.length /\ ms = [] /\ Has E [(0, .slice (some (p, o)) s.length f e), (3, .slice b l.length f' e'), (10, I (sumC x l l.length)), (13, I k), (14, .bool (covB T l j)), (15, I j)] /\ M' = M2)
    ?_ l.length _ _ _ ⟨0, by omega, by omega, rfl, .cons rfl (.cons rfl (.cons rfl (.cons rfl (.cons rfl (.cons rfl .nil))))), rfl⟩
  rintro z E ms M3 ⟨j, rfl, hj, rfl, hE, rfl⟩
  refine w_has hE ?_
  by_cases hlast3 : j = l.length
  · subst hlast3
    cases hcv : covB T l l.length with
    | false =>
      rw [hcv] at hst
      rw [hna (allC_no (k := k + 1) (by omega) hst)]
      (repeat' (first | (with_reducible intro _) | refine sv ?_ | (refine sc ?_ ?_ <;> (intro h; try first | exact h.elim | exact absurd rfl h | (exfalso; omega))) | (refine sg ?_ ?_ <;> (intro h; (fail_if_success (have : True := h)); try first | exact h.elim | exact absurd rfl h | (exfalso; omega))) | assumption | exact xm | exact rfl))
      ((with_reducible first | apply k_fun | apply k_fun_norm); exact rx)
      exact ⟨rfl, rfl⟩
    | true =>
      rw [hcv] at hst
      (repeat' (first | (with_reducible intro _) | refine sv ?_ | (refine sc ?_ ?_ <;> (intro h; try first | exact h.elim | exact absurd rfl h | (exfalso; omega))) | (refine sg ?_ ?_ <;> (intro h; (fail_if_success (have : True := h)); try first | exact h.elim | exact absurd rfl h | (exfalso; omega))) | assumption | exact xm | exact rfl))
      exact k_step (s.length - (k + 1)) (by omega) ⟨k + 1, rfl, by omega, rfl, .cons rfl (.cons rfl (.cons rfl (.cons rfl .nil))), rfl, hst⟩
  have hltj : j < l.length := by omega
  obtain ⟨q, o2, rfl, hr2⟩ := hp.rd hltj
  obtain ⟨r0, r1⟩ := rd_pair hr2
  rw [<- pe_lt hltj] at r0 r1
  have hcs : covB T l (j + 1) = (covB T l j || btB T (pe l j).1 (pe l j).2) := rfl
  cases hcv : covB T l j with
  | true =>
    rw [hcv, Bool.true_or] at hcs
    (repeat' (first | (with_reducible intro _) | refine sv ?_ | (refine sc ?_ ?_ <;> (intro h; try first | exact h.elim | exact absurd rfl h | (exfalso; omega))) | (refine sg ?_ ?_ <;> (intro h; (fail_if_success (have : True := h)); try first | exact h.elim | exact absurd rfl h | (exfalso; omega))) | assumption | exact xm | exact rfl))
    exact k_step (l.length - (j + 1)) (by omega) ⟨j + 1, rfl, by omega, rfl, .cons rfl (.cons rfl (.cons rfl (.cons rfl (.cons (by show some (LV.bool _) = some (LV.bool _); rw [hcs]) (.cons rfl .nil))))), rfl⟩
  | false =>
    rw [hcv, Bool.false_or] at hcs
    generalize (pe l j).1 = p1 at *
    generalize (pe l j).2 = p2 at *
    (have hrd0 := r0; have hrd1 := r1; have hrd2 := hr; repeat' (first | (with_reducible intro _) | refine sv ?_ | (refine sc ?_ ?_ <;> (intro h; try first | exact h.elim | exact absurd rfl h | (exfalso; omega))) | ((with_reducible first | apply x_same | apply d_same | apply d_same0); exact gd; exact rfl; exact rfl; (first | exact c_btw T p1 p2 _)) | (refine sg ?_ ?_ <;> (intro h; (fail_if_success (have : True := h)); try first | exact h.elim | exact absurd rfl h | (exfalso; omega))) | assumption | exact xm | exact rfl))
    exact k_step (l.length - (j + 1)) (by omega) ⟨j + 1, rfl, by omega, rfl, .cons rfl (.cons rfl (.cons rfl (.cons rfl (.cons (by show some (LV.bool _) = some (LV.bool _); rw [hcs]) (.cons rfl .nil))))), rfl⟩
def smlF (l : List (Int × Int)) : Nat -> Bool
  | 0 => true
  | k + 1 => (smlF l k && btB (pe l k).1 0 60000) && btB (pe l k).2 0 60000
theorem smlF_sml {l : List (Int × Int)} : ∀ {k : Nat}, smlF l k = true -> ∀ i, i < k -> (0 <= (pe l i).1 /\ (pe l i).1 <= 60000) /\ 0 <= (pe l i).2 /\ (pe l i).2 <= 60000
  | 0, _, i, hi => absurd hi (Nat.not_lt_zero _)
  | k + 1, h, i, hi => by
    have h : ((smlF l k && btB (pe l k).1 0 60000) && btB (pe l k).2 0 60000) = true := h
    rw [Bool.and_eq_true, Bool.and_eq_true] at h
    by_cases he : i = k
    · subst he; exact ⟨of_decide_eq_true h.1.2, of_decide_eq_true h.2⟩
    · exact smlF_sml h.1.1 i (by omega)
set_option maxHeartbeats 4000000 in
theorem c_small {M : Mem} {b : Option (Nat × Nat)} {l : List (Int × Int)} {f' : Bool} {e' : Nat} (hp : SlP M b l) (hlp : l.length <= 1000000000000000) :
    CallOk Tryz.prog 51 [.slice b l.length f' e'] M (fun w M' => w = .bool (smlF l l.length) /\ M' = M) := by
  refine call_in k51 rfl ?_
  dsimp only [x51, zipE, Nat.reduceAdd]
  (repeat' (first | (with_reducible intro _) | refine sv ?_ | (refine sc ?_ ?_ <;> (intro h; try first | exact h.elim | exact absurd rfl h | (exfalso; omega))) | (refine sg ?_ ?_ <;> (intro h; (fail_if_success (have : True := h)); try first | exact h.elim | exact absurd rfl h | (exfalso; omega))) | assumption | exact xm | exact rfl))
  refine w_loop_ind (fun z E ms M' => ∃ k : Nat, z = l.length - k /\ k <= l.length /\ ms = [] /\ Has E [(0, .slice b l.length f' e'), (3, .bool (smlF l k)), (4, I k)] /\ M' = M)
    ?_ l.length _ _ _ ⟨0, by omega, by omega, rfl, .cons rfl (.cons rfl (.cons rfl .nil)), rfl⟩
  rintro z E ms M1 ⟨k, rfl, hk, rfl, hE, rfl⟩
  refine w_has hE ?_
  by_cases hlast : k = l.length
  · subst hlast
    (repeat' (first | (with_reducible intro _) | refine sv ?_ | (refine sc ?_ ?_ <;> (intro h; try first | exact h.elim | exact absurd rfl h | (exfalso; omega))) | (refine sg ?_ ?_ <;> (intro h; (fail_if_success (have : True := h)); try first | exact h.elim | exact absurd rfl h | (exfalso; omega))) | assumption | exact xm | exact rfl))
    ((with_reducible first | apply k_fun | apply k_fun_norm); exact rx)
    exact ⟨rfl, rfl⟩
  have hlt : k < l.length := by omega
  obtain ⟨i, o, rfl, hr⟩ := hp.rd hlt
  obtain ⟨r0, r1⟩ := rd_pair hr
  rw [<- pe_lt hlt] at r0 r1
  have hst : smlF l (k + 1) = ((smlF l k && btB (pe l k).1 0 60000) && btB (pe l k).2 0 60000) := rfl
  generalize (pe l k).1 = p1 at *
  generalize (pe l k).2 = p2 at *
  cases hsf : smlF l k with
  | false =>
    rw [hsf] at hst
    (repeat' (first | (with_reducible intro _) | refine sv ?_ | (refine sc ?_ ?_ <;> (intro h; try first | exact h.elim | exact absurd rfl h | (exfalso; omega))) | (refine sg ?_ ?_ <;> (intro h; (fail_if_success (have : True := h)); try first | exact h.elim | exact absurd rfl h | (exfalso; omega))) | assumption | exact xm | exact rfl))
    exact k_step (l.length - (k + 1)) (by omega) ⟨k + 1, rfl, by omega, rfl, .cons rfl (.cons (by show some (LV.bool _) = some (LV.bool _); rw [hst]; rfl) (.cons rfl .nil)), rfl⟩
  | true =>
    rw [hsf] at hst
    cases hb1 : btB p1 0 60000 with
    | false =>
      rw [hb1] at hst
      have hc : ∀ M, CallOk Tryz.prog 45 [I p1, I 0, I 60000] M (fun w M' => w = .bool false /\ M' = M) := fun M => by rw [<- hb1]; exact c_btw _ _ _ M
      (have hrd0 := r0; have hrd1 := r1; repeat' (first | (with_reducible intro _) | refine sv ?_ | (refine sc ?_ ?_ <;> (intro h; try first | exact h.elim | exact absurd rfl h | (exfalso; omega))) | ((with_reducible first | apply x_same | apply d_same | apply d_same0); exact gd; exact rfl; exact rfl; (first | exact hc _)) | (refine sg ?_ ?_ <;> (intro h; (fail_if_success (have : True := h)); try first | exact h.elim | exact absurd rfl h | (exfalso; omega))) | assumption | exact xm | exact rfl))
      exact k_step (l.length - (k + 1)) (by omega) ⟨k + 1, rfl, by omega, rfl, .cons rfl (.cons (by show some (LV.bool _) = some (LV.bool _); rw [hst]; rfl) (.cons rfl .nil)), rfl⟩
    | true =>
      rw [hb1] at hst
      have hc : ∀ M, CallOk Tryz.prog 45 [I p1, I 0, I 60000] M (fun w M' => w = .bool true /\ M' = M) := fun M => by rw [<- hb1]; exact c_btw _ _ _ M
      (have hrd0 := r0; have hrd1 := r1; repeat' (first | (with_reducible intro _) | refine sv ?_ | (refine sc ?_ ?_ <;> (intro h; try first | exact h.elim | exact absurd rfl h | (exfalso; omega))) | ((with_reducible first | apply x_same | apply d_same | apply d_same0); exact gd; exact rfl; exact rfl; (first | exact hc _ | exact c_btw p2 0 60000 _)) | (refine sg ?_ ?_ <;> (intro h; (fail_if_success (have : True := h)); try first | exact h.elim | exact absurd rfl h | (exfalso; omega))) | assumption | exact xm | exact rfl))
      exact k_step (l.length - (k + 1)) (by omega) ⟨k + 1, rfl, by omega, rfl, .cons rfl (.cons (by show some (LV.bool _) = some (LV.bool _); rw [hst]; rfl) (.cons rfl .nil)), rfl⟩
theorem slc_hi {i o len n h : Nat} {f : Bool} (hh : h <= len) : ∃ o' f', (0 < len -> o' = o) /\ sliceSl n (some (i, o)) len f n none (some (.int .i64 (h : Int))) none = some (.slice (some (i, o')) h f' n) := by
  have e1 : sliceSl n (some (i, o)) len f n none (some (.int .i64 (h : Int))) none = guard' (Nat.ble h len) (guard' (Nat.beq n n) (ifb (false || (f || (Nat.ble (0 + 1) len || true))) (fN (ifb (Nat.beq len 0 && (f || false)) o (o + 0 * n)) fun off' => fN (h - 0) fun len' => some (LV.slice (some (i, off')) len' (ifb false (Nat.beq h len) (f && Nat.beq h len)) n)) (some (LV.slice (some (i, o)) 0 false 0)))) := by
    show guard' true (guard' (Nat.ble h len) (guard' (Nat.ble 0 h) _)) = _
    rw [guard'_true, Nat.ble_eq_true_of_le (Nat.zero_le h), guard'_true]
    rfl
  rw [e1, fN_eq, fN_eq, Nat.ble_eq_true_of_le hh, guard'_true, show Nat.beq n n = true by simp, guard'_true]
  rw [show (false || (f || (Nat.ble (0 + 1) len || true))) = true by simp, ifb_true]
  refine ⟨_, _, fun h0 => ?_, rfl⟩
  have h1 : Nat.beq len 0 = false := by cases hb : Nat.beq len 0 with | false => rfl | true => have := Nat.eq_of_beq_eq_true hb; omega
  rw [h1, Bool.false_and, ifb_false, Nat.zero_mul, Nat.add_zero]
theorem xs_slcHi {n : Nat} {a : Option (Nat × Nat)} {len h : Nat} {f : Bool} {v : LV} {E : Env} {M : Mem} {x hi : XO} (hs : sliceSl n a len f n none (some (.int .i64 (h : Int))) none = some v) (hx : xval E x = some (.slice a len f n)) (hh : xval E hi = some (I (h : Int))) : xstep Tryz.prog (.slc n x none (some hi) none) E M = some (.val v M) := by
  show ob (xval E x) _ = _
  rw [hx, ob_some]
  show ob (ob (xval E hi) _) _ = _
  rw [hh, ob_some]
  show ob (sliceSl n a len f n none (some (.int .i64 (h : Int))) none) (rv M) = _
  rw [hs]; rfl
theorem slp_take {M : Mem} {a : Option (Nat × Nat)} {L : List (Int × Int)} {f : Bool} {h : Nat} (hp : SlP M a L) (hh : h <= L.length) : ∃ a' f' e', sliceSl 2 a L.length f 2 none (some (.int .i64 (h : Int))) none = some (.slice a' h f' e') /\ SlP M a' (L.take h) := by
  have hl : (L.take h).length = h := by rw [List.length_take]; omega
  rcases a with _ | ⟨i, o⟩
  · rcases hp with rfl | ⟨i, o, h1, _⟩
    · obtain rfl : h = 0 := by simpa using hh
      exact ⟨_, _, _, rfl, .inl rfl⟩
    · cases h1
  · obtain ⟨o', f', h1, h2⟩ := slc_hi (i := i) (o := o) (n := 2) (f := f) hh
    refine ⟨_, _, _, h2, ?_⟩
    rcases hp with rfl | ⟨i', o2, h3, h4⟩
    · exact .inl (by simp)
    · obtain ⟨rfl, rfl⟩ : i = i' /\ o = o2 := by injection h3 with q; injection q with q1 q2; exact ⟨q1, q2⟩
      refine .inr ⟨i, o', rfl, fun k hk => ?_⟩
      rw [hl] at hk
      rw [h1 (by omega), List.getElem_take]
      exact h4 k (by omega)
theorem enc_pairs {m : Mem} {l : List (Int × Int)} {cs : List LV} (h : Enc m (.sl (.pair (.int .i64) (.int .i64)) 16) l cs) : ∃ a f, cs = [.slice a l.length f 2] /\ SlP m a l /\ l.length <= reachBytes := by
  obtain ⟨a, f, h1, h2, h3⟩ := h
  by_cases hl : l = []
  · subst hl
    exact ⟨a, f, h1, .inl rfl, h2.1⟩
  · obtain ⟨i, o, g1, g2, _, g3⟩ := h3 hl
    refine ⟨a, f, h1, .inr ⟨i, o, g1, fun k hk => ?_⟩, h2.1⟩
    obtain ⟨c, g4, c1, c2, g5, ⟨g6, _⟩, ⟨g7, _⟩⟩ := g3 k hk
    rw [g5, g6, g7] at g4
    exact ⟨g4, g2⟩
abbrev bidSh : Sh := .pair (.sl (.pair (.int .i64) (.int .i64)) 16) (.sl (.int .i64) 8)
theorem enc_bid {m : Mem} {x : List (Int × Int) × List Int} {cs : List LV} (h : Enc m bidSh x cs) : ∃ b fb a f, cs = [.slice b x.1.length fb 2, .slice a x.2.length f 1] /\ SlP m b x.1 /\ x.1.length <= reachBytes /\ SlI m a x.2 /\ x.2.length <= reachBytes /\ ∀ n ∈ x.2, IntKind.min .i64 <= n /\ n <= IntKind.max .i64 := by
  obtain ⟨c1, d1, rfl, h1, h2⟩ := h
  obtain ⟨b, fb, rfl, h3, h4⟩ := enc_pairs h1
  obtain ⟨a, f, rfl, h5, h6, h7⟩ := enc_ints h2
  exact ⟨b, fb, a, f, rfl, h3, h4, h5, h6, h7⟩
set_option maxHeartbeats 8000000 in
theorem c_TapeCheapest {M : Mem} {a b c : Option (Nat × Nat)} {s : List Int} {L : List (Int × Int)} {Y : List Int} {f fb fc : Bool} {e ec : Nat} {x y : Int} (hs : SlI M a s) (hl : s.length <= 1000000000000000) (hL : SlP M b L) (hLl : L.length <= 1000000000000000) (hY : SlI M c Y) (hYl : Y.length <= 1000000000000000) (hYi : ∀ n ∈ Y, I64 n) (hB : Base M) (hq : preOk M tabs = true) :
    CallOk Tryz.prog 11 [.slice a s.length f e, .agg [I x, I y], .agg [.slice b L.length fb 2, .slice c Y.length fc ec]] M (fun r _ => r = .bool true) := by
  refine call_in k11 rfl ?_
  dsimp only [x11, zipE, Nat.reduceAdd]
  have c1 := fun M' (hg : Grow M M') => c_Again (f := f) (e := e) (x := x) (y := y) (hs.grow hg) hl
  have c2 := fun M' (hg : Grow M M') => c_Priced (f := f) (e := e) (f' := fc) (e' := ec) (x := x) (y := y) (hs.grow hg) hl (hY.grow hg) hYl hYi
  have hsm : (agF s x y).1.length <= 1000000 := by
    unfold agF
    split
    · rename_i h0
      have ok := okS_p h0
      have h1 := plan_len ok s.length 0 (by omega)
      have h2 := (tb_bd ok s.length 0).2.2
      have h3 := ok.len
      have : ((plan s x y 0).length : Int) <= s.length := by rw [h1]; exact h2.2
      dsimp only
      omega
    · exact Nat.zero_le _
  cases hok : okS s x y with
  | false =>
    rw [agF_no hok] at c1
    rw [prF_84 hok] at c2
    (repeat' (first | (with_reducible intro _) | refine sv ?_ | (refine sc ?_ ?_ <;> (intro h; try first | exact h.elim | exact absurd rfl h | (exfalso; omega))) | ((with_reducible first | apply x_call | apply d_call | apply x_call0); exact gd; exact rfl; exact rfl; (first | exact c1 _ (xg))) | (refine sg ?_ ?_ <;> (intro h; (fail_if_success (have : True := h)); try first | exact h.elim | exact absurd rfl h | (exfalso; omega))) | assumption | exact xm | exact rfl))
    rename_i m4 M4 hN4 q1 q2 m5 M5 hN5 q3 q4 p1 M6 hq1
    obtain ⟨q, rfl, hp1, hg1⟩ := hq1
    obtain ⟨a1, f1, e1, rfl, hs1⟩ := id hp1
    have hl1 := hg1.le
    (repeat' (first | (with_reducible intro _) | refine sv ?_ | (refine sc ?_ ?_ <;> (intro h; try first | exact h.elim | exact absurd rfl h | (exfalso; omega))) | ((with_reducible first | apply x_same | apply d_same | apply d_same0); exact gd; exact rfl; exact rfl; (first | exact c_works (preOk_ext (Ext.of_grow (xg) hB) hq))) | ((with_reducible first | apply x_pure | apply d_pure | apply d_pure0); exact gd; exact rfl; exact rfl; (first | exact c2 _ (xg))) | (refine sg ?_ ?_ <;> (intro h; (fail_if_success (have : True := h)); try first | exact h.elim | exact absurd rfl h | (exfalso; omega))) | assumption | exact xm | exact rfl))
    all_goals try (exfalso; simp_all; done)
    ((with_reducible first | apply k_fun | apply k_fun_norm); exact rx)
    rfl
  | true =>
  have ok := okS_p hok
  have hL8 := ok.len
  have ha0 := ok.a0
  have hb0 := ok.b0
  have hpr := prF_le (y := Y) hok
  rw [agF_yes hok] at c1 hsm
  generalize prF s Y x y = R at *
  obtain ⟨r1, r2⟩ := R
  dsimp only at *
  have hcp := costF_plan ok
  have hPsl : ∀ {M' : Mem} {a1 : Option (Nat × Nat)} {f1 : Bool} {e1 : Nat}, Grow M M' -> SlP M' a1 (plan s x y 0) -> CallOk Tryz.prog 50 [.slice a s.length f e, I x, I y, .slice a1 (plan s x y 0).length f1 e1] M' (fun w M2 => w = .tup [I (bs s x y 0).1, .bool true] /\ M2 = M') := fun {M'} {a1} {f1} {e1} hg h1 => by
    have := c_costs (f := f) (e := e) (f' := f1) (e' := e1) (x := x) (y := y) (hs.grow hg) (by omega) h1 hsm ha0 hb0.2
    rw [hcp] at this
    exact this
  generalize hH : min L.length 200 = H
  have hH1 : H <= L.length := by omega
  have hge := fun (hsml : Sml (L.take H)) hc => costF_ge ok hsml hc
  have hLt : (L.take H).length = H := by rw [List.length_take]; omega
  have c3 := fun M' (hg : Grow M M') a2 f2 e2 (h2 : SlP M' a2 (L.take H)) => c_costs (f := f) (e := e) (f' := f2) (e' := e2) (x := x) (y := y) (hs.grow hg) (by omega) h2 (by omega) ha0 hb0.2
  have c4 := fun M' (hg : Grow M M') => c_small (f' := fb) (e' := 2) (hL.grow hg) hLl
  have hsl : smlF L L.length = true -> Sml (L.take H) := fun h0 p hp => by
    obtain ⟨k, hk, rfl⟩ := List.getElem_of_mem hp
    have := smlF_sml h0 k (by omega)
    rw [pe_lt (by omega)] at this
    rw [List.getElem_take]
    exact this
  generalize costF s x y (L.take H) = cf at *
  obtain ⟨oc, oi⟩ := cf
  generalize smlF L L.length = sm at *
  generalize (bs s x y 0).1 = B0 at *
  generalize plan s x y 0 = P at *
  dsimp only at *
  (repeat' (first | (with_reducible intro _) | refine sv ?_ | (refine sc ?_ ?_ <;> (intro h; try first | exact h.elim | exact absurd rfl h | (exfalso; omega))) | ((with_reducible first | apply x_call | apply d_call | apply x_call0); exact gd; exact rfl; exact rfl; (first | exact c1 _ (xg))) | (refine sg ?_ ?_ <;> (intro h; (fail_if_success (have : True := h)); try first | exact h.elim | exact absurd rfl h | (exfalso; omega))) | assumption | exact xm | exact rfl))
  rename_i m4 M4 hN4 q1 q2 m5 M5 hN5 q3 q4 p1 M6 hq1
  obtain ⟨q, rfl, hp1, hg1⟩ := hq1
  obtain ⟨a1, f1, e1, rfl, hs1⟩ := id hp1
  have hl1 := hg1.le
  have a4 : At M6 m4 (.cells true [I x, I y] 72) := xm
  have a5 : At M6 m5 (.cells true [.slice b L.length fb 2, .slice c Y.length fc ec] 86) := xm
  have hg6 : Grow M M6 := xg
  have hk6 : Grow M M6 /\ True := ⟨hg6, trivial⟩
  clear hg6 hN4 hN5 hg1 q1 q2 q3 q4
  (repeat' (first | (with_reducible intro _) | refine sv ?_ | (refine sc ?_ ?_ <;> (intro h; try first | exact h.elim | exact absurd rfl h | (exfalso; omega))) | ((with_reducible first | apply x_pure | apply d_pure | apply d_pure0); exact gd; exact rfl; exact rfl; (first | exact c2 _ hk6.1)) | (refine sg ?_ ?_ <;> (intro h; (fail_if_success (have : True := h)); try first | exact h.elim | exact absurd rfl h | (exfalso; omega))) | assumption | exact xm | exact rfl))
  rename_i M7 hg7 l7
  clear h
  have hk7 : Grow M M7 /\ True := ⟨hk6.1.trans hg7, trivial⟩
  have hs7 := hs1.grow hg7
  have b4 := a4.grow hg7
  have b5 := a5.grow hg7
  clear a4 a5 hg7 hs1 hp1
  obtain ⟨a2, f2, e2, hsc, hs2⟩ := slp_take (f := fb) (hL.grow hk7.1) hH1
  have hH2 : iMin (L.length : Int) 200 = (H : Int) := by unfold iMin; omega
  (repeat' (first | (with_reducible intro _) | refine sv ?_ | (refine sc ?_ ?_ <;> (intro h; try first | exact h.elim | exact absurd rfl h | (exfalso; omega))) | ((with_reducible first | apply x_same | apply d_same | apply d_same0); exact gd; exact rfl; exact rfl; (first | exact hPsl hk7.1 hs7)) | (refine sg ?_ ?_ <;> (intro h; (fail_if_success (have : True := h)); try first | exact h.elim | exact absurd rfl h | (exfalso; omega))) | assumption | exact xm | exact rfl))
  refine xd_know (t := 80) (v' := I (H : Int)) rfl (by rw [<- hH2]) ?_
  refine d_val (by exact gd) (xs_slcHi hsc rfl rfl) ?_
  have c3' := c3 _ hk7.1 a2 f2 e2 hs2
  rw [hLt] at c3'
  (repeat' (first | (with_reducible intro _) | refine sv ?_ | (refine sc ?_ ?_ <;> (intro h; try first | exact h.elim | exact absurd rfl h | (exfalso; omega))) | ((with_reducible first | apply x_same | apply d_same | apply d_same0); exact gd; exact rfl; exact rfl; (first | exact c3' | exact c4 _ hk7.1 | exact c_works (preOk_ext (Ext.of_grow hk7.1 hB) hq))) | (refine sg ?_ ?_ <;> (intro h; (fail_if_success (have : True := h)); try first | exact h.elim | exact absurd rfl h | (exfalso; omega))) | assumption | exact xm | exact rfl))
  all_goals first
    | (exfalso; have h9 := hge (hsl (by assumption)) (by assumption); omega)
    | (((with_reducible first | apply k_fun | apply k_fun_norm); exact rx); rfl)
end Go.Proofs.YtlfkmgpngkbhpaaGreatDoor.C
end
