/-
  Part of the proof of TapeDearer: what functions of the program and of the statement come to, walked by the rules. No condition beyond those in each theorem.
-/
import Derived.Test.YtlfkmgpngkbhpaaGreatDoorTR
import Derived.Test.YtlfkmgpngkbhpaaGreatDoorTU
import Derived.Test.YtlfkmgpngkbhpaaGreatDoorTX
import Derived.Test.YtlfkmgpngkbhpaaGreatDoorTS
section
open Go PvL Go.Proofs
set_option linter.unusedSimpArgs false
set_option linter.unusedVariables false
namespace Go.Proofs.YtlfkmgpngkbhpaaGreatDoor.C
def smlF (l : List (Int × Int)) : Nat -> Bool
  | 0 => true
  | k + 1 => (smlF l k && btB (pe l k).1 0 60000) && btB (pe l k).2 0 60000
theorem slc_hi {i o len n h : Nat} {f : Bool} (hh : h <= len) : ∃ o' f', (0 < len -> o' = o) /\ sliceSl n (some (i, o)) len f n none (some (.int .i64 (h : Int))) none = some (.slice (some (i, o')) h f' n) := by
  have e1 : sliceSl n (some (i, o)) len f n none (some (.int .i64 (h : Int))) none = guard' (Nat.ble h len) (guard' (Nat.beq n n) (ifb (false || (f || (Nat.ble (0 + 1) len || true))) (fN (ifb (Nat.beq len 0 && (f || false)) o (o + 0 * n)) fun off' => fN (h - 0) fun len' => some (LV.slice (some (i, off')) len' (ifb false (Nat.beq h len) (f && Nat.beq h len)) n)) (some (LV.slice (some (i, o)) 0 false 0)))) := by
    show guard' true (guard' (Nat.ble h len) (guard' (Nat.ble 0 h) _)) = _
    rw [guard'_true, Nat.ble_eq_true_of_le (Nat.zero_le h), guard'_true]
    rfl
  rw [e1, fN_eq, fN_eq, Nat.ble_eq_true_of_le hh, guard'_true, show Nat.beq n n = true by simp, guard'_true]
  rw [show (false || (f || (Nat.ble (0 + 1) len || true))) = true by simp, ifb_true]
  refine ⟨_, _, fun h0 => ?_, rfl⟩
  have h1 : Nat.beq len 0 = false := by cases hb : Nat.beq len 0 with | false => rfl | true => have := Nat.eq_of_beq_eq_true hb; omega
  rw [h1, Bool.false_and, ifb_false, Nat.zero_mul, Nat.add_zero]
theorem slc_lo {i o len n k : Nat} {f : Bool} (hk : k <= len) : ∃ o' f' e', (k < len -> o' = o + k * n) /\ sliceSl n (some (i, o)) len f n (some (.int .i64 (k : Int))) none none = some (.slice (some (i, o')) (len - k) f' e') := by
  have e1 : sliceSl n (some (i, o)) len f n (some (.int .i64 (k : Int))) none none = guard' (Nat.ble k len) (guard' (Nat.beq n n) (ifb (false || (f || (Nat.ble (k + 1) len || Nat.beq k 0))) (fN (ifb (Nat.beq len k && (f || false)) o (o + k * n)) fun off' => fN (len - k) fun len' => some (LV.slice (some (i, off')) len' (ifb false (Nat.beq len len) (f && Nat.beq len len)) n)) (some (LV.slice (some (i, o)) 0 false 0)))) := rfl
  rw [e1, fN_eq, fN_eq, Nat.ble_eq_true_of_le hk, guard'_true, show Nat.beq n n = true by simp, guard'_true]
  by_cases h0 : k < len
  · have h1 : Nat.beq len k = false := by cases hb : Nat.beq len k with | false => rfl | true => have := Nat.eq_of_beq_eq_true hb; omega
    rw [Nat.ble_eq_true_of_le (show k + 1 <= len by omega), h1]
    rw [show (false || (f || (true || Nat.beq k 0))) = true by simp, ifb_true, Bool.false_and, ifb_false]
    exact ⟨_, _, _, fun _ => rfl, rfl⟩
  · cases hb : (false || (f || (Nat.ble (k + 1) len || Nat.beq k 0))) with
    | true => rw [ifb_true]; exact ⟨_, _, _, fun h => absurd h h0, rfl⟩
    | false => rw [ifb_false, show len - k = 0 by omega]; exact ⟨_, _, _, fun h => absurd h h0, rfl⟩
theorem xs_slcHi {n : Nat} {a : Option (Nat × Nat)} {len h : Nat} {f : Bool} {v : LV} {E : Env} {M : Mem} {x hi : XO} (hs : sliceSl n a len f n none (some (.int .i64 (h : Int))) none = some v) (hx : xval E x = some (.slice a len f n)) (hh : xval E hi = some (I (h : Int))) : xstep Tryz.prog (.slc n x none (some hi) none) E M = some (.val v M) := by
  show ob (xval E x) _ = _
  rw [hx, ob_some]
  show ob (ob (xval E hi) _) _ = _
  rw [hh, ob_some]
  show ob (sliceSl n a len f n none (some (.int .i64 (h : Int))) none) (rv M) = _
  rw [hs]; rfl
theorem xs_slcLo {n : Nat} {a : Option (Nat × Nat)} {len h : Nat} {f : Bool} {v : LV} {E : Env} {M : Mem} {x lo : XO} (hs : sliceSl n a len f n (some (.int .i64 (h : Int))) none none = some v) (hx : xval E x = some (.slice a len f n)) (hh : xval E lo = some (I (h : Int))) : xstep Tryz.prog (.slc n x (some lo) none none) E M = some (.val v M) := by
  show ob (xval E x) _ = _
  rw [hx, ob_some]
  show ob (ob (xval E lo) _) _ = _
  rw [hh, ob_some]
  show ob (sliceSl n a len f n (some (.int .i64 (h : Int))) none none) (rv M) = _
  rw [hs]; rfl
abbrev bidSh : Sh := .pair (.sl (.pair (.int .i64) (.int .i64)) 16) (.sl (.int .i64) 8)
theorem c_Rest (n m : Int) (hn : I64 n) (hm : 1 <= m /\ m <= 1000000000) (M : Mem) : CallOk Tryz.prog 48 [I n, I m] M (fun w M' => w = I (rst8 n m) /\ M' = M) := by
  refine call_in k48 rfl ?_
  dsimp only [x48, zipE, Nat.reduceAdd]
  obtain ⟨hn1, hn2⟩ := hn
  have h1 := Int.tmod_lt_of_pos n (show 0 < m by omega)
  have h2 := Int.lt_tmod_of_pos n (show 0 < m by omega)
  have hr : rst8 n m = if Int.tmod n m < 0 then Int.tmod n m + m else Int.tmod n m := by unfold rst8; rw [if_neg (by omega)]
  (repeat' (first | (with_reducible intro _) | refine sv ?_ | (refine sc ?_ ?_ <;> (intro h; try first | exact h.elim | exact absurd rfl h | (exfalso; omega))) | (refine sg ?_ ?_ <;> (intro h; (fail_if_success (have : True := h)); try first | exact h.elim | exact absurd rfl h | (exfalso; omega))) | assumption | exact xm | exact rfl))
  · ((with_reducible first | apply k_fun | apply k_fun_norm); exact rx)
    rw [if_pos h] at hr
    exact ⟨by rw [hr]; rfl, rfl⟩
  · ((with_reducible first | apply k_fun | apply k_fun_norm); exact rx)
    rw [if_neg (by omega)] at hr
    exact ⟨by rw [hr]; rfl, rfl⟩
theorem sli_take {M : Mem} {a : Option (Nat × Nat)} {L : List Int} {f : Bool} {h : Nat} (hp : SlI M a L) (hh : h <= L.length) : ∃ a' f' e', sliceSl 1 a L.length f 1 none (some (.int .i64 (h : Int))) none = some (.slice a' h f' e') /\ SlI M a' (L.take h) := by
  have hl : (L.take h).length = h := by rw [List.length_take]; omega
  rcases a with _ | ⟨i, o⟩
  · rcases hp with rfl | ⟨i, o, h1, _⟩
    · obtain rfl : h = 0 := by simpa using hh
      exact ⟨_, _, _, rfl, .inl rfl⟩
    · cases h1
  · obtain ⟨o', f', h1, h2⟩ := slc_hi (i := i) (o := o) (n := 1) (f := f) hh
    refine ⟨_, _, _, h2, ?_⟩
    rcases hp with rfl | ⟨i', o2, h3, h4⟩
    · exact .inl (by simp)
    · obtain ⟨rfl, rfl⟩ : i = i' /\ o = o2 := by injection h3 with q; injection q with q1 q2; exact ⟨q1, q2⟩
      refine .inr ⟨i, o', rfl, fun k hk => ?_⟩
      rw [hl] at hk
      rw [h1 (by omega), List.getElem_take]
      exact h4 k (by omega)
theorem sli_drop {M : Mem} {a : Option (Nat × Nat)} {L : List Int} {f : Bool} {k : Nat} (hp : SlI M a L) (hk : k <= L.length) : ∃ a' f' e', sliceSl 1 a L.length f 1 (some (.int .i64 (k : Int))) none none = some (.slice a' (L.length - k) f' e') /\ SlI M a' (L.drop k) := by
  have hl : (L.drop k).length = L.length - k := by rw [List.length_drop]
  rcases a with _ | ⟨i, o⟩
  · rcases hp with rfl | ⟨i, o, h1, _⟩
    · obtain rfl : k = 0 := by simpa using hk
      exact ⟨_, _, _, rfl, .inl rfl⟩
    · cases h1
  · obtain ⟨o', f', e', h1, h2⟩ := slc_lo (i := i) (o := o) (n := 1) (f := f) hk
    refine ⟨_, _, _, h2, ?_⟩
    rcases hp with rfl | ⟨i', o2, h3, h4⟩
    · exact .inl (by simp)
    · obtain ⟨rfl, rfl⟩ : i = i' /\ o = o2 := by injection h3 with q; injection q with q1 q2; exact ⟨q1, q2⟩
      by_cases h0 : k < L.length
      · refine .inr ⟨i, o', rfl, fun j hj => ?_⟩
        rw [hl] at hj
        rw [h1 h0, List.getElem_drop]
        have := h4 (k + j) (by omega)
        rw [show o + k * 1 + j * 1 = o + (k + j) * 1 from by omega]
        exact this
      · refine .inl (List.length_eq_zero_iff.1 (by rw [hl]; omega))
theorem nth_take1 : ∀ (c : List LV) (o : Nat) (v : LV), nth c o = some v -> take' 1 (drop' o c) = some [v]
  | [], o, v, h => by cases h
  | x :: c, 0, v, h => by
    obtain rfl : x = v := Option.some.inj h
    rfl
  | x :: c, o + 1, v, h => nth_take1 c o v h
theorem rd1_one {M : Mem} {i o : Nat} {v : LV} (h : Rd1 M i o v) : Rd M i o 1 [v] := by
  refine ⟨?_, h.2⟩
  have h1 := h.1
  unfold load1 atCells at h1
  unfold loadN atCells
  cases hg : M.get i with
  | none => rw [hg] at h1; cases h1
  | some b =>
    rw [hg, ob_some] at h1
    rw [ob_some]
    cases b <;> first | exact nth_take1 _ _ _ h1 | cases h1
theorem sli_first {M : Mem} {a : Option (Nat × Nat)} {l : List Int} {f : Bool} {e : Nat} (h : SlI M a l) (h0 : 0 < l.length) : firstL 1 l.length (.slice a l.length f e) M = some (l.flatMap intc) := by
  obtain ⟨i, o, rfl, hr⟩ := h.resolve_left (fun h => by rw [h] at h0; simp at h0)
  refine firstL_rd (fun _ _ => rfl) (fun k hk => ?_)
  have := hr k hk
  exact rd1_one this
set_option maxHeartbeats 16000000 in
theorem c_TapeDearer {M : Mem} {a : Option (Nat × Nat)} {s : List Int} {f : Bool} {x y k0 k1 k2 : Int} (hs : SlI M a s) (hl : s.length <= 1000000000000000) (hk0 : I64 k0) (hk1 : I64 k1) (hk2 : I64 k2) (hB : Base M) (hq : preOk M tabs = true) :
    CallOk Tryz.prog 12 [.slice a s.length f 1, .agg [I x, I y], .agg [I k0, I k1, I k2]] M (fun r _ => r = .bool true) := by
  refine call_in k12 rfl ?_
  dsimp only [x12, zipE, Nat.reduceAdd]
  have c1 := fun M' (hg : Grow M M') => c_Again (f := f) (e := 1) (x := x) (y := y) (hs.grow hg) hl
  cases hok : okS s x y with
  | false =>
    rw [agF_no hok] at c1
    (repeat' (first | (with_reducible intro _) | refine sv ?_ | (refine sc ?_ ?_ <;> (intro h; try first | exact h.elim | exact absurd rfl h | (exfalso; omega))) | ((with_reducible first | apply x_call | apply d_call | apply x_call0); exact gd; exact rfl; exact rfl; (first | exact c1 _ (xg))) | (refine sg ?_ ?_ <;> (intro h; (fail_if_success (have : True := h)); try first | exact h.elim | exact absurd rfl h | (exfalso; omega))) | assumption | exact xm | exact rfl))
    rename_i m4 M4 hN4 q1 q2 m5 M5 hN5 q3 q4 p1 M6 hq1
    obtain ⟨q, rfl, hp1, hg1⟩ := hq1
    have hl1 := hg1.le
    (repeat' (first | (with_reducible intro _) | refine sv ?_ | (refine sc ?_ ?_ <;> (intro h; try first | exact h.elim | exact absurd rfl h | (exfalso; omega))) | ((with_reducible first | apply x_same | apply d_same | apply d_same0); exact gd; exact rfl; exact rfl; (first | exact c_works (preOk_ext (Ext.of_grow (xg) hB) hq))) | (refine sg ?_ ?_ <;> (intro h; (fail_if_success (have : True := h)); try first | exact h.elim | exact absurd rfl h | (exfalso; omega))) | assumption | exact xm | exact rfl))
    all_goals try (exfalso; simp_all; done)
    ((with_reducible first | apply k_fun | apply k_fun_norm); exact rx)
    rfl
  | true =>
  have ok := okS_p hok
  have hL8 := ok.len
  have ha0 := ok.a0
  have hb0 := ok.b0
  rw [agF_yes hok] at c1
  have hr1 := rst8_bd (n := k1) (m := x + 1) (by omega)
  have hr2 := rst8_bd (n := k2) (m := 9) (by omega)
  have ok1 : OkS s (rst8 k1 (x + 1)) y := ⟨ok.len, by omega, hb0, ok.t⟩
  have hm2 : 1 <= iMin 1000 (y + rst8 k2 9) /\ iMin 1000 (y + rst8 k2 9) <= 1000 /\ y <= iMin 1000 (y + rst8 k2 9) := by unfold iMin; omega
  have ok2 : OkS s x (iMin 1000 (y + rst8 k2 9)) := ⟨ok.len, ha0, ⟨hm2.1, hm2.2.1⟩, ok.t⟩
  have le1 := bs_less ok ok1 (fun k hk => ⟨k, hk, rfl⟩) (by omega) (Int.le_refl _)
  have le2 := bs_less ok ok2 (fun k hk => ⟨k, hk, rfl⟩) (Int.le_refl _) hm2.2.2
  have c1f := fun M' a' (F : List Int) f' e' (hF : OkS F x y) (hsF : SlI M' a' F) => c_Again (f := f') (e := e') (x := x) (y := y) hsF (by have := hF.len; omega)
  dsimp only at c1
  (repeat' (first | (with_reducible intro _) | refine sv ?_ | (refine sc ?_ ?_ <;> (intro h; try first | exact h.elim | exact absurd rfl h | (exfalso; omega))) | ((with_reducible first | apply x_call | apply d_call | apply x_call0); exact gd; exact rfl; exact rfl; (first | exact c1 _ (xg))) | (refine sg ?_ ?_ <;> (intro h; (fail_if_success (have : True := h)); try first | exact h.elim | exact absurd rfl h | (exfalso; omega))) | assumption | exact xm | exact rfl))
  rename_i m4 M4 hN4 q1 q2 m5 M5 hN5 q3 q4 p1 M6 hq1
  obtain ⟨q, rfl, hp1, hg1⟩ := hq1
  have hl1 := hg1.le
  have a4 : At M6 m4 (.cells true [I x, I y] 72) := xm
  have a5 : At M6 m5 (.cells true [I k0, I k1, I k2] 91) := xm
  have hg6 : Grow M M6 := xg
  have hk6 : Grow M M6 /\ True := ⟨hg6, trivial⟩
  clear hg6 hN4 hN5 hg1 q1 q2 q3 q4 hp1
  by_cases hn : s.length = 0
  · (repeat' (first | (with_reducible intro _) | refine sv ?_ | (refine sc ?_ ?_ <;> (intro h; try first | exact h.elim | exact absurd rfl h | (exfalso; omega))) | (refine sg ?_ ?_ <;> (intro h; (fail_if_success (have : True := h)); try first | exact h.elim | exact absurd rfl h | (exfalso; omega))) | assumption | exact xm | exact rfl))
    all_goals try (exfalso; omega)
    clear h
    have cf := c1f M6 none [] true 0 ⟨by simp, ha0, hb0, rfl⟩ (.inl rfl)
    rw [agF_yes (OkS.s ⟨by simp, ha0, hb0, rfl⟩)] at cf
    rw [bs_nil] at cf
    dsimp only [List.length_nil] at cf
    have leF : (0 : Int) <= (bs s x y 0).1 := (tb_bd ok s.length 0).1
    have hkF := hk6
    have c4 := a4
    have c5 := a5
    clear a4 a5
    (repeat' (first | (with_reducible intro _) | refine sv ?_ | (refine sc ?_ ?_ <;> (intro h; try first | exact h.elim | exact absurd rfl h | (exfalso; omega))) | ((with_reducible first | apply x_call | apply d_call | apply x_call0); exact gd; exact rfl; exact rfl; (first | exact cf)) | (refine sg ?_ ?_ <;> (intro h; (fail_if_success (have : True := h)); try first | exact h.elim | exact absurd rfl h | (exfalso; omega))) | assumption | exact xm | exact rfl))
    rename_i w12 N12 hq5
    obtain ⟨q12, rfl, hp12, hg12⟩ := hq5
    have l12 := hg12.le
    have hk12 : Grow M N12 /\ True := ⟨hkF.1.trans hg12, trivial⟩
    have d4 := At.grow hg12 c4
    have d5 := At.grow hg12 c5
    clear c4 c5 hg12 hkF hp12 cf
    have cr1 := c_Rest k1 (x + 1) hk1 (by omega)
    have cr2 := c_Rest k2 9 hk2 (by omega)
    have cd1 := fun M' (hg : Grow M M') => c_Again (f := f) (e := 1) (x := rst8 k1 (x + 1)) (y := y) (hs.grow hg) hl
    have cd2 := fun M' (hg : Grow M M') => c_Again (f := f) (e := 1) (x := x) (y := iMin 1000 (y + rst8 k2 9)) (hs.grow hg) hl
    rw [agF_yes ok1.s] at cd1
    rw [agF_yes ok2.s] at cd2
    dsimp only at cd1 cd2
    generalize (bs s (rst8 k1 (x + 1)) y 0).1 = B1 at *
    generalize (bs s x (iMin 1000 (y + rst8 k2 9)) 0).1 = B2 at *
    generalize rst8 k1 (x + 1) = R1 at *
    generalize rst8 k2 9 = R2 at *
    generalize (bs s x y 0).1 = B0 at *
    (repeat' (first | (with_reducible intro _) | refine sv ?_ | (refine sc ?_ ?_ <;> (intro h; try first | exact h.elim | exact absurd rfl h | (exfalso; omega))) | ((with_reducible first | apply x_same | apply d_same | apply d_same0); exact gd; exact rfl; exact rfl; (first | exact cr1 _)) | ((with_reducible first | apply x_call | apply d_call | apply x_call0); exact gd; exact rfl; exact rfl; (first | exact cd1 _ hk12.1)) | (refine sg ?_ ?_ <;> (intro h; (fail_if_success (have : True := h)); try first | exact h.elim | exact absurd rfl h | (exfalso; omega))) | assumption | exact xm | exact rfl))
    rename_i w13 N13 hq6
    obtain ⟨q13, rfl, hp13, hg13⟩ := hq6
    have l13 := hg13.le
    have hk13 : Grow M N13 /\ True := ⟨hk12.1.trans hg13, trivial⟩
    have g4 := At.grow hg13 d4
    have g5 := At.grow hg13 d5
    clear hg13 hp13 cd1
    (repeat' (first | (with_reducible intro _) | refine sv ?_ | (refine sc ?_ ?_ <;> (intro h; try first | exact h.elim | exact absurd rfl h | (exfalso; omega))) | (refine sg ?_ ?_ <;> (intro h; (fail_if_success (have : True := h)); try first | exact h.elim | exact absurd rfl h | (exfalso; omega))) | assumption | exact xm | exact rfl))
    clear d4 d5
    (repeat' (first | (with_reducible intro _) | refine sv ?_ | (refine sc ?_ ?_ <;> (intro h; try first | exact h.elim | exact absurd rfl h | (exfalso; omega))) | ((with_reducible first | apply x_same | apply d_same | apply d_same0); exact gd; exact rfl; exact rfl; (first | exact cr2 _)) | ((with_reducible first | apply x_call | apply d_call | apply x_call0); exact gd; exact rfl; exact rfl; (first | exact cd2 _ hk13.1)) | (refine sg ?_ ?_ <;> (intro h; (fail_if_success (have : True := h)); try first | exact h.elim | exact absurd rfl h | (exfalso; omega))) | assumption | exact xm | exact rfl))
    rename_i w14 N14 hq7
    obtain ⟨q14, rfl, hp14, hg14⟩ := hq7
    have l14 := hg14.le
    have hk14 : Grow M N14 /\ True := ⟨hk13.1.trans hg14, trivial⟩
    have j4 := At.grow hg14 g4
    have j5 := At.grow hg14 g5
    clear hg14 hp14 cd2
    (repeat' (first | (with_reducible intro _) | refine sv ?_ | (refine sc ?_ ?_ <;> (intro h; try first | exact h.elim | exact absurd rfl h | (exfalso; omega))) | ((with_reducible first | apply x_same | apply d_same | apply d_same0); exact gd; exact rfl; exact rfl; (first | exact c_works (preOk_ext (Ext.of_grow hk14.1 hB) hq))) | (refine sg ?_ ?_ <;> (intro h; (fail_if_success (have : True := h)); try first | exact h.elim | exact absurd rfl h | (exfalso; omega))) | assumption | exact xm | exact rfl))
    all_goals try (exfalso; omega)
    ((with_reducible first | apply k_fun | apply k_fun_norm); exact rx)
    rfl
  · obtain ⟨K, hK⟩ : ∃ K : Nat, rst8 k0 s.length = (K : Int) := ⟨(rst8 k0 s.length).toNat, by have := rst8_bd (n := k0) (m := s.length) (by omega); omega⟩
    have hKb := rst8_bd (n := k0) (m := s.length) (by omega)
    have cr0 := c_Rest k0 s.length hk0 (by omega)
    rw [hK] at cr0 hKb
    have hKl : K < s.length := by omega
    have hs6 := hs.grow hk6.1
    obtain ⟨b1, g1, u1, hsc1, hst⟩ := sli_take (f := f) hs6 (show K <= s.length by omega)
    obtain ⟨b2, g2, u2, hsc2, hsd⟩ := sli_drop (f := f) hs6 (show K + 1 <= s.length by omega)
    have hlt : (s.take K).length = K := by rw [List.length_take]; omega
    have hld : (s.drop (K + 1)).length = s.length - (K + 1) := by rw [List.length_drop]
    (repeat' (first | (with_reducible intro _) | refine sv ?_ | (refine sc ?_ ?_ <;> (intro h; try first | exact h.elim | exact absurd rfl h | (exfalso; omega))) | ((with_reducible first | apply x_same | apply d_same | apply d_same0); exact gd; exact rfl; exact rfl; (first | exact cr0 _)) | (refine sg ?_ ?_ <;> (intro h; (fail_if_success (have : True := h)); try first | exact h.elim | exact absurd rfl h | (exfalso; omega))) | assumption | exact xm | exact rfl))
    refine d_val (by exact gd) (xs_slcHi hsc1 rfl rfl) ?_
    refine d_vec_app0 (by exact gd) (b := M6.next) (l := []) (l' := s.take K) (enc := intc) Vec.nil rfl rfl (by rw [hlt]; rfl) (by rw [hlt]; simp; omega) rfl (fun h0 => by have := sli_first (f := g1) (e := u1) hst h0; rw [hlt] at this ⊢; exact this) (fun _ => rfl) (fun _ => rfl) (Nat.le_refl _) ?_
    intro v1 N1 hv1 u9 hk1'
    have hv1 : Vec M6.next 1 3 intc N1 v1 (s.take K) := hv1
    have hG1 : Grow M6 N1 := hk1'.to_grow (fun i hi => hi.1)
    clear hk1'
    (repeat' (first | (with_reducible intro _) | refine sv ?_ | (refine sc ?_ ?_ <;> (intro h; try first | exact h.elim | exact absurd rfl h | (exfalso; omega))) | (refine sg ?_ ?_ <;> (intro h; (fail_if_success (have : True := h)); try first | exact h.elim | exact absurd rfl h | (exfalso; omega))) | assumption | exact xm | exact rfl))
    refine xd_know (t := 52) (v' := I ((K + 1 : Nat) : Int)) rfl rfl ?_
    refine d_val (by exact gd) (xs_slcLo hsc2 rfl rfl) ?_
    refine d_vec_app0 (by exact gd) (l' := s.drop (K + 1)) (enc := intc) hv1 rfl rfl (by rw [hld]; rfl) (by rw [hlt, hld]; omega) rfl (fun h0 => by have := sli_first (f := g2) (e := u2) (hsd.grow hG1) h0; rw [hld] at this ⊢; exact this) (fun _ => rfl) (fun _ => rfl) (by omega) ?_
    intro v2 N2 hv2 u10 hk2'
    have hG2 : Grow M6 N2 := Keep.to_grow' hG1 hk2' (fun i hi => hi.1)
    have hv2 : Vec M6.next 1 3 intc N2 v2 (fewL s K) := hv2
    clear hk2' hG1
    obtain ⟨fa, ff, fe, rfl, hsF⟩ := SlI.vec hv2
    have lF := hG2.le
    have c4 := At.grow hG2 a4
    have c5 := At.grow hG2 a5
    have hkF : Grow M N2 /\ True := ⟨hk6.1.trans hG2, trivial⟩
    have cf := c1f N2 fa (fewL s K) ff fe (few_ok ok hKl) hsF
    have leF := few_less ok hKl
    rw [agF_yes (few_ok ok hKl).s] at cf
    dsimp only at cf
    clear hv2 hv1
    generalize (bs (fewL s K) x y 0).1 = BF at *
    (repeat' (first | (with_reducible intro _) | refine sv ?_ | (refine sc ?_ ?_ <;> (intro h; try first | exact h.elim | exact absurd rfl h | (exfalso; omega))) | (refine sg ?_ ?_ <;> (intro h; (fail_if_success (have : True := h)); try first | exact h.elim | exact absurd rfl h | (exfalso; omega))) | assumption | exact xm | exact rfl))
    clear hG2 a4 a5
    (repeat' (first | (with_reducible intro _) | refine sv ?_ | (refine sc ?_ ?_ <;> (intro h; try first | exact h.elim | exact absurd rfl h | (exfalso; omega))) | ((with_reducible first | apply x_call | apply d_call | apply x_call0); exact gd; exact rfl; exact rfl; (first | exact cf)) | (refine sg ?_ ?_ <;> (intro h; (fail_if_success (have : True := h)); try first | exact h.elim | exact absurd rfl h | (exfalso; omega))) | assumption | exact xm | exact rfl))
    rename_i w12 N12 hq5
    obtain ⟨q12, rfl, hp12, hg12⟩ := hq5
    have l12 := hg12.le
    have hk12 : Grow M N12 /\ True := ⟨hkF.1.trans hg12, trivial⟩
    have d4 := At.grow hg12 c4
    have d5 := At.grow hg12 c5
    clear c4 c5 hg12 hkF hp12 cf
    have cr1 := c_Rest k1 (x + 1) hk1 (by omega)
    have cr2 := c_Rest k2 9 hk2 (by omega)
    have cd1 := fun M' (hg : Grow M M') => c_Again (f := f) (e := 1) (x := rst8 k1 (x + 1)) (y := y) (hs.grow hg) hl
    have cd2 := fun M' (hg : Grow M M') => c_Again (f := f) (e := 1) (x := x) (y := iMin 1000 (y + rst8 k2 9)) (hs.grow hg) hl
    rw [agF_yes ok1.s] at cd1
    rw [agF_yes ok2.s] at cd2
    dsimp only at cd1 cd2
    generalize (bs s (rst8 k1 (x + 1)) y 0).1 = B1 at *
    generalize (bs s x (iMin 1000 (y + rst8 k2 9)) 0).1 = B2 at *
    generalize rst8 k1 (x + 1) = R1 at *
    generalize rst8 k2 9 = R2 at *
    generalize (bs s x y 0).1 = B0 at *
    (repeat' (first | (with_reducible intro _) | refine sv ?_ | (refine sc ?_ ?_ <;> (intro h; try first | exact h.elim | exact absurd rfl h | (exfalso; omega))) | ((with_reducible first | apply x_same | apply d_same | apply d_same0); exact gd; exact rfl; exact rfl; (first | exact cr1 _)) | ((with_reducible first | apply x_call | apply d_call | apply x_call0); exact gd; exact rfl; exact rfl; (first | exact cd1 _ hk12.1)) | (refine sg ?_ ?_ <;> (intro h; (fail_if_success (have : True := h)); try first | exact h.elim | exact absurd rfl h | (exfalso; omega))) | assumption | exact xm | exact rfl))
    rename_i w13 N13 hq6
    obtain ⟨q13, rfl, hp13, hg13⟩ := hq6
    have l13 := hg13.le
    have hk13 : Grow M N13 /\ True := ⟨hk12.1.trans hg13, trivial⟩
    have g4 := At.grow hg13 d4
    have g5 := At.grow hg13 d5
    clear hg13 hp13 cd1
    (repeat' (first | (with_reducible intro _) | refine sv ?_ | (refine sc ?_ ?_ <;> (intro h; try first | exact h.elim | exact absurd rfl h | (exfalso; omega))) | (refine sg ?_ ?_ <;> (intro h; (fail_if_success (have : True := h)); try first | exact h.elim | exact absurd rfl h | (exfalso; omega))) | assumption | exact xm | exact rfl))
    clear d4 d5
    (repeat' (first | (with_reducible intro _) | refine sv ?_ | (refine sc ?_ ?_ <;> (intro h; try first | exact h.elim | exact absurd rfl h | (exfalso; omega))) | ((with_reducible first | apply x_same | apply d_same | apply d_same0); exact gd; exact rfl; exact rfl; (first | exact cr2 _)) | ((with_reducible first | apply x_call | apply d_call | apply x_call0); exact gd; exact rfl; exact rfl; (first | exact cd2 _ hk13.1)) | (refine sg ?_ ?_ <;> (intro h; (fail_if_success (have : True := h)); try first | exact h.elim | exact absurd rfl h | (exfalso; omega))) | assumption | exact xm | exact rfl))
    rename_i w14 N14 hq7
    obtain ⟨q14, rfl, hp14, hg14⟩ := hq7
    have l14 := hg14.le
    have hk14 : Grow M N14 /\ True := ⟨hk13.1.trans hg14, trivial⟩
    have j4 := At.grow hg14 g4
    have j5 := At.grow hg14 g5
    clear hg14 hp14 cd2
    (repeat' (first | (with_reducible intro _) | refine sv ?_ | (refine sc ?_ ?_ <;> (intro h; try first | exact h.elim | exact absurd rfl h | (exfalso; omega))) | ((with_reducible first | apply x_same | apply d_same | apply d_same0); exact gd; exact rfl; exact rfl; (first | exact c_works (preOk_ext (Ext.of_grow hk14.1 hB) hq))) | (refine sg ?_ ?_ <;> (intro h; (fail_if_success (have : True := h)); try first | exact h.elim | exact absurd rfl h | (exfalso; omega))) | assumption | exact xm | exact rfl))
    all_goals try (exfalso; omega)
    ((with_reducible first | apply k_fun | apply k_fun_norm); exact rx)
    rfl
end Go.Proofs.YtlfkmgpngkbhpaaGreatDoor.C
end
