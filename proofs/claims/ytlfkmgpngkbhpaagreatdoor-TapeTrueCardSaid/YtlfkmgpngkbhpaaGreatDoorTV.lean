/-
  Part of the proof of TapeTrue: what functions of the program and of the statement come to, walked by the rules. No condition beyond those in each theorem.
-/
import Derived.Test.YtlfkmgpngkbhpaaGreatDoorTR
import Derived.Test.YtlfkmgpngkbhpaaGreatDoorTU
import Derived.Test.YtlfkmgpngkbhpaaGreatDoorTX
import Derived.Test.YtlfkmgpngkbhpaaGreatDoorTS
section
open Go PvL Go.Proofs
set_option linter.unusedSimpArgs false
set_option linter.unusedVariables false
namespace Go.Proofs.YtlfkmgpngkbhpaaGreatDoor.C
def smlF (l : List (Int × Int)) : Nat -> Bool
  | 0 => true
  | k + 1 => (smlF l k && btB (pe l k).1 0 60000) && btB (pe l k).2 0 60000
theorem slc_hi {i o len n h : Nat} {f : Bool} (hh : h <= len) : ∃ o' f', (0 < len -> o' = o) /\ sliceSl n (some (i, o)) len f n none (some (.int .i64 (h : Int))) none = some (.slice (some (i, o')) h f' n) := by
  have e1 : sliceSl n (some (i, o)) len f n none (some (.int .i64 (h : Int))) none = guard' (Nat.ble h len) (guard' (Nat.beq n n) (ifb (false || (f || (Nat.ble (0 + 1) len || true))) (fN (ifb (Nat.beq len 0 && (f || false)) o (o + 0 * n)) fun off' => fN (h - 0) fun len' => some (LV.slice (some (i, off')) len' (ifb false (Nat.beq h len) (f && Nat.beq h len)) n)) (some (LV.slice (some (i, o)) 0 false 0)))) := by
    show guard' true (guard' (Nat.ble h len) (guard' (Nat.ble 0 h) _)) = _
    rw [guard'_true, Nat.ble_eq_true_of_le (Nat.zero_le h), guard'_true]
    rfl
  rw [e1, fN_eq, fN_eq, Nat.ble_eq_true_of_le hh, guard'_true, show Nat.beq n n = true by simp, guard'_true]
  rw [show (false || (f || (Nat.ble (0 + 1) len || true))) = true by simp, ifb_true]
  refine ⟨_, _, fun h0 => ?_, rfl⟩
  have h1 : Nat.beq len 0 = false := by cases hb : Nat.beq len 0 with | false => rfl | true => have := Nat.eq_of_beq_eq_true hb; omega
  rw [h1, Bool.false_and, ifb_false, Nat.zero_mul, Nat.add_zero]
theorem xs_slcHi {n : Nat} {a : Option (Nat × Nat)} {len h : Nat} {f : Bool} {v : LV} {E : Env} {M : Mem} {x hi : XO} (hs : sliceSl n a len f n none (some (.int .i64 (h : Int))) none = some v) (hx : xval E x = some (.slice a len f n)) (hh : xval E hi = some (I (h : Int))) : xstep Tryz.prog (.slc n x none (some hi) none) E M = some (.val v M) := by
  show ob (xval E x) _ = _
  rw [hx, ob_some]
  show ob (ob (xval E hi) _) _ = _
  rw [hh, ob_some]
  show ob (sliceSl n a len f n none (some (.int .i64 (h : Int))) none) (rv M) = _
  rw [hs]; rfl
abbrev bidSh : Sh := .pair (.sl (.pair (.int .i64) (.int .i64)) 16) (.sl (.int .i64) 8)
theorem sli_take {M : Mem} {a : Option (Nat × Nat)} {L : List Int} {f : Bool} {h : Nat} (hp : SlI M a L) (hh : h <= L.length) : ∃ a' f' e', sliceSl 1 a L.length f 1 none (some (.int .i64 (h : Int))) none = some (.slice a' h f' e') /\ SlI M a' (L.take h) := by
  have hl : (L.take h).length = h := by rw [List.length_take]; omega
  rcases a with _ | ⟨i, o⟩
  · rcases hp with rfl | ⟨i, o, h1, _⟩
    · obtain rfl : h = 0 := by simpa using hh
      exact ⟨_, _, _, rfl, .inl rfl⟩
    · cases h1
  · obtain ⟨o', f', h1, h2⟩ := slc_hi (i := i) (o := o) (n := 1) (f := f) hh
    refine ⟨_, _, _, h2, ?_⟩
    rcases hp with rfl | ⟨i', o2, h3, h4⟩
    · exact .inl (by simp)
    · obtain ⟨rfl, rfl⟩ : i = i' /\ o = o2 := by injection h3 with q; injection q with q1 q2; exact ⟨q1, q2⟩
      refine .inr ⟨i, o', rfl, fun k hk => ?_⟩
      rw [hl] at hk
      rw [h1 (by omega), List.getElem_take]
      exact h4 k (by omega)
theorem c_RestB (n m : Int) (hn : I64 n) (hm : 1 <= m /\ m <= 1000000000000000) (M : Mem) : CallOk Tryz.prog 48 [I n, I m] M (fun w M' => w = I (rst8 n m) /\ M' = M) := by
  refine call_in k48 rfl ?_
  dsimp only [x48, zipE, Nat.reduceAdd]
  obtain ⟨hn1, hn2⟩ := hn
  have h1 := Int.tmod_lt_of_pos n (show 0 < m by omega)
  have h2 := Int.lt_tmod_of_pos n (show 0 < m by omega)
  have hr : rst8 n m = if Int.tmod n m < 0 then Int.tmod n m + m else Int.tmod n m := by unfold rst8; rw [if_neg (by omega)]
  (repeat' (first | (with_reducible intro _) | refine sv ?_ | (refine sc ?_ ?_ <;> (intro h; try first | exact h.elim | exact absurd rfl h | (exfalso; omega))) | (refine sg ?_ ?_ <;> (intro h; (fail_if_success (have : True := h)); try first | exact h.elim | exact absurd rfl h | (exfalso; omega))) | assumption | exact xm | exact rfl))
  · ((with_reducible first | apply k_fun | apply k_fun_norm); exact rx)
    rw [if_pos h] at hr
    exact ⟨by rw [hr]; rfl, rfl⟩
  · ((with_reducible first | apply k_fun | apply k_fun_norm); exact rx)
    rw [if_neg (by omega)] at hr
    exact ⟨by rw [hr]; rfl, rfl⟩
def pckN (l : List Int) (i : Int) : Int := if l.length = 0 then 0 else el l (rst8 i l.length).toNat
theorem pckN_i {l : List Int} {i : Int} (h : ∀ n ∈ l, I64 n) : I64 (pckN l i) := by
  unfold pckN
  split
  · exact ⟨by decide, by decide⟩
  · have hb := rst8_bd (n := i) (m := l.length) (by omega)
    rw [el_lt (by omega)]
    exact h _ (List.getElem_mem _)
theorem c_Pick {M : Mem} {a : Option (Nat × Nat)} {l : List Int} {f : Bool} {e : Nat} {i : Int} (hs : SlI M a l) (hl : l.length <= 1000000000000000) (hi : I64 i) :
    CallOk Tryz.prog 49 [.slice a l.length f e, I i] M (fun w M' => w = I (pckN l i) /\ M' = M) := by
  refine call_in k49 rfl ?_
  dsimp only [x49, zipE, Nat.reduceAdd]
  by_cases h0 : l.length = 0
  · have hp : pckN l i = 0 := by unfold pckN; rw [if_pos h0]
    rw [hp]
    (repeat' (first | (with_reducible intro _) | refine sv ?_ | (refine sc ?_ ?_ <;> (intro h; try first | exact h.elim | exact absurd rfl h | (exfalso; omega))) | (refine sg ?_ ?_ <;> (intro h; (fail_if_success (have : True := h)); try first | exact h.elim | exact absurd rfl h | (exfalso; omega))) | assumption | exact xm | exact rfl))
    all_goals try (exfalso; omega)
    ((with_reducible first | apply k_fun | apply k_fun_norm); exact rx)
    exact ⟨rfl, rfl⟩
  · have hp : pckN l i = el l (rst8 i l.length).toNat := by unfold pckN; rw [if_neg h0]
    have hb := rst8_bd (n := i) (m := l.length) (by omega)
    have hlt : (rst8 i l.length).toNat < l.length := by omega
    obtain ⟨p, o, rfl, hr⟩ := hs.rd hlt
    rw [<- el_lt hlt, <- hp] at hr
    have cr := c_RestB i l.length hi (by omega)
    generalize rst8 i l.length = R at *
    generalize pckN l i = V at *
    (have hrd0 := hr; repeat' (first | (with_reducible intro _) | refine sv ?_ | (refine sc ?_ ?_ <;> (intro h; try first | exact h.elim | exact absurd rfl h | (exfalso; omega))) | ((with_reducible first | apply x_same | apply d_same | apply d_same0); exact gd; exact rfl; exact rfl; (first | exact cr _)) | (refine sg ?_ ?_ <;> (intro h; (fail_if_success (have : True := h)); try first | exact h.elim | exact absurd rfl h | (exfalso; omega))) | assumption | exact xm | exact rfl))
    all_goals try (exfalso; omega)
    ((with_reducible first | apply k_fun | apply k_fun_norm); exact rx)
    exact ⟨rfl, rfl⟩
theorem nth_tk1 : ∀ (c : List LV) (o : Nat) (v : LV), nth c o = some v -> take' 1 (drop' o c) = some [v]
  | [], o, v, h => by cases h
  | x :: c, 0, v, h => by
    obtain rfl : x = v := Option.some.inj h
    rfl
  | x :: c, o + 1, v, h => nth_tk1 c o v h
theorem one_rd1 {M : Mem} {i o : Nat} {v : LV} (h : Rd1 M i o v) : Rd M i o 1 [v] := by
  refine ⟨?_, h.2⟩
  have h1 := h.1
  unfold load1 atCells at h1
  unfold loadN atCells
  cases hg : M.get i with
  | none => rw [hg] at h1; cases h1
  | some b =>
    rw [hg, ob_some] at h1
    rw [ob_some]
    cases b <;> first | exact nth_tk1 _ _ _ h1 | cases h1
theorem c_Own {M : Mem} {a : Option (Nat × Nat)} {l : List Int} {f : Bool} {e : Nat} (hs : SlI M a l) (hl : l.length <= 1000000) (h0 : 0 < l.length) :
    CallOk Tryz.prog 47 [.slice a l.length f e] M (fun w M' => w = .slice (some (M.next, 0)) l.length false 1 /\ New M M.next (.cells true (l.flatMap intc) (apE 3)) M') := by
  refine call_in k47 rfl ?_
  dsimp only [x47, zipE, Nat.reduceAdd]
  have hfst : firstL 1 l.length (.slice a l.length f e) M = some (l.flatMap intc) := by
    obtain ⟨i, o, rfl, hr⟩ := hs.resolve_left (fun h => by rw [h] at h0; simp at h0)
    exact firstL_rd (fun _ _ => rfl) (fun k hk => one_rd1 (hr k hk))
  (repeat' (first | (with_reducible intro _) | refine sv ?_ | (refine sc ?_ ?_ <;> (intro h; try first | exact h.elim | exact absurd rfl h | (exfalso; omega))) | (refine sg ?_ ?_ <;> (intro h; (fail_if_success (have : True := h)); try first | exact h.elim | exact absurd rfl h | (exfalso; omega))) | assumption | exact xm | exact rfl))
  refine x_app_new (by exact gd) rfl rfl rfl h0 (by omega) rfl rfl hfst (allFlat_flatMap (fun _ _ => rfl)) (.inl rfl) ?_
  intro m M' hN e1 e2
  subst e1
  (repeat' (first | (with_reducible intro _) | refine sv ?_ | (refine sc ?_ ?_ <;> (intro h; try first | exact h.elim | exact absurd rfl h | (exfalso; omega))) | (refine sg ?_ ?_ <;> (intro h; (fail_if_success (have : True := h)); try first | exact h.elim | exact absurd rfl h | (exfalso; omega))) | assumption | exact xm | exact rfl))
  ((with_reducible first | apply k_fun | apply k_fun_norm); exact rx)
  refine ⟨?_, hN⟩
  show LV.slice _ (0 + l.length) _ _ = _
  rw [Nat.zero_add]
theorem getG_set {l : List Int} {k i : Nat} {v : Int} (hi : i < l.length) : getG (l.set k v) i = if i = k then v else getG l i := by
  rw [getG_lt (by rw [List.length_set]; exact hi), List.getElem_set, getG_lt hi]
  by_cases h : k = i
  · subst h; simp
  · rw [if_neg h, if_neg (fun h' => h h'.symm)]
theorem bndsL_at {l : List Int} {d : Int} {k : Nat} (h : k < (bndsL l d).length) : (bndsL l d)[k] = bnd l d k := by
  apply Option.some.inj
  rw [<- List.getElem?_eq_getElem h]
  rw [bndsL_len] at h
  unfold bndsL
  simp [h]
set_option maxHeartbeats 16000000 in
theorem c_TapeTrue {M : Mem} {a c : Option (Nat × Nat)} {l0 mi : List Int} {f fc : Bool} {ec : Nat} {d : Int} (hs0 : SlI M a l0) (hl0 : l0.length <= 1000000000000000) (hli0 : ∀ n ∈ l0, I64 n) (hdi : I64 d) (hmi : SlI M c mi) (hml : mi.length <= 1000000000000000) (hmii : ∀ n ∈ mi, I64 n) (hB : Base M) (hq : preOk M tabs = true) :
    CallOk Tryz.prog 10 [.slice a l0.length f 1, I d, .slice c mi.length fc ec] M (fun r _ => r = .bool true) := by
  refine call_in k10 rfl ?_
  dsimp only [x10, zipE, Nat.reduceAdd]
  have cw := fun M' (hg : Grow M M') => c_works (preOk_ext (Ext.of_grow hg hB) hq)
  generalize hH : min l0.length 64 = H
  have hH1 : H <= l0.length := by omega
  obtain ⟨a1, f1, e1, hsc, hs⟩ := sli_take (f := f) hs0 hH1
  have hH2 : iMin (l0.length : Int) 64 = (H : Int) := by unfold iMin; omega
  have hlt : (l0.take H).length = H := by rw [List.length_take]; omega
  have hli : ∀ n ∈ l0.take H, I64 n := fun n hn => hli0 n (List.mem_of_mem_take hn)
  (repeat' (first | (with_reducible intro _) | refine sv ?_ | (refine sc ?_ ?_ <;> (intro h; try first | exact h.elim | exact absurd rfl h | (exfalso; omega))) | (refine sg ?_ ?_ <;> (intro h; (fail_if_success (have : True := h)); try first | exact h.elim | exact absurd rfl h | (exfalso; omega))) | assumption | exact xm | exact rfl))
  refine xw_know (t := 20) (v' := I (H : Int)) rfl (by rw [<- hH2]) ?_
  refine x_val (by exact gd) (xs_slcHi hsc rfl rfl) ?_
  generalize l0.take H = l at *
  subst hlt
  have hl64 : l.length <= 64 := by omega
  (repeat' (first | (with_reducible intro _) | refine sv ?_ | (refine sc ?_ ?_ <;> (intro h; try first | exact h.elim | exact absurd rfl h | (exfalso; omega))) | (refine sg ?_ ?_ <;> (intro h; (fail_if_success (have : True := h)); try first | exact h.elim | exact absurd rfl h | (exfalso; omega))) | assumption | exact xm | exact rfl))
  refine w_loop_ind (fun z E ms M' => ∃ k : Nat, z = l.length - k /\ k <= l.length /\ ms = [] /\ Has E [(0, .slice a1 l.length f1 e1), (1, I d), (2, .slice c mi.length fc ec), (7, I k)] /\ M' = M /\ ∀ i, i < k -> knB (getG l i) = true /\ (0 < i -> mag (getG l i - getG l (i - 1)) <= d))
    ?_ l.length _ _ _ ⟨0, by omega, by omega, rfl, .cons rfl (.cons rfl (.cons rfl (.cons rfl .nil))), rfl, fun i hi => absurd hi (Nat.not_lt_zero _)⟩
  rintro z E ms M1 ⟨k, rfl, hk, rfl, hE, rfl, hin⟩
  refine w_has hE ?_
  by_cases hlast : k ≠ l.length
  · have hlt : k < l.length := by omega
    obtain ⟨p, o, rfl, hr⟩ := hs.rd hlt
    rw [<- getG_lt hlt] at hr
    cases hkn : knB (getG l k) with
    | false =>
      have hc : ∀ M, CallOk Tryz.prog 45 [I (getG l k), I (-32767), I 32767] M (fun w M' => w = .bool false /\ M' = M) := fun M => by rw [<- hkn]; exact c_btw _ _ _ M
      (have hrd0 := hr; repeat' (first | (with_reducible intro _) | refine sv ?_ | (refine sc ?_ ?_ <;> (intro h; try first | exact h.elim | exact absurd rfl h | (exfalso; omega))) | ((with_reducible first | apply x_same | apply d_same | apply d_same0); exact gd; exact rfl; exact rfl; (first | exact hc _ | exact cw _ (Grow.refl _))) | (refine sg ?_ ?_ <;> (intro h; (fail_if_success (have : True := h)); try first | exact h.elim | exact absurd rfl h | (exfalso; omega))) | assumption | exact xm | exact rfl))
      ((with_reducible first | apply k_fun | apply k_fun_norm); exact rx)
      rfl
    | true =>
    have hc : ∀ M, CallOk Tryz.prog 45 [I (getG l k), I (-32767), I 32767] M (fun w M' => w = .bool true /\ M' = M) := fun M => by rw [<- hkn]; exact c_btw _ _ _ M
    have hkb := kn_bd hkn
    by_cases h0 : k = 0
    · subst h0
      have hin2 : ∀ i, i < 0 + 1 -> knB (getG l i) = true /\ (0 < i -> mag (getG l i - getG l (i - 1)) <= d) := fun i hi => by
        obtain rfl : i = 0 := by omega
        exact ⟨hkn, fun h => absurd h (Nat.lt_irrefl _)⟩
      generalize getG l 0 = v at *
      (have hrd0 := hr; repeat' (first | (with_reducible intro _) | refine sv ?_ | (refine sc ?_ ?_ <;> (intro h; try first | exact h.elim | exact absurd rfl h | (exfalso; omega))) | ((with_reducible first | apply x_same | apply d_same | apply d_same0); exact gd; exact rfl; exact rfl; (first | exact hc _)) | (refine sg ?_ ?_ <;> (intro h; (fail_if_success (have : True := h)); try first | exact h.elim | exact absurd rfl h | (exfalso; omega))) | assumption | exact xm | exact rfl))
      exact k_step (l.length - (0 + 1)) (by omega) ⟨1, rfl, by omega, rfl, .cons rfl (.cons rfl (.cons rfl (.cons rfl .nil))), rfl, hin2⟩
    · obtain ⟨p2, o2, he2, hr2⟩ := hs.rd (k := k - 1) (by omega)
      obtain ⟨rfl, rfl⟩ : p2 = p /\ o2 = o := by injection he2 with q; injection q with q1 q2; exact ⟨q1.symm, q2.symm⟩
      rw [<- getG_lt (by omega)] at hr2
      have hub := kn_bd (hin (k - 1) (by omega)).1
      have hkk : ((k : Int) - 1).toNat = k - 1 := by omega
      have hin2 : mag (getG l k - getG l (k - 1)) <= d -> ∀ i, i < k + 1 -> knB (getG l i) = true /\ (0 < i -> mag (getG l i - getG l (i - 1)) <= d) := fun hm i hi => by
        by_cases he : i = k
        · subst he; exact ⟨hkn, fun _ => hm⟩
        · exact hin i (by omega)
      generalize getG l k = v at *
      generalize getG l (k - 1) = u at *
      rw [<- hkk] at hr2
      have cm := c_mag (v - u) (by omega)
      generalize mag (v - u) = m at *
      (have hrd0 := hr; have hrd1 := hr2; repeat' (first | (with_reducible intro _) | refine sv ?_ | (refine sc ?_ ?_ <;> (intro h; try first | exact h.elim | exact absurd rfl h | (exfalso; omega))) | ((with_reducible first | apply x_same | apply d_same | apply d_same0); exact gd; exact rfl; exact rfl; (first | exact hc _ | exact cm _ | exact cw _ (Grow.refl _))) | (refine sg ?_ ?_ <;> (intro h; (fail_if_success (have : True := h)); try first | exact h.elim | exact absurd rfl h | (exfalso; omega))) | assumption | exact xm | exact rfl))
      · ((with_reducible first | apply k_fun | apply k_fun_norm); exact rx)
        rfl
      · exact k_step (l.length - (k + 1)) (by omega) ⟨k + 1, rfl, by omega, rfl, .cons rfl (.cons rfl (.cons rfl (.cons rfl .nil))), rfl, hin2 (by omega)⟩
  obtain rfl : k = l.length := by omega
  cases hbd : btB d 0 65526 with
  | false =>
    have hc : ∀ M, CallOk Tryz.prog 45 [I d, I 0, I 65526] M (fun w M' => w = .bool false /\ M' = M) := fun M => by rw [<- hbd]; exact c_btw _ _ _ M
    (repeat' (first | (with_reducible intro _) | refine sv ?_ | (refine sc ?_ ?_ <;> (intro h; try first | exact h.elim | exact absurd rfl h | (exfalso; omega))) | ((with_reducible first | apply x_same | apply d_same | apply d_same0); exact gd; exact rfl; exact rfl; (first | exact hc _ | exact cw _ (Grow.refl _))) | (refine sg ?_ ?_ <;> (intro h; (fail_if_success (have : True := h)); try first | exact h.elim | exact absurd rfl h | (exfalso; omega))) | assumption | exact xm | exact rfl))
    ((with_reducible first | apply k_fun | apply k_fun_norm); exact rx)
    rfl
  | true =>
  have hc : ∀ M, CallOk Tryz.prog 45 [I d, I 0, I 65526] M (fun w M' => w = .bool true /\ M' = M) := fun M => by rw [<- hbd]; exact c_btw _ _ _ M
  have hd : 0 <= d /\ d <= 65526 := of_decide_eq_true hbd
  by_cases hn0 : l.length = 0
  · (repeat' (first | (with_reducible intro _) | refine sv ?_ | (refine sc ?_ ?_ <;> (intro h; try first | exact h.elim | exact absurd rfl h | (exfalso; omega))) | ((with_reducible first | apply x_same | apply d_same | apply d_same0); exact gd; exact rfl; exact rfl; (first | exact hc _ | exact cw _ (Grow.refl _))) | (refine sg ?_ ?_ <;> (intro h; (fail_if_success (have : True := h)); try first | exact h.elim | exact absurd rfl h | (exfalso; omega))) | assumption | exact xm | exact rfl))
    all_goals try (exfalso; omega)
    ((with_reducible first | apply k_fun | apply k_fun_norm); exact rx)
    rfl
  have hsmo : Smo l d := ⟨by omega, fun i hi => (hin i hi).1, hd.1, fun i hi => (hin (i + 1) hi).2 (Nat.succ_pos _)⟩
  (repeat' (first | (with_reducible intro _) | refine sv ?_ | (refine sc ?_ ?_ <;> (intro h; try first | exact h.elim | exact absurd rfl h | (exfalso; omega))) | ((with_reducible first | apply x_same | apply d_same | apply d_same0); exact gd; exact rfl; exact rfl; (first | exact hc _)) | (refine sg ?_ ?_ <;> (intro h; (fail_if_success (have : True := h)); try first | exact h.elim | exact absurd rfl h | (exfalso; omega))) | assumption | exact xm | exact rfl))
  all_goals try (exfalso; omega)
  refine x_call (by exact gd) rfl rfl (show AppOk Tryz.prog _ _ M1 _ from c_Own (f := f1) (e := e1) hs (by omega) (by omega)) ?_
  rintro w M2 ⟨rfl, hN2⟩
  have hA2 := At.new_same hN2
  have hg2 := hN2.grow
  have hnb : M1.next <= M1.next := Nat.le_refl _
  have e2 := hN2.next
  generalize hnbe : M1.next = nb at hA2 hN2 ⊢
  clear hN2
  have hi0b := rst8_bd (n := (mi.length : Int)) (m := l.length) (by omega)
  obtain ⟨i0, hi0⟩ : ∃ i0 : Nat, rst8 (mi.length : Int) l.length = (i0 : Int) := ⟨(rst8 (mi.length : Int) l.length).toNat, by omega⟩
  rw [hi0] at hi0b
  have cr0 := c_RestB (mi.length : Int) l.length ⟨by omega, by omega⟩ (by omega)
  rw [hi0] at cr0
  (repeat' (first | (with_reducible intro _) | refine sv ?_ | (refine sc ?_ ?_ <;> (intro h; try first | exact h.elim | exact absurd rfl h | (exfalso; omega))) | (refine sg ?_ ?_ <;> (intro h; (fail_if_success (have : True := h)); try first | exact h.elim | exact absurd rfl h | (exfalso; omega))) | assumption | exact xm | exact rfl))
  refine w_loop_ind (fun z E ms M' => ∃ (k : Nat) (sk : List Int), z = l.length - k /\ k <= l.length /\ ms = [] /\ Has E [(0, .slice a1 l.length f1 e1), (1, I d), (2, .slice c mi.length fc ec), (8, .slice (some (nb, 0)) l.length false 1), (9, I k)] /\ Grow M1 M' /\ M2.next <= M'.next /\ sk.length = l.length /\ (∀ i, i < l.length -> getG sk i = getG l i ∨ getG sk i = 40000) /\ getG sk i0 = getG l i0 /\ At M' nb (.cells true (sk.flatMap intc) (apE 3)))
    ?_ l.length _ _ _ ⟨0, l, by omega, by omega, rfl, .cons rfl (.cons rfl (.cons rfl (.cons rfl (.cons rfl .nil)))), hg2, Nat.le_refl _, rfl, fun i hi => .inl rfl, rfl, hA2⟩
  rintro z E ms M3 ⟨k, sk, rfl, hk3, rfl, hE, hg3, hle3, hskl, hsk, hsk0, hA3⟩
  refine w_has hE ?_
  by_cases hlast : k ≠ l.length
  · have hlt : k < l.length := by omega
    have cp := c_Pick (f := fc) (e := ec) (i := (k : Int)) (hmi.grow hg3) hml ⟨by omega, by omega⟩
    have hpi := pckN_i (i := (k : Int)) hmii
    have cr2 := c_RestB (pckN mi k) 2 hpi (by omega)
    generalize pckN mi k = P at *
    generalize rst8 P 2 = R at *
    have hsst : setList (sk.flatMap intc) (k * 1) (intc 40000) = some ((sk.set k 40000).flatMap intc) := setList_flat (enc := intc) (sz := 1) (fun _ => rfl) (by omega) sk k 40000 (by omega)
    (repeat' (first | (with_reducible intro _) | refine sv ?_ | (refine sc ?_ ?_ <;> (intro h; try first | exact h.elim | exact absurd rfl h | (exfalso; omega))) | ((with_reducible first | apply x_same | apply d_same | apply d_same0); exact gd; exact rfl; exact rfl; (first | exact cp | exact cr2 _ | exact cr0 _)) | (refine sg ?_ ?_ <;> (intro h; (fail_if_success (have : True := h)); try first | exact h.elim | exact absurd rfl h | (exfalso; omega))) | assumption | exact xm | exact rfl))
    · refine x_st (by exact gd) rfl rfl hA3 rfl rfl (by rw [Nat.zero_add]; exact hsst) ?_
      intro M4 hu4 e4 hA4
      (repeat' (first | (with_reducible intro _) | refine sv ?_ | (refine sc ?_ ?_ <;> (intro h; try first | exact h.elim | exact absurd rfl h | (exfalso; omega))) | (refine sg ?_ ?_ <;> (intro h; (fail_if_success (have : True := h)); try first | exact h.elim | exact absurd rfl h | (exfalso; omega))) | assumption | exact xm | exact rfl))
      refine k_step (l.length - (k + 1)) (by omega) ⟨k + 1, sk.set k 40000, rfl, by omega, rfl, .cons rfl (.cons rfl (.cons rfl (.cons rfl (.cons rfl .nil)))), hg3.upd hu4 (by omega), by omega, by rw [List.length_set]; exact hskl, fun i hi => ?_, ?_, hA4⟩
      · rw [getG_set (by omega)]
        split
        · exact .inr rfl
        · exact hsk i hi
      · rw [getG_set (by omega), if_neg (by omega)]
        exact hsk0
    all_goals exact k_step (l.length - (k + 1)) (by omega) ⟨k + 1, sk, rfl, by omega, rfl, .cons rfl (.cons rfl (.cons rfl (.cons rfl (.cons rfl .nil)))), hg3, by omega, hskl, hsk, hsk0, hA3⟩
  obtain rfl : k = l.length := by omega
  have hpt : Part sk l := ⟨hskl, hsk, i0, by omega, hsk0⟩
  have hpl : Part l l := Part.self (by omega)
  have hss3 : SlI M3 (some (nb, 0)) sk := .inr ⟨nb, 0, rfl, fun k hk => rd_one (rd_flat (enc := intc) hA3 (fun _ _ => rfl) hk)⟩
  have hs3 := hs.grow hg3
  have hsi : ∀ n ∈ sk, I64 n := fun n hn => by
    obtain ⟨k, hk, rfl⟩ := List.getElem_of_mem hn
    rw [<- getG_lt hk]
    rcases hsk k (by omega) with h1 | h1
    · rw [h1, getG_lt (by omega)]; exact hli _ (List.getElem_mem _)
    · rw [h1]; exact ⟨by decide, by decide⟩
  have cf1 := fun M' (hg : Grow M3 M') => c_Fill (f := false) (e := 1) (d := d) (hss3.grow hg) (by omega) hsi
  have cf2 := fun M' (hg : Grow M3 M') => c_Fill (f := false) (e := 1) (d := d + 9) (hss3.grow hg) (by omega) hsi
  have cf3 := fun M' (hg : Grow M3 M') => c_Fill (f := f1) (e := e1) (d := d) (hs3.grow hg) (by omega) hli
  rw [hpt.fill hsmo (by omega), hskl] at cf1
  rw [hpt.fill (hsmo.more (by omega)) (by omega), hskl] at cf2
  rw [hpl.fill hsmo (by omega)] at cf3
  (repeat' (first | (with_reducible intro _) | refine sv ?_ | (refine sc ?_ ?_ <;> (intro h; try first | exact h.elim | exact absurd rfl h | (exfalso; omega))) | ((with_reducible first | apply x_call | apply d_call | apply x_call0); exact gd; exact rfl; exact rfl; (first | exact cf1 _ (Grow.refl _))) | (refine sg ?_ ?_ <;> (intro h; (fail_if_success (have : True := h)); try first | exact h.elim | exact absurd rfl h | (exfalso; omega))) | assumption | exact xm | exact rfl))
  rename_i w4 M4 hq4
  obtain ⟨v4, rfl, hv4, hg4⟩ := hq4
  have l4 := hg4.le
  (repeat' (first | (with_reducible intro _) | refine sv ?_ | (refine sc ?_ ?_ <;> (intro h; try first | exact h.elim | exact absurd rfl h | (exfalso; omega))) | ((with_reducible first | apply x_call | apply d_call | apply x_call0); exact gd; exact rfl; exact rfl; (first | exact cf2 _ hg4)) | (refine sg ?_ ?_ <;> (intro h; (fail_if_success (have : True := h)); try first | exact h.elim | exact absurd rfl h | (exfalso; omega))) | assumption | exact xm | exact rfl))
  rename_i w5 M5 hq5
  obtain ⟨v5, rfl, hv5, hg5⟩ := hq5
  have l5 := hg5.le
  (repeat' (first | (with_reducible intro _) | refine sv ?_ | (refine sc ?_ ?_ <;> (intro h; try first | exact h.elim | exact absurd rfl h | (exfalso; omega))) | ((with_reducible first | apply x_call | apply d_call | apply x_call0); exact gd; exact rfl; exact rfl; (first | exact cf3 _ (hg4.trans hg5))) | (refine sg ?_ ?_ <;> (intro h; (fail_if_success (have : True := h)); try first | exact h.elim | exact absurd rfl h | (exfalso; omega))) | assumption | exact xm | exact rfl))
  rename_i w6 M6 hq6
  obtain ⟨v6, rfl, hv6, hg6⟩ := hq6
  have hv4b := (hv4.grow hg5).grow hg6
  have hv5b := hv5.grow hg6
  have hs6 := ((hs3.grow hg4).grow hg5).grow hg6
  have hss6 := ((hss3.grow hg4).grow hg5).grow hg6
  have hgw : Grow M1 M6 := hg3.trans ((hg4.trans hg5).trans hg6)
  obtain ⟨b4, x4, y4, rfl, hp4⟩ := hv4b
  obtain ⟨b5, x5, y5, rfl, hp5⟩ := hv5b
  obtain ⟨b6, x6, y6, rfl, hp6⟩ := hv6
  dsimp only at hp4 hp5 hp6
  have len4 : (bndsL sk d).length = l.length := by rw [bndsL_len, hskl]
  have len5 : (bndsL sk (d + 9)).length = l.length := by rw [bndsL_len, hskl]
  have len6 : (bndsL l d).length = l.length := by rw [bndsL_len]
  clear hv4 hv5 hg4 hg5 hg6 cf1 cf2 cf3
  dsimp only
  rw [len4, len5, len6]
  (repeat' (first | (with_reducible intro _) | refine sv ?_ | (refine sc ?_ ?_ <;> (intro h; try first | exact h.elim | exact absurd rfl h | (exfalso; omega))) | (refine sg ?_ ?_ <;> (intro h; (fail_if_success (have : True := h)); try first | exact h.elim | exact absurd rfl h | (exfalso; omega))) | assumption | exact xm | exact rfl))
  all_goals try (exfalso; omega)
  clear h
  refine w_loop_ind (fun z E ms M' => ∃ (k : Nat), z = l.length - k /\ k <= l.length /\ ms = [] /\ Has E [(0, .slice a1 l.length f1 e1), (8, .slice (some (nb, 0)) l.length false 1), (10, .slice b4 l.length x4 y4), (12, .slice b5 l.length x5 y5), (14, .slice b6 l.length x6 y6), (16, I k)] /\ M' = M6)
    ?_ l.length _ _ _ ⟨0, by omega, by omega, rfl, .cons rfl (.cons rfl (.cons rfl (.cons rfl (.cons rfl (.cons rfl .nil))))), rfl⟩
  rintro z E ms M7 ⟨k, rfl, hk7, rfl, hE, rfl⟩
  refine w_has hE ?_
  by_cases hlast : k = l.length
  · subst hlast
    (repeat' (first | (with_reducible intro _) | refine sv ?_ | (refine sc ?_ ?_ <;> (intro h; try first | exact h.elim | exact absurd rfl h | (exfalso; omega))) | ((with_reducible first | apply x_same | apply d_same | apply d_same0); exact gd; exact rfl; exact rfl; (first | exact cw _ hgw)) | (refine sg ?_ ?_ <;> (intro h; (fail_if_success (have : True := h)); try first | exact h.elim | exact absurd rfl h | (exfalso; omega))) | assumption | exact xm | exact rfl))
    ((with_reducible first | apply k_fun | apply k_fun_norm); exact rx)
    rfl
  have hlt : k < l.length := by omega
  obtain ⟨p, o, he1, hr⟩ := hs6.rd hlt
  rw [<- getG_lt hlt] at hr
  obtain ⟨p2, o2, he2, hr2⟩ := hss6.rd (k := k) (by omega)
  rw [<- getG_lt (by omega)] at hr2
  obtain ⟨p4, o4, he4, hr4⟩ := hp4.rd (k := k) (by omega)
  rw [bndsL_at] at hr4
  obtain ⟨p5, o5, he5, hr5⟩ := hp5.rd (k := k) (by omega)
  rw [bndsL_at] at hr5
  obtain ⟨p6, o6, he6, hr6⟩ := hp6.rd (k := k) (by omega)
  rw [bndsL_at] at hr6
  have hx1 := hpt.in hsmo hlt
  have hx2 := bnd_wide sk d (c := 9) (by omega) k
  have hx3 := hpl.pin hsmo hlt rfl
  have hx4 := hsk k hlt
  have hx5 := hpt.pin hsmo hlt
  have hx6 := kn_bd (hin k hlt).1
  rw [hx3] at hr6
  subst he1
  obtain ⟨rfl, rfl⟩ : nb = p2 /\ 0 = o2 := by injection he2 with q; injection q with q1 q2; exact ⟨q1, q2⟩
  subst he4
  subst he5
  subst he6
  generalize getG l k = v at *
  generalize getG sk k = u at *
  generalize bnd sk (d + 9) k = W at *
  generalize bnd sk d k = B at *
  obtain ⟨w1, w2⟩ := W
  obtain ⟨b1, b2⟩ := B
  dsimp only at hx1 hx2 hx5 hr4 hr5
  have r40 : Rd1 M7 p4 (o4 + k * 2 + 0) (I b1) := hr4.nth rfl
  have r41 : Rd1 M7 p4 (o4 + k * 2 + 1) (I b2) := hr4.nth rfl
  have r50 : Rd1 M7 p5 (o5 + k * 2 + 0) (I w1) := hr5.nth rfl
  have r51 : Rd1 M7 p5 (o5 + k * 2 + 1) (I w2) := hr5.nth rfl
  have cb : ∀ M, CallOk Tryz.prog 45 [I v, I b1, I b2] M (fun w M' => w = .bool true /\ M' = M) := fun M => by
    have := c_btw v b1 b2 M
    rw [show btB v b1 b2 = true from decide_eq_true hx1] at this
    exact this
  by_cases huv : u = v
  · have hx5 := hx5 huv
    obtain ⟨rfl, rfl⟩ : b1 = v /\ b2 = v := by injection hx5 with q1 q2; exact ⟨q1, q2⟩
    (have hrd0 := hr; have hrd1 := hr2; have hrd2 := r40; have hrd3 := r41; have hrd4 := r50; have hrd5 := r51; have hrd6 := hr4; have hrd7 := hr6; repeat' (first | (with_reducible intro _) | refine sv ?_ | (refine sc ?_ ?_ <;> (intro h; try first | exact h.elim | exact absurd rfl h | (exfalso; omega))) | ((with_reducible first | apply x_same | apply d_same | apply d_same0); exact gd; exact rfl; exact rfl; (first | exact cb _)) | (refine sg ?_ ?_ <;> (intro h; (fail_if_success (have : True := h)); try first | exact h.elim | exact absurd rfl h | (exfalso; omega))) | assumption | exact xm | exact rfl))
    all_goals try (exfalso; omega)
    all_goals exact k_step (l.length - (k + 1)) (by omega) ⟨k + 1, rfl, by omega, rfl, .cons rfl (.cons rfl (.cons rfl (.cons rfl (.cons rfl (.cons rfl .nil))))), rfl⟩
  · obtain rfl : u = 40000 := hx4.resolve_left huv
    (have hrd0 := hr; have hrd1 := hr2; have hrd2 := r40; have hrd3 := r41; have hrd4 := r50; have hrd5 := r51; have hrd6 := hr4; have hrd7 := hr6; repeat' (first | (with_reducible intro _) | refine sv ?_ | (refine sc ?_ ?_ <;> (intro h; try first | exact h.elim | exact absurd rfl h | (exfalso; omega))) | ((with_reducible first | apply x_same | apply d_same | apply d_same0); exact gd; exact rfl; exact rfl; (first | exact cb _)) | (refine sg ?_ ?_ <;> (intro h; (fail_if_success (have : True := h)); try first | exact h.elim | exact absurd rfl h | (exfalso; omega))) | assumption | exact xm | exact rfl))
    all_goals try (exfalso; omega)
    all_goals exact k_step (l.length - (k + 1)) (by omega) ⟨k + 1, rfl, by omega, rfl, .cons rfl (.cons rfl (.cons rfl (.cons rfl (.cons rfl (.cons rfl .nil))))), rfl⟩
end Go.Proofs.YtlfkmgpngkbhpaaGreatDoor.C
end
