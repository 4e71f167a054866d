/-
 Part of the proof of TapeFills: what functions of the program and of the statement come to, walked by the rules. No condition beyond those in each theorem.
-/
import Derived.Test.YtlfkmgpngkbhpaaGreatDoorTQ
import Derived.Test.YtlfkmgpngkbhpaaGreatDoorTX
section
open Go PvL Go.Proofs
set_option linter.unusedVariables false
namespace Go.Proofs.YtlfkmgpngkbhpaaGreatDoor.C
def joinOk (x y : Fr) : Prop := errF x = 0 /\ errF y = 0 /\ x.1 = y.1 /\ x.2.1 = y.2.1
abbrev jo (x y : Fr) : Fr := (x.1, x.2.1, bothL x.2.2 y.2.2)
def dst (k j : Nat) : Int := if j <= k then (k : Int) - j else (j : Int) - k
def bndR (l : List Int) (d : Int) (k : Nat) : Nat -> Int × Int
 | 0 => (-32767, 32767)
 | j + 1 => if knB (getG l j) then (iMax (bndR l d k j).1 (getG l j - d * dst k j), iMin (bndR l d k j).2 (getG l j + d * dst k j)) else bndR l d k j
def bnd (l : List Int) (d : Int) (k : Nat) : Int × Int := bndR l d k l.length
def bndsL (l : List Int) (d : Int) : List (Int × Int) := (List.range l.length).map (bnd l d)
def mag (x : Int) : Int := iMax x (-x)
def clJ (l : List Int) (d : Int) (i : Nat) : Nat -> Bool
 | 0 => false
 | j + 1 => clJ l d i j || (knB (getG l i) && (knB (getG l j) && decide (d * ((i : Int) - j) < mag (getG l i - getG l j))))
def clI (l : List Int) (d : Int) : Nat -> Bool
 | 0 => false
 | i + 1 => clI l d i || clJ l d i i
def errL (l : List Int) (d : Int) : Int := if smsB l then (if btB d 0 65535 then (if l.any knB then (if clI l d l.length then 83 else 0) else 4) else 7) else 80
def fillF (l : List Int) (d : Int) : List (Int × Int) × Int := (if errL l d = 0 then bndsL l d else [], errL l d)
theorem iMax_le' (a b x : Int) : iMax a b <= x ↔ a <= x /\ b <= x := by unfold iMax; omega
theorem le_iMin' (a b x : Int) : x <= iMin a b ↔ x <= a /\ x <= b := by unfold iMin; omega
theorem bndR_lo (l : List Int) (d : Int) (k : Nat) (x : Int) : ∀ n, (bndR l d k n).1 <= x ↔ -32767 <= x /\ ∀ j, j < n -> knB (getG l j) = true -> getG l j - d * dst k j <= x
 | 0 => ⟨fun h => ⟨h, fun j hj => absurd hj (Nat.not_lt_zero _)⟩, fun h => h.1⟩
 | n + 1 => by
  have ih := bndR_lo l d k x n
  unfold bndR
  cases hk : knB (getG l n) with
  | true =>
   rw [if_pos rfl]
   dsimp only
   rw [iMax_le', ih]
   constructor
   ·rintro ⟨⟨h1, h2⟩, h3⟩
    refine ⟨h1, fun j hj hjk => ?_⟩
    by_cases he : j = n
    ·subst he; exact h3
    ·exact h2 j (by omega) hjk
   ·rintro ⟨h1, h2⟩
    exact ⟨⟨h1, fun j hj => h2 j (by omega)⟩, h2 n (by omega) hk⟩
  | false =>
   rw [if_neg (by decide), ih]
   constructor
   ·rintro ⟨h1, h2⟩
    refine ⟨h1, fun j hj hjk => ?_⟩
    by_cases he : j = n
    ·subst he; rw [hk] at hjk; cases hjk
    ·exact h2 j (by omega) hjk
   ·rintro ⟨h1, h2⟩
    exact ⟨h1, fun j hj => h2 j (by omega)⟩
theorem bndR_hi (l : List Int) (d : Int) (k : Nat) (x : Int) : ∀ n, x <= (bndR l d k n).2 ↔ x <= 32767 /\ ∀ j, j < n -> knB (getG l j) = true -> x <= getG l j + d * dst k j
 | 0 => ⟨fun h => ⟨h, fun j hj => absurd hj (Nat.not_lt_zero _)⟩, fun h => h.1⟩
 | n + 1 => by
  have ih := bndR_hi l d k x n
  unfold bndR
  cases hk : knB (getG l n) with
  | true =>
   rw [if_pos rfl]
   dsimp only
   rw [le_iMin', ih]
   constructor
   ·rintro ⟨⟨h1, h2⟩, h3⟩
    refine ⟨h1, fun j hj hjk => ?_⟩
    by_cases he : j = n
    ·subst he; exact h3
    ·exact h2 j (by omega) hjk
   ·rintro ⟨h1, h2⟩
    exact ⟨⟨h1, fun j hj => h2 j (by omega)⟩, h2 n (by omega) hk⟩
  | false =>
   rw [if_neg (by decide), ih]
   constructor
   ·rintro ⟨h1, h2⟩
    refine ⟨h1, fun j hj hjk => ?_⟩
    by_cases he : j = n
    ·subst he; rw [hk] at hjk; cases hjk
    ·exact h2 j (by omega) hjk
   ·rintro ⟨h1, h2⟩
    exact ⟨h1, fun j hj => h2 j (by omega)⟩
theorem kn_bd {n : Int} (h : knB n = true) : -32767 <= n /\ n <= 32767 := by unfold knB at h; exact of_decide_eq_true h
theorem kn_lt {l : List Int} {j : Nat} (h : knB (getG l j) = true) : j < l.length := by
 by_cases hj : j < l.length
 ·exact hj
 ·rw [getG_ge (by omega)] at h; exact absurd (kn_bd h).2 (by decide)
theorem dst_self (k : Nat) : dst k k = 0 := by unfold dst; rw [if_pos (Nat.le_refl _)]; omega
theorem dst_comm (k j : Nat) : dst k j = dst j k := by unfold dst; split <;> split <;> omega
theorem bnd_pin {l : List Int} {d : Int} {k : Nat} (hk : knB (getG l k) = true) : bnd l d k = (getG l k, getG l k) ↔ ∀ j, j < l.length -> knB (getG l j) = true -> getG l j - d * dst k j <= getG l k /\ getG l k <= getG l j + d * dst k j := by
 have hl := kn_lt hk
 obtain ⟨h1, h2⟩ := kn_bd hk
 have lo := bndR_lo l d k (getG l k) l.length
 have hi := bndR_hi l d k (getG l k) l.length
 have lo' := ((bndR_lo l d k (bndR l d k l.length).1 l.length).1 (Int.le_refl _)).2 k hl hk
 have hi' := ((bndR_hi l d k (bndR l d k l.length).2 l.length).1 (Int.le_refl _)).2 k hl hk
 rw [dst_self, Int.mul_zero] at lo' hi'
 constructor
 ·intro he j hj hjk
  unfold bnd at he
  have e1 : (bndR l d k l.length).1 <= getG l k := by rw [he]; exact Int.le_refl _
  have e2 : getG l k <= (bndR l d k l.length).2 := by rw [he]; exact Int.le_refl _
  exact ⟨(lo.1 e1).2 j hj hjk, (hi.1 e2).2 j hj hjk⟩
 ·intro hj
  have e1 := lo.2 ⟨h1, fun j h3 h4 => (hj j h3 h4).1⟩
  have e2 := hi.2 ⟨h2, fun j h3 h4 => (hj j h3 h4).2⟩
  unfold bnd
  exact Prod.ext (by show _ = getG l k; omega) (by show _ = getG l k; omega)
theorem clJ_no (l : List Int) (d : Int) (i : Nat) : ∀ n, clJ l d i n = false ↔ ∀ j, j < n -> knB (getG l i) = true -> knB (getG l j) = true -> mag (getG l i - getG l j) <= d * ((i : Int) - j)
 | 0 => ⟨fun _ j hj => absurd hj (Nat.not_lt_zero _), fun _ => rfl⟩
 | n + 1 => by
  unfold clJ
  rw [Bool.or_eq_false_iff, clJ_no l d i n]
  constructor
  ·rintro ⟨h1, h2⟩ j hj hi hjk
   by_cases he : j = n
   ·subst he
    rw [hi, hjk] at h2
    simp only [Bool.true_and, decide_eq_false_iff_not, Int.not_lt] at h2
    exact h2
   ·exact h1 j (by omega) hi hjk
  ·intro h1
   refine ⟨fun j hj => h1 j (by omega), ?_⟩
   cases hi : knB (getG l i) with
   | false => rfl
   | true =>
    cases hj : knB (getG l n) with
    | false => rfl
    | true =>
     have := h1 n (by omega) hi hj
     simp only [Bool.true_and, decide_eq_false_iff_not, Int.not_lt]
     exact this
theorem clI_no (l : List Int) (d : Int) : ∀ n, clI l d n = false ↔ ∀ i, i < n -> ∀ j, j < i -> knB (getG l i) = true -> knB (getG l j) = true -> mag (getG l i - getG l j) <= d * ((i : Int) - j)
 | 0 => ⟨fun _ j hj => absurd hj (Nat.not_lt_zero _), fun _ => rfl⟩
 | n + 1 => by
  unfold clI
  rw [Bool.or_eq_false_iff, clI_no l d n, clJ_no]
  constructor
  ·rintro ⟨h1, h2⟩ i hi
   by_cases he : i = n
   ·subst he; exact h2
   ·exact h1 i (by omega)
  ·intro h1
   exact ⟨fun i hi => h1 i (by omega), h1 n (by omega)⟩
theorem mag_le {x t : Int} : mag x <= t ↔ x <= t /\ -x <= t := by unfold mag; exact iMax_le' _ _ _
theorem pin_iff (l : List Int) (d : Int) : (∀ k, k < l.length -> knB (getG l k) = true -> bnd l d k = (getG l k, getG l k)) ↔ clI l d l.length = false := by
 rw [clI_no]
 constructor
 ·intro h i hi j hj hik hjk
  have := (bnd_pin hik).1 (h i hi hik) j (by omega) hjk
  rw [show dst i j = (i : Int) - j by unfold dst; rw [if_pos (by omega)]] at this
  rw [mag_le]
  omega
 ·intro h k hk hkk
  rw [bnd_pin hkk]
  intro j hj hjk
  by_cases h1 : j < k
  ·have := h k hk j h1 hkk hjk
   rw [mag_le] at this
   rw [show dst k j = (k : Int) - j by unfold dst; rw [if_pos (by omega)]]
   omega
  ·by_cases h2 : j = k
   ·subst h2; rw [dst_self, Int.mul_zero]; omega
   ·have := h j hj k (by omega) hjk hkk
    rw [mag_le] at this
    rw [dst_comm, show dst j k = (j : Int) - k by unfold dst; rw [if_pos (by omega)]]
    omega
theorem bndsL_take {l : List Int} {d : Int} {k : Nat} (h : k < l.length) : (bndsL l d).take (k + 1) = (bndsL l d).take k ++ [bnd l d k] := by
 unfold bndsL
 rw [List.take_succ_eq_append_getElem (by simpa using h)]
 simp
theorem bndsL_len (l : List Int) (d : Int) : (bndsL l d).length = l.length := by unfold bndsL; simp
theorem sms_len {l : List Int} (h : smsB l = true) : 1 <= l.length /\ l.length <= 64 /\ l.all smB = true := by
 unfold smsB btB at h
 simp only [Bool.and_eq_true, decide_eq_true_eq] at h
 exact ⟨by omega, by omega, h.2⟩
theorem mul_bd {d t : Int} (h1 : 0 <= d) (h2 : d <= 65535) (h3 : -64 <= t) (h4 : t <= 64) : -4194240 <= d * t /\ d * t <= 4194240 := by
 rcases Int.le_total 0 t with h | h
 ·have a := Int.mul_le_mul h2 h4 h (by omega : (0 : Int) <= 65535)
  have b := Int.mul_nonneg h1 h
  exact ⟨by omega, by omega⟩
 ·have a := Int.mul_le_mul h2 (by omega : -t <= 64) (by omega) (by omega : (0 : Int) <= 65535)
  have b := Int.mul_nonneg h1 (by omega : 0 <= -t)
  rw [Int.mul_neg] at a b
  exact ⟨by omega, by omega⟩
end Go.Proofs.YtlfkmgpngkbhpaaGreatDoor.C
end
section
open Go PvL Go.Proofs
set_option linter.unusedSimpArgs false
set_option linter.unusedVariables false
namespace Go.Proofs.YtlfkmgpngkbhpaaGreatDoor.C
abbrev prc (p : Int × Int) : List LV := [I p.1, I p.2]
def SlP (M : Mem) (a : Option (Nat × Nat)) (L : List (Int × Int)) : Prop := L = [] ∨ ∃ i o, a = some (i, o) /\ ∀ k (hk : k < L.length), Rd M i (o + k * 2) 2 (prc L[k])
theorem SlP.grow {M M' : Mem} {a : Option (Nat × Nat)} {L : List (Int × Int)} (h : SlP M a L) (hg : Grow M M') : SlP M' a L :=
 h.imp id fun ⟨i, o, h1, h2⟩ => ⟨i, o, h1, fun k hk => (h2 k hk).grow hg⟩
theorem SlP.rd {M : Mem} {a : Option (Nat × Nat)} {L : List (Int × Int)} (h : SlP M a L) {k : Nat} (hk : k < L.length) : ∃ i o, a = some (i, o) /\ Rd M i (o + k * 2) 2 [I L[k].1, I L[k].2] := by
 rcases h with rfl | ⟨i, o, h1, h2⟩
 ·exact absurd hk (Nat.not_lt_zero _)
 ·exact ⟨i, o, h1, h2 k hk⟩
def PrV (M : Mem) (v : LV) (L : List (Int × Int)) : Prop := ∃ a f e, v = .slice a L.length f e /\ SlP M a L
theorem PrV.grow {M M' : Mem} {v : LV} {L : List (Int × Int)} (h : PrV M v L) (hg : Grow M M') : PrV M' v L := by
 obtain ⟨a, f, e, h1, h2⟩ := h
 exact ⟨a, f, e, h1, h2.grow hg⟩
theorem PrV.nil (M : Mem) : PrV M (.slice none 0 true 0) [] := ⟨none, true, 0, rfl, .inl rfl⟩
theorem PrV.vec {M : Mem} {b : Nat} {ty : TypeId} {v : LV} {L : List (Int × Int)} (h : Vec b 2 ty prc M v L) : PrV M v L := by
 obtain ⟨a, f, e, h1, h2⟩ := h.rd (fun _ _ => rfl)
 exact ⟨a, f, e, h1, h2⟩
theorem two_first {m : Nat} {x : Int × Int} {M M' : Mem} {ty : TypeId} (hn : New M m (.cells true [I x.1, I x.2] ty) M') : firstL 2 1 (.slice (some (m, 0)) 1 true 2) M' = some ([x].flatMap prc) :=
 firstL_rd (enc := prc) (l := [x]) (fun _ _ => rfl) (fun k' hk' => rd_flat (enc := prc) (l := [x]) (At.new_same hn) (fun _ _ => rfl) hk')
theorem c_mag (x : Int) (hx : -1000000 <= x /\ x <= 1000000) (M : Mem) : CallOk Tryz.prog 46 [I x] M (fun w M' => w = I (mag x) /\ M' = M) := by
 refine call_in k46 rfl ?_
 dsimp only [x46, zipE, Nat.reduceAdd]
 (repeat' (first | (with_reducible intro _) | refine sv ?_ | (refine sc ?_ ?_ <;> (intro h; try first | exact h.elim | exact absurd rfl h | (exfalso; omega))) | (refine sg ?_ ?_ <;> (intro h; (fail_if_success (have : True := h)); try first | exact h.elim | exact absurd rfl h | (exfalso; omega))) | assumption | exact xm | exact rfl))
 ((with_reducible first | apply k_fun | apply k_fun_norm); exact rx)
 exact ⟨rfl, rfl⟩
set_option maxHeartbeats 2000000 in
theorem c_sameB {M : Mem} {v w : LV} {L : List (Int × Int)} (hv : PrV M v L) (hw : PrV M w L) (hl : L.length <= 1000000) :
  CallOk Tryz.prog 43 [v, w] M (fun r M' => r = .bool true /\ M' = M) := by
 obtain ⟨a, f, e, rfl, ha⟩ := hv
 obtain ⟨b, f', e', rfl, hb⟩ := hw
 refine call_in k43 rfl ?_
 dsimp only [x43, zipE, Nat.reduceAdd]
 (repeat' (first | (with_reducible intro _) | refine sv ?_ | (refine sc ?_ ?_ <;> (intro h; try first | exact h.elim | exact absurd rfl h | (exfalso; omega))) | (refine sg ?_ ?_ <;> (intro h; (fail_if_success (have : True := h)); try first | exact h.elim | exact absurd rfl h | (exfalso; omega))) | assumption | exact xm | exact rfl))
 refine w_loop_ind (fun m E ms M' => ∃ k : Nat, m = L.length - k /\ k <= L.length /\ ms = [] /\ Has E [(0, .slice a L.length f e), (1, .slice b L.length f' e'), (5, I k)] /\ M' = M)
  ?_ L.length _ _ _ ⟨0, by omega, by omega, rfl, .cons rfl (.cons rfl (.cons rfl .nil)), rfl⟩
 rintro m E ms M1 ⟨k, rfl, hk, rfl, hE, rfl⟩
 refine w_has hE ?_
 by_cases hlast : k = L.length
 ·subst hlast
  (repeat' (first | (with_reducible intro _) | refine sv ?_ | (refine sc ?_ ?_ <;> (intro h; try first | exact h.elim | exact absurd rfl h | (exfalso; omega))) | (refine sg ?_ ?_ <;> (intro h; (fail_if_success (have : True := h)); try first | exact h.elim | exact absurd rfl h | (exfalso; omega))) | assumption | exact xm | exact rfl))
  ((with_reducible first | apply k_fun | apply k_fun_norm); exact rx)
  exact ⟨rfl, rfl⟩
 ·have hlt : k < L.length := by omega
  obtain ⟨i, o, rfl, hr⟩ := ha.rd hlt
  obtain ⟨i2, o2, rfl, hr2⟩ := hb.rd hlt
  (have hrd0 := hr; have hrd1 := hr2; repeat' (first | (with_reducible intro _) | refine sv ?_ | (refine sc ?_ ?_ <;> (intro h; try first | exact h.elim | exact absurd rfl h | (exfalso; omega))) | (refine sg ?_ ?_ <;> (intro h; (fail_if_success (have : True := h)); try first | exact h.elim | exact absurd rfl h | (exfalso; omega))) | assumption | exact xm | exact rfl))
  refine k_step (L.length - (k + 1)) (by omega) ⟨k + 1, rfl, by omega, rfl, .cons rfl (.cons rfl (.cons rfl .nil)), rfl⟩
end Go.Proofs.YtlfkmgpngkbhpaaGreatDoor.C
end
