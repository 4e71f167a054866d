/-
 Part of the proof of TapePriced: what functions of the program and of the statement come to, walked by the rules. No condition beyond those in each theorem.
-/
import Derived.Test.YtlfkmgpngkbhpaaGreatDoorTQ
section
open Go PvL Go.Proofs
set_option linter.unusedVariables false
namespace Go.Proofs.YtlfkmgpngkbhpaaGreatDoor.C
def joinOk (x y : Fr) : Prop := errF x = 0 /\ errF y = 0 /\ x.1 = y.1 /\ x.2.1 = y.2.1
abbrev jo (x y : Fr) : Fr := (x.1, x.2.1, bothL x.2.2 y.2.2)
def dst (k j : Nat) : Int := if j <= k then (k : Int) - j else (j : Int) - k
def bndR (l : List Int) (d : Int) (k : Nat) : Nat -> Int × Int
 | 0 => (-32767, 32767)
 | j + 1 => if knB (getG l j) then (iMax (bndR l d k j).1 (getG l j - d * dst k j), iMin (bndR l d k j).2 (getG l j + d * dst k j)) else bndR l d k j
def bnd (l : List Int) (d : Int) (k : Nat) : Int × Int := bndR l d k l.length
def bndsL (l : List Int) (d : Int) : List (Int × Int) := (List.range l.length).map (bnd l d)
def mag (x : Int) : Int := iMax x (-x)
def clJ (l : List Int) (d : Int) (i : Nat) : Nat -> Bool
 | 0 => false
 | j + 1 => clJ l d i j || (knB (getG l i) && (knB (getG l j) && decide (d * ((i : Int) - j) < mag (getG l i - getG l j))))
def clI (l : List Int) (d : Int) : Nat -> Bool
 | 0 => false
 | i + 1 => clI l d i || clJ l d i i
def errL (l : List Int) (d : Int) : Int := if smsB l then (if btB d 0 65535 then (if l.any knB then (if clI l d l.length then 83 else 0) else 4) else 7) else 80
def fillF (l : List Int) (d : Int) : List (Int × Int) × Int := (if errL l d = 0 then bndsL l d else [], errL l d)
theorem mul_bd {d t : Int} (h1 : 0 <= d) (h2 : d <= 65535) (h3 : -64 <= t) (h4 : t <= 64) : -4194240 <= d * t /\ d * t <= 4194240 := by
 rcases Int.le_total 0 t with h | h
 ·have a := Int.mul_le_mul h2 h4 h (by omega : (0 : Int) <= 65535)
  have b := Int.mul_nonneg h1 h
  exact ⟨by omega, by omega⟩
 ·have a := Int.mul_le_mul h2 (by omega : -t <= 64) (by omega) (by omega : (0 : Int) <= 65535)
  have b := Int.mul_nonneg h1 (by omega : 0 <= -t)
  rw [Int.mul_neg] at a b
  exact ⟨by omega, by omega⟩
def el (s : List Int) (i : Nat) : Int := s.getD i 0
theorem el_lt {s : List Int} {i : Nat} (h : i < s.length) : el s i = s[i] := by unfold el; rw [List.getD_eq_getElem?_getD, List.getElem?_eq_getElem h]; rfl
def okT (s : List Int) : Nat -> Bool
 | 0 => true
 | k + 1 => okT s k && (btB (el s k) 0 60000 && (decide (k = 0) || decide (el s (k - 1) < el s k)))
def okS (s : List Int) (a b : Int) : Bool := (decide (s.length <= 128) && (btB a 0 1000 && btB b 1 1000)) && okT s s.length
theorem okT_mono {s : List Int} : ∀ {k j : Nat}, j <= k -> okT s k = true -> okT s j = true
 | 0, j, h, hk => by obtain rfl : j = 0 := by omega
                     rfl
 | k + 1, j, h, hk => by
  by_cases he : j = k + 1
  ·subst he; exact hk
  ·refine okT_mono (k := k) (by omega) ?_
   have hk : (okT s k && _) = true := hk
   rw [Bool.and_eq_true] at hk
   exact hk.1
theorem okT_at {s : List Int} {k i : Nat} (h : okT s k = true) (hi : i < k) : 0 <= el s i /\ el s i <= 60000 := by
 have h1 : (okT s i && (btB (el s i) 0 60000 && _)) = true := okT_mono (j := i + 1) (by omega) h
 rw [Bool.and_eq_true, Bool.and_eq_true] at h1
 exact of_decide_eq_true h1.2.1
theorem okT_next {s : List Int} {k i : Nat} (h : okT s k = true) (hi : i + 1 < k) : el s i < el s (i + 1) := by
 have h1 : (okT s (i + 1) && (btB (el s (i + 1)) 0 60000 && (decide (i + 1 = 0) || decide (el s (i + 1 - 1) < el s (i + 1))))) = true := okT_mono (j := i + 1 + 1) (by omega) h
 rw [Bool.and_eq_true, Bool.and_eq_true, Bool.or_eq_true] at h1
 rcases h1.2.2 with h2 | h2
 ·have := of_decide_eq_true h2; omega
 ·exact of_decide_eq_true h2
theorem okT_lt {s : List Int} {n : Nat} (h : okT s n = true) {i : Nat} : ∀ {k : Nat}, i < k -> k < n -> el s i < el s k
 | 0, hi, _ => absurd hi (Nat.not_lt_zero _)
 | k + 1, hi, hk => by
  have h1 := okT_next h hk
  by_cases he : i = k
  ·subst he; exact h1
  ·exact Int.lt_trans (okT_lt h (k := k) (by omega) (by omega)) h1
theorem okT_le {s : List Int} {n : Nat} (h : okT s n = true) {i k : Nat} (hi : i <= k) (hk : k < n) : el s i <= el s k := by
 by_cases he : i = k
 ·subst he; exact Int.le_refl _
 ·have := okT_lt h (i := i) (k := k) (by omega) hk; omega
structure OkS (s : List Int) (a b : Int) : Prop where
 len : s.length <= 128
 a0 : 0 <= a /\ a <= 1000
 b0 : 1 <= b /\ b <= 1000
 t : okT s s.length = true
theorem okS_p {s : List Int} {a b : Int} (h : okS s a b = true) : OkS s a b := by
 unfold okS at h
 rw [Bool.and_eq_true, Bool.and_eq_true, Bool.and_eq_true] at h
 exact ⟨of_decide_eq_true h.1.1, of_decide_eq_true h.1.2.1, of_decide_eq_true h.1.2.2, h.2⟩
theorem OkS.at {s : List Int} {a b : Int} (h : OkS s a b) {i : Nat} (hi : i < s.length) : 0 <= el s i /\ el s i <= 60000 := okT_at h.t hi
theorem OkS.lt {s : List Int} {a b : Int} (h : OkS s a b) {i k : Nat} (hi : i < k) (hk : k < s.length) : el s i < el s k := okT_lt h.t hi hk
theorem OkS.le {s : List Int} {a b : Int} (h : OkS s a b) {i k : Nat} (hi : i <= k) (hk : k < s.length) : el s i <= el s k := okT_le h.t hi hk
def spn (s : List Int) (i k : Nat) : Int := el s k - el s i + 1
theorem OkS.spn {s : List Int} {a b : Int} (h : OkS s a b) {i k : Nat} (hi : i <= k) (hk : k < s.length) : 1 <= spn s i k /\ spn s i k <= 60001 := by
 have h1 := h.le hi hk
 have h2 := h.at hk
 have h3 := h.at (i := i) (by omega)
 unfold C.spn; omega
theorem OkS.spn_lt {s : List Int} {a b : Int} (h : OkS s a b) {i k j : Nat} (hkj : k < j) (hj : j < s.length) : C.spn s i k < C.spn s i j := by
 have h1 := h.lt hkj hj
 unfold C.spn; omega
def seg (y : List Int) (i : Nat) : Nat -> Int
 | 0 => 0
 | k + 1 => seg y i k + el y (i + k)
def badR (s y : List Int) (a b : Int) (i : Nat) : Nat -> Bool
 | 0 => false
 | k + 1 => badR s y a b i k || (decide (spn s i (i + k) <= b) && decide (seg y i (k + 1) > a + spn s i (i + k)))
def badA (s y : List Int) (a b : Int) : Nat -> Bool
 | 0 => false
 | i + 1 => badA s y a b i || badR s y a b i (s.length - i)
def inY (x : Int) : Bool := btB x 0 1048576
def prF (s y : List Int) (a b : Int) : Int × Int :=
 if okS s a b then (if y.length = s.length then (if y.all inY then (if badA s y a b s.length then (0, 85) else (seg y 0 y.length, 0)) else (0, 85)) else (0, 85)) else (0, 84)
theorem badA_mono {s y : List Int} {a b : Int} : ∀ {k j : Nat}, j <= k -> badA s y a b k = false -> badA s y a b j = false
 | 0, j, h, hk => by obtain rfl : j = 0 := by omega
                     rfl
 | k + 1, j, h, hk => by
  by_cases he : j = k + 1
  ·subst he; exact hk
  ·have hk : (badA s y a b k || _) = false := hk
   rw [Bool.or_eq_false_iff] at hk
   exact badA_mono (k := k) (by omega) hk.1
theorem badA_hit {s y : List Int} {a b : Int} {n i : Nat} (hi : i < n) (h : badR s y a b i (s.length - i) = true) : badA s y a b n = true := by
 cases hq : badA s y a b n with
 | true => rfl
 | false =>
  have h1 : (badA s y a b i || badR s y a b i (s.length - i)) = false := badA_mono (j := i + 1) (by omega) hq
  rw [Bool.or_eq_false_iff, h] at h1
  exact absurd h1.2 (by decide)
theorem badR_mono {s y : List Int} {a b : Int} {i : Nat} : ∀ {k j : Nat}, j <= k -> badR s y a b i k = false -> badR s y a b i j = false
 | 0, j, h, hk => by obtain rfl : j = 0 := by omega
                     rfl
 | k + 1, j, h, hk => by
  by_cases he : j = k + 1
  ·subst he; exact hk
  ·have hk : (badR s y a b i k || _) = false := hk
   rw [Bool.or_eq_false_iff] at hk
   exact badR_mono (k := k) (by omega) hk.1
theorem badR_hit {s y : List Int} {a b : Int} {i k n : Nat} (hk : k < n) (h1 : spn s i (i + k) <= b) (h2 : seg y i (k + 1) > a + spn s i (i + k)) : badR s y a b i n = true := by
 cases hq : badR s y a b i n with
 | true => rfl
 | false =>
  have h3 : (badR s y a b i k || (decide (spn s i (i + k) <= b) && decide (seg y i (k + 1) > a + spn s i (i + k)))) = false := badR_mono (j := k + 1) (by omega) hq
  rw [Bool.or_eq_false_iff, decide_eq_true h1, decide_eq_true h2] at h3
  exact absurd h3.2 (by decide)
theorem badR_ok {s y : List Int} {a b : Int} {i k : Nat} (h : badR s y a b i k = false) (h2 : ¬ (spn s i (i + k) <= b /\ seg y i (k + 1) > a + spn s i (i + k))) : badR s y a b i (k + 1) = false := by
 show (badR s y a b i k || _) = false
 rw [h, Bool.false_or, <- Bool.decide_and, decide_eq_false h2]
theorem badR_far {s y : List Int} {a b : Int} (h : OkS s a b) {i k : Nat} (hb : badR s y a b i k = false) (hl : spn s i (i + k) > b) : ∀ {n : Nat}, k <= n -> i + n <= s.length -> badR s y a b i n = false
 | 0, hn, _ => rfl
 | n + 1, hn, hs => by
  by_cases he : k = n + 1
  ·subst he; exact hb
  ·have h1 := badR_far h hb hl (n := n) (by omega) (by omega)
   refine badR_ok h1 fun hc => ?_
   by_cases hkn : k = n
   ·subst hkn; omega
   ·have := h.spn_lt (i := i) (k := i + k) (j := i + n) (by omega) (by omega)
    omega
theorem all_at {y : List Int} (h : y.all inY = true) {i : Nat} (hi : i < y.length) : 0 <= el y i /\ el y i <= 1048576 := by
 rw [List.all_eq_true] at h
 have := h (y[i]) (List.getElem_mem hi)
 rw [el_lt hi]
 exact of_decide_eq_true this
theorem all_not {y : List Int} {i : Nat} (hi : i < y.length) (h : inY (el y i) = false) : y.all inY = false := by
 cases hq : y.all inY with
 | false => rfl
 | true =>
  have := all_at hq hi
  unfold inY btB at h
  rw [decide_eq_true this] at h
  exact absurd h (by decide)
theorem seg_bd {y : List Int} (h : y.all inY = true) (i : Nat) : ∀ k, i + k <= y.length -> 0 <= seg y i k /\ seg y i k <= 1048576 * k
 | 0, _ => by unfold seg; omega
 | k + 1, hk => by
  have h1 := seg_bd h i k (by omega)
  have h2 := all_at h (i := i + k) (by omega)
  unfold seg
  omega
theorem all_yes {y : List Int} (h : ∀ i, i < y.length -> inY (el y i) = true) : y.all inY = true := by
 rw [List.all_eq_true]
 intro x hx
 obtain ⟨i, hi, rfl⟩ := List.getElem_of_mem hx
 rw [<- el_lt hi]; exact h i hi
end Go.Proofs.YtlfkmgpngkbhpaaGreatDoor.C
end
