/-
 Part of the proof of TapeTrue: what functions of the program and of the statement come to, walked by the rules. No condition beyond those in each theorem.
-/
import Derived.Test.YtlfkmgpngkbhpaaGreatDoorTQ
section
open Go PvL Go.Proofs
set_option linter.unusedVariables false
namespace Go.Proofs.YtlfkmgpngkbhpaaGreatDoor.C
def joinOk (x y : Fr) : Prop := errF x = 0 /\ errF y = 0 /\ x.1 = y.1 /\ x.2.1 = y.2.1
abbrev jo (x y : Fr) : Fr := (x.1, x.2.1, bothL x.2.2 y.2.2)
def dst (k j : Nat) : Int := if j <= k then (k : Int) - j else (j : Int) - k
def bndR (l : List Int) (d : Int) (k : Nat) : Nat -> Int × Int
 | 0 => (-32767, 32767)
 | j + 1 => if knB (getG l j) then (iMax (bndR l d k j).1 (getG l j - d * dst k j), iMin (bndR l d k j).2 (getG l j + d * dst k j)) else bndR l d k j
def bnd (l : List Int) (d : Int) (k : Nat) : Int × Int := bndR l d k l.length
def bndsL (l : List Int) (d : Int) : List (Int × Int) := (List.range l.length).map (bnd l d)
def mag (x : Int) : Int := iMax x (-x)
def clJ (l : List Int) (d : Int) (i : Nat) : Nat -> Bool
 | 0 => false
 | j + 1 => clJ l d i j || (knB (getG l i) && (knB (getG l j) && decide (d * ((i : Int) - j) < mag (getG l i - getG l j))))
def clI (l : List Int) (d : Int) : Nat -> Bool
 | 0 => false
 | i + 1 => clI l d i || clJ l d i i
def errL (l : List Int) (d : Int) : Int := if smsB l then (if btB d 0 65535 then (if l.any knB then (if clI l d l.length then 83 else 0) else 4) else 7) else 80
def fillF (l : List Int) (d : Int) : List (Int × Int) × Int := (if errL l d = 0 then bndsL l d else [], errL l d)
theorem iMax_le' (a b x : Int) : iMax a b <= x ↔ a <= x /\ b <= x := by unfold iMax; omega
theorem le_iMin' (a b x : Int) : x <= iMin a b ↔ x <= a /\ x <= b := by unfold iMin; omega
theorem bndR_lo (l : List Int) (d : Int) (k : Nat) (x : Int) : ∀ n, (bndR l d k n).1 <= x ↔ -32767 <= x /\ ∀ j, j < n -> knB (getG l j) = true -> getG l j - d * dst k j <= x
 | 0 => ⟨fun h => ⟨h, fun j hj => absurd hj (Nat.not_lt_zero _)⟩, fun h => h.1⟩
 | n + 1 => by
  have ih := bndR_lo l d k x n
  unfold bndR
  cases hk : knB (getG l n) with
  | true =>
   rw [if_pos rfl]
   dsimp only
   rw [iMax_le', ih]
   constructor
   ·rintro ⟨⟨h1, h2⟩, h3⟩
    refine ⟨h1, fun j hj hjk => ?_⟩
    by_cases he : j = n
    ·subst he; exact h3
    ·exact h2 j (by omega) hjk
   ·rintro ⟨h1, h2⟩
    exact ⟨⟨h1, fun j hj => h2 j (by omega)⟩, h2 n (by omega) hk⟩
  | false =>
   rw [if_neg (by decide), ih]
   constructor
   ·rintro ⟨h1, h2⟩
    refine ⟨h1, fun j hj hjk => ?_⟩
    by_cases he : j = n
    ·subst he; rw [hk] at hjk; cases hjk
    ·exact h2 j (by omega) hjk
   ·rintro ⟨h1, h2⟩
    exact ⟨h1, fun j hj => h2 j (by omega)⟩
theorem bndR_hi (l : List Int) (d : Int) (k : Nat) (x : Int) : ∀ n, x <= (bndR l d k n).2 ↔ x <= 32767 /\ ∀ j, j < n -> knB (getG l j) = true -> x <= getG l j + d * dst k j
 | 0 => ⟨fun h => ⟨h, fun j hj => absurd hj (Nat.not_lt_zero _)⟩, fun h => h.1⟩
 | n + 1 => by
  have ih := bndR_hi l d k x n
  unfold bndR
  cases hk : knB (getG l n) with
  | true =>
   rw [if_pos rfl]
   dsimp only
   rw [le_iMin', ih]
   constructor
   ·rintro ⟨⟨h1, h2⟩, h3⟩
    refine ⟨h1, fun j hj hjk => ?_⟩
    by_cases he : j = n
    ·subst he; exact h3
    ·exact h2 j (by omega) hjk
   ·rintro ⟨h1, h2⟩
    exact ⟨⟨h1, fun j hj => h2 j (by omega)⟩, h2 n (by omega) hk⟩
  | false =>
   rw [if_neg (by decide), ih]
   constructor
   ·rintro ⟨h1, h2⟩
    refine ⟨h1, fun j hj hjk => ?_⟩
    by_cases he : j = n
    ·subst he; rw [hk] at hjk; cases hjk
    ·exact h2 j (by omega) hjk
   ·rintro ⟨h1, h2⟩
    exact ⟨h1, fun j hj => h2 j (by omega)⟩
theorem kn_bd {n : Int} (h : knB n = true) : -32767 <= n /\ n <= 32767 := by unfold knB at h; exact of_decide_eq_true h
theorem kn_lt {l : List Int} {j : Nat} (h : knB (getG l j) = true) : j < l.length := by
 by_cases hj : j < l.length
 ·exact hj
 ·rw [getG_ge (by omega)] at h; exact absurd (kn_bd h).2 (by decide)
theorem dst_self (k : Nat) : dst k k = 0 := by unfold dst; rw [if_pos (Nat.le_refl _)]; omega
theorem dst_comm (k j : Nat) : dst k j = dst j k := by unfold dst; split <;> split <;> omega
theorem bnd_pin {l : List Int} {d : Int} {k : Nat} (hk : knB (getG l k) = true) : bnd l d k = (getG l k, getG l k) ↔ ∀ j, j < l.length -> knB (getG l j) = true -> getG l j - d * dst k j <= getG l k /\ getG l k <= getG l j + d * dst k j := by
 have hl := kn_lt hk
 obtain ⟨h1, h2⟩ := kn_bd hk
 have lo := bndR_lo l d k (getG l k) l.length
 have hi := bndR_hi l d k (getG l k) l.length
 have lo' := ((bndR_lo l d k (bndR l d k l.length).1 l.length).1 (Int.le_refl _)).2 k hl hk
 have hi' := ((bndR_hi l d k (bndR l d k l.length).2 l.length).1 (Int.le_refl _)).2 k hl hk
 rw [dst_self, Int.mul_zero] at lo' hi'
 constructor
 ·intro he j hj hjk
  unfold bnd at he
  have e1 : (bndR l d k l.length).1 <= getG l k := by rw [he]; exact Int.le_refl _
  have e2 : getG l k <= (bndR l d k l.length).2 := by rw [he]; exact Int.le_refl _
  exact ⟨(lo.1 e1).2 j hj hjk, (hi.1 e2).2 j hj hjk⟩
 ·intro hj
  have e1 := lo.2 ⟨h1, fun j h3 h4 => (hj j h3 h4).1⟩
  have e2 := hi.2 ⟨h2, fun j h3 h4 => (hj j h3 h4).2⟩
  unfold bnd
  exact Prod.ext (by show _ = getG l k; omega) (by show _ = getG l k; omega)
theorem clJ_no (l : List Int) (d : Int) (i : Nat) : ∀ n, clJ l d i n = false ↔ ∀ j, j < n -> knB (getG l i) = true -> knB (getG l j) = true -> mag (getG l i - getG l j) <= d * ((i : Int) - j)
 | 0 => ⟨fun _ j hj => absurd hj (Nat.not_lt_zero _), fun _ => rfl⟩
 | n + 1 => by
  unfold clJ
  rw [Bool.or_eq_false_iff, clJ_no l d i n]
  constructor
  ·rintro ⟨h1, h2⟩ j hj hi hjk
   by_cases he : j = n
   ·subst he
    rw [hi, hjk] at h2
    simp only [Bool.true_and, decide_eq_false_iff_not, Int.not_lt] at h2
    exact h2
   ·exact h1 j (by omega) hi hjk
  ·intro h1
   refine ⟨fun j hj => h1 j (by omega), ?_⟩
   cases hi : knB (getG l i) with
   | false => rfl
   | true =>
    cases hj : knB (getG l n) with
    | false => rfl
    | true =>
     have := h1 n (by omega) hi hj
     simp only [Bool.true_and, decide_eq_false_iff_not, Int.not_lt]
     exact this
theorem clI_no (l : List Int) (d : Int) : ∀ n, clI l d n = false ↔ ∀ i, i < n -> ∀ j, j < i -> knB (getG l i) = true -> knB (getG l j) = true -> mag (getG l i - getG l j) <= d * ((i : Int) - j)
 | 0 => ⟨fun _ j hj => absurd hj (Nat.not_lt_zero _), fun _ => rfl⟩
 | n + 1 => by
  unfold clI
  rw [Bool.or_eq_false_iff, clI_no l d n, clJ_no]
  constructor
  ·rintro ⟨h1, h2⟩ i hi
   by_cases he : i = n
   ·subst he; exact h2
   ·exact h1 i (by omega)
  ·intro h1
   exact ⟨fun i hi => h1 i (by omega), h1 n (by omega)⟩
theorem mag_le {x t : Int} : mag x <= t ↔ x <= t /\ -x <= t := by unfold mag; exact iMax_le' _ _ _
theorem pin_iff (l : List Int) (d : Int) : (∀ k, k < l.length -> knB (getG l k) = true -> bnd l d k = (getG l k, getG l k)) ↔ clI l d l.length = false := by
 rw [clI_no]
 constructor
 ·intro h i hi j hj hik hjk
  have := (bnd_pin hik).1 (h i hi hik) j (by omega) hjk
  rw [show dst i j = (i : Int) - j by unfold dst; rw [if_pos (by omega)]] at this
  rw [mag_le]
  omega
 ·intro h k hk hkk
  rw [bnd_pin hkk]
  intro j hj hjk
  by_cases h1 : j < k
  ·have := h k hk j h1 hkk hjk
   rw [mag_le] at this
   rw [show dst k j = (k : Int) - j by unfold dst; rw [if_pos (by omega)]]
   omega
  ·by_cases h2 : j = k
   ·subst h2; rw [dst_self, Int.mul_zero]; omega
   ·have := h j hj k (by omega) hjk hkk
    rw [mag_le] at this
    rw [dst_comm, show dst j k = (j : Int) - k by unfold dst; rw [if_pos (by omega)]]
    omega
theorem bndsL_take {l : List Int} {d : Int} {k : Nat} (h : k < l.length) : (bndsL l d).take (k + 1) = (bndsL l d).take k ++ [bnd l d k] := by
 unfold bndsL
 rw [List.take_succ_eq_append_getElem (by simpa using h)]
 simp
theorem bndsL_len (l : List Int) (d : Int) : (bndsL l d).length = l.length := by unfold bndsL; simp
theorem sms_len {l : List Int} (h : smsB l = true) : 1 <= l.length /\ l.length <= 64 /\ l.all smB = true := by
 unfold smsB btB at h
 simp only [Bool.and_eq_true, decide_eq_true_eq] at h
 exact ⟨by omega, by omega, h.2⟩
theorem mul_bd {d t : Int} (h1 : 0 <= d) (h2 : d <= 65535) (h3 : -64 <= t) (h4 : t <= 64) : -4194240 <= d * t /\ d * t <= 4194240 := by
 rcases Int.le_total 0 t with h | h
 ·have a := Int.mul_le_mul h2 h4 h (by omega : (0 : Int) <= 65535)
  have b := Int.mul_nonneg h1 h
  exact ⟨by omega, by omega⟩
 ·have a := Int.mul_le_mul h2 (by omega : -t <= 64) (by omega) (by omega : (0 : Int) <= 65535)
  have b := Int.mul_nonneg h1 (by omega : 0 <= -t)
  rw [Int.mul_neg] at a b
  exact ⟨by omega, by omega⟩
def el (s : List Int) (i : Nat) : Int := s.getD i 0
theorem el_lt {s : List Int} {i : Nat} (h : i < s.length) : el s i = s[i] := by unfold el; rw [List.getD_eq_getElem?_getD, List.getElem?_eq_getElem h]; rfl
def okT (s : List Int) : Nat -> Bool
 | 0 => true
 | k + 1 => okT s k && (btB (el s k) 0 60000 && (decide (k = 0) || decide (el s (k - 1) < el s k)))
def okS (s : List Int) (a b : Int) : Bool := (decide (s.length <= 128) && (btB a 0 1000 && btB b 1 1000)) && okT s s.length
theorem okT_mono {s : List Int} : ∀ {k j : Nat}, j <= k -> okT s k = true -> okT s j = true
 | 0, j, h, hk => by obtain rfl : j = 0 := by omega
                     rfl
 | k + 1, j, h, hk => by
  by_cases he : j = k + 1
  ·subst he; exact hk
  ·refine okT_mono (k := k) (by omega) ?_
   have hk : (okT s k && _) = true := hk
   rw [Bool.and_eq_true] at hk
   exact hk.1
theorem okT_at {s : List Int} {k i : Nat} (h : okT s k = true) (hi : i < k) : 0 <= el s i /\ el s i <= 60000 := by
 have h1 : (okT s i && (btB (el s i) 0 60000 && _)) = true := okT_mono (j := i + 1) (by omega) h
 rw [Bool.and_eq_true, Bool.and_eq_true] at h1
 exact of_decide_eq_true h1.2.1
theorem okT_next {s : List Int} {k i : Nat} (h : okT s k = true) (hi : i + 1 < k) : el s i < el s (i + 1) := by
 have h1 : (okT s (i + 1) && (btB (el s (i + 1)) 0 60000 && (decide (i + 1 = 0) || decide (el s (i + 1 - 1) < el s (i + 1))))) = true := okT_mono (j := i + 1 + 1) (by omega) h
 rw [Bool.and_eq_true, Bool.and_eq_true, Bool.or_eq_true] at h1
 rcases h1.2.2 with h2 | h2
 ·have := of_decide_eq_true h2; omega
 ·exact of_decide_eq_true h2
theorem okT_lt {s : List Int} {n : Nat} (h : okT s n = true) {i : Nat} : ∀ {k : Nat}, i < k -> k < n -> el s i < el s k
 | 0, hi, _ => absurd hi (Nat.not_lt_zero _)
 | k + 1, hi, hk => by
  have h1 := okT_next h hk
  by_cases he : i = k
  ·subst he; exact h1
  ·exact Int.lt_trans (okT_lt h (k := k) (by omega) (by omega)) h1
theorem okT_le {s : List Int} {n : Nat} (h : okT s n = true) {i k : Nat} (hi : i <= k) (hk : k < n) : el s i <= el s k := by
 by_cases he : i = k
 ·subst he; exact Int.le_refl _
 ·have := okT_lt h (i := i) (k := k) (by omega) hk; omega
structure OkS (s : List Int) (a b : Int) : Prop where
 len : s.length <= 128
 a0 : 0 <= a /\ a <= 1000
 b0 : 1 <= b /\ b <= 1000
 t : okT s s.length = true
theorem OkS.at {s : List Int} {a b : Int} (h : OkS s a b) {i : Nat} (hi : i < s.length) : 0 <= el s i /\ el s i <= 60000 := okT_at h.t hi
theorem OkS.lt {s : List Int} {a b : Int} (h : OkS s a b) {i k : Nat} (hi : i < k) (hk : k < s.length) : el s i < el s k := okT_lt h.t hi hk
theorem OkS.le {s : List Int} {a b : Int} (h : OkS s a b) {i k : Nat} (hi : i <= k) (hk : k < s.length) : el s i <= el s k := okT_le h.t hi hk
def spn (s : List Int) (i k : Nat) : Int := el s k - el s i + 1
theorem OkS.spn {s : List Int} {a b : Int} (h : OkS s a b) {i k : Nat} (hi : i <= k) (hk : k < s.length) : 1 <= spn s i k /\ spn s i k <= 60001 := by
 have h1 := h.le hi hk
 have h2 := h.at hk
 have h3 := h.at (i := i) (by omega)
 unfold C.spn; omega
def seg (y : List Int) (i : Nat) : Nat -> Int
 | 0 => 0
 | k + 1 => seg y i k + el y (i + k)
def badR (s y : List Int) (a b : Int) (i : Nat) : Nat -> Bool
 | 0 => false
 | k + 1 => badR s y a b i k || (decide (spn s i (i + k) <= b) && decide (seg y i (k + 1) > a + spn s i (i + k)))
def badA (s y : List Int) (a b : Int) : Nat -> Bool
 | 0 => false
 | i + 1 => badA s y a b i || badR s y a b i (s.length - i)
def inY (x : Int) : Bool := btB x 0 1048576
def prF (s y : List Int) (a b : Int) : Int × Int :=
 if okS s a b then (if y.length = s.length then (if y.all inY then (if badA s y a b s.length then (0, 85) else (seg y 0 y.length, 0)) else (0, 85)) else (0, 85)) else (0, 84)
abbrev Rst := Int × Int × Nat
def pk (s : List Int) (a b : Int) (G : Nat -> Rst) (i : Nat) : Nat -> Rst
 | 0 => (0, 0, 0)
 | j + 1 =>
  if spn s i (i + j) <= b /\ (j = 0 ∨ a + spn s i (i + j) + (G (i + j + 1)).1 < (pk s a b G i j).1 ∨ (a + spn s i (i + j) + (G (i + j + 1)).1 = (pk s a b G i j).1 /\ 1 + (G (i + j + 1)).2.1 < (pk s a b G i j).2.1))
  then (a + spn s i (i + j) + (G (i + j + 1)).1, 1 + (G (i + j + 1)).2.1, i + j) else pk s a b G i j
def tb (s : List Int) (a b : Int) : Nat -> Nat -> Rst
 | 0, _ => (0, 0, 0)
 | m + 1, i => if i + (m + 1) = s.length then pk s a b (tb s a b m) i (m + 1) else tb s a b m i
def bs (s : List Int) (a b : Int) (i : Nat) : Rst := tb s a b s.length i
def fol (s : List Int) (G : Nat -> Rst) : Nat -> Nat -> List (Int × Int)
 | 0, _ => []
 | f + 1, i => if i < s.length then (el s i, el s (G i).2.2) :: fol s G f ((G i).2.2 + 1) else []
def plan (s : List Int) (a b : Int) (i : Nat) : List (Int × Int) := fol s (bs s a b) (s.length - i) i
def agF (s : List Int) (a b : Int) : List (Int × Int) × Int × Int := if okS s a b then (plan s a b 0, (bs s a b 0).1, 0) else ([], 0, 84)
def many (p : Int × Int) : Int := p.2 - p.1 + 1
def Pl (b : Int) (v : Int) : List (Int × Int) -> Prop
 | [] => True
 | p :: l => (1 <= many p /\ many p <= b) /\ v < p.1 /\ Pl b p.2 l
def cst (a : Int) : List (Int × Int) -> Int
 | [] => 0
 | p :: l => a + many p + cst a l
def Cov8 (x : Int) (l : List (Int × Int)) : Prop := ∃ p ∈ l, p.1 <= x /\ x <= p.2
theorem Pl.behind {b : Int} : ∀ {l : List (Int × Int)} {v : Int}, Pl b v l -> ∀ p ∈ l, v < p.1
 | [], _, _, p, hp => by cases hp
 | q :: l, v, h, p, hp => by
  rcases List.mem_cons.1 hp with rfl | hp
  ·exact h.2.1
  ·have := h.2.2.behind p hp
   have := h.1
   have := h.2.1
   unfold many at *
   omega
def mn (s : List Int) (a b : Int) (G : Nat -> Int) (k : Nat) : Nat -> Int
 | 0 => a + spn s k k + G k
 | j + 1 => if spn s (k - 1 - j) k <= b then iMin (mn s a b G k j) (a + spn s (k - 1 - j) k + G (k - 1 - j)) else mn s a b G k j
def ls (s : List Int) (a b : Int) : Nat -> Nat -> Int
 | 0, _ => 0
 | m + 1, i => if i = m + 1 then mn s a b (ls s a b m) m m else ls s a b m i
def lst (s : List Int) (a b : Int) (i : Nat) : Int := ls s a b i i
def prices (s : List Int) (a b : Int) : List Int := (List.range s.length).map fun k => lst s a b (k + 1) - lst s a b k
structure Smo (l : List Int) (d : Int) : Prop where
 len : 1 <= l.length /\ l.length <= 64
 kn : ∀ i, i < l.length -> knB (getG l i) = true
 d0 : 0 <= d
 st : ∀ i, i + 1 < l.length -> mag (getG l (i + 1) - getG l i) <= d
theorem Smo.far {l : List Int} {d : Int} (h : Smo l d) {j : Nat} : ∀ (t : Nat), j + t < l.length -> mag (getG l (j + t) - getG l j) <= d * t
 | 0, _ => by
  rw [mag_le]
  simp only [Nat.add_zero]
  omega
 | t + 1, ht => by
  have h1 := h.far (j := j) t (by omega)
  have h2 := h.st (j + t) (by omega)
  rw [mag_le] at h1 h2 ⊢
  rw [show ((t + 1 : Nat) : Int) = (t : Int) + 1 from by omega, Int.mul_add, Int.mul_one, show j + (t + 1) = j + t + 1 from rfl]
  omega
theorem Smo.dst {l : List Int} {d : Int} (h : Smo l d) {i j : Nat} (hi : i < l.length) (hj : j < l.length) : getG l j - d * dst i j <= getG l i /\ getG l i <= getG l j + d * dst i j := by
 unfold C.dst
 split
 ·rename_i hc
  have := h.far (j := j) (i - j) (by omega)
  rw [mag_le, show j + (i - j) = i from by omega, show ((i - j : Nat) : Int) = (i : Int) - j from by omega] at this
  omega
 ·rename_i hc
  have := h.far (j := i) (j - i) (by omega)
  rw [mag_le, show i + (j - i) = j from by omega, show ((j - i : Nat) : Int) = (j : Int) - i from by omega] at this
  omega
theorem Smo.more {l : List Int} {d : Int} (h : Smo l d) {c : Int} (hc : 0 <= c) : Smo l (d + c) := ⟨h.len, h.kn, by have := h.d0; omega, fun i hi => by have := h.st i hi; omega⟩
structure Part (s l : List Int) : Prop where
 len : s.length = l.length
 or : ∀ i, i < l.length -> getG s i = getG l i ∨ getG s i = 40000
 one : ∃ i, i < l.length /\ getG s i = getG l i
theorem Part.self {l : List Int} (h : 1 <= l.length) : Part l l := ⟨rfl, fun _ _ => .inl rfl, 0, h, rfl⟩
theorem kn_gap : knB 40000 = false := rfl
theorem Part.kn {s l : List Int} (h : Part s l) {i : Nat} (hi : i < l.length) (hk : knB (getG s i) = true) : getG s i = getG l i := by
 rcases h.or i hi with h1 | h1
 ·exact h1
 ·rw [h1, kn_gap] at hk; cases hk
theorem Part.sms {s l : List Int} {d : Int} (h : Part s l) (hl : Smo l d) : smsB s = true := by
 unfold smsB btB
 rw [Bool.and_eq_true, List.all_eq_true]
 refine ⟨decide_eq_true (by have := hl.len; rw [h.len]; omega), fun x hx => ?_⟩
 obtain ⟨i, hi, rfl⟩ := List.getElem_of_mem hx
 rw [<- getG_lt hi]
 rw [h.len] at hi
 unfold smB
 rcases h.or i hi with h1 | h1
 ·rw [h1, hl.kn i hi]; rfl
 ·rw [h1]; rfl
theorem Part.any {s l : List Int} {d : Int} (h : Part s l) (hl : Smo l d) : s.any knB = true := by
 obtain ⟨i, hi, he⟩ := h.one
 rw [List.any_eq_true]
 have hi2 : i < s.length := by rw [h.len]; exact hi
 exact ⟨s[i], List.getElem_mem hi2, by rw [<- getG_lt hi2, he]; exact hl.kn i hi⟩
theorem Part.cl {s l : List Int} {d : Int} (h : Part s l) (hl : Smo l d) : clI s d s.length = false := by
 rw [<- pin_iff]
 intro k hk hkk
 rw [bnd_pin hkk]
 intro j hj hjk
 rw [h.len] at hk hj
 rw [h.kn hk hkk, h.kn hj hjk]
 exact hl.dst hk hj
theorem Part.fill {s l : List Int} {d : Int} (h : Part s l) (hl : Smo l d) (hd : d <= 65535) : fillF s d = (bndsL s d, 0) := by
 have he : errL s d = 0 := by
  unfold errL
  rw [h.sms hl, h.any hl, h.cl hl, show btB d 0 65535 = true from decide_eq_true ⟨hl.d0, hd⟩]
  rfl
 unfold fillF
 rw [he]; rfl
theorem Part.in {s l : List Int} {d : Int} (h : Part s l) (hl : Smo l d) {i : Nat} (hi : i < l.length) : (bnd s d i).1 <= getG l i /\ getG l i <= (bnd s d i).2 := by
 have hb := kn_bd (hl.kn i hi)
 constructor
 ·refine (bndR_lo s d i _ _).2 ⟨hb.1, fun j hj hjk => ?_⟩
  rw [h.len] at hj
  rw [h.kn hj hjk]
  exact (hl.dst hi hj).1
 ·refine (bndR_hi s d i _ _).2 ⟨hb.2, fun j hj hjk => ?_⟩
  rw [h.len] at hj
  rw [h.kn hj hjk]
  exact (hl.dst hi hj).2
theorem dst_0 (k j : Nat) : 0 <= dst k j := by unfold dst; split <;> omega
theorem bnd_wide (s : List Int) (d : Int) {c : Int} (hc : 0 <= c) (i : Nat) : (bnd s (d + c) i).1 <= (bnd s d i).1 /\ (bnd s d i).2 <= (bnd s (d + c) i).2 := by
 constructor
 ·have h1 := (bndR_lo s d i _ s.length).1 (Int.le_refl _)
  refine (bndR_lo s (d + c) i _ _).2 ⟨h1.1, fun j hj hjk => ?_⟩
  have := h1.2 j hj hjk
  have h3 := Int.mul_nonneg hc (dst_0 i j)
  rw [Int.add_mul]
  unfold bnd
  omega
 ·have h1 := (bndR_hi s d i _ s.length).1 (Int.le_refl _)
  refine (bndR_hi s (d + c) i _ _).2 ⟨h1.1, fun j hj hjk => ?_⟩
  have := h1.2 j hj hjk
  have h3 := Int.mul_nonneg hc (dst_0 i j)
  rw [Int.add_mul]
  unfold bnd
  omega
theorem Part.pin {s l : List Int} {d : Int} (h : Part s l) (hl : Smo l d) {i : Nat} (hi : i < l.length) (he : getG s i = getG l i) : bnd s d i = (getG l i, getG l i) := by
 have := (pin_iff s d).2 (h.cl hl) i (by rw [h.len]; exact hi) (by rw [he]; exact hl.kn i hi)
 rw [he] at this
 exact this
def pe (l : List (Int × Int)) (i : Nat) : Int × Int := l.getD i (0, 0)
def mW (p : Int × Int) : Int := IntKind.wrap .i64 (IntKind.wrap .i64 (p.2 - p.1) + 1)
def okC (b : Int) (l : List (Int × Int)) : Nat -> Bool
 | 0 => true
 | k + 1 => okC b l k && (btB (mW (pe l k)) 1 b && (decide (k = 0) || decide ((pe l (k - 1)).2 < (pe l k).1)))
def sumC (a : Int) (l : List (Int × Int)) : Nat -> Int
 | 0 => 0
 | k + 1 => sumC a l k + (a + mW (pe l k))
def covB (x : Int) (l : List (Int × Int)) : Nat -> Bool
 | 0 => false
 | j + 1 => covB x l j || btB x (pe l j).1 (pe l j).2
def allC (s : List Int) (l : List (Int × Int)) : Nat -> Bool
 | 0 => true
 | i + 1 => allC s l i && covB (el s i) l l.length
def costF (s : List Int) (a b : Int) (l : List (Int × Int)) : Int × Bool := if okC b l l.length && allC s l s.length then (sumC a l l.length, true) else (0, false)
def Sml (l : List (Int × Int)) : Prop := ∀ p ∈ l, (0 <= p.1 /\ p.1 <= 60000) /\ 0 <= p.2 /\ p.2 <= 60000
def fewL (s : List Int) (k : Nat) : List Int := s.take k ++ s.drop (k + 1)
theorem OkS.s {s : List Int} {a b : Int} (h : OkS s a b) : okS s a b = true := by
 unfold okS btB
 rw [decide_eq_true h.len, decide_eq_true h.a0, decide_eq_true h.b0, h.t]; rfl
def rst8 (n m : Int) : Int := if m < 1 then 0 else (if Int.tmod n m < 0 then Int.tmod n m + m else Int.tmod n m)
theorem rst8_bd {n m : Int} (h : 1 <= m) : 0 <= rst8 n m /\ rst8 n m < m := by
 unfold rst8
 rw [if_neg (by omega)]
 have h1 := Int.tmod_lt_of_pos n (show 0 < m by omega)
 have h2 := Int.lt_tmod_of_pos n (show 0 < m by omega)
 split <;> omega
end Go.Proofs.YtlfkmgpngkbhpaaGreatDoor.C
end
