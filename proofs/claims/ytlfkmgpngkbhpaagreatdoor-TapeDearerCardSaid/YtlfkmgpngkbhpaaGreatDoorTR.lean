/-
 Part of the proof of TapeDearer: what functions of the program and of the statement come to, walked by the rules. No condition beyond those in each theorem.
-/
import Derived.Test.YtlfkmgpngkbhpaaGreatDoorTQ
section
open Go PvL Go.Proofs
set_option linter.unusedVariables false
namespace Go.Proofs.YtlfkmgpngkbhpaaGreatDoor.C
def joinOk (x y : Fr) : Prop := errF x = 0 /\ errF y = 0 /\ x.1 = y.1 /\ x.2.1 = y.2.1
abbrev jo (x y : Fr) : Fr := (x.1, x.2.1, bothL x.2.2 y.2.2)
def dst (k j : Nat) : Int := if j <= k then (k : Int) - j else (j : Int) - k
def bndR (l : List Int) (d : Int) (k : Nat) : Nat -> Int × Int
 | 0 => (-32767, 32767)
 | j + 1 => if knB (getG l j) then (iMax (bndR l d k j).1 (getG l j - d * dst k j), iMin (bndR l d k j).2 (getG l j + d * dst k j)) else bndR l d k j
def bnd (l : List Int) (d : Int) (k : Nat) : Int × Int := bndR l d k l.length
def bndsL (l : List Int) (d : Int) : List (Int × Int) := (List.range l.length).map (bnd l d)
def mag (x : Int) : Int := iMax x (-x)
def clJ (l : List Int) (d : Int) (i : Nat) : Nat -> Bool
 | 0 => false
 | j + 1 => clJ l d i j || (knB (getG l i) && (knB (getG l j) && decide (d * ((i : Int) - j) < mag (getG l i - getG l j))))
def clI (l : List Int) (d : Int) : Nat -> Bool
 | 0 => false
 | i + 1 => clI l d i || clJ l d i i
def errL (l : List Int) (d : Int) : Int := if smsB l then (if btB d 0 65535 then (if l.any knB then (if clI l d l.length then 83 else 0) else 4) else 7) else 80
def fillF (l : List Int) (d : Int) : List (Int × Int) × Int := (if errL l d = 0 then bndsL l d else [], errL l d)
theorem mul_bd {d t : Int} (h1 : 0 <= d) (h2 : d <= 65535) (h3 : -64 <= t) (h4 : t <= 64) : -4194240 <= d * t /\ d * t <= 4194240 := by
 rcases Int.le_total 0 t with h | h
 ·have a := Int.mul_le_mul h2 h4 h (by omega : (0 : Int) <= 65535)
  have b := Int.mul_nonneg h1 h
  exact ⟨by omega, by omega⟩
 ·have a := Int.mul_le_mul h2 (by omega : -t <= 64) (by omega) (by omega : (0 : Int) <= 65535)
  have b := Int.mul_nonneg h1 (by omega : 0 <= -t)
  rw [Int.mul_neg] at a b
  exact ⟨by omega, by omega⟩
def el (s : List Int) (i : Nat) : Int := s.getD i 0
theorem el_lt {s : List Int} {i : Nat} (h : i < s.length) : el s i = s[i] := by unfold el; rw [List.getD_eq_getElem?_getD, List.getElem?_eq_getElem h]; rfl
def okT (s : List Int) : Nat -> Bool
 | 0 => true
 | k + 1 => okT s k && (btB (el s k) 0 60000 && (decide (k = 0) || decide (el s (k - 1) < el s k)))
def okS (s : List Int) (a b : Int) : Bool := (decide (s.length <= 128) && (btB a 0 1000 && btB b 1 1000)) && okT s s.length
theorem okT_mono {s : List Int} : ∀ {k j : Nat}, j <= k -> okT s k = true -> okT s j = true
 | 0, j, h, hk => by obtain rfl : j = 0 := by omega
                     rfl
 | k + 1, j, h, hk => by
  by_cases he : j = k + 1
  ·subst he; exact hk
  ·refine okT_mono (k := k) (by omega) ?_
   have hk : (okT s k && _) = true := hk
   rw [Bool.and_eq_true] at hk
   exact hk.1
theorem okT_at {s : List Int} {k i : Nat} (h : okT s k = true) (hi : i < k) : 0 <= el s i /\ el s i <= 60000 := by
 have h1 : (okT s i && (btB (el s i) 0 60000 && _)) = true := okT_mono (j := i + 1) (by omega) h
 rw [Bool.and_eq_true, Bool.and_eq_true] at h1
 exact of_decide_eq_true h1.2.1
theorem okT_next {s : List Int} {k i : Nat} (h : okT s k = true) (hi : i + 1 < k) : el s i < el s (i + 1) := by
 have h1 : (okT s (i + 1) && (btB (el s (i + 1)) 0 60000 && (decide (i + 1 = 0) || decide (el s (i + 1 - 1) < el s (i + 1))))) = true := okT_mono (j := i + 1 + 1) (by omega) h
 rw [Bool.and_eq_true, Bool.and_eq_true, Bool.or_eq_true] at h1
 rcases h1.2.2 with h2 | h2
 ·have := of_decide_eq_true h2; omega
 ·exact of_decide_eq_true h2
theorem okT_lt {s : List Int} {n : Nat} (h : okT s n = true) {i : Nat} : ∀ {k : Nat}, i < k -> k < n -> el s i < el s k
 | 0, hi, _ => absurd hi (Nat.not_lt_zero _)
 | k + 1, hi, hk => by
  have h1 := okT_next h hk
  by_cases he : i = k
  ·subst he; exact h1
  ·exact Int.lt_trans (okT_lt h (k := k) (by omega) (by omega)) h1
theorem okT_le {s : List Int} {n : Nat} (h : okT s n = true) {i k : Nat} (hi : i <= k) (hk : k < n) : el s i <= el s k := by
 by_cases he : i = k
 ·subst he; exact Int.le_refl _
 ·have := okT_lt h (i := i) (k := k) (by omega) hk; omega
structure OkS (s : List Int) (a b : Int) : Prop where
 len : s.length <= 128
 a0 : 0 <= a /\ a <= 1000
 b0 : 1 <= b /\ b <= 1000
 t : okT s s.length = true
theorem okS_p {s : List Int} {a b : Int} (h : okS s a b = true) : OkS s a b := by
 unfold okS at h
 rw [Bool.and_eq_true, Bool.and_eq_true, Bool.and_eq_true] at h
 exact ⟨of_decide_eq_true h.1.1, of_decide_eq_true h.1.2.1, of_decide_eq_true h.1.2.2, h.2⟩
theorem OkS.at {s : List Int} {a b : Int} (h : OkS s a b) {i : Nat} (hi : i < s.length) : 0 <= el s i /\ el s i <= 60000 := okT_at h.t hi
theorem OkS.lt {s : List Int} {a b : Int} (h : OkS s a b) {i k : Nat} (hi : i < k) (hk : k < s.length) : el s i < el s k := okT_lt h.t hi hk
theorem OkS.le {s : List Int} {a b : Int} (h : OkS s a b) {i k : Nat} (hi : i <= k) (hk : k < s.length) : el s i <= el s k := okT_le h.t hi hk
def spn (s : List Int) (i k : Nat) : Int := el s k - el s i + 1
theorem OkS.spn {s : List Int} {a b : Int} (h : OkS s a b) {i k : Nat} (hi : i <= k) (hk : k < s.length) : 1 <= spn s i k /\ spn s i k <= 60001 := by
 have h1 := h.le hi hk
 have h2 := h.at hk
 have h3 := h.at (i := i) (by omega)
 unfold C.spn; omega
theorem OkS.spn_lt {s : List Int} {a b : Int} (h : OkS s a b) {i k j : Nat} (hkj : k < j) (hj : j < s.length) : C.spn s i k < C.spn s i j := by
 have h1 := h.lt hkj hj
 unfold C.spn; omega
def seg (y : List Int) (i : Nat) : Nat -> Int
 | 0 => 0
 | k + 1 => seg y i k + el y (i + k)
def badR (s y : List Int) (a b : Int) (i : Nat) : Nat -> Bool
 | 0 => false
 | k + 1 => badR s y a b i k || (decide (spn s i (i + k) <= b) && decide (seg y i (k + 1) > a + spn s i (i + k)))
def badA (s y : List Int) (a b : Int) : Nat -> Bool
 | 0 => false
 | i + 1 => badA s y a b i || badR s y a b i (s.length - i)
def inY (x : Int) : Bool := btB x 0 1048576
def prF (s y : List Int) (a b : Int) : Int × Int :=
 if okS s a b then (if y.length = s.length then (if y.all inY then (if badA s y a b s.length then (0, 85) else (seg y 0 y.length, 0)) else (0, 85)) else (0, 85)) else (0, 84)
abbrev Rst := Int × Int × Nat
def pk (s : List Int) (a b : Int) (G : Nat -> Rst) (i : Nat) : Nat -> Rst
 | 0 => (0, 0, 0)
 | j + 1 =>
  if spn s i (i + j) <= b /\ (j = 0 ∨ a + spn s i (i + j) + (G (i + j + 1)).1 < (pk s a b G i j).1 ∨ (a + spn s i (i + j) + (G (i + j + 1)).1 = (pk s a b G i j).1 /\ 1 + (G (i + j + 1)).2.1 < (pk s a b G i j).2.1))
  then (a + spn s i (i + j) + (G (i + j + 1)).1, 1 + (G (i + j + 1)).2.1, i + j) else pk s a b G i j
def tb (s : List Int) (a b : Int) : Nat -> Nat -> Rst
 | 0, _ => (0, 0, 0)
 | m + 1, i => if i + (m + 1) = s.length then pk s a b (tb s a b m) i (m + 1) else tb s a b m i
def bs (s : List Int) (a b : Int) (i : Nat) : Rst := tb s a b s.length i
theorem pk_congr {s : List Int} {a b : Int} {G G' : Nat -> Rst} {i : Nat} : ∀ {j : Nat}, (∀ t, i < t -> t <= i + j -> G t = G' t) -> pk s a b G i j = pk s a b G' i j
 | 0, _ => rfl
 | j + 1, h => by
  have ih := pk_congr (s := s) (a := a) (b := b) (j := j) (fun t h1 h2 => h t h1 (by omega))
  unfold pk
  rw [ih, h (i + j + 1) (by omega) (by omega)]
theorem tb_stay {s : List Int} {a b : Int} {i : Nat} : ∀ {m d : Nat}, s.length <= i + m -> tb s a b (m + d) i = tb s a b m i
 | m, 0, h => rfl
 | m, d + 1, h => by
  have ih := tb_stay (s := s) (a := a) (b := b) (i := i) (m := m) (d := d) h
  show (if i + (m + d + 1) = s.length then _ else tb s a b (m + d) i) = _
  rw [if_neg (by omega), ih]
theorem tb_bs {s : List Int} {a b : Int} {i m : Nat} (h : s.length <= i + m) (hm : m <= s.length) : tb s a b m i = bs s a b i := by
 unfold bs
 rw [show s.length = m + (s.length - m) from by omega]
 exact (tb_stay h).symm
theorem bs_pk {s : List Int} {a b : Int} {i : Nat} (h : i < s.length) : bs s a b i = pk s a b (bs s a b) i (s.length - i) := by
 obtain ⟨m, hm⟩ : ∃ m, s.length = i + (m + 1) := ⟨s.length - i - 1, by omega⟩
 rw [<- tb_bs (m := m + 1) (by omega) (by omega), show s.length - i = m + 1 from by omega]
 show (if i + (m + 1) = s.length then _ else _) = _
 rw [if_pos hm.symm]
 exact pk_congr fun t h1 h2 => tb_bs (by omega) (by omega)
theorem bs_end {s : List Int} {a b : Int} {i : Nat} (h : s.length <= i) : bs s a b i = (0, 0, 0) := by
 rw [<- tb_bs (m := 0) (by omega) (by omega)]; rfl
theorem pk_le {s : List Int} {a b : Int} {G : Nat -> Rst} {i : Nat} : ∀ {n j : Nat}, j < n -> spn s i (i + j) <= b -> (pk s a b G i n).1 <= a + spn s i (i + j) + (G (i + j + 1)).1
 | 0, j, h, _ => absurd h (Nat.not_lt_zero _)
 | n + 1, j, h, hb => by
  by_cases he : j = n
  ·subst he
   unfold pk
   split
   ·exact Int.le_refl _
   ·rename_i hc
    have := fun hh => hc ⟨hb, hh⟩
    omega
  ·have ih := pk_le (s := s) (a := a) (b := b) (G := G) (i := i) (n := n) (j := j) (by omega) hb
   unfold pk
   split
   ·rename_i hc
    show _ <= _
    dsimp only
    omega
   ·exact ih
theorem pk_at {s : List Int} {a b : Int} {G : Nat -> Rst} {i : Nat} (hs : spn s i i <= b) : ∀ {n : Nat}, 0 < n -> ∃ j, j < n /\ spn s i (i + j) <= b /\ pk s a b G i n = (a + spn s i (i + j) + (G (i + j + 1)).1, 1 + (G (i + j + 1)).2.1, i + j)
 | 0, h => absurd h (Nat.lt_irrefl _)
 | n + 1, _ => by
  unfold pk
  split
  ·rename_i hc
   exact ⟨n, by omega, hc.1, rfl⟩
  ·rename_i hc
   by_cases h0 : n = 0
   ·subst h0; exact absurd ⟨hs, .inl rfl⟩ hc
   ·obtain ⟨j, h1, h2, h3⟩ := pk_at (a := a) (G := G) hs (n := n) (by omega)
    exact ⟨j, by omega, h2, h3⟩
theorem pk_bd {s : List Int} {a b : Int} {G : Nat -> Rst} {i : Nat} {c d : Int} (h : OkS s a b) (hG : ∀ t, 0 <= (G t).1 /\ (G t).1 <= c /\ 0 <= (G t).2.1 /\ (G t).2.1 <= d) : ∀ {n : Nat}, i + n <= s.length -> 0 <= (pk s a b G i n).1 /\ (pk s a b G i n).1 <= 2000 + c /\ 0 <= (pk s a b G i n).2.1 /\ (pk s a b G i n).2.1 <= 1 + d
 | 0, _ => by have := hG 0; unfold pk; dsimp only; omega
 | n + 1, hn => by
  have ih := pk_bd (a := a) (b := b) (G := G) (i := i) (c := c) (d := d) h hG (n := n) (by omega)
  have h1 := hG (i + n + 1)
  have h2 := h.spn (i := i) (k := i + n) (by omega) (by omega)
  have h3 := h.a0
  have h4 := h.b0
  unfold pk
  split
  ·rename_i hc
   have := hc.1
   dsimp only
   omega
  ·exact ih
theorem tb_bd {s : List Int} {a b : Int} (h : OkS s a b) : ∀ (m : Nat) (i : Nat), 0 <= (tb s a b m i).1 /\ (tb s a b m i).1 <= 2000 * m /\ 0 <= (tb s a b m i).2.1 /\ (tb s a b m i).2.1 <= m
 | 0, i => by unfold tb; dsimp only; omega
 | m + 1, i => by
  unfold tb
  split
  ·rename_i hc
   have := pk_bd (i := i) h (tb_bd h m) (n := m + 1) (by omega)
   omega
  ·have := tb_bd h m i
   omega
theorem pk_far {s : List Int} {a b : Int} {G : Nat -> Rst} {i k : Nat} (h : OkS s a b) (hl : spn s i (i + k) > b) : ∀ {n : Nat}, k <= n -> i + n <= s.length -> pk s a b G i n = pk s a b G i k
 | 0, hn, _ => by obtain rfl : k = 0 := by omega
                  rfl
 | n + 1, hn, hs => by
  by_cases he : k = n + 1
  ·subst he; rfl
  ·have h1 := pk_far (a := a) (G := G) h hl (n := n) (by omega) (by omega)
   have h2 : spn s i (i + k) <= spn s i (i + n) := by
    by_cases hkn : k = n
    ·subst hkn; exact Int.le_refl _
    ·exact Int.le_of_lt (h.spn_lt (i := i) (k := i + k) (j := i + n) (by omega) (by omega))
   rw [<- h1]
   show (if _ then _ else _) = _
   rw [if_neg (fun hc => by have := hc.1; omega)]
theorem spn_self (s : List Int) (i : Nat) : spn s i i = 1 := by unfold spn; omega
theorem bs_le {s : List Int} {a b : Int} {i k : Nat} (hi : i <= k) (hk : k < s.length) (hb : spn s i k <= b) : (bs s a b i).1 <= a + spn s i k + (bs s a b (k + 1)).1 := by
 rw [bs_pk (i := i) (by omega)]
 have := pk_le (s := s) (a := a) (b := b) (G := bs s a b) (i := i) (n := s.length - i) (j := k - i) (by omega) (by rw [show i + (k - i) = k from by omega]; exact hb)
 rw [show i + (k - i) = k from by omega] at this
 exact this
theorem bs_at {s : List Int} {a b : Int} (h : OkS s a b) {i : Nat} (hi : i < s.length) : ∃ k, i <= k /\ k < s.length /\ spn s i k <= b /\ bs s a b i = (a + spn s i k + (bs s a b (k + 1)).1, 1 + (bs s a b (k + 1)).2.1, k) := by
 obtain ⟨j, h1, h2, h3⟩ := pk_at (s := s) (a := a) (b := b) (G := bs s a b) (i := i) (by rw [spn_self]; exact h.b0.1) (n := s.length - i) (by omega)
 exact ⟨i + j, by omega, by omega, h2, by rw [bs_pk hi, h3]⟩
def fol (s : List Int) (G : Nat -> Rst) : Nat -> Nat -> List (Int × Int)
 | 0, _ => []
 | f + 1, i => if i < s.length then (el s i, el s (G i).2.2) :: fol s G f ((G i).2.2 + 1) else []
def plan (s : List Int) (a b : Int) (i : Nat) : List (Int × Int) := fol s (bs s a b) (s.length - i) i
theorem fol_fuel {s : List Int} {G : Nat -> Rst} (hG : ∀ i, i < s.length -> i <= (G i).2.2) : ∀ (f f' i : Nat), s.length - i <= f -> s.length - i <= f' -> fol s G f i = fol s G f' i
 | 0, 0, i, _, _ => rfl
 | 0, f' + 1, i, h1, _ => by unfold fol; rw [if_neg (by omega)]
 | f + 1, 0, i, _, h2 => by unfold fol; rw [if_neg (by omega)]
 | f + 1, f' + 1, i, h1, h2 => by
  unfold fol
  split
  ·rename_i hc
   have := hG i hc
   rw [fol_fuel hG f f' _ (by omega) (by omega)]
  ·rfl
theorem bs_to {s : List Int} {a b : Int} (h : OkS s a b) (i : Nat) (hi : i < s.length) : i <= (bs s a b i).2.2 /\ (bs s a b i).2.2 < s.length := by
 obtain ⟨k, h1, h2, _, h3⟩ := bs_at h hi
 rw [h3]; exact ⟨h1, h2⟩
theorem plan_end {s : List Int} {a b : Int} {i : Nat} (hi : s.length <= i) : plan s a b i = [] := by
 unfold plan; rw [show s.length - i = 0 from by omega]; rfl
theorem plan_at {s : List Int} {a b : Int} (h : OkS s a b) {i : Nat} (hi : i < s.length) : plan s a b i = (el s i, el s (bs s a b i).2.2) :: plan s a b ((bs s a b i).2.2 + 1) := by
 unfold plan
 obtain ⟨m, hm⟩ : ∃ m, s.length - i = m + 1 := ⟨s.length - i - 1, by omega⟩
 rw [hm]
 show (if i < s.length then _ else _) = _
 rw [if_pos hi]
 have := bs_to h i hi
 rw [fol_fuel (fun i hi => (bs_to h i hi).1) m _ _ (by omega) (Nat.le_refl _)]
theorem plan_len {s : List Int} {a b : Int} (h : OkS s a b) : ∀ (n i : Nat), s.length - i <= n -> ((plan s a b i).length : Int) = (bs s a b i).2.1
 | n, i, hn => by
  by_cases hi : s.length <= i
  ·rw [plan_end hi, bs_end hi]; rfl
  ·match n with
   | 0 => omega
   | n + 1 =>
    obtain ⟨k, h1, h2, h3, h4⟩ := bs_at h (i := i) (by omega)
    rw [plan_at h (by omega), h4]
    have := plan_len h n (k + 1) (by omega)
    rw [List.length_cons]
    dsimp only
    omega
def agF (s : List Int) (a b : Int) : List (Int × Int) × Int × Int := if okS s a b then (plan s a b 0, (bs s a b 0).1, 0) else ([], 0, 84)
def many (p : Int × Int) : Int := p.2 - p.1 + 1
def Pl (b : Int) (v : Int) : List (Int × Int) -> Prop
 | [] => True
 | p :: l => (1 <= many p /\ many p <= b) /\ v < p.1 /\ Pl b p.2 l
def cst (a : Int) : List (Int × Int) -> Int
 | [] => 0
 | p :: l => a + many p + cst a l
def Cov8 (x : Int) (l : List (Int × Int)) : Prop := ∃ p ∈ l, p.1 <= x /\ x <= p.2
theorem cst_0 {a b : Int} (ha : 0 <= a) : ∀ {l : List (Int × Int)} {v : Int}, Pl b v l -> 0 <= cst a l
 | [], _, _ => by unfold cst; omega
 | p :: l, v, h => by
  have := cst_0 ha h.2.2
  have := h.1
  unfold cst; omega
theorem Pl.behind {b : Int} : ∀ {l : List (Int × Int)} {v : Int}, Pl b v l -> ∀ p ∈ l, v < p.1
 | [], _, _, p, hp => by cases hp
 | q :: l, v, h, p, hp => by
  rcases List.mem_cons.1 hp with rfl | hp
  ·exact h.2.1
  ·have := h.2.2.behind p hp
   have := h.1
   have := h.2.1
   unfold many at *
   omega
theorem last_to {s : List Int} {v : Int} {i : Nat} : ∀ (m : Nat), i < s.length -> s.length - i <= m -> el s i <= v -> ∃ k, i <= k /\ k < s.length /\ el s k <= v /\ ∀ j, k < j -> j < s.length -> (j = k + 1 -> v < el s j)
 | 0, h, hm, _ => by omega
 | m + 1, h, hm, hv => by
  by_cases hl : i + 1 < s.length
  ·by_cases hv2 : el s (i + 1) <= v
   ·obtain ⟨k, h1, h2⟩ := last_to m hl (by omega) hv2
    exact ⟨k, by omega, h2⟩
   ·exact ⟨i, Nat.le_refl _, h, hv, fun j h1 h2 he => by subst he; omega⟩
  ·exact ⟨i, Nat.le_refl _, h, hv, fun j h1 h2 he => by omega⟩
theorem bs_least {s : List Int} {a b : Int} (h : OkS s a b) : ∀ (l : List (Int × Int)) (i : Nat) (v : Int), Pl b v l -> (∀ k, i <= k -> k < s.length -> Cov8 (el s k) l) -> (bs s a b i).1 <= cst a l
 | l, i, v, hl, hc => by
  by_cases hi : s.length <= i
  ·rw [bs_end hi]; exact cst_0 h.a0.1 hl
  ·match l with
   | [] =>
    obtain ⟨p, hp, _⟩ := hc i (Nat.le_refl _) (by omega)
    cases hp
   | p :: l =>
    have ha := h.a0
    obtain ⟨hm, hv, hl2⟩ := hl
    by_cases hp1 : p.1 <= el s i /\ el s i <= p.2
    ·obtain ⟨k, h1, h2, h3, h4⟩ := last_to (s := s) (v := p.2) (i := i) s.length (by omega) (by omega) hp1.2
     have hsp : spn s i k <= many p := by unfold spn many; omega
     have ih := bs_least h l (k + 1) p.2 hl2 (fun j hj1 hj2 => by
      obtain ⟨q, hq, hq2⟩ := hc j (by omega) hj2
      rcases List.mem_cons.1 hq with rfl | hq
      ·have h5 := h4 (k + 1) (by omega) (by omega) rfl
       have := h.le (i := k + 1) (k := j) hj1 hj2
       omega
      ·exact ⟨q, hq, hq2⟩)
     have := bs_le (a := a) h1 h2 (Int.le_trans hsp hm.2)
     unfold cst
     omega
    ·have ih := bs_least h l i p.2 hl2 (fun j hj1 hj2 => by
      obtain ⟨q, hq, hq2⟩ := hc j hj1 hj2
      rcases List.mem_cons.1 hq with rfl | hq
      ·obtain ⟨r, hr, hr2⟩ := hc i (Nat.le_refl _) (by omega)
       have hle := h.le hj1 hj2
       rcases List.mem_cons.1 hr with rfl | hr
       ·exact absurd hr2 hp1
       ·have := hl2.behind r hr
        omega
      ·exact ⟨q, hq, hq2⟩)
     unfold cst
     omega
theorem plan_ok {s : List Int} {a b : Int} (h : OkS s a b) : ∀ (n i : Nat) (v : Int), s.length - i <= n -> (i < s.length -> v < el s i) -> Pl b v (plan s a b i)
 | n, i, v, hn, hv => by
  by_cases hi : s.length <= i
  ·rw [plan_end hi]; trivial
  ·match n with
   | 0 => omega
   | n + 1 =>
    obtain ⟨k, h1, h2, h3, h4⟩ := bs_at h (i := i) (by omega)
    rw [plan_at h (by omega), h4]
    have := h.spn h1 h2
    exact ⟨⟨by show 1 <= el s k - el s i + 1; exact this.1, h3⟩, hv (by omega), plan_ok h n (k + 1) _ (by omega) (fun hk => h.lt (Nat.lt_succ_self k) hk)⟩
theorem plan_cov {s : List Int} {a b : Int} (h : OkS s a b) : ∀ (n i : Nat), s.length - i <= n -> ∀ k, i <= k -> k < s.length -> Cov8 (el s k) (plan s a b i)
 | n, i, hn, k, hk, hks => by
  match n with
  | 0 => omega
  | n + 1 =>
   obtain ⟨e, h1, h2, h3, h4⟩ := bs_at h (i := i) (by omega)
   rw [plan_at h (by omega), h4]
   by_cases hke : k <= e
   ·exact ⟨_, List.mem_cons_self, h.le hk hks, h.le hke h2⟩
   ·obtain ⟨q, hq, hq2⟩ := plan_cov h n (e + 1) (by omega) k (by omega) hks
    exact ⟨q, List.mem_cons_of_mem _ hq, hq2⟩
theorem plan_cst {s : List Int} {a b : Int} (h : OkS s a b) : ∀ (n i : Nat), s.length - i <= n -> cst a (plan s a b i) = (bs s a b i).1
 | n, i, hn => by
  by_cases hi : s.length <= i
  ·rw [plan_end hi, bs_end hi]; rfl
  ·match n with
   | 0 => omega
   | n + 1 =>
    obtain ⟨e, h1, h2, h3, h4⟩ := bs_at h (i := i) (by omega)
    rw [plan_at h (by omega), h4]
    have := plan_cst h n (e + 1) (by omega)
    unfold cst
    rw [this]
    rfl
def mn (s : List Int) (a b : Int) (G : Nat -> Int) (k : Nat) : Nat -> Int
 | 0 => a + spn s k k + G k
 | j + 1 => if spn s (k - 1 - j) k <= b then iMin (mn s a b G k j) (a + spn s (k - 1 - j) k + G (k - 1 - j)) else mn s a b G k j
def ls (s : List Int) (a b : Int) : Nat -> Nat -> Int
 | 0, _ => 0
 | m + 1, i => if i = m + 1 then mn s a b (ls s a b m) m m else ls s a b m i
def lst (s : List Int) (a b : Int) (i : Nat) : Int := ls s a b i i
def prices (s : List Int) (a b : Int) : List Int := (List.range s.length).map fun k => lst s a b (k + 1) - lst s a b k
theorem bs_less {s s' : List Int} {a b a' b' : Int} (h : OkS s a b) (h' : OkS s' a' b') (hs : ∀ k, k < s'.length -> ∃ j, j < s.length /\ el s j = el s' k) (ha : a' <= a) (hb : b <= b') : (bs s' a' b' 0).1 <= (bs s a b 0).1 := by
 have hp := plan_ok h s.length 0 (-1) (by omega) (fun h0 => by have := h.at h0; omega)
 have hc := plan_cov h s.length 0 (by omega)
 have hcs := plan_cst h s.length 0 (by omega)
 have hmon : ∀ {l : List (Int × Int)} {v : Int}, Pl b v l -> Pl b' v l := fun {l} => by
  induction l with
  | nil => intro v _; trivial
  | cons p l ih => intro v hl; exact ⟨⟨hl.1.1, Int.le_trans hl.1.2 hb⟩, hl.2.1, ih hl.2.2⟩
 have hcm : ∀ (l : List (Int × Int)), cst a' l <= cst a l := fun l => by
  induction l with
  | nil => exact Int.le_refl _
  | cons p l ih => unfold cst; omega
 have := bs_least h' (plan s a b 0) 0 (-1) (hmon hp) (fun k _ hk => by
  obtain ⟨j, hj, he⟩ := hs k hk
  rw [<- he]; exact hc j (by omega) hj)
 have := hcm (plan s a b 0)
 omega
def pe (l : List (Int × Int)) (i : Nat) : Int × Int := l.getD i (0, 0)
def mW (p : Int × Int) : Int := IntKind.wrap .i64 (IntKind.wrap .i64 (p.2 - p.1) + 1)
def okC (b : Int) (l : List (Int × Int)) : Nat -> Bool
 | 0 => true
 | k + 1 => okC b l k && (btB (mW (pe l k)) 1 b && (decide (k = 0) || decide ((pe l (k - 1)).2 < (pe l k).1)))
def sumC (a : Int) (l : List (Int × Int)) : Nat -> Int
 | 0 => 0
 | k + 1 => sumC a l k + (a + mW (pe l k))
def covB (x : Int) (l : List (Int × Int)) : Nat -> Bool
 | 0 => false
 | j + 1 => covB x l j || btB x (pe l j).1 (pe l j).2
def allC (s : List Int) (l : List (Int × Int)) : Nat -> Bool
 | 0 => true
 | i + 1 => allC s l i && covB (el s i) l l.length
def costF (s : List Int) (a b : Int) (l : List (Int × Int)) : Int × Bool := if okC b l l.length && allC s l s.length then (sumC a l l.length, true) else (0, false)
def Sml (l : List (Int × Int)) : Prop := ∀ p ∈ l, (0 <= p.1 /\ p.1 <= 60000) /\ 0 <= p.2 /\ p.2 <= 60000
def fewL (s : List Int) (k : Nat) : List Int := s.take k ++ s.drop (k + 1)
theorem few_len {s : List Int} {k : Nat} (h : k < s.length) : (fewL s k).length + 1 = s.length := by
 unfold fewL
 rw [List.length_append, List.length_take, List.length_drop]
 omega
theorem few_el {s : List Int} {k i : Nat} (h : k < s.length) : el (fewL s k) i = if i < k then el s i else el s (i + 1) := by
 unfold fewL el
 rw [List.getD_eq_getElem?_getD, List.getD_eq_getElem?_getD, List.getD_eq_getElem?_getD, List.getElem?_append, List.length_take]
 split
 ·rename_i hc
  rw [if_pos (by omega), List.getElem?_take, if_pos (by omega)]
 ·rename_i hc
  rw [if_neg (by omega), List.getElem?_drop]
  congr 2
  omega
theorem okT_of {s : List Int} : ∀ {n : Nat}, (∀ i, i < n -> 0 <= el s i /\ el s i <= 60000) -> (∀ i, i + 1 < n -> el s i < el s (i + 1)) -> okT s n = true
 | 0, _, _ => rfl
 | n + 1, h1, h2 => by
  show (okT s n && (btB (el s n) 0 60000 && (decide (n = 0) || decide (el s (n - 1) < el s n)))) = true
  rw [okT_of (fun i hi => h1 i (by omega)) (fun i hi => h2 i (by omega)), show btB (el s n) 0 60000 = true from decide_eq_true (h1 n (by omega))]
  match n with
  | 0 => rfl
  | n + 1 => rw [show decide (el s (n + 1 - 1) < el s (n + 1)) = true from decide_eq_true (h2 n (by omega)), Bool.or_true]; rfl
theorem few_ok {s : List Int} {a b : Int} (h : OkS s a b) {k : Nat} (hk : k < s.length) : OkS (fewL s k) a b := by
 have hl := few_len hk
 refine ⟨by have := h.len; omega, h.a0, h.b0, okT_of (fun i hi => ?_) (fun i hi => ?_)⟩
 ·rw [few_el hk]
  split
  ·exact h.at (by omega)
  ·exact h.at (by omega)
 ·rw [few_el hk, few_el hk]
  split
  ·split
   ·exact h.lt (by omega) (by omega)
   ·exact h.lt (by omega) (by omega)
  ·rw [if_neg (by omega)]
   exact h.lt (by omega) (by omega)
theorem few_in {s : List Int} {k : Nat} (hk : k < s.length) : ∀ i, i < (fewL s k).length -> ∃ j, j < s.length /\ el s j = el (fewL s k) i := fun i hi => by
 have hl := few_len hk
 rw [few_el hk]
 split
 ·exact ⟨i, by omega, rfl⟩
 ·exact ⟨i + 1, by omega, rfl⟩
theorem OkS.s {s : List Int} {a b : Int} (h : OkS s a b) : okS s a b = true := by
 unfold okS btB
 rw [decide_eq_true h.len, decide_eq_true h.a0, decide_eq_true h.b0, h.t]; rfl
def rst8 (n m : Int) : Int := if m < 1 then 0 else (if Int.tmod n m < 0 then Int.tmod n m + m else Int.tmod n m)
theorem rst8_bd {n m : Int} (h : 1 <= m) : 0 <= rst8 n m /\ rst8 n m < m := by
 unfold rst8
 rw [if_neg (by omega)]
 have h1 := Int.tmod_lt_of_pos n (show 0 < m by omega)
 have h2 := Int.lt_tmod_of_pos n (show 0 < m by omega)
 split <;> omega
theorem few_less {s : List Int} {a b : Int} (h : OkS s a b) {k : Nat} (hk : k < s.length) : (bs (fewL s k) a b 0).1 <= (bs s a b 0).1 :=
 bs_less h (few_ok h hk) (few_in hk) (Int.le_refl _) (Int.le_refl _)
theorem bs_nil {a b : Int} (i : Nat) : bs [] a b i = (0, 0, 0) := bs_end (Nat.zero_le _)
end Go.Proofs.YtlfkmgpngkbhpaaGreatDoor.C
end
