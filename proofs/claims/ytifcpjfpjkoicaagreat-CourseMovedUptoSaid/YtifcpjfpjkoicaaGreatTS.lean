/-
 Part of the proof of CourseMovedUpto: what functions of the program and of the statement come to, walked by the rules. No condition beyond those in each theorem.
-/
import Derived.Test.YtifcpjfpjkoicaaGreatPvD
section
open PvL
set_option linter.unusedVariables false
namespace Go.Proofs.YtifcpjfpjkoicaaGreat.C
abbrev Bd := Int × Int
abbrev Rg := Bd × Bd × Bd × Bd
def rowOf (r : Rg) (x : Int) : Int × Int × Int := (x, iMax (iMax r.2.1.1 (r.2.2.1.1 - x)) (x - r.2.2.2.2), iMin (iMin r.2.1.2 (r.2.2.1.2 - x)) (x - r.2.2.2.1))
abbrev okRow (t : Int × Int × Int) : Bool := decide (t.2.1 <= t.2.2)
def rowsFrom (r : Rg) (k n : Nat) : List (Int × Int × Int) := ((List.range n).map fun j => rowOf r (r.1.1 + ((k + j : Nat) : Int))).filter okRow
def rowsK (r : Rg) (k : Nat) : List (Int × Int × Int) := rowsFrom r 0 k
def rowsN (r : Rg) : Nat := (r.1.2 + 1 - r.1.1).toNat
def rowsL (r : Rg) : List (Int × Int × Int) := rowsK r (rowsN r)
theorem rowsFrom_succ (r : Rg) (k n : Nat) : rowsFrom r k (n + 1) = (if okRow (rowOf r (r.1.1 + (k : Int))) then [rowOf r (r.1.1 + (k : Int))] else []) ++ rowsFrom r (k + 1) n := by
 unfold rowsFrom
 rw [List.range_succ_eq_map, List.map_cons, List.map_map, List.filter_cons]
 have e : ((fun j => rowOf r (r.1.1 + ((k + j : Nat) : Int))) ∘ Nat.succ) = fun j => rowOf r (r.1.1 + ((k + 1 + j : Nat) : Int)) := by
  funext j
  show rowOf r (r.1.1 + ((k + (j + 1) : Nat) : Int)) = _
  rw [show k + (j + 1) = k + 1 + j by omega]
 rw [e, Nat.add_zero]
 by_cases h : okRow (rowOf r (r.1.1 + (k : Int))) = true
 ·rw [if_pos h, if_pos h]; rfl
 ·rw [if_neg h, if_neg h]; rfl
theorem rowsK_succ (r : Rg) (k : Nat) : rowsK r (k + 1) = rowsK r k ++ (if okRow (rowOf r (r.1.1 + (k : Int))) then [rowOf r (r.1.1 + (k : Int))] else []) := by
 unfold rowsK rowsFrom
 rw [List.range_succ, List.map_append, List.filter_append]
 congr 1
 simp only [List.map_cons, List.map_nil, List.filter_cons, List.filter_nil, Nat.zero_add]
theorem rowsK_split (r : Rg) : ∀ (n k : Nat), rowsK r (k + n) = rowsK r k ++ rowsFrom r k n
 | 0, k => by rw [Nat.add_zero]; unfold rowsFrom; simp
 | n + 1, k => by rw [show k + (n + 1) = (k + 1) + n by omega, rowsK_split r n (k + 1), rowsK_succ, List.append_assoc, rowsFrom_succ]
theorem rowsK_get (r : Rg) {k n : Nat} (h : k < n) (hok : okRow (rowOf r (r.1.1 + (k : Int))) = true) : (rowsK r n)[(rowsK r k).length]? = some (rowOf r (r.1.1 + (k : Int))) := by
 obtain ⟨m, rfl⟩ : ∃ m, n = k + (m + 1) := ⟨n - k - 1, by omega⟩
 rw [rowsK_split, List.getElem?_append_right (Nat.le_refl _), Nat.sub_self, rowsFrom_succ, if_pos hok]; rfl
def ends1 (t : Int × Int × Int) : List (Int × Int) := if t.2.1 = t.2.2 then [(t.1, t.2.1)] else [(t.1, t.2.1), (t.1, t.2.2)]
def endsOf (l : List (Int × Int × Int)) : List (Int × Int) := l.flatMap ends1
def endsL (r : Rg) : List (Int × Int) := endsOf (rowsL r)
theorem endsOf_split (l : List (Int × Int × Int)) {k : Nat} {t : Int × Int × Int} (h : l[k]? = some t) : endsOf l = endsOf (l.take k) ++ (ends1 t ++ endsOf (l.drop (k + 1))) := by
 obtain ⟨hk, rfl⟩ := List.getElem?_eq_some_iff.1 h
 unfold endsOf
 conv => lhs; rw [<- List.take_append_drop k l, List.flatMap_append, List.drop_eq_getElem_cons hk]
 rfl
theorem endsOf_succ (l : List (Int × Int × Int)) {k : Nat} {t : Int × Int × Int} (h : l[k]? = some t) : endsOf (l.take (k + 1)) = endsOf (l.take k) ++ ends1 t := by
 obtain ⟨hk, rfl⟩ := List.getElem?_eq_some_iff.1 h
 unfold endsOf
 rw [List.take_succ_eq_append_getElem hk, List.flatMap_append]
 simp
def ofP (p : Int × Int) : Rg := ((p.1, p.1), (p.2, p.2), (p.1 + p.2, p.1 + p.2), (p.1 - p.2, p.1 - p.2))
def spanB (a b : Bd) : Bd := (iMin a.1 b.1, iMax a.2 b.2)
def plusB (a b : Bd) : Bd := (a.1 + b.1, a.2 + b.2)
def map4 (f : Bd -> Bd -> Bd) (r q : Rg) : Rg := (f r.1 q.1, f r.2.1 q.2.1, f r.2.2.1 q.2.2.1, f r.2.2.2 q.2.2.2)
def zRg : Rg := ((0, 0), (0, 0), (0, 0), (0, 0))
def hstep (o : Option Rg) (p : Int × Int) : Option Rg := some (map4 spanB (o.getD (ofP p)) (ofP p))
def hullO (o : Option Rg) (l : List (Int × Int)) : Option Rg := l.foldl hstep o
theorem hullO_take (o : Option Rg) (l : List (Int × Int)) {k : Nat} {p : Int × Int} (h : l[k]? = some p) : hullO o (l.take (k + 1)) = hstep (hullO o (l.take k)) p := by
 obtain ⟨hk, rfl⟩ := List.getElem?_eq_some_iff.1 h
 unfold hullO
 rw [List.take_succ_eq_append_getElem hk, List.foldl_append]; rfl
def Sm (B : Int) (r : Rg) : Prop := (-B <= r.1.1 /\ r.1.1 <= B) /\ (-B <= r.1.2 /\ r.1.2 <= B) /\ (-B <= r.2.1.1 /\ r.2.1.1 <= B) /\ (-B <= r.2.1.2 /\ r.2.1.2 <= B) /\ (-B <= r.2.2.1.1 /\ r.2.2.1.1 <= B) /\ (-B <= r.2.2.1.2 /\ r.2.2.1.2 <= B) /\ (-B <= r.2.2.2.1 /\ r.2.2.2.1 <= B) /\ (-B <= r.2.2.2.2 /\ r.2.2.2.2 <= B)
abbrev SmP (B : Int) (p : Int × Int) : Prop := (-B <= p.1 /\ p.1 <= B) /\ (-B <= p.2 /\ p.2 <= B)
theorem Sm.mono {B C : Int} {r : Rg} (h : Sm B r) (hc : B <= C) : Sm C r := by unfold Sm at *; omega
theorem SmP.mono {B C : Int} {p : Int × Int} (h : SmP B p) (hc : B <= C) : SmP C p := by unfold SmP at *; omega
theorem mem_rows {r : Rg} {t : Int × Int × Int} (h : t ∈ rowsL r) : ∃ x, r.1.1 <= x /\ x <= r.1.2 /\ t = rowOf r x /\ t.2.1 <= t.2.2 := by
 unfold rowsL rowsK rowsFrom at h
 rw [List.mem_filter] at h
 obtain ⟨h1, h2⟩ := h
 obtain ⟨j, hj, rfl⟩ := List.mem_map.1 h1
 have hj := List.mem_range.1 hj
 unfold rowsN at hj
 exact ⟨_, by omega, by omega, rfl, of_decide_eq_true h2⟩
theorem row_sm {B : Int} {r : Rg} (h : Sm B r) {x : Int} (h1 : r.1.1 <= x) (h2 : x <= r.1.2) : (-B <= (rowOf r x).1 /\ (rowOf r x).1 <= B) /\ (-(2 * B) <= (rowOf r x).2.1 /\ (rowOf r x).2.1 <= 2 * B) /\ (-(2 * B) <= (rowOf r x).2.2 /\ (rowOf r x).2.2 <= 2 * B) := by
 unfold Sm at h
 unfold rowOf iMax iMin
 dsimp only
 omega
theorem ends_sm {B : Int} {r : Rg} (h : Sm B r) {q : Int × Int} (hq : q ∈ endsL r) : SmP (2 * B) q := by
 unfold endsL endsOf at hq
 obtain ⟨t, ht, hq⟩ := List.mem_flatMap.1 hq
 obtain ⟨x, h1, h2, rfl, h3⟩ := mem_rows ht
 have := row_sm h h1 h2
 have hB : 0 <= B := by unfold Sm at h; omega
 unfold ends1 at hq
 unfold SmP
 split at hq
 ·obtain rfl := List.mem_singleton.1 hq
  omega
 ·rcases List.mem_cons.1 hq with rfl | hq
  ·omega
  ·obtain rfl := List.mem_singleton.1 hq
   omega
theorem hstep_sm {B : Int} {o : Option Rg} (ho : ∀ r, o = some r -> Sm (2 * B) r) {p : Int × Int} (hp : SmP B p) (r : Rg) (hr : hstep o p = some r) : Sm (2 * B) r := by
 cases hr
 unfold SmP at hp
 have h1 : Sm (2 * B) (ofP p) := by unfold Sm ofP; dsimp only; omega
 have h2 : Sm (2 * B) (o.getD (ofP p)) := by
  cases o with
  | none => exact h1
  | some r => exact ho r rfl
 generalize o.getD (ofP p) = a at h2
 generalize ofP p = b at h1
 unfold Sm at *
 unfold map4 spanB iMin iMax
 dsimp only
 omega
theorem hullO_sm {B : Int} : ∀ (l : List (Int × Int)) (o : Option Rg), (∀ r, o = some r -> Sm (2 * B) r) -> (∀ p ∈ l, SmP B p) -> ∀ r, hullO o l = some r -> Sm (2 * B) r
 | [], o, ho, _, r, hr => ho r hr
 | p :: l, o, ho, hl, r, hr => hullO_sm l (hstep o p) (fun r hr => hstep_sm ho (hl p List.mem_cons_self) r hr) (fun q hq => hl q (List.mem_cons_of_mem _ hq)) r hr
theorem hull_sm {B : Int} (l : List (Int × Int)) (hl : ∀ p ∈ l, SmP B p) (hB : 0 <= B) : Sm (2 * B) ((hullO none l).getD zRg) := by
 cases h : hullO none l with
 | none => unfold Sm zRg; dsimp only [Option.getD]; omega
 | some r => exact hullO_sm l none (fun r hr => by cases hr) hl r h
def tightO (r : Rg) : Option Rg := hullO none (endsL r)
theorem tight_sm {B : Int} {r : Rg} (h : Sm B r) : Sm (4 * B) ((tightO r).getD zRg) := by
 have hB : 0 <= B := by unfold Sm at h; omega
 have := hull_sm (endsL r) (fun p hp => ends_sm h hp) (by omega : 0 <= 2 * B)
 rw [show 2 * (2 * B) = 4 * B by omega] at this
 exact this
abbrev fitsP (l : Int) (b : Bd) : Prop := -l <= b.1 /\ b.1 <= b.2 /\ b.2 <= l
abbrev RgOk (r : Rg) : Prop := fitsP 32768 r.1 /\ fitsP 32768 r.2.1 /\ fitsP 65536 r.2.2.1 /\ fitsP 65536 r.2.2.2
theorem RgOk.sm {r : Rg} (h : RgOk r) : Sm 65536 r := by unfold Sm; dsimp only [RgOk, fitsP] at h; omega
def tightF (r : Rg) : Rg × Int := if RgOk r then (match tightO r with | some t => (t, 0) | none => (zRg, 4)) else (zRg, 11)
def insideF (r : Rg) : Rg × Int := if fitsP 32768 r.1 /\ fitsP 32768 r.2.1 then (r, 0) else (zRg, 7)
def moveF (r : Rg) (p : Int × Int) : Rg × Int :=
 if RgOk r then (if SmP 65536 p then (match tightO r with | some t => insideF (map4 plusB t (ofP p)) | none => (zRg, 4)) else (zRg, 7)) else (zRg, 11)
def joinF (a b : Rg) : Rg × Int := if RgOk a /\ RgOk b then (match hullO none (endsL a ++ endsL b) with | some h => (h, 0) | none => (zRg, 4)) else (zRg, 11)
def sweptF (r : Rg) (p q : Int × Int) : Rg × Int :=
 if (moveF r p).2 = 0 then (if (moveF r q).2 = 0 then joinF (moveF r p).1 (moveF r q).1 else (zRg, (moveF r q).2)) else (zRg, (moveF r p).2)
theorem joinF_some {a b : Rg} (hok : RgOk a /\ RgOk b) (h : (hullO none (endsL a ++ endsL b)).isSome = true) : joinF a b = ((hullO none (endsL a ++ endsL b)).getD zRg, 0) := by
 unfold joinF
 rw [if_pos hok]
 revert h
 cases hullO none (endsL a ++ endsL b) with
 | none => intro h; cases h
 | some t => intro _; rfl
theorem joinF_none {a b : Rg} (hok : RgOk a /\ RgOk b) (h : (hullO none (endsL a ++ endsL b)).isSome = false) : joinF a b = (zRg, 4) := by
 unfold joinF
 rw [if_pos hok]
 revert h
 cases hullO none (endsL a ++ endsL b) with
 | none => intro _; rfl
 | some t => intro h; cases h
abbrev Pt := Int × Int
abbrev ptc (p : Pt) : List LV := [I p.1, I p.2]
def SlA {α : Type} (sz : Nat) (enc : α -> List LV) (M : Mem) (a : Option (Nat × Nat)) (l : List α) : Prop := l = [] ∨ ∃ i o, a = some (i, o) /\ ∀ k (hk : k < l.length), Rd M i (o + k * sz) sz (enc l[k])
def SlA1 {α : Type} (enc : α -> LV) (M : Mem) (a : Option (Nat × Nat)) (l : List α) : Prop := l = [] ∨ ∃ i o, a = some (i, o) /\ ∀ k (hk : k < l.length), Rd1 M i (o + k * 1) (enc l[k])
theorem SlA.grow {α : Type} {sz : Nat} {enc : α -> List LV} {M M' : Mem} {a : Option (Nat × Nat)} {l : List α} (h : SlA sz enc M a l) (hg : Grow M M') : SlA sz enc M' a l :=
 h.imp id fun ⟨i, o, h1, h2⟩ => ⟨i, o, h1, fun k hk => (h2 k hk).grow hg⟩
theorem SlA1.grow {α : Type} {enc : α -> LV} {M M' : Mem} {a : Option (Nat × Nat)} {l : List α} (h : SlA1 enc M a l) (hg : Grow M M') : SlA1 enc M' a l :=
 h.imp id fun ⟨i, o, h1, h2⟩ => ⟨i, o, h1, fun k hk => (h2 k hk).grow hg⟩
abbrev Pl (x y : Int) : Prop := -32768 <= x /\ x <= 32768 /\ -32768 <= y /\ y <= 32768
abbrev PlP (p : Pt) : Prop := Pl p.1 p.2
def turnP (a b c : Pt) : Int := (b.1 - a.1) * (c.2 - a.2) - (b.2 - a.2) * (c.1 - a.1)
theorem mod_lt' {i n : Nat} (h : 0 < n) : (i + 1) % n < n := Nat.mod_lt _ h
def FieldOk (l : List Pt) : Prop := 3 <= l.length /\ l.length <= 8 /\ (∀ p ∈ l, PlP p) /\
 ∀ (i j : Nat) (hi : i < l.length) (hj : j < l.length), j ≠ i -> j ≠ (i + 1) % l.length -> 0 < turnP l[i] (l[(i + 1) % l.length]'(mod_lt' (by omega))) l[j]
open Classical in
noncomputable def eFd (l : List Pt) : Int := if FieldOk l then 0 else 12
theorem turn_bd {a b c : Pt} (ha : PlP a) (hb : PlP b) (hc : PlP c) : -17179869184 <= (b.1 - a.1) * (c.2 - a.2) /\ (b.1 - a.1) * (c.2 - a.2) <= 17179869184 /\ -17179869184 <= (b.2 - a.2) * (c.1 - a.1) /\ (b.2 - a.2) * (c.1 - a.1) <= 17179869184 := by
 have h1 := mul_bd (a := b.1 - a.1) (b := c.2 - a.2) (A := 65536) (B := 65536) (by dsimp only [PlP, Pl] at *; omega) (by dsimp only [PlP, Pl] at *; omega)
 have h2 := mul_bd (a := b.2 - a.2) (b := c.1 - a.1) (A := 65536) (B := 65536) (by dsimp only [PlP, Pl] at *; omega) (by dsimp only [PlP, Pl] at *; omega)
 omega
def atP (l : List Pt) (k : Nat) : Pt := l.getD k (0, 0)
def sidesL (l : List Pt) : List (Pt × Pt) := (List.range l.length).map fun k => (atP l k, atP l ((k + 1) % l.length))
theorem sidesL_length (l : List Pt) : (sidesL l).length = l.length := by unfold sidesL; rw [List.length_map, List.length_range]
theorem sidesL_get {l : List Pt} {k : Nat} (h : k < l.length) : (sidesL l)[k]? = some (atP l k, atP l ((k + 1) % l.length)) := by
 unfold sidesL
 rw [List.getElem?_map, List.getElem?_range h]; rfl
theorem atP_eq {l : List Pt} {k : Nat} (h : k < l.length) : atP l k = l[k] := by unfold atP; rw [List.getD_eq_getElem?_getD, List.getElem?_eq_getElem h]; rfl
def sideK (q : Pt × Pt) : Int := q.2.1 - q.1.1
def sideN (x : Int) (q : Pt × Pt) : Int := (q.2.1 - q.1.1) * q.1.2 + (q.2.2 - q.1.2) * (x - q.1.1)
def clip1 (x : Int) (t : Int × Int) (q : Pt × Pt) : Int × Int :=
 if 0 < sideK q then (iMax t.1 (-((-(sideN x q)) / sideK q)), t.2) else if sideK q < 0 then (t.1, iMin t.2 ((-(sideN x q)) / (-(sideK q)))) else if 0 < sideN x q then (t.1, t.1 - 1) else t
def clips (x : Int) (t : Int × Int) (qs : List (Pt × Pt)) : Int × Int := qs.foldl (clip1 x) t
theorem clip1_dead {x : Int} {t : Int × Int} {q : Pt × Pt} (h : t.2 < t.1) : (clip1 x t q).2 < (clip1 x t q).1 := by
 unfold clip1 iMax iMin
 split
 ·dsimp only; omega
 ·split
  ·dsimp only; omega
  ·split
   ·dsimp only; omega
   ·exact h
theorem clips_dead {x : Int} : ∀ {qs : List (Pt × Pt)} {t : Int × Int}, t.2 < t.1 -> (clips x t qs).2 < (clips x t qs).1
 | [], _, h => h
 | q :: qs, _, h => clips_dead (qs := qs) (clip1_dead (q := q) h)
theorem clips_take {x : Int} {t : Int × Int} {qs : List (Pt × Pt)} {k : Nat} {q : Pt × Pt} (h : qs[k]? = some q) : clips x t (qs.take (k + 1)) = clip1 x (clips x t (qs.take k)) q := by
 obtain ⟨hk, rfl⟩ := List.getElem?_eq_some_iff.1 h
 unfold clips
 rw [List.take_succ_eq_append_getElem hk, List.foldl_append]; rfl
theorem clips_split {x : Int} {t : Int × Int} {qs : List (Pt × Pt)} {k : Nat} (hk : k <= qs.length) : clips x t qs = clips x (clips x t (qs.take k)) (qs.drop k) := by
 unfold clips
 rw [<- List.foldl_append, List.take_append_drop]
def hitRow (l : List Pt) (t : Int × Int × Int) : Option Pt := if (clips t.1 (t.2.1, t.2.2) (sidesL l)).1 <= (clips t.1 (t.2.1, t.2.2) (sidesL l)).2 then some (t.1, (clips t.1 (t.2.1, t.2.2) (sidesL l)).1) else none
theorem hitRow_dead {l : List Pt} {t : Int × Int × Int} {k : Nat} (hk : k <= (sidesL l).length) (h : (clips t.1 (t.2.1, t.2.2) ((sidesL l).take k)).2 < (clips t.1 (t.2.1, t.2.2) ((sidesL l).take k)).1) : hitRow l t = none := by
 unfold hitRow
 rw [if_neg]
 rw [clips_split hk]
 have := clips_dead (x := t.1) (qs := (sidesL l).drop k) h
 omega
def hitsO (l : List Pt) (r : Rg) : Option Pt := (rowsL r).findSome? (hitRow l)
theorem findSome_none {α β : Type} {f : α -> Option β} : ∀ {l : List α}, (∀ t ∈ l, f t = none) -> l.findSome? f = none
 | [], _ => rfl
 | a :: l, h => by rw [List.findSome?_cons, h a List.mem_cons_self]; exact findSome_none fun t ht => h t (List.mem_cons_of_mem _ ht)
theorem findSome_at {α β : Type} {f : α -> Option β} {l : List α} {k : Nat} {a : α} {b : β} (hk : l[k]? = some a) (h : ∀ t ∈ l.take k, f t = none) (hb : f a = some b) : l.findSome? f = some b := by
 obtain ⟨hlt, rfl⟩ := List.getElem?_eq_some_iff.1 hk
 rw [<- List.take_append_drop k l, List.findSome?_append, findSome_none h, List.drop_eq_getElem_cons hlt, List.findSome?_cons, hb]; rfl
theorem side_bd {x : Int} {q : Pt × Pt} (hx : -32768 <= x /\ x <= 32768) (h1 : PlP q.1) (h2 : PlP q.2) : (-65536 <= sideK q /\ sideK q <= 65536) /\ (-6442450944 <= sideN x q /\ sideN x q <= 6442450944) /\
  (-2147483648 <= (q.2.1 - q.1.1) * q.1.2 /\ (q.2.1 - q.1.1) * q.1.2 <= 2147483648) /\ (-4294967296 <= (q.2.2 - q.1.2) * (x - q.1.1) /\ (q.2.2 - q.1.2) * (x - q.1.1) <= 4294967296) := by
 have e1 := mul_bd (a := q.2.1 - q.1.1) (b := q.1.2) (A := 65536) (B := 32768) (by dsimp only [PlP, Pl] at *; omega) (by dsimp only [PlP, Pl] at *; omega)
 have e2 := mul_bd (a := q.2.2 - q.1.2) (b := x - q.1.1) (A := 65536) (B := 65536) (by dsimp only [PlP, Pl] at *; omega) (by dsimp only [PlP, Pl] at *; omega)
 unfold sideK sideN
 dsimp only [PlP, Pl] at *
 omega
theorem sides_mem {l : List Pt} (hl : ∀ p ∈ l, PlP p) {q : Pt × Pt} (hq : q ∈ sidesL l) : PlP q.1 /\ PlP q.2 := by
 unfold sidesL at hq
 obtain ⟨k, hk, rfl⟩ := List.mem_map.1 hq
 have hk := List.mem_range.1 hk
 have hm := mod_lt' (i := k) (by omega : 0 < l.length)
 rw [atP_eq hk, atP_eq hm]
 exact ⟨hl _ (List.getElem_mem _), hl _ (List.getElem_mem _)⟩
open Classical in
noncomputable def hitsF (l : List Pt) (r : Rg) : Pt × Int := if FieldOk l then (if RgOk r then (match hitsO l r with | some p => (p, 0) | none => ((0, 0), 4)) else ((0, 0), 11)) else ((0, 0), 12)
abbrev ptv (p : Int × Int) : LV := .agg [I p.1, I p.2]
abbrev rgv (r : Rg) : LV := .agg [I r.1.1, I r.1.2, I r.2.1.1, I r.2.1.2, I r.2.2.1.1, I r.2.2.1.2, I r.2.2.2.1, I r.2.2.2.2]
def eRg (r : Rg) : Int := if RgOk r then 0 else 11
abbrev rowv (t : Int × Int × Int) : LV := .agg [I t.1, I t.2.1, I t.2.2]
abbrev rgc (r : Rg) : List LV := [I r.1.1, I r.1.2, I r.2.1.1, I r.2.1.2, I r.2.2.1.1, I r.2.2.1.2, I r.2.2.2.1, I r.2.2.2.2]
abbrev resv (x : Rg × Int) : LV := .tup [rgv x.1, I x.2]
def eTi (r : Rg) : Int := if (tightO r).isSome then 0 else 4
def sqN : Nat -> Nat
 | 0 => 0
 | n + 1 => if (sqN n + 1) * (sqN n + 1) <= n + 1 then sqN n + 1 else sqN n
theorem sqN_spec : ∀ n : Nat, sqN n * sqN n <= n /\ n < (sqN n + 1) * (sqN n + 1)
 | 0 => by decide
 | n + 1 => by
  obtain ⟨h1, h2⟩ := sqN_spec n
  unfold sqN
  split
  ·rename_i h
   refine ⟨h, ?_⟩
   have : (sqN n + 1 + 1) * (sqN n + 1 + 1) = (sqN n + 1) * (sqN n + 1) + 2 * (sqN n + 1) + 1 := by
    simp only [Nat.add_mul, Nat.mul_add]; omega
   omega
  ·omega
def sqF (n : Int) : Int := (sqN n.toNat : Nat)
theorem sqF_spec {n : Int} (h : 0 <= n) : 0 <= sqF n /\ sqF n * sqF n <= n /\ n < (sqF n + 1) * (sqF n + 1) := by
 obtain ⟨m, rfl⟩ := Int.eq_ofNat_of_zero_le h
 obtain ⟨h1, h2⟩ := sqN_spec m
 unfold sqF
 rw [Int.toNat_natCast]
 refine ⟨by omega, by exact_mod_cast h1, by exact_mod_cast h2⟩
theorem sq_mono {a b : Int} (ha : 0 <= a) (hab : a <= b) : a * a <= b * b := Int.mul_le_mul hab hab ha (by omega)
theorem sq_lt {a b : Int} (hb : 0 <= b) (h : a * a < b * b) : a < b := by
 by_cases h1 : b <= a
 ·have := sq_mono hb h1; omega
 ·omega
theorem sqF_uniq {n r : Int} (hr : 0 <= r) (h1 : r * r <= n) (h2 : n < (r + 1) * (r + 1)) : r = sqF n := by
 have hn : 0 <= n := by have := sq_mono (a := 0) (b := r) (by omega) hr; omega
 obtain ⟨g0, g1, g2⟩ := sqF_spec hn
 have a1 := sq_lt (a := r) (b := sqF n + 1) (by omega) (by omega)
 have a2 := sq_lt (a := sqF n) (b := r + 1) (by omega) (by omega)
 omega
theorem sqF_le {n B : Int} (hn : 0 <= n) (hB : 0 <= B) (h : n < (B + 1) * (B + 1)) : sqF n <= B := by
 obtain ⟨g0, g1, g2⟩ := sqF_spec hn
 have := sq_lt (a := sqF n) (b := B + 1) (by omega) (by omega)
 omega
def sqU (n : Int) : Int := if sqF n * sqF n < n then sqF n + 1 else sqF n
theorem sqU_spec {n : Int} (h : 0 <= n) : 0 <= sqU n /\ n <= sqU n * sqU n /\ (0 < sqU n -> (sqU n - 1) * (sqU n - 1) < n) := by
 obtain ⟨g0, g1, g2⟩ := sqF_spec h
 unfold sqU
 split
 ·rename_i hc
  refine ⟨by omega, by omega, fun _ => ?_⟩
  rw [Int.add_sub_cancel]; exact hc
 ·refine ⟨g0, by omega, fun hp => ?_⟩
  have : (sqF n - 1) * (sqF n - 1) < sqF n * sqF n := by
   rw [Int.sub_mul, Int.mul_sub]; omega
  omega
theorem sqU_bd {n B : Int} (h : 0 <= n) (hB : 0 <= B) (hn : n <= B * B) : sqU n <= B := by
 obtain ⟨g0, g1, g2⟩ := sqU_spec h
 by_cases hp : 0 < sqU n
 ·have := sq_lt (a := sqU n - 1) (b := B) hB (by have := g2 hp; omega)
  omega
 ·omega
def distF (a b : Pt) : Int := (b.1 - a.1) * (b.1 - a.1) + (b.2 - a.2) * (b.2 - a.2)
def stepsF (v : Int) (a b : Pt) : Int := (sqU (distF a b) + v - 1) / v
theorem dist_bd {a b : Pt} (ha : PlP a) (hb : PlP b) : (0 <= (b.1 - a.1) * (b.1 - a.1) /\ (b.1 - a.1) * (b.1 - a.1) <= 4294967296) /\ (0 <= (b.2 - a.2) * (b.2 - a.2) /\ (b.2 - a.2) * (b.2 - a.2) <= 4294967296) := by
 have sqr : ∀ z : Int, -65536 <= z /\ z <= 65536 -> 0 <= z * z /\ z * z <= 4294967296 := fun z hz => by
  have := mul_bd (a := z) (b := z) (A := 65536) (B := 65536) hz hz
  have h0 : 0 <= z * z := by rcases Int.le_total 0 z with h | h; exact Int.mul_nonneg h h; exact Int.mul_nonneg_of_nonpos_of_nonpos h h
  omega
 dsimp only [PlP, Pl] at ha hb
 exact ⟨sqr _ (by omega), sqr _ (by omega)⟩
theorem sqU_small {n : Int} (h : 0 <= n /\ n <= 8589934592) : 0 <= sqU n /\ sqU n <= 92682 := ⟨(sqU_spec h.1).1, sqU_bd h.1 (by omega) (by omega)⟩
theorem steps_bd {v : Int} (hv : 1 <= v /\ v <= 1000) {a b : Pt} (ha : PlP a) (hb : PlP b) : 0 <= stepsF v a b /\ stepsF v a b <= 92682 := by
 have h1 := dist_bd ha hb
 have h2 := sqU_small (n := distF a b) (by unfold distF; omega)
 unfold stepsF
 refine ⟨Int.ediv_nonneg (by omega) (by omega), ?_⟩
 refine Int.ediv_le_of_le_mul (by omega) ?_
 have e : 92682 * v = 92682 * (v - 1) + 92682 := by omega
 omega
structure Cr where
 lines : List (Pt × Pt)
 fields : List (List Pt)
 buoys : List Pt
 spread : Rg
 start : Pt × Int
 speed : Int
 turn : Int
 opn : List (List Bd)
def WinOk (l : List Bd) : Prop := l.length <= 4 /\ ∀ (k : Nat) (h : k < l.length), 0 <= l[k].1 /\ l[k].1 <= l[k].2 /\ l[k].2 <= 1048576 /\ (k = 0 ∨ (l[k - 1]'(by omega)).2 < l[k].1)
def LineOk (l : Pt × Pt) : Prop := PlP l.1 /\ PlP l.2 /\ l.1 ≠ l.2
def PoseOk (p : Pt × Int) : Prop := PlP p.1 /\ 0 <= p.2 /\ p.2 <= 7
def SpreadOk (r : Rg) : Prop := RgOk r /\ (tightO r).isSome = true /\ r.1.2 - r.1.1 <= 256 /\ r.2.1.2 - r.2.1.1 <= 256
structure CrOk (s : Cr) : Prop where
 n1 : 1 <= s.lines.length
 n5 : s.lines.length <= 5
 nf : s.fields.length <= 4
 nb : s.buoys.length <= 4
 no : s.opn.length = s.lines.length
 lines : ∀ l ∈ s.lines, LineOk l
 opn : ∀ l ∈ s.opn, WinOk l
 fields : ∀ l ∈ s.fields, FieldOk l
 buoys : ∀ p ∈ s.buoys, PlP p
 spread : SpreadOk s.spread
 start : PoseOk s.start
 speed : 1 <= s.speed /\ s.speed <= 1000
 turn : 0 <= s.turn /\ s.turn <= 1000
open Classical in
noncomputable def eCr (s : Cr) : Int := if CrOk s then 0 else 40
noncomputable def clearF (s : Cr) (a b : Pt) : Bool := decide ((sweptF s.spread a b).2 = 0) && !(s.fields.any fun f => decide ((hitsF f (sweptF s.spread a b).1).2 = 0))
noncomputable def freeF (s : Cr) (a b : Pt) : Bool := decide ((sweptF s.spread a b).2 = 0) && s.fields.all fun f => decide ((hitsF f (sweptF s.spread a b).1).2 = 4)
def add2 (o : Option Rg) (t : Int × Int × Int) : Option Rg := hstep (hstep o (t.1, t.2.1)) (t.1, t.2.2)
def rowAt (r : Rg) (k : Nat) : Int × Int × Int := rowOf r (r.1.1 + (k : Int))
def cutRow (l : List Pt) (t : Int × Int × Int) : Int × Int := clips t.1 (t.2.1, t.2.2) (sidesL l)
abbrev bdc (b : Bd) : List LV := [I b.1, I b.2]
abbrev legc (l : Pt × Pt) : List LV := [I l.1.1, I l.1.2, I l.2.1, I l.2.2]
abbrev winAt (l : List Bd) (k : Nat) : Prop := 0 <= (l.getD k (0, 0)).1 /\ (l.getD k (0, 0)).1 <= (l.getD k (0, 0)).2 /\ (l.getD k (0, 0)).2 <= 1048576 /\ (k = 0 ∨ (l.getD (k - 1) (0, 0)).2 < (l.getD k (0, 0)).1)
theorem getD_eq {α : Type} {l : List α} {k : Nat} {d : α} (h : k < l.length) : l.getD k d = l[k] := by rw [List.getD_eq_getElem?_getD, List.getElem?_eq_getElem h]; rfl
theorem win_iff {l : List Bd} : WinOk l ↔ l.length <= 4 /\ ∀ k, k < l.length -> winAt l k := by
 unfold WinOk winAt
 refine and_congr_right fun _ => ⟨fun h k hk => ?_, fun h k hk => ?_⟩
 ·have := h k hk
  rw [getD_eq hk]
  refine ⟨this.1, this.2.1, this.2.2.1, this.2.2.2.imp id fun h => ?_⟩
  rw [getD_eq (by omega)]; exact h
 ·have := h k hk
  rw [getD_eq hk] at this
  refine ⟨this.1, this.2.1, this.2.2.1, this.2.2.2.imp id fun h => ?_⟩
  rw [getD_eq (by omega)] at h; exact h
open Classical in
noncomputable def winB (l : List Bd) : Bool := decide (WinOk l)
open Classical in
theorem winB_t {l : List Bd} (h : WinOk l) : winB l = true := by unfold winB; exact decide_eq_true h
open Classical in
theorem winB_f {l : List Bd} (h : ¬ WinOk l) : winB l = false := by unfold winB; exact decide_eq_false h
def SlL {α : Type} (sz : Nat) (enc : α -> List LV) (M : Mem) (a : Option (Nat × Nat)) (ll : List (List α)) : Prop :=
 ll = [] ∨ ∃ i o, a = some (i, o) /\ ∀ k (hk : k < ll.length), ∃ a' f', Rd1 M i (o + k * 1) (.slice a' ll[k].length f' sz) /\ SlA sz enc M a' ll[k] /\ ll[k].length <= 1000000000000000
theorem SlL.grow {α : Type} {sz : Nat} {enc : α -> List LV} {M M' : Mem} {a : Option (Nat × Nat)} {ll : List (List α)} (h : SlL sz enc M a ll) (hg : Grow M M') : SlL sz enc M' a ll :=
 h.imp id fun ⟨i, o, h1, h2⟩ => ⟨i, o, h1, fun k hk => let ⟨a', f', g1, g2, g3⟩ := h2 k hk; ⟨a', f', g1.grow hg, g2.grow hg, g3⟩⟩
def SlE {α : Type} (sz : Nat) (enc : α -> List LV) (M : Mem) (a : Option (Nat × Nat)) (ll : List (List α)) : Prop :=
 ll = [] ∨ ∃ i o, a = some (i, o) /\ ∀ k (hk : k < ll.length), ∃ a' f' q', Rd1 M i (o + k * 1) (.slice a' ll[k].length f' q') /\ SlA sz enc M a' ll[k] /\ ll[k].length <= 1000000000000000
theorem SlE.grow {α : Type} {sz : Nat} {enc : α -> List LV} {M M' : Mem} {a : Option (Nat × Nat)} {ll : List (List α)} (h : SlE sz enc M a ll) (hg : Grow M M') : SlE sz enc M' a ll :=
 h.imp id fun ⟨i, o, h1, h2⟩ => ⟨i, o, h1, fun k hk => let ⟨a', f', q', g1, g2, g3⟩ := h2 k hk; ⟨a', f', q', g1.grow hg, g2.grow hg, g3⟩⟩
theorem SlL.toE {α : Type} {sz : Nat} {enc : α -> List LV} {M : Mem} {a : Option (Nat × Nat)} {ll : List (List α)} (h : SlL sz enc M a ll) : SlE sz enc M a ll :=
 h.imp id fun ⟨i, o, h1, h2⟩ => ⟨i, o, h1, fun k hk => let ⟨a', f', g1, g2, g3⟩ := h2 k hk; ⟨a', f', sz, g1, g2, g3⟩⟩
theorem SlA.keep {α : Type} {sz : Nat} {enc : α -> List LV} {M M' : Mem} {a : Option (Nat × Nat)} {l : List α} {F : Nat -> Prop} {b : Nat} (h : SlA sz enc M a l) (hg : Keep F M M') (hb : ∀ i o, a = some (i, o) -> i < b) (hF : ∀ i, F i -> b <= i) : SlA sz enc M' a l :=
 h.imp id fun ⟨i, o, h1, h2⟩ => ⟨i, o, h1, fun k hk => (h2 k hk).keep hg fun hf => by have := hb i o h1; have := hF i hf; omega⟩
structure CrA where
 aL : Option (Nat × Nat)
 fL : Bool
 aF : Option (Nat × Nat)
 fF : Bool
 aB : Option (Nat × Nat)
 fB : Bool
 aO : Option (Nat × Nat)
 fO : Bool
 eF : Nat
 eL : Nat
 eB : Nat
abbrev crc (A : CrA) (s : Cr) : List LV := [.slice A.aL s.lines.length A.fL A.eL, .slice A.aF s.fields.length A.fF A.eF, .slice A.aB s.buoys.length A.fB A.eB, I s.spread.1.1, I s.spread.1.2, I s.spread.2.1.1, I s.spread.2.1.2, I s.spread.2.2.1.1, I s.spread.2.2.1.2, I s.spread.2.2.2.1, I s.spread.2.2.2.2,
 I s.start.1.1, I s.start.1.2, I s.start.2, I s.speed, I s.turn, .slice A.aO s.opn.length A.fO 1]
abbrev crv (A : CrA) (s : Cr) : LV := .agg (crc A s)
structure CrM (M : Mem) (A : CrA) (s : Cr) : Prop where
 lines : SlA 4 legc M A.aL s.lines
 fields : SlE 2 ptc M A.aF s.fields
 buoys : SlA 2 ptc M A.aB s.buoys
 opn : SlL 2 bdc M A.aO s.opn
 nl : s.lines.length <= 1000000000000000
 nf : s.fields.length <= 1000000000000000
 nb : s.buoys.length <= 1000000000000000
 no : s.opn.length <= 1000000000000000
theorem CrM.grow {M M' : Mem} {A : CrA} {s : Cr} (h : CrM M A s) (hg : Grow M M') : CrM M' A s := ⟨h.lines.grow hg, h.fields.grow hg, h.buoys.grow hg, h.opn.grow hg, h.nl, h.nf, h.nb, h.no⟩
open Classical in
noncomputable def crB (s : Cr) : Bool := decide (CrOk s)
open Classical in
theorem crB_t {s : Cr} (h : CrOk s) : crB s = true := by unfold crB; exact decide_eq_true h
open Classical in
theorem crB_f {s : Cr} (h : ¬ CrOk s) : crB s = false := by unfold crB; exact decide_eq_false h
def octF (x y : Int) : Int :=
 if 0 <= y /\ 0 <= x - y then 0 else if 0 <= x /\ x - y <= 0 then 1 else if x <= 0 /\ 0 <= x + y then 2 else if 0 <= y /\ x + y <= 0 then 3
 else if y <= 0 /\ x - y <= 0 then 4 else if x <= 0 /\ 0 <= x - y then 5 else if 0 <= x /\ x + y <= 0 then 6 else 7
def wayF (s : Cr) (k : Nat) (w : Int) : Pt × Pt := if w = 1 then ((s.lines.getD k ((0, 0), (0, 0))).2, (s.lines.getD k ((0, 0), (0, 0))).1) else s.lines.getD k ((0, 0), (0, 0))
theorem wayF_ok {s : Cr} (h : CrOk s) {k : Nat} (hk : k < s.lines.length) (w : Int) : PlP (wayF s k w).1 /\ PlP (wayF s k w).2 /\ (wayF s k w).1 ≠ (wayF s k w).2 := by
 have hl := h.lines _ (List.getElem_mem hk)
 unfold wayF
 rw [getD_eq hk]
 unfold LineOk at hl
 split
 ·exact ⟨hl.2.1, hl.1, fun e => hl.2.2 e.symm⟩
 ·exact hl
def winO (t n : Int) (b : Bd) : Option Bd := if iMax t b.1 + n <= b.2 then some (iMax t b.1, iMax t b.1 + n) else none
noncomputable def shotF (s : Cr) (k : Nat) (w t : Int) : Option Bd :=
 if clearF s (wayF s k w).1 (wayF s k w).2 = true then (s.opn.getD k []).findSome? (winO t (stepsF s.speed (wayF s k w).1 (wayF s k w).2)) else none
def rightP (s : Cr) (x : Int × Int) : Prop := (0 <= x.1 /\ x.1 <= (s.lines.length : Int) - 1) /\ (0 <= x.2 /\ x.2 <= 1)
open Classical in
noncomputable def ShotF (s : Cr) (x : Int × Int) (t : Int) : Bd × Int :=
 if CrOk s then (if rightP s x then (if 0 <= t /\ t <= 4194304 then (match shotF s x.1.toNat x.2 t with | some b => (b, 0) | none => ((0, 0), 4)) else ((0, 0), 7)) else ((0, 0), 42)) else ((0, 0), 40)
end Go.Proofs.YtifcpjfpjkoicaaGreat.C
end
section
open Go PvL
set_option linter.unusedVariables false
namespace Go.Proofs.YtifcpjfpjkoicaaGreat.C
end Go.Proofs.YtifcpjfpjkoicaaGreat.C
end
section
open PvL
set_option linter.unusedVariables false
namespace Go.Proofs.YtifcpjfpjkoicaaGreat.C
abbrev Pose := Pt × Int
abbrev Psg := List Pt × Int
def trnF (a b : Int) : Int := iMin ((b - a + 8) % 8) (8 - (b - a + 8) % 8)
theorem trnF_bd (a b : Int) : 0 <= trnF a b /\ trnF a b <= 4 := by unfold trnF iMin; omega
def octW (a b : Pt) : Int := octF (b.1 - a.1) (b.2 - a.2)
theorem octF_bd (x y : Int) : 0 <= octF x y /\ octF x y <= 7 := by unfold octF; (repeat' split) <;> omega
noncomputable def costL (s : Cr) (to : Int) : Pt -> Int -> List Pt -> Option Int
 | _, o, [] => some (s.turn * trnF o to)
 | p, o, q :: l => if p ≠ q /\ clearF s p q = true then (costL s to q (octW p q) l).map (fun n => stepsF s.speed p q + s.turn * trnF o (octW p q) + n) else none
noncomputable def costP (s : Cr) (l : List Pt) (from_ to : Int) : Option Int := match l with | [] => some (s.turn * trnF from_ to) | p :: l => costL s to p from_ l
noncomputable def offerL (s : Cr) (a b : Pose) (l : List Pt) : List Psg := match costP s l a.2 b.2 with | some n => [(l, n)] | none => []
noncomputable def nextL (s : Cr) (a b : Pose) : Nat -> List Pt -> Nat -> List Psg
 | 0, l, _ => offerL s a b (l ++ [b.1])
 | d + 1, l, used => offerL s a b (l ++ [b.1]) ++ (List.range s.buoys.length).flatMap fun i => if used.testBit i then [] else nextL s a b d (l ++ [s.buoys.getD i (0, 0)]) (used ||| 2 ^ i)
noncomputable def passL (s : Cr) (a b : Pose) : List Psg := (if a.1 = b.1 then offerL s a b [a.1] else []) ++ nextL s a b s.buoys.length [a.1] 0
def befF (a b : Pt) : Int := if a.1 ≠ b.1 then a.1 - b.1 else a.2 - b.2
def cmpL : List Pt -> List Pt -> Int
 | [], [] => 0
 | [], _ :: _ => -1
 | _ :: _, [] => 1
 | a :: as, b :: bs => if befF a b ≠ 0 then befF a b else cmpL as bs
def lessP (x y : Psg) : Bool := if x.2 ≠ y.2 then decide (x.2 < y.2) else if x.1.length ≠ y.1.length then decide (x.1.length < y.1.length) else decide (cmpL x.1 y.1 < 0)
def addB (o : Option Psg) (x : Psg) : Option Psg := match o with | none => some x | some y => if lessP x y then some x else some y
noncomputable def bestF (s : Cr) (a b : Pose) : Option Psg := (passL s a b).foldl addB none
open Classical in
noncomputable def PassageF (s : Cr) (a b : Pose) : Psg × Int :=
 if CrOk s then (if PoseOk a /\ PoseOk b then (match bestF s a b with | some p => (p, 0) | none => (([], 0), 4)) else (([], 0), 41)) else (([], 0), 40)

theorem costL_bd {s : Cr} (hs : CrOk s) (to : Int) : ∀ (l : List Pt) (p : Pt) (o n : Int), PlP p -> (∀ q ∈ l, PlP q) -> costL s to p o l = some n -> 0 <= n /\ n <= 4000 + l.length * 96682
 | [], p, o, n, hp, hl, h => by
  cases h
  have h1 := trnF_bd o to
  have h2 := hs.turn
  have h3 := mul_bd (a := s.turn) (b := trnF o to) (A := 1000) (B := 4) (by omega) (by omega)
  have h4 : 0 <= s.turn * trnF o to := Int.mul_nonneg (by omega) (by omega)
  simp only [List.length_nil]; omega
 | q :: l, p, o, n, hp, hl, h => by
  unfold costL at h
  split at h
  ·obtain ⟨m, h1, rfl⟩ := Option.map_eq_some_iff.1 h
   have hq := hl q (List.mem_cons_self ..)
   have h2 := costL_bd hs to l q _ m hq (fun x hx => hl x (List.mem_cons_of_mem _ hx)) h1
   have h3 := steps_bd hs.speed hp hq
   have h4 := trnF_bd o (octW p q)
   have h5 := hs.turn
   have h6 := mul_bd (a := s.turn) (b := trnF o (octW p q)) (A := 1000) (B := 4) (by omega) (by omega)
   have h7 : 0 <= s.turn * trnF o (octW p q) := Int.mul_nonneg (by omega) (by omega)
   rw [List.length_cons]
   omega
  ·cases h
theorem costP_bd {s : Cr} (hs : CrOk s) {l : List Pt} {o to n : Int} (hl : ∀ q ∈ l, PlP q) (h : costP s l o to = some n) : 0 <= n /\ n <= 4000 + l.length * 96682 := by
 cases l with
 | nil =>
  have := costL_bd hs to [] (0, 0) o n (by dsimp only [PlP, Pl]; omega) hl h
  exact this
 | cons p l =>
  have := costL_bd hs to l p o n (hl p (List.mem_cons_self ..)) (fun x hx => hl x (List.mem_cons_of_mem _ hx)) h
  rw [List.length_cons]; omega

theorem addB_le {o : Option Psg} {x : Psg} : ∃ y, addB o x = some y /\ y.2 <= x.2 /\ (∀ z, o = some z -> y.2 <= z.2) /\ (y = x ∨ o = some y) := by
 unfold addB
 cases o with
 | none => exact ⟨x, rfl, Int.le_refl _, fun z hz => (by cases hz), .inl rfl⟩
 | some z =>
  dsimp only
  cases hl : lessP x z with
  | true =>
   refine ⟨x, if_pos rfl, Int.le_refl _, fun w hw => ?_, .inl rfl⟩
   cases hw
   unfold lessP at hl
   split at hl
   ·have := of_decide_eq_true hl; omega
   ·omega
  | false =>
   refine ⟨z, if_neg (by decide), ?_, fun w hw => by cases hw; exact Int.le_refl _, .inr rfl⟩
   unfold lessP at hl
   split at hl
   ·have := of_decide_eq_false hl; omega
   ·omega
theorem foldB : ∀ (l : List Psg) (o : Option Psg), (l.foldl addB o = none ↔ o = none /\ l = []) /\ ∀ y, l.foldl addB o = some y -> (∀ x ∈ l, y.2 <= x.2) /\ (∀ z, o = some z -> y.2 <= z.2) /\ (y ∈ l ∨ o = some y)
 | [], o => ⟨⟨fun h => ⟨h, rfl⟩, fun h => h.1⟩, fun y h => ⟨fun x hx => (by cases hx), fun z hz => by rw [show o = some y from h] at hz; cases hz; exact Int.le_refl _, .inr h⟩⟩
 | x :: l, o => by
  obtain ⟨w, h1, h2, h3, h4⟩ := addB_le (o := o) (x := x)
  obtain ⟨g1, g2⟩ := foldB l (some w)
  rw [List.foldl_cons, h1]
  refine ⟨⟨fun h => (by have := (g1.1 h).1; cases this), fun h => (by cases h.2)⟩, fun y h => ?_⟩
  obtain ⟨k1, k2, k3⟩ := g2 y h
  have hw := k2 w rfl
  refine ⟨fun z hz => ?_, fun z hz => Int.le_trans hw (h3 z hz), ?_⟩
  ·rcases List.mem_cons.1 hz with rfl | hz
   ·exact Int.le_trans hw h2
   ·exact k1 z hz
  ·rcases k3 with k3 | k3
   ·exact .inl (List.mem_cons_of_mem _ k3)
   ·cases k3
    rcases h4 with rfl | h4
    ·exact .inl (List.mem_cons_self ..)
    ·exact .inr h4
theorem best_some {s : Cr} {a b : Pose} {y : Psg} (h : bestF s a b = some y) : y ∈ passL s a b /\ ∀ x ∈ passL s a b, y.2 <= x.2 := by
 obtain ⟨h1, _, h3⟩ := (foldB _ _).2 y h
 exact ⟨h3.resolve_right (by intro e; cases e), h1⟩
theorem mem_offer {s : Cr} {a b : Pose} {l : List Pt} {x : Psg} : x ∈ offerL s a b l ↔ x.1 = l /\ costP s l a.2 b.2 = some x.2 := by
 unfold offerL
 cases costP s l a.2 b.2 with
 | none => simp
 | some n =>
  rw [List.mem_singleton]
  constructor
  ·rintro rfl; exact ⟨rfl, rfl⟩
  ·rintro ⟨h1, h2⟩; cases h2; exact Prod.ext h1 rfl
theorem mem_next {s : Cr} {a b : Pose} : ∀ (d : Nat) (l : List Pt) (used : Nat) (x : Psg), x ∈ nextL s a b d l used -> ∃ m : List Pt, x.1 = l ++ m ++ [b.1] /\ m.length <= d /\ (∀ p ∈ m, p ∈ s.buoys) /\ costP s x.1 a.2 b.2 = some x.2
 | 0, l, used, x, h => by
  obtain ⟨h1, h2⟩ := mem_offer.1 h
  exact ⟨[], by rw [h1, List.append_nil], Nat.le_refl _, fun p hp => (by cases hp), by rw [h1]; exact h2⟩
 | d + 1, l, used, x, h => by
  unfold nextL at h
  rcases List.mem_append.1 h with h | h
  ·obtain ⟨h1, h2⟩ := mem_offer.1 h
   exact ⟨[], by rw [h1, List.append_nil], Nat.zero_le _, fun p hp => (by cases hp), by rw [h1]; exact h2⟩
  ·obtain ⟨i, hi, h⟩ := List.mem_flatMap.1 h
   have hi := List.mem_range.1 hi
   split at h
   ·cases h
   ·obtain ⟨m, h1, h2, h3, h4⟩ := mem_next d _ _ x h
    refine ⟨s.buoys.getD i (0, 0) :: m, by rw [h1]; simp [List.append_assoc], by rw [List.length_cons]; omega, fun p hp => ?_, h4⟩
    rcases List.mem_cons.1 hp with rfl | hp
    ·rw [getD_eq hi]; exact List.getElem_mem hi
    ·exact h3 p hp
theorem mem_pass {s : Cr} {a b : Pose} {x : Psg} (h : x ∈ passL s a b) : costP s x.1 a.2 b.2 = some x.2 /\ x.1.head? = some a.1 /\ x.1.getLast? = some b.1 /\ x.1.length <= s.buoys.length + 2 /\ ∀ p ∈ x.1, p = a.1 ∨ p = b.1 ∨ p ∈ s.buoys := by
 unfold passL at h
 rcases List.mem_append.1 h with h | h
 ·split at h
  ·rename_i e
   obtain ⟨h1, h2⟩ := mem_offer.1 h
   rw [h1]
   exact ⟨h2, rfl, by rw [<- e]; rfl, by simp, fun p hp => .inl (List.mem_singleton.1 hp)⟩
  ·cases h
 ·obtain ⟨m, h1, h2, h3, h4⟩ := mem_next _ _ _ _ h
  refine ⟨h4, ?_, ?_, ?_, ?_⟩
  ·rw [h1]; rfl
  ·rw [h1]; exact List.getLast?_concat
  ·rw [h1]; simp; omega
  ·intro p hp
   rw [h1] at hp
   rcases List.mem_append.1 hp with hp | hp
   ·rcases List.mem_append.1 hp with hp | hp
    ·exact .inl (List.mem_singleton.1 hp)
    ·exact .inr (.inr (h3 p hp))
   ·exact .inr (.inl (List.mem_singleton.1 hp))
theorem pass_pl {s : Cr} (hs : CrOk s) {a b : Pose} (ha : PlP a.1) (hb : PlP b.1) {x : Psg} (h : x ∈ passL s a b) : (∀ p ∈ x.1, PlP p) /\ 0 <= x.2 /\ x.2 <= 600000 /\ x.1.length <= 6 := by
 obtain ⟨h1, _, _, h4, h5⟩ := mem_pass h
 have hp : ∀ p ∈ x.1, PlP p := fun p hp => by
  rcases h5 p hp with rfl | rfl | h
  ·exact ha
  ·exact hb
  ·exact hs.buoys p h
 have h6 := costP_bd hs hp h1
 have h7 := hs.nb
 refine ⟨hp, h6.1, ?_, by omega⟩
 have : (x.1.length : Int) * 96682 <= 6 * 96682 := Int.mul_le_mul_of_nonneg_right (by omega) (by omega)
 omega
theorem nodup_lt : ∀ (n : Nat) (l : List Nat), l.Nodup -> (∀ k ∈ l, k < n) -> l.length <= n
 | 0, l, _, h => by
  cases l with
  | nil => exact Nat.le_refl _
  | cons a l => exact absurd (h a (List.mem_cons_self ..)) (Nat.not_lt_zero _)
 | n + 1, l, hn, h => by
  have h1 := nodup_lt n (l.erase n) (hn.erase n) (fun k hk => by
   have h2 := h k (List.mem_of_mem_erase hk)
   have h3 : k ≠ n := fun e => by subst e; exact (List.Nodup.mem_erase_iff hn).1 hk |>.1 rfl
   omega)
  rw [List.length_erase] at h1
  split at h1 <;> omega
structure Ks (s : Cr) (used d : Nat) (ks : List Nat) : Prop where
 nd : ks.Nodup
 lt : ∀ k ∈ ks, k < s.buoys.length
 un : ∀ k ∈ ks, used.testBit k = false
 le : ks.length <= d
theorem testBit_or2 {u k j : Nat} : (u ||| 2 ^ k).testBit j = (u.testBit j || decide (k = j)) := by
 rw [Nat.testBit_or, Nat.testBit_two_pow]
def byB (s : Cr) (ks : List Nat) : List Pt := ks.map fun k => s.buoys.getD k (0, 0)
abbrev Rch := Pose × Int
noncomputable def nL (s : Cr) : Nat := s.lines.length
noncomputable def wayC (s : Cr) (c : Nat) : Pt × Pt := wayF s (c / 2) ((c % 2 : Nat) : Int)
noncomputable def begC (s : Cr) (c : Nat) : Pose := ((wayC s c).1, octW (wayC s c).1 (wayC s c).2)
noncomputable def endC (s : Cr) (c : Nat) : Pose := ((wayC s c).2, octW (wayC s c).1 (wayC s c).2)
noncomputable def shotC (s : Cr) (c : Nat) (t : Int) : Option Bd := shotF s (c / 2) ((c % 2 : Nat) : Int) t
noncomputable def costN (s : Cr) (p q : Pose) : Int := match bestF s p q with | some y => y.2 | none => -1
noncomputable def goF (s : Cr) (x : Rch) (c : Nat) : Option Bd := if costN s x.1 (begC s c) < 0 then none else shotC s c (x.2 + costN s x.1 (begC s c))
noncomputable def rchF (s : Cr) (c : Nat) (t : Int) : Rch := (endC s c, t)
def startR (s : Cr) : Rch := (s.start, 0)
noncomputable def timesG (s : Cr) : Rch -> List Nat -> Option (List Bd)
 | _, [] => some []
 | x, c :: l => match goF s x c with | none => none | some b => (timesG s (rchF s c b.2) l).map (b :: ·)
def shN (x : Int × Int) : Nat := 2 * x.1.toNat + x.2.toNat
def OrdOk (s : Cr) (l : List (Int × Int)) : Prop := (∀ x ∈ l, rightP s x) /\ (l.map (·.1)).Nodup
open Classical in
noncomputable def TimesF (s : Cr) (l : List (Int × Int)) : List Bd × Int :=
 if CrOk s then (if OrdOk s l then (match timesG s (startR s) (l.map shN) with | some r => (r, 0) | none => ([], 4)) else ([], 42)) else ([], 40)
theorem wayC_ok {s : Cr} (h : CrOk s) {c : Nat} (hc : c / 2 < s.lines.length) : PlP (wayC s c).1 /\ PlP (wayC s c).2 /\ (wayC s c).1 ≠ (wayC s c).2 := wayF_ok h hc _
theorem begC_ok {s : Cr} (h : CrOk s) {c : Nat} (hc : c / 2 < s.lines.length) : PoseOk (begC s c) := ⟨(wayC_ok h hc).1, octF_bd _ _⟩
theorem endC_ok {s : Cr} (h : CrOk s) {c : Nat} (hc : c / 2 < s.lines.length) : PoseOk (endC s c) := ⟨(wayC_ok h hc).2.1, octF_bd _ _⟩
theorem costN_bd {s : Cr} (h : CrOk s) {p q : Pose} (hp : PoseOk p) (hq : PoseOk q) : -1 <= costN s p q /\ costN s p q <= 600000 := by
 unfold costN
 cases hb : bestF s p q with
 | none => exact ⟨by decide, by decide⟩
 | some y =>
  have := pass_pl h hp.1 hq.1 (best_some hb).1
  dsimp only; omega
theorem findSome_mem {α β : Type} {f : α -> Option β} : ∀ {l : List α} {b : β}, l.findSome? f = some b -> ∃ a ∈ l, f a = some b
 | a :: l, b, h => by
  rw [List.findSome?_cons] at h
  cases ha : f a with
  | none => rw [ha] at h; obtain ⟨x, h1, h2⟩ := findSome_mem h; exact ⟨x, List.mem_cons_of_mem _ h1, h2⟩
  | some v => rw [ha] at h; cases h; exact ⟨a, List.mem_cons_self .., ha⟩
theorem shotC_bd {s : Cr} (h : CrOk s) {c : Nat} (hc : c / 2 < s.lines.length) {t : Int} {b : Bd} (hb : shotC s c t = some b) : t <= b.1 /\ 0 <= b.1 /\ b.1 <= b.2 /\ b.2 <= 1048576 /\ b.2 - b.1 = stepsF s.speed (wayC s c).1 (wayC s c).2 := by
 unfold shotC shotF at hb
 split at hb
 ·obtain ⟨w, h1, h2⟩ := findSome_mem hb
  have hno := h.no
  rw [getD_eq (by omega)] at h1
  have hw := (win_iff.1 (h.opn _ (List.getElem_mem (by omega : c / 2 < s.opn.length)))).2
  obtain ⟨j, hj, rfl⟩ := List.getElem_of_mem h1
  have hj2 := hw j hj
  unfold winAt at hj2
  rw [getD_eq hj] at hj2
  have hway := wayC_ok h hc
  have hst := steps_bd h.speed hway.1 hway.2.1
  unfold winO at h2
  split at h2
  ·cases h2
   unfold wayC at *
   unfold iMax at *
   dsimp only
   omega
  ·cases h2
 ·cases hb
theorem goF_bd {s : Cr} (h : CrOk s) {x : Rch} {c : Nat} (hc : c / 2 < s.lines.length) {b : Bd} (hb : goF s x c = some b) : x.2 + costN s x.1 (begC s c) <= b.1 /\ 0 <= costN s x.1 (begC s c) /\ b.1 <= b.2 /\ 0 <= b.1 /\ b.2 <= 1048576 := by
 unfold goF at hb
 split at hb
 ·cases hb
 ·have := shotC_bd h hc hb
  omega
noncomputable def shootsL (s : Cr) (set : Nat) : List Nat := (List.range (2 * s.lines.length)).filter fun c => set.testBit (c / 2)
def restN (set k : Nat) : Nat := set - (set &&& 2 ^ k)
noncomputable def plN (s : Cr) (set c : Nat) : Nat := 2 * s.lines.length * set + c
noncomputable def befL (s : Cr) (tab : List Int) (set c : Nat) : List Rch :=
 if restN set (c / 2) = 0 then [startR s] else (List.range (2 * s.lines.length)).filterMap fun y => if tab.getD (plN s (restN set (c / 2)) y) 0 ≠ -1 then some (rchF s y (tab.getD (plN s (restN set (c / 2)) y) 0)) else none
noncomputable def earL (s : Cr) (tab : List Int) (set c : Nat) : List Int := (befL s tab set c).filterMap fun x => (goF s x c).map (·.2)
def minS (o : Option Int) (x : Int) : Option Int := match o with | none => some x | some y => if x < y then some x else some y
def minL (l : List Int) : Option Int := l.foldl minS none
noncomputable def tabStep (s : Cr) (set : Nat) (tab : List Int) (c : Nat) : List Int := match minL (earL s tab set c) with | some e => tab.set (plN s set c) e | none => tab
noncomputable def tabSet (s : Cr) (tab : List Int) (set : Nat) : List Int := (shootsL s set).foldl (tabStep s set) tab
noncomputable def tab0 (s : Cr) : List Int := List.replicate (2 * s.lines.length * 2 ^ s.lines.length) (-1)
noncomputable def tabF (s : Cr) : List Int := (List.range (2 ^ s.lines.length)).foldl (tabSet s) (tab0 s)
theorem minS_some (o : Option Int) (x : Int) : ∃ y, minS o x = some y /\ y <= x /\ (∀ z, o = some z -> y <= z) /\ (y = x ∨ o = some y) := by
 unfold minS
 cases o with
 | none => exact ⟨x, rfl, Int.le_refl _, fun z hz => (by cases hz), .inl rfl⟩
 | some z =>
  dsimp only
  split
  ·exact ⟨x, rfl, Int.le_refl _, fun w hw => by cases hw; omega, .inl rfl⟩
  ·exact ⟨z, rfl, by omega, fun w hw => by cases hw; exact Int.le_refl _, .inr rfl⟩
theorem foldS : ∀ (l : List Int) (o : Option Int), (l.foldl minS o = none ↔ o = none /\ l = []) /\ ∀ y, l.foldl minS o = some y -> (∀ x ∈ l, y <= x) /\ (∀ z, o = some z -> y <= z) /\ (y ∈ l ∨ o = some y)
 | [], o => ⟨⟨fun h => ⟨h, rfl⟩, fun h => h.1⟩, fun y h => ⟨fun x hx => (by cases hx), fun z hz => by rw [show o = some y from h] at hz; cases hz; exact Int.le_refl _, .inr h⟩⟩
 | x :: l, o => by
  obtain ⟨w, h1, h2, h3, h4⟩ := minS_some o x
  obtain ⟨g1, g2⟩ := foldS l (some w)
  rw [List.foldl_cons, h1]
  refine ⟨⟨fun h => (by have := (g1.1 h).1; cases this), fun h => (by cases h.2)⟩, fun y h => ?_⟩
  obtain ⟨k1, k2, k3⟩ := g2 y h
  have hw := k2 w rfl
  refine ⟨fun z hz => ?_, fun z hz => Int.le_trans hw (h3 z hz), ?_⟩
  ·rcases List.mem_cons.1 hz with rfl | hz
   ·exact Int.le_trans hw h2
   ·exact k1 z hz
  ·rcases k3 with k3 | k3
   ·exact .inl (List.mem_cons_of_mem _ k3)
   ·cases k3
    rcases h4 with rfl | h4
    ·exact .inl (List.mem_cons_self ..)
    ·exact .inr h4
theorem minL_none {l : List Int} : minL l = none ↔ l = [] := ⟨fun h => ((foldS l none).1.1 h).2, fun h => by rw [h]; rfl⟩
theorem minL_some {l : List Int} {y : Int} (h : minL l = some y) : y ∈ l /\ ∀ x ∈ l, y <= x := by
 obtain ⟨h1, _, h3⟩ := (foldS l none).2 y h
 exact ⟨h3.resolve_right (by intro e; cases e), h1⟩
theorem rest_eq {set k : Nat} (h : set.testBit k = true) : restN set k + 2 ^ k = set := by
 unfold restN
 rw [and_pow, if_pos h]
 have := Nat.ge_two_pow_of_testBit h
 omega
theorem rest_lt {set k : Nat} (h : set.testBit k = true) : restN set k < set := by
 have := rest_eq h
 have := Nat.two_pow_pos k
 omega
theorem rest_bit {set k j : Nat} (hs : set < 1048576) (hk : k < 20) : (restN set k).testBit j = (set.testBit j && !(decide (k = j))) := by
 have hp := pow_bd (b := k) (by omega)
 have h1 : restN set k = (BitVec.ofInt 64 (set : Int) &&& ~~~(BitVec.ofInt 64 ((2 ^ k : Nat) : Int))).toNat := (andn_nat (by omega) (by omega)).symm
 rw [h1, BitVec.testBit_toNat, BitVec.getLsbD_and, BitVec.getLsbD_not, BitVec.ofInt_natCast, BitVec.ofInt_natCast, BitVec.getLsbD_ofNat, BitVec.getLsbD_ofNat, Nat.testBit_two_pow]
 by_cases hj : j < 64
 ·rw [decide_eq_true hj]; simp
 ·have : set.testBit j = false := Nat.testBit_lt_two_pow (Nat.lt_of_lt_of_le hs (by have := Nat.pow_le_pow_right (n := 2) (by omega) (by omega : 20 <= j); omega))
  rw [this, decide_eq_false hj]; simp
theorem all_bit {n k : Nat} (h : k < n) : (2 ^ n - 1).testBit k = true := by rw [Nat.testBit_two_pow_sub_one]; exact decide_eq_true h
theorem bit_lt {n set k : Nat} (hs : set < 2 ^ n) (h : set.testBit k = true) : k < n := by
 rcases Nat.lt_or_ge k n with h1 | h1
 ·exact h1
 ·rw [Nat.testBit_lt_two_pow (Nat.lt_of_lt_of_le hs (Nat.pow_le_pow_right (by omega) h1))] at h; cases h
theorem mem_shoots {s : Cr} {set c : Nat} : c ∈ shootsL s set ↔ c < 2 * s.lines.length /\ set.testBit (c / 2) = true := by
 unfold shootsL
 rw [List.mem_filter, List.mem_range]
theorem pl_inj {s : Cr} {a b c d : Nat} (hc : c < 2 * s.lines.length) (hd : d < 2 * s.lines.length) (h : plN s a c = plN s b d) : a = b /\ c = d := by
 unfold plN at h
 have h1 : (2 * s.lines.length * a + c) / (2 * s.lines.length) = a := by rw [Nat.mul_add_div (by omega), Nat.div_eq_of_lt hc, Nat.add_zero]
 have h2 : (2 * s.lines.length * b + d) / (2 * s.lines.length) = b := by rw [Nat.mul_add_div (by omega), Nat.div_eq_of_lt hd, Nat.add_zero]
 have : a = b := by rw [<- h1, h, h2]
 subst this
 exact ⟨rfl, by omega⟩
theorem pl_lt {s : Cr} {set c : Nat} (hs : set < 2 ^ s.lines.length) (hc : c < 2 * s.lines.length) : plN s set c < 2 * s.lines.length * 2 ^ s.lines.length := by
 unfold plN
 have : 2 * s.lines.length * (set + 1) <= 2 * s.lines.length * 2 ^ s.lines.length := Nat.mul_le_mul_left _ hs
 rw [Nat.mul_add] at this
 omega
theorem fm_congr {α β : Type} {f g : α -> Option β} : ∀ {l : List α}, (∀ x ∈ l, f x = g x) -> l.filterMap f = l.filterMap g
 | [], _ => rfl
 | x :: l, h => by rw [List.filterMap_cons, List.filterMap_cons, h x (List.mem_cons_self ..), fm_congr fun y hy => h y (List.mem_cons_of_mem _ hy)]
theorem ear_congr {s : Cr} {t t' : List Int} {set c : Nat} (h : ∀ y, y < 2 * s.lines.length -> t.getD (plN s (restN set (c / 2)) y) 0 = t'.getD (plN s (restN set (c / 2)) y) 0) : earL s t set c = earL s t' set c := by
 unfold earL
 congr 1
 unfold befL
 split
 ·rfl
 ·exact fm_congr fun y hy => by rw [h y (List.mem_range.1 hy)]
noncomputable def TT (s : Cr) (set c : Nat) : Int := (tabF s).getD (plN s set c) 0
structure TabI (s : Cr) (n0 : Nat) (ds : List Nat) (t : List Int) : Prop where
 len : t.length = 2 * s.lines.length * 2 ^ s.lines.length
 old : ∀ set c, set < n0 -> set < 2 ^ s.lines.length -> c < 2 * s.lines.length -> t.getD (plN s set c) 0 = if set.testBit (c / 2) then (minL (earL s t set c)).getD (-1) else -1
 now : ∀ c, c ∈ ds -> c < 2 * s.lines.length -> t.getD (plN s n0 c) 0 = (minL (earL s t n0 c)).getD (-1)
 new : ∀ set c, n0 <= set -> set < 2 ^ s.lines.length -> c < 2 * s.lines.length -> (set ≠ n0 ∨ c ∉ ds) -> t.getD (plN s set c) 0 = -1
theorem getD_set {t : List Int} {i j : Nat} {v d : Int} (hi : i < t.length) : (t.set i v).getD j d = if i = j then v else t.getD j d := by
 rw [List.getD_eq_getElem?_getD, List.getD_eq_getElem?_getD, List.getElem?_set]
 split
 ·simp
 ·rfl
theorem TabI.step {s : Cr} {n0 : Nat} {ds : List Nat} {t : List Int} {c : Nat} (h : TabI s n0 ds t) (hn : n0 < 2 ^ s.lines.length) (hc : c < 2 * s.lines.length) (hb : n0.testBit (c / 2) = true) (hnd : c ∉ ds) (hds : ∀ d ∈ ds, n0.testBit (d / 2) = true) : TabI s n0 (ds ++ [c]) (tabStep s n0 t c) := by
 have hpl := pl_lt hn hc
 have hsame : ∀ e set d, set < n0 ∨ (set = n0) -> d < 2 * s.lines.length -> set.testBit (d / 2) = true -> earL s (t.set (plN s n0 c) e) set d = earL s t set d := fun e set d hset hd hbd => ear_congr fun y hy => by
  rw [getD_set (by rw [h.len]; exact hpl), if_neg]
  intro heq
  have := (pl_inj hc hy heq).1
  have := rest_lt hbd
  omega
 unfold tabStep
 cases hm : minL (earL s t n0 c) with
 | none =>
  refine ⟨h.len, h.old, fun d hd hdl => ?_, fun set d h1 h2 h3 h4 => ?_⟩
  ·rcases List.mem_append.1 hd with hd | hd
   ·exact h.now d hd hdl
   ·obtain rfl := List.mem_singleton.1 hd
    dsimp only
    rw [h.new n0 d (Nat.le_refl _) hn hdl (.inr hnd), hm]; rfl
  ·exact h.new set d h1 h2 h3 (h4.imp id fun h h' => h (List.mem_append_left _ h'))
 | some e =>
  dsimp only
  have hg := fun j d => getD_set (t := t) (i := plN s n0 c) (j := j) (v := e) (d := d) (by rw [h.len]; exact hpl)
  refine ⟨by rw [List.length_set]; exact h.len, fun set d h1 h2 h3 => ?_, fun d hd hdl => ?_, fun set d h1 h2 h3 h4 => ?_⟩
  ·rw [hg, if_neg (fun heq => by have := (pl_inj hc h3 heq).1; omega), h.old set d h1 h2 h3]
   cases hbd : set.testBit (d / 2) with
   | false => rfl
   | true => rw [if_pos rfl, if_pos rfl, hsame e set d (.inl h1) h3 hbd]
  ·rw [hg]
   by_cases hcd : c = d
   ·subst hcd
    rw [if_pos rfl, hsame e n0 c (.inr rfl) hdl hb, hm]; rfl
   ·rw [if_neg (fun heq => hcd (pl_inj hc hdl heq).2)]
    have hd' : d ∈ ds := by
     rcases List.mem_append.1 hd with hd | hd
     ·exact hd
     ·exact absurd (List.mem_singleton.1 hd).symm hcd
    rw [h.now d hd' hdl, hsame e n0 d (.inr rfl) hdl (hds d hd')]
  ·rw [hg, if_neg]
   ·exact h.new set d h1 h2 h3 (h4.imp id fun h h' => h (List.mem_append_left _ h'))
   ·intro heq
    obtain ⟨h5, h6⟩ := pl_inj hc h3 heq
    rcases h4 with h4 | h4
    ·exact h4 h5.symm
    ·exact h4 (by rw [<- h6]; exact List.mem_append_right _ (List.mem_singleton.2 rfl))
theorem tabI_set {s : Cr} {n0 : Nat} {t : List Int} (h : TabI s n0 [] t) (hn : n0 < 2 ^ s.lines.length) : TabI s (n0 + 1) [] (tabSet s t n0) := by
 have key : ∀ (l ds : List Nat) (t : List Int), TabI s n0 ds t -> (ds ++ l).Nodup -> (∀ d ∈ ds ++ l, d < 2 * s.lines.length /\ n0.testBit (d / 2) = true) -> TabI s n0 (ds ++ l) (l.foldl (tabStep s n0) t) := by
  intro l
  induction l with
  | nil => intro ds t h _ _; rw [List.append_nil]; exact h
  | cons c l ih =>
   intro ds t h hnd hb
   have e : ds ++ c :: l = (ds ++ [c]) ++ l := by simp
   rw [e] at hnd hb ⊢
   have hc := hb c (by simp)
   have hcn : c ∉ ds := fun hm => by
    have := (List.nodup_append.1 (List.nodup_append.1 hnd).1).2.2 c hm c (List.mem_singleton.2 rfl)
    exact this rfl
   exact ih (ds ++ [c]) _ (h.step hn hc.1 hc.2 hcn (fun d hd => (hb d (by simp [hd])).2)) hnd hb
 have hk := key (shootsL s n0) [] t h (by rw [List.nil_append]; exact (List.nodup_range).filter _) (fun d hd => by rw [List.nil_append] at hd; exact mem_shoots.1 hd)
 rw [List.nil_append] at hk
 refine ⟨hk.len, fun set c h1 h2 h3 => ?_, fun c hc => (by cases hc), fun set c h1 h2 h3 _ => ?_⟩
 ·rcases Nat.lt_or_ge set n0 with h4 | h4
  ·exact hk.old set c h4 h2 h3
  ·obtain rfl : set = n0 := by omega
   cases hb : set.testBit (c / 2) with
   | true => rw [if_pos rfl]; exact hk.now c (mem_shoots.2 ⟨h3, hb⟩) h3
   | false => rw [if_neg (by decide)]; exact hk.new set c h4 h2 h3 (.inr fun hm => by have := (mem_shoots.1 hm).2; rw [hb] at this; cases this)
 ·exact hk.new set c (by omega) h2 h3 (.inl (by omega))
theorem tabI_all (s : Cr) : ∀ n0, n0 <= 2 ^ s.lines.length -> TabI s n0 [] ((List.range n0).foldl (tabSet s) (tab0 s))
 | 0, _ => ⟨by unfold tab0; rw [List.range_zero, List.foldl_nil, List.length_replicate], fun set c h => absurd h (Nat.not_lt_zero _), fun c hc => (by cases hc), fun set c _ h2 h3 _ => by
  rw [List.range_zero, List.foldl_nil]
  unfold tab0
  rw [List.getD_eq_getElem?_getD, List.getElem?_replicate, if_pos (pl_lt h2 h3)]; rfl⟩
 | n0 + 1, h => by
  rw [List.range_succ, List.foldl_append]
  exact tabI_set (tabI_all s n0 (by omega)) (by omega)
theorem tab_len (s : Cr) : (tabF s).length = 2 * s.lines.length * 2 ^ s.lines.length := (tabI_all s _ (Nat.le_refl _)).len
theorem TT_eq {s : Cr} {set c : Nat} (h1 : set < 2 ^ s.lines.length) (h2 : c < 2 * s.lines.length) : TT s set c = if set.testBit (c / 2) then (minL (earL s (tabF s) set c)).getD (-1) else -1 := (tabI_all s _ (Nat.le_refl _)).old set c h1 h1 h2
def Cov (s : Cr) : Nat -> List Nat -> Prop
 | set, [] => set = 0
 | set, c :: l => c < 2 * s.lines.length /\ set.testBit (c / 2) = true /\ Cov s (restN set (c / 2)) l
noncomputable def runE (s : Cr) : Rch -> List Nat -> Option Rch
 | x, [] => some x
 | x, c :: l => match goF s x c with | none => none | some b => runE s (rchF s c b.2) l
theorem run_app (s : Cr) : ∀ (l : List Nat) (x : Rch) (c : Nat), runE s x (l ++ [c]) = match runE s x l with | none => none | some y => (goF s y c).map fun b => rchF s c b.2
 | [], x, c => by
  show (match goF s x c with | none => none | some b => some (rchF s c b.2)) = _
  show _ = (goF s x c).map fun b => rchF s c b.2
  cases goF s x c <;> rfl
 | a :: l, x, c => by
  show (match goF s x a with | none => none | some b => runE s (rchF s a b.2) (l ++ [c])) = match (match goF s x a with | none => none | some b => runE s (rchF s a b.2) l) with | none => none | some y => (goF s y c).map fun b => rchF s c b.2
  cases goF s x a with
  | none => rfl
  | some b => exact run_app s l _ c
theorem run_times (s : Cr) : ∀ (l : List Nat) (x : Rch), (timesG s x l = none ↔ runE s x l = none) /\ ∀ bs, timesG s x l = some bs -> bs.length = l.length /\ ∃ y, runE s x l = some y /\ y.2 = (bs.getLast?.map (·.2)).getD x.2
 | [], x => ⟨⟨fun h => (by cases h), fun h => (by cases h)⟩, fun bs h => by cases h; exact ⟨rfl, x, rfl, rfl⟩⟩
 | c :: l, x => by
  have e1 : timesG s x (c :: l) = match goF s x c with | none => none | some b => (timesG s (rchF s c b.2) l).map (b :: ·) := rfl
  have e2 : runE s x (c :: l) = match goF s x c with | none => none | some b => runE s (rchF s c b.2) l := rfl
  rw [e1, e2]
  cases goF s x c with
  | none => exact ⟨⟨fun _ => rfl, fun _ => rfl⟩, fun bs h => by cases h⟩
  | some b =>
   obtain ⟨h1, h2⟩ := run_times s l (rchF s c b.2)
   dsimp only
   refine ⟨⟨fun h => h1.1 (by cases ht : timesG s (rchF s c b.2) l with | none => rfl | some r => rw [ht] at h; cases h), fun h => by rw [h1.2 h]; rfl⟩, fun bs h => ?_⟩
   cases ht : timesG s (rchF s c b.2) l with
   | none => rw [ht] at h; cases h
   | some r =>
    rw [ht] at h
    cases h
    obtain ⟨g1, y, g2, g3⟩ := h2 r ht
    refine ⟨by rw [List.length_cons, List.length_cons, g1], y, g2, ?_⟩
    rw [g3]
    cases r with
    | nil => rfl
    | cons a r => rw [List.getLast?_cons_cons]; rw [List.getLast?_cons]; rfl
theorem rest_comm {a j k : Nat} (ha : a < 1048576) (hj : j < 20) (hk : k < 20) : restN (restN a j) k = restN (restN a k) j := by
 have h1 : restN a j <= a := by unfold restN; omega
 have h2 : restN a k <= a := by unfold restN; omega
 refine Nat.eq_of_testBit_eq fun i => ?_
 rw [rest_bit (by omega) hk, rest_bit ha hj, rest_bit (by omega) hj, rest_bit ha hk, Bool.and_assoc, Bool.and_assoc, Bool.and_comm (!decide (j = i))]
theorem rest_le {a k : Nat} : restN a k <= a := by unfold restN; omega
theorem cov_app {s : Cr} (hn : s.lines.length <= 5) : ∀ (l : List Nat) (set c : Nat), set < 1048576 -> (Cov s set (l ++ [c]) ↔ c < 2 * s.lines.length /\ set.testBit (c / 2) = true /\ Cov s (restN set (c / 2)) l)
 | [], set, c, _ => Iff.rfl
 | a :: l, set, c, hs => by
  have e1 : Cov s set (a :: l ++ [c]) ↔ a < 2 * s.lines.length /\ set.testBit (a / 2) = true /\ Cov s (restN set (a / 2)) (l ++ [c]) := Iff.rfl
  have e2 : Cov s (restN set (c / 2)) (a :: l) ↔ a < 2 * s.lines.length /\ (restN set (c / 2)).testBit (a / 2) = true /\ Cov s (restN (restN set (c / 2)) (a / 2)) l := Iff.rfl
  have h1 := rest_le (a := set) (k := a / 2)
  rw [e1, e2, cov_app hn l _ c (by omega)]
  constructor
  ·rintro ⟨g1, g2, g3, g4, g5⟩
   rw [rest_bit hs (by omega), Bool.and_eq_true] at g4
   refine ⟨g3, g4.1, g1, ?_, ?_⟩
   ·rw [rest_bit hs (by omega), g2, Bool.true_and]
    have := g4.2
    simp at this ⊢
    omega
   ·rw [rest_comm hs (by omega) (by omega)]; exact g5
  ·rintro ⟨g1, g2, g3, g4, g5⟩
   rw [rest_bit hs (by omega), Bool.and_eq_true] at g4
   refine ⟨g3, g4.1, g1, ?_, ?_⟩
   ·rw [rest_bit hs (by omega), g2, Bool.true_and]
    have := g4.2
    simp at this ⊢
    omega
   ·rw [rest_comm hs (by omega) (by omega)]; exact g5
theorem ear_nonneg {s : Cr} (hs : CrOk s) {t : List Int} {set c : Nat} (hc : c < 2 * s.lines.length) {e : Int} (he : e ∈ earL s t set c) : 0 <= e := by
 unfold earL at he
 obtain ⟨x, hx, h⟩ := List.mem_filterMap.1 he
 obtain ⟨b, hb, rfl⟩ := Option.map_eq_some_iff.1 h
 have := goF_bd hs (c := c) (by omega) hb
 omega
theorem TT_cases {s : Cr} (hs : CrOk s) {set c : Nat} (h1 : set < 2 ^ s.lines.length) (h2 : c < 2 * s.lines.length) :
  (TT s set c = -1 /\ (set.testBit (c / 2) = false ∨ earL s (tabF s) set c = [])) ∨ (0 <= TT s set c /\ set.testBit (c / 2) = true /\ TT s set c ∈ earL s (tabF s) set c /\ ∀ e ∈ earL s (tabF s) set c, TT s set c <= e) := by
 rw [TT_eq h1 h2]
 cases hb : set.testBit (c / 2) with
 | false => exact .inl ⟨rfl, .inl rfl⟩
 | true =>
  rw [if_pos rfl]
  cases hm : minL (earL s (tabF s) set c) with
  | none => exact .inl ⟨rfl, .inr (minL_none.1 hm)⟩
  | some e =>
   obtain ⟨g1, g2⟩ := minL_some hm
   exact .inr ⟨ear_nonneg hs h2 g1, rfl, g1, g2⟩
theorem mem_ear {s : Cr} {t : List Int} {set c : Nat} {e : Int} : e ∈ earL s t set c ↔ ∃ x b, x ∈ befL s t set c /\ goF s x c = some b /\ e = b.2 := by
 unfold earL
 rw [List.mem_filterMap]
 constructor
 ·rintro ⟨x, h1, h2⟩
  obtain ⟨b, h3, rfl⟩ := Option.map_eq_some_iff.1 h2
  exact ⟨x, b, h1, h3, rfl⟩
 ·rintro ⟨x, b, h1, h2, rfl⟩
  exact ⟨x, h1, by rw [h2]; rfl⟩
theorem mem_bef {s : Cr} {t : List Int} {set c : Nat} {x : Rch} : x ∈ befL s t set c ↔ (restN set (c / 2) = 0 /\ x = startR s) ∨ (restN set (c / 2) ≠ 0 /\ ∃ y, y < 2 * s.lines.length /\ t.getD (plN s (restN set (c / 2)) y) 0 ≠ -1 /\ x = rchF s y (t.getD (plN s (restN set (c / 2)) y) 0)) := by
 unfold befL
 split
 ·rename_i h
  rw [List.mem_singleton]
  exact ⟨fun e => .inl ⟨h, e⟩, fun e => e.elim (fun e => e.2) (fun e => absurd h e.1)⟩
 ·rename_i h
  rw [List.mem_filterMap]
  constructor
  ·rintro ⟨y, h1, h2⟩
   split at h2
   ·cases h2
    exact .inr ⟨h, y, List.mem_range.1 h1, by assumption, rfl⟩
   ·cases h2
  ·rintro (e | ⟨_, y, h1, h2, rfl⟩)
   ·exact absurd e.1 h
   ·exact ⟨y, List.mem_range.2 h1, if_pos h2⟩
theorem TT_run {s : Cr} (hs : CrOk s) : ∀ (n set c : Nat), set <= n -> set < 2 ^ s.lines.length -> c < 2 * s.lines.length -> TT s set c ≠ -1 -> ∃ l, Cov s set (l ++ [c]) /\ runE s (startR s) (l ++ [c]) = some (rchF s c (TT s set c)) := by
 intro n
 induction n with
 | zero =>
  intro set c h0 hset hc hT
  obtain rfl : set = 0 := by omega
  rcases TT_cases hs hset hc with ⟨k1, _⟩ | ⟨_, k2, _⟩
  ·exact absurd k1 hT
  ·rw [Nat.zero_testBit] at k2; cases k2
 | succ n ih =>
  intro set c h0 hset hc hT
  have hn5 := hs.n5
  have hp2 : 2 ^ s.lines.length <= 32 := Nat.pow_le_pow_right (n := 2) (by omega) hn5
  rcases TT_cases hs hset hc with ⟨k1, _⟩ | ⟨k1, k2, k3, _⟩
  ·exact absurd k1 hT
  ·have hrl := rest_lt k2
   obtain ⟨x, b, hx, hb, he⟩ := mem_ear.1 k3
   rcases mem_bef.1 hx with ⟨hr0, rfl⟩ | ⟨hr0, y, hy, hyT, rfl⟩
   ·refine ⟨[], ⟨hc, k2, hr0⟩, ?_⟩
    rw [run_app, he]
    show (goF s (startR s) c).map _ = _
    rw [hb]; rfl
   ·obtain ⟨l, g1, g2⟩ := ih (restN set (c / 2)) y (by omega) (by omega) hy hyT
    refine ⟨l ++ [y], (cov_app hn5 _ set c (by omega)).2 ⟨hc, k2, g1⟩, ?_⟩
    rw [run_app, g2, he]
    show (goF s (rchF s y (TT s (restN set (c / 2)) y)) c).map _ = _
    have hb : goF s (rchF s y (TT s (restN set (c / 2)) y)) c = some b := hb
    rw [hb]; rfl
end Go.Proofs.YtifcpjfpjkoicaaGreat.C
end
