/-
  Part of the proof of CourseTurns: what functions of the program and of the statement come to, walked by the rules. No condition beyond those in each theorem.
-/
import Derived.Test.YtgipddabhcmgjaaGreatPvD
import Derived.Test.YtgipddabhcmgjaaGreatXZ
section
open PvL
set_option linter.unusedVariables false
namespace Go.Proofs.YtgipddabhcmgjaaGreat.C
abbrev Bd := Int × Int
abbrev Rg := Bd × Bd × Bd × Bd
/-- the points of a region with an x -/
def rowOf (r : Rg) (x : Int) : Int × Int × Int := (x, iMax (iMax r.2.1.1 (r.2.2.1.1 - x)) (x - r.2.2.2.2), iMin (iMin r.2.1.2 (r.2.2.1.2 - x)) (x - r.2.2.2.1))
abbrev okRow (t : Int × Int × Int) : Bool := decide (t.2.1 ≤ t.2.2)
def rowsFrom (r : Rg) (k n : Nat) : List (Int × Int × Int) := ((List.range n).map fun j => rowOf r (r.1.1 + ((k + j : Nat) : Int))).filter okRow
def rowsK (r : Rg) (k : Nat) : List (Int × Int × Int) := rowsFrom r 0 k
def rowsN (r : Rg) : Nat := (r.1.2 + 1 - r.1.1).toNat
def rowsL (r : Rg) : List (Int × Int × Int) := rowsK r (rowsN r)
theorem rowsFrom_succ (r : Rg) (k n : Nat) : rowsFrom r k (n + 1) = (if okRow (rowOf r (r.1.1 + (k : Int))) then [rowOf r (r.1.1 + (k : Int))] else []) ++ rowsFrom r (k + 1) n := by
  unfold rowsFrom
  rw [List.range_succ_eq_map, List.map_cons, List.map_map, List.filter_cons]
  have e : ((fun j => rowOf r (r.1.1 + ((k + j : Nat) : Int))) ∘ Nat.succ) = fun j => rowOf r (r.1.1 + ((k + 1 + j : Nat) : Int)) := by
    funext j
    show rowOf r (r.1.1 + ((k + (j + 1) : Nat) : Int)) = _
    rw [show k + (j + 1) = k + 1 + j by omega]
  rw [e, Nat.add_zero]
  by_cases h : okRow (rowOf r (r.1.1 + (k : Int))) = true
  · rw [if_pos h, if_pos h]; rfl
  · rw [if_neg h, if_neg h]; rfl
theorem rowsK_succ (r : Rg) (k : Nat) : rowsK r (k + 1) = rowsK r k ++ (if okRow (rowOf r (r.1.1 + (k : Int))) then [rowOf r (r.1.1 + (k : Int))] else []) := by
  unfold rowsK rowsFrom
  rw [List.range_succ, List.map_append, List.filter_append]
  congr 1
  simp only [List.map_cons, List.map_nil, List.filter_cons, List.filter_nil, Nat.zero_add]
theorem rowsK_split (r : Rg) : ∀ (n k : Nat), rowsK r (k + n) = rowsK r k ++ rowsFrom r k n
  | 0, k => by rw [Nat.add_zero]; unfold rowsFrom; simp
  | n + 1, k => by rw [show k + (n + 1) = (k + 1) + n by omega, rowsK_split r n (k + 1), rowsK_succ, List.append_assoc, rowsFrom_succ]
theorem rowsK_get (r : Rg) {k n : Nat} (h : k < n) (hok : okRow (rowOf r (r.1.1 + (k : Int))) = true) : (rowsK r n)[(rowsK r k).length]? = some (rowOf r (r.1.1 + (k : Int))) := by
  obtain ⟨m, rfl⟩ : ∃ m, n = k + (m + 1) := ⟨n - k - 1, by omega⟩
  rw [rowsK_split, List.getElem?_append_right (Nat.le_refl _), Nat.sub_self, rowsFrom_succ, if_pos hok]; rfl
/-- the ends of a row: of a row of one point once -/
def ends1 (t : Int × Int × Int) : List (Int × Int) := if t.2.1 = t.2.2 then [(t.1, t.2.1)] else [(t.1, t.2.1), (t.1, t.2.2)]
def endsOf (l : List (Int × Int × Int)) : List (Int × Int) := l.flatMap ends1
def endsL (r : Rg) : List (Int × Int) := endsOf (rowsL r)
theorem endsOf_split (l : List (Int × Int × Int)) {k : Nat} {t : Int × Int × Int} (h : l[k]? = some t) : endsOf l = endsOf (l.take k) ++ (ends1 t ++ endsOf (l.drop (k + 1))) := by
  obtain ⟨hk, rfl⟩ := List.getElem?_eq_some_iff.1 h
  unfold endsOf
  conv => lhs; rw [← List.take_append_drop k l, List.flatMap_append, List.drop_eq_getElem_cons hk]
  rfl
theorem endsOf_succ (l : List (Int × Int × Int)) {k : Nat} {t : Int × Int × Int} (h : l[k]? = some t) : endsOf (l.take (k + 1)) = endsOf (l.take k) ++ ends1 t := by
  obtain ⟨hk, rfl⟩ := List.getElem?_eq_some_iff.1 h
  unfold endsOf
  rw [List.take_succ_eq_append_getElem hk, List.flatMap_append]
  simp
def ofP (p : Int × Int) : Rg := ((p.1, p.1), (p.2, p.2), (p.1 + p.2, p.1 + p.2), (p.1 - p.2, p.1 - p.2))
def spanB (a b : Bd) : Bd := (iMin a.1 b.1, iMax a.2 b.2)
def plusB (a b : Bd) : Bd := (a.1 + b.1, a.2 + b.2)
def map4 (f : Bd → Bd → Bd) (r q : Rg) : Rg := (f r.1 q.1, f r.2.1 q.2.1, f r.2.2.1 q.2.2.1, f r.2.2.2 q.2.2.2)
def zRg : Rg := ((0, 0), (0, 0), (0, 0), (0, 0))
/-- the least bounds of points so far, and one more -/
def hstep (o : Option Rg) (p : Int × Int) : Option Rg := some (map4 spanB (o.getD (ofP p)) (ofP p))
def hullO (o : Option Rg) (l : List (Int × Int)) : Option Rg := l.foldl hstep o
theorem hullO_take (o : Option Rg) (l : List (Int × Int)) {k : Nat} {p : Int × Int} (h : l[k]? = some p) : hullO o (l.take (k + 1)) = hstep (hullO o (l.take k)) p := by
  obtain ⟨hk, rfl⟩ := List.getElem?_eq_some_iff.1 h
  unfold hullO
  rw [List.take_succ_eq_append_getElem hk, List.foldl_append]; rfl
/-- all bounds of a region are small -/
def Sm (B : Int) (r : Rg) : Prop := (-B ≤ r.1.1 ∧ r.1.1 ≤ B) ∧ (-B ≤ r.1.2 ∧ r.1.2 ≤ B) ∧ (-B ≤ r.2.1.1 ∧ r.2.1.1 ≤ B) ∧ (-B ≤ r.2.1.2 ∧ r.2.1.2 ≤ B) ∧ (-B ≤ r.2.2.1.1 ∧ r.2.2.1.1 ≤ B) ∧ (-B ≤ r.2.2.1.2 ∧ r.2.2.1.2 ≤ B) ∧ (-B ≤ r.2.2.2.1 ∧ r.2.2.2.1 ≤ B) ∧ (-B ≤ r.2.2.2.2 ∧ r.2.2.2.2 ≤ B)
abbrev SmP (B : Int) (p : Int × Int) : Prop := (-B ≤ p.1 ∧ p.1 ≤ B) ∧ (-B ≤ p.2 ∧ p.2 ≤ B)
theorem Sm.mono {B C : Int} {r : Rg} (h : Sm B r) (hc : B ≤ C) : Sm C r := by unfold Sm at *; omega
theorem SmP.mono {B C : Int} {p : Int × Int} (h : SmP B p) (hc : B ≤ C) : SmP C p := by unfold SmP at *; omega
theorem mem_rows {r : Rg} {t : Int × Int × Int} (h : t ∈ rowsL r) : ∃ x, r.1.1 ≤ x ∧ x ≤ r.1.2 ∧ t = rowOf r x ∧ t.2.1 ≤ t.2.2 := by
  unfold rowsL rowsK rowsFrom at h
  rw [List.mem_filter] at h
  obtain ⟨h1, h2⟩ := h
  obtain ⟨j, hj, rfl⟩ := List.mem_map.1 h1
  have hj := List.mem_range.1 hj
  unfold rowsN at hj
  exact ⟨_, by omega, by omega, rfl, of_decide_eq_true h2⟩
theorem rows_mem {r : Rg} {x : Int} (h1 : r.1.1 ≤ x) (h2 : x ≤ r.1.2) (h : (rowOf r x).2.1 ≤ (rowOf r x).2.2) : rowOf r x ∈ rowsL r := by
  unfold rowsL rowsK rowsFrom rowsN
  rw [List.mem_filter]
  refine ⟨List.mem_map.2 ⟨(x - r.1.1).toNat, List.mem_range.2 (by omega), ?_⟩, decide_eq_true h⟩
  rw [Nat.zero_add, Int.toNat_of_nonneg (by omega), Int.add_comm, Int.sub_add_cancel]
theorem row_sm {B : Int} {r : Rg} (h : Sm B r) {x : Int} (h1 : r.1.1 ≤ x) (h2 : x ≤ r.1.2) : (-B ≤ (rowOf r x).1 ∧ (rowOf r x).1 ≤ B) ∧ (-(2 * B) ≤ (rowOf r x).2.1 ∧ (rowOf r x).2.1 ≤ 2 * B) ∧ (-(2 * B) ≤ (rowOf r x).2.2 ∧ (rowOf r x).2.2 ≤ 2 * B) := by
  unfold Sm at h
  unfold rowOf iMax iMin
  dsimp only
  omega
theorem ends_sm {B : Int} {r : Rg} (h : Sm B r) {q : Int × Int} (hq : q ∈ endsL r) : SmP (2 * B) q := by
  unfold endsL endsOf at hq
  obtain ⟨t, ht, hq⟩ := List.mem_flatMap.1 hq
  obtain ⟨x, h1, h2, rfl, h3⟩ := mem_rows ht
  have := row_sm h h1 h2
  have hB : 0 ≤ B := by unfold Sm at h; omega
  unfold ends1 at hq
  unfold SmP
  split at hq
  · obtain rfl := List.mem_singleton.1 hq
    omega
  · rcases List.mem_cons.1 hq with rfl | hq
    · omega
    · obtain rfl := List.mem_singleton.1 hq
      omega
theorem hstep_sm {B : Int} {o : Option Rg} (ho : ∀ r, o = some r → Sm (2 * B) r) {p : Int × Int} (hp : SmP B p) (r : Rg) (hr : hstep o p = some r) : Sm (2 * B) r := by
  cases hr
  unfold SmP at hp
  have h1 : Sm (2 * B) (ofP p) := by unfold Sm ofP; dsimp only; omega
  have h2 : Sm (2 * B) (o.getD (ofP p)) := by
    cases o with
    | none => exact h1
    | some r => exact ho r rfl
  generalize o.getD (ofP p) = a at h2
  generalize ofP p = b at h1
  unfold Sm at *
  unfold map4 spanB iMin iMax
  dsimp only
  omega
theorem hullO_sm {B : Int} : ∀ (l : List (Int × Int)) (o : Option Rg), (∀ r, o = some r → Sm (2 * B) r) → (∀ p ∈ l, SmP B p) → ∀ r, hullO o l = some r → Sm (2 * B) r
  | [], o, ho, _, r, hr => ho r hr
  | p :: l, o, ho, hl, r, hr => hullO_sm l (hstep o p) (fun r hr => hstep_sm ho (hl p List.mem_cons_self) r hr) (fun q hq => hl q (List.mem_cons_of_mem _ hq)) r hr
theorem hull_sm {B : Int} (l : List (Int × Int)) (hl : ∀ p ∈ l, SmP B p) (hB : 0 ≤ B) : Sm (2 * B) ((hullO none l).getD zRg) := by
  cases h : hullO none l with
  | none => unfold Sm zRg; dsimp only [Option.getD]; omega
  | some r => exact hullO_sm l none (fun r hr => by cases hr) hl r h
/-- the tight bounds -/
def tightO (r : Rg) : Option Rg := hullO none (endsL r)
theorem tight_sm {B : Int} {r : Rg} (h : Sm B r) : Sm (4 * B) ((tightO r).getD zRg) := by
  have hB : 0 ≤ B := by unfold Sm at h; omega
  have := hull_sm (endsL r) (fun p hp => ends_sm h hp) (by omega : 0 ≤ 2 * B)
  rw [show 2 * (2 * B) = 4 * B by omega] at this
  exact this
abbrev fitsP (l : Int) (b : Bd) : Prop := -l ≤ b.1 ∧ b.1 ≤ b.2 ∧ b.2 ≤ l
abbrev RgOk (r : Rg) : Prop := fitsP 32768 r.1 ∧ fitsP 32768 r.2.1 ∧ fitsP 65536 r.2.2.1 ∧ fitsP 65536 r.2.2.2
theorem RgOk.sm {r : Rg} (h : RgOk r) : Sm 65536 r := by unfold Sm; dsimp only [RgOk, fitsP] at h; omega
def tightF (r : Rg) : Rg × Int := if RgOk r then (match tightO r with | some t => (t, 0) | none => (zRg, 4)) else (zRg, 11)
def insideF (r : Rg) : Rg × Int := if fitsP 32768 r.1 ∧ fitsP 32768 r.2.1 then (r, 0) else (zRg, 7)
def moveF (r : Rg) (p : Int × Int) : Rg × Int :=
  if RgOk r then (if SmP 65536 p then (match tightO r with | some t => insideF (map4 plusB t (ofP p)) | none => (zRg, 4)) else (zRg, 7)) else (zRg, 11)
def joinF (a b : Rg) : Rg × Int := if RgOk a ∧ RgOk b then (match hullO none (endsL a ++ endsL b) with | some h => (h, 0) | none => (zRg, 4)) else (zRg, 11)
def sweptF (r : Rg) (p q : Int × Int) : Rg × Int :=
  if (moveF r p).2 = 0 then (if (moveF r q).2 = 0 then joinF (moveF r p).1 (moveF r q).1 else (zRg, (moveF r q).2)) else (zRg, (moveF r p).2)
theorem joinF_some {a b : Rg} (hok : RgOk a ∧ RgOk b) (h : (hullO none (endsL a ++ endsL b)).isSome = true) : joinF a b = ((hullO none (endsL a ++ endsL b)).getD zRg, 0) := by
  unfold joinF
  rw [if_pos hok]
  revert h
  cases hullO none (endsL a ++ endsL b) with
  | none => intro h; cases h
  | some t => intro _; rfl
theorem joinF_none {a b : Rg} (hok : RgOk a ∧ RgOk b) (h : (hullO none (endsL a ++ endsL b)).isSome = false) : joinF a b = (zRg, 4) := by
  unfold joinF
  rw [if_pos hok]
  revert h
  cases hullO none (endsL a ++ endsL b) with
  | none => intro _; rfl
  | some t => intro h; cases h
end Go.Proofs.YtgipddabhcmgjaaGreat.C
end
section
open PvL
set_option linter.unusedVariables false
namespace Go.Proofs.YtgipddabhcmgjaaGreat.C
abbrev Pt := Int × Int
abbrev ptc (p : Pt) : List LV := [I p.1, I p.2]
/-- a list in memory -/
def SlA {α : Type} (sz : Nat) (enc : α → List LV) (M : Mem) (a : Option (Nat × Nat)) (l : List α) : Prop := l = [] ∨ ∃ i o, a = some (i, o) ∧ ∀ k (hk : k < l.length), Rd M i (o + k * sz) sz (enc l[k])
def SlA1 {α : Type} (enc : α → LV) (M : Mem) (a : Option (Nat × Nat)) (l : List α) : Prop := l = [] ∨ ∃ i o, a = some (i, o) ∧ ∀ k (hk : k < l.length), Rd1 M i (o + k * 1) (enc l[k])
theorem SlA.grow {α : Type} {sz : Nat} {enc : α → List LV} {M M' : Mem} {a : Option (Nat × Nat)} {l : List α} (h : SlA sz enc M a l) (hg : Grow M M') : SlA sz enc M' a l :=
  h.imp id fun ⟨i, o, h1, h2⟩ => ⟨i, o, h1, fun k hk => (h2 k hk).grow hg⟩
theorem SlA1.grow {α : Type} {enc : α → LV} {M M' : Mem} {a : Option (Nat × Nat)} {l : List α} (h : SlA1 enc M a l) (hg : Grow M M') : SlA1 enc M' a l :=
  h.imp id fun ⟨i, o, h1, h2⟩ => ⟨i, o, h1, fun k hk => (h2 k hk).grow hg⟩
abbrev Pl (x y : Int) : Prop := -32768 ≤ x ∧ x ≤ 32768 ∧ -32768 ≤ y ∧ y ≤ 32768
abbrev PlP (p : Pt) : Prop := Pl p.1 p.2
def turnP (a b c : Pt) : Int := (b.1 - a.1) * (c.2 - a.2) - (b.2 - a.2) * (c.1 - a.1)
theorem mod_lt' {i n : Nat} (h : 0 < n) : (i + 1) % n < n := Nat.mod_lt _ h
def FieldOk (l : List Pt) : Prop := 3 ≤ l.length ∧ l.length ≤ 8 ∧ (∀ p ∈ l, PlP p) ∧
  ∀ (i j : Nat) (hi : i < l.length) (hj : j < l.length), j ≠ i → j ≠ (i + 1) % l.length → 0 < turnP l[i] (l[(i + 1) % l.length]'(mod_lt' (by omega))) l[j]
open Classical in
noncomputable def eFd (l : List Pt) : Int := if FieldOk l then 0 else 12
theorem turn_bd {a b c : Pt} (ha : PlP a) (hb : PlP b) (hc : PlP c) : -17179869184 ≤ (b.1 - a.1) * (c.2 - a.2) ∧ (b.1 - a.1) * (c.2 - a.2) ≤ 17179869184 ∧ -17179869184 ≤ (b.2 - a.2) * (c.1 - a.1) ∧ (b.2 - a.2) * (c.1 - a.1) ≤ 17179869184 := by
  have h1 := mul_bd (a := b.1 - a.1) (b := c.2 - a.2) (A := 65536) (B := 65536) (by dsimp only [PlP, Pl] at *; omega) (by dsimp only [PlP, Pl] at *; omega)
  have h2 := mul_bd (a := b.2 - a.2) (b := c.1 - a.1) (A := 65536) (B := 65536) (by dsimp only [PlP, Pl] at *; omega) (by dsimp only [PlP, Pl] at *; omega)
  omega
/-- the sides of a field -/
def atP (l : List Pt) (k : Nat) : Pt := l.getD k (0, 0)
def sidesL (l : List Pt) : List (Pt × Pt) := (List.range l.length).map fun k => (atP l k, atP l ((k + 1) % l.length))
theorem sidesL_length (l : List Pt) : (sidesL l).length = l.length := by unfold sidesL; rw [List.length_map, List.length_range]
theorem sidesL_get {l : List Pt} {k : Nat} (h : k < l.length) : (sidesL l)[k]? = some (atP l k, atP l ((k + 1) % l.length)) := by
  unfold sidesL
  rw [List.getElem?_map, List.getElem?_range h]; rfl
theorem atP_eq {l : List Pt} {k : Nat} (h : k < l.length) : atP l k = l[k] := by unfold atP; rw [List.getD_eq_getElem?_getD, List.getElem?_eq_getElem h]; rfl
/-- a row, cut by what is to the left of a side -/
def sideK (q : Pt × Pt) : Int := q.2.1 - q.1.1
def sideN (x : Int) (q : Pt × Pt) : Int := (q.2.1 - q.1.1) * q.1.2 + (q.2.2 - q.1.2) * (x - q.1.1)
def clip1 (x : Int) (t : Int × Int) (q : Pt × Pt) : Int × Int :=
  if 0 < sideK q then (iMax t.1 (-((-(sideN x q)) / sideK q)), t.2) else if sideK q < 0 then (t.1, iMin t.2 ((-(sideN x q)) / (-(sideK q)))) else if 0 < sideN x q then (t.1, t.1 - 1) else t
def clips (x : Int) (t : Int × Int) (qs : List (Pt × Pt)) : Int × Int := qs.foldl (clip1 x) t
theorem clip1_dead {x : Int} {t : Int × Int} {q : Pt × Pt} (h : t.2 < t.1) : (clip1 x t q).2 < (clip1 x t q).1 := by
  unfold clip1 iMax iMin
  split
  · dsimp only; omega
  · split
    · dsimp only; omega
    · split
      · dsimp only; omega
      · exact h
theorem clips_dead {x : Int} : ∀ {qs : List (Pt × Pt)} {t : Int × Int}, t.2 < t.1 → (clips x t qs).2 < (clips x t qs).1
  | [], _, h => h
  | q :: qs, _, h => clips_dead (qs := qs) (clip1_dead (q := q) h)
theorem clips_take {x : Int} {t : Int × Int} {qs : List (Pt × Pt)} {k : Nat} {q : Pt × Pt} (h : qs[k]? = some q) : clips x t (qs.take (k + 1)) = clip1 x (clips x t (qs.take k)) q := by
  obtain ⟨hk, rfl⟩ := List.getElem?_eq_some_iff.1 h
  unfold clips
  rw [List.take_succ_eq_append_getElem hk, List.foldl_append]; rfl
theorem clips_split {x : Int} {t : Int × Int} {qs : List (Pt × Pt)} {k : Nat} (hk : k ≤ qs.length) : clips x t qs = clips x (clips x t (qs.take k)) (qs.drop k) := by
  unfold clips
  rw [← List.foldl_append, List.take_append_drop]
def hitRow (l : List Pt) (t : Int × Int × Int) : Option Pt := if (clips t.1 (t.2.1, t.2.2) (sidesL l)).1 ≤ (clips t.1 (t.2.1, t.2.2) (sidesL l)).2 then some (t.1, (clips t.1 (t.2.1, t.2.2) (sidesL l)).1) else none
theorem hitRow_dead {l : List Pt} {t : Int × Int × Int} {k : Nat} (hk : k ≤ (sidesL l).length) (h : (clips t.1 (t.2.1, t.2.2) ((sidesL l).take k)).2 < (clips t.1 (t.2.1, t.2.2) ((sidesL l).take k)).1) : hitRow l t = none := by
  unfold hitRow
  rw [if_neg]
  rw [clips_split hk]
  have := clips_dead (x := t.1) (qs := (sidesL l).drop k) h
  omega
def hitsO (l : List Pt) (r : Rg) : Option Pt := (rowsL r).findSome? (hitRow l)
theorem findSome_none {α β : Type} {f : α → Option β} : ∀ {l : List α}, (∀ t ∈ l, f t = none) → l.findSome? f = none
  | [], _ => rfl
  | a :: l, h => by rw [List.findSome?_cons, h a List.mem_cons_self]; exact findSome_none fun t ht => h t (List.mem_cons_of_mem _ ht)
theorem findSome_at {α β : Type} {f : α → Option β} {l : List α} {k : Nat} {a : α} {b : β} (hk : l[k]? = some a) (h : ∀ t ∈ l.take k, f t = none) (hb : f a = some b) : l.findSome? f = some b := by
  obtain ⟨hlt, rfl⟩ := List.getElem?_eq_some_iff.1 hk
  rw [← List.take_append_drop k l, List.findSome?_append, findSome_none h, List.drop_eq_getElem_cons hlt, List.findSome?_cons, hb]; rfl
theorem side_bd {x : Int} {q : Pt × Pt} (hx : -32768 ≤ x ∧ x ≤ 32768) (h1 : PlP q.1) (h2 : PlP q.2) : (-65536 ≤ sideK q ∧ sideK q ≤ 65536) ∧ (-6442450944 ≤ sideN x q ∧ sideN x q ≤ 6442450944) ∧
    (-2147483648 ≤ (q.2.1 - q.1.1) * q.1.2 ∧ (q.2.1 - q.1.1) * q.1.2 ≤ 2147483648) ∧ (-4294967296 ≤ (q.2.2 - q.1.2) * (x - q.1.1) ∧ (q.2.2 - q.1.2) * (x - q.1.1) ≤ 4294967296) := by
  have e1 := mul_bd (a := q.2.1 - q.1.1) (b := q.1.2) (A := 65536) (B := 32768) (by dsimp only [PlP, Pl] at *; omega) (by dsimp only [PlP, Pl] at *; omega)
  have e2 := mul_bd (a := q.2.2 - q.1.2) (b := x - q.1.1) (A := 65536) (B := 65536) (by dsimp only [PlP, Pl] at *; omega) (by dsimp only [PlP, Pl] at *; omega)
  unfold sideK sideN
  dsimp only [PlP, Pl] at *
  omega
theorem sides_mem {l : List Pt} (hl : ∀ p ∈ l, PlP p) {q : Pt × Pt} (hq : q ∈ sidesL l) : PlP q.1 ∧ PlP q.2 := by
  unfold sidesL at hq
  obtain ⟨k, hk, rfl⟩ := List.mem_map.1 hq
  have hk := List.mem_range.1 hk
  have hm := mod_lt' (i := k) (by omega : 0 < l.length)
  rw [atP_eq hk, atP_eq hm]
  exact ⟨hl _ (List.getElem_mem _), hl _ (List.getElem_mem _)⟩
open Classical in
noncomputable def hitsF (l : List Pt) (r : Rg) : Pt × Int := if FieldOk l then (if RgOk r then (match hitsO l r with | some p => (p, 0) | none => ((0, 0), 4)) else ((0, 0), 11)) else ((0, 0), 12)
abbrev ptv (p : Int × Int) : LV := .agg [I p.1, I p.2]
abbrev rgv (r : Rg) : LV := .agg [I r.1.1, I r.1.2, I r.2.1.1, I r.2.1.2, I r.2.2.1.1, I r.2.2.1.2, I r.2.2.2.1, I r.2.2.2.2]
def eRg (r : Rg) : Int := if RgOk r then 0 else 11
abbrev rowv (t : Int × Int × Int) : LV := .agg [I t.1, I t.2.1, I t.2.2]
abbrev rgc (r : Rg) : List LV := [I r.1.1, I r.1.2, I r.2.1.1, I r.2.1.2, I r.2.2.1.1, I r.2.2.1.2, I r.2.2.2.1, I r.2.2.2.2]
abbrev resv (x : Rg × Int) : LV := .tup [rgv x.1, I x.2]
def eTi (r : Rg) : Int := if (tightO r).isSome then 0 else 4
end Go.Proofs.YtgipddabhcmgjaaGreat.C
end
section
open Go PvL Go.Proofs
set_option linter.unusedVariables false
set_option linter.unusedSimpArgs false
namespace Go.Proofs.YtgipddabhcmgjaaGreat.C
instance : Orc Tryz.prog := ⟨fun f l => match l with | [] => bif Nat.beq f 17 then some (.bool true) else none | _ => none⟩
instance : IsB Tryz.prog 4 := ⟨by kernel_rfl⟩
theorem c_within (n lo hi : Int) (M : Mem) : CallOk Tryz.prog 43 [I n, I lo, I hi] M (fun w M' => w = .bool (decide (lo ≤ n ∧ n ≤ hi)) ∧ M' = M) := by
  refine call_in k43 rfl ?_
  dsimp only [x43, zipE, Nat.reduceAdd]
  (repeat' (first | (with_reducible first | apply w_seq | apply w_ops | apply w_draw | apply w_block | apply w_scope | apply w_ret | apply w_exit | apply w_skip | apply k_seq | apply k_seq_ret | apply k_seq_exit | apply k_block | apply k_block_ret | apply k_block_exit | apply k_loop_ret | apply k_loop_exit | apply k_step_ret | apply k_step_exit | apply xw_nil | apply d_nil) | ((with_reducible first | apply x_val | apply d_val); exact gd; exact sx) | ((with_reducible first | apply x_l1 | apply x_lN | apply d_ld1 | apply d_ldN); exact gd; exact rfl; exact xm) | ((with_reducible first | apply x_st | apply d_st); exact gd; exact rfl; exact rfl; exact xm; exact rfl; exact rfl; exact rfl; intros) | ((with_reducible first | apply x_box | apply d_box | apply x_bsl | apply d_bsl); exact gd; exact rfl; exact rfl; intros) | ((with_reducible first | apply x_new | apply d_new); exact gd; exact rfl; intros) | ((with_reducible first | apply x_mkmap | apply d_mkmap); exact gd; intros) | ((with_reducible first | apply x_off | apply x_off0 | apply d_off | apply d_off_calm | apply d_off_new | apply d_off_anchor); exact gx) | ((with_reducible apply w_cond); exact rfl; all_goals (intro h; (first | replace h := BN.t h | replace h := BN.f h); try first | exact h.elim | (exfalso; omega))) | ((with_reducible first | apply x_guard | apply d_guard | apply x_pick | apply d_pick); (fail_if_success exact lit_t rfl); (fail_if_success exact lit_f rfl); exact rfl; all_goals (intro h; (first | replace h := BN.t h | replace h := BN.f h); try first | exact h.elim | (exfalso; omega))) | (with_reducible first | apply ob_nil | apply ob_cons | apply ob_at_nil) | ((with_reducible apply ob_at_out); exact rfl) | (with_reducible apply ob_at_in) | ((with_reducible apply k_block_out); exact rfl) | (with_reducible apply k_assign) | (with_reducible first | apply k_round | apply k_round_ret | apply k_round_exit) | assumption | exact xm | exact rfl | (intro (_ : Mem)) | (intro (_ : Upd _ _ _ _)) | (intro (_ : Mem.next _ = _)) | (intro (_ : At _ _ _))))
  all_goals (apply k_fun; exact .tmp rfl .nil; refine ⟨?_, rfl⟩)
  all_goals first
    | exact lb_iff (by omega)
    | exact lb_f (by omega)
    | exact lb_t (by omega)
theorem c_rwithin (n lo hi : Int) (M : Mem) : CallOk Tryz.prog 127 [I n, I lo, I hi] M (fun w M' => w = .bool (decide (lo ≤ n ∧ n ≤ hi)) ∧ M' = M) := by
  refine call_in k127 rfl ?_
  dsimp only [x127, zipE, Nat.reduceAdd]
  (repeat' (first | (with_reducible first | apply w_seq | apply w_ops | apply w_draw | apply w_block | apply w_scope | apply w_ret | apply w_exit | apply w_skip | apply k_seq | apply k_seq_ret | apply k_seq_exit | apply k_block | apply k_block_ret | apply k_block_exit | apply k_loop_ret | apply k_loop_exit | apply k_step_ret | apply k_step_exit | apply xw_nil | apply d_nil) | ((with_reducible first | apply x_val | apply d_val); exact gd; exact sx) | ((with_reducible first | apply x_l1 | apply x_lN | apply d_ld1 | apply d_ldN); exact gd; exact rfl; exact xm) | ((with_reducible first | apply x_st | apply d_st); exact gd; exact rfl; exact rfl; exact xm; exact rfl; exact rfl; exact rfl; intros) | ((with_reducible first | apply x_box | apply d_box | apply x_bsl | apply d_bsl); exact gd; exact rfl; exact rfl; intros) | ((with_reducible first | apply x_new | apply d_new); exact gd; exact rfl; intros) | ((with_reducible first | apply x_mkmap | apply d_mkmap); exact gd; intros) | ((with_reducible first | apply x_off | apply x_off0 | apply d_off | apply d_off_calm | apply d_off_new | apply d_off_anchor); exact gx) | ((with_reducible apply w_cond); exact rfl; all_goals (intro h; (first | replace h := BN.t h | replace h := BN.f h); try first | exact h.elim | (exfalso; omega))) | ((with_reducible first | apply x_guard | apply d_guard | apply x_pick | apply d_pick); (fail_if_success exact lit_t rfl); (fail_if_success exact lit_f rfl); exact rfl; all_goals (intro h; (first | replace h := BN.t h | replace h := BN.f h); try first | exact h.elim | (exfalso; omega))) | (with_reducible first | apply ob_nil | apply ob_cons | apply ob_at_nil) | ((with_reducible apply ob_at_out); exact rfl) | (with_reducible apply ob_at_in) | ((with_reducible apply k_block_out); exact rfl) | (with_reducible apply k_assign) | (with_reducible first | apply k_round | apply k_round_ret | apply k_round_exit) | assumption | exact xm | exact rfl | (intro (_ : Mem)) | (intro (_ : Upd _ _ _ _)) | (intro (_ : Mem.next _ = _)) | (intro (_ : At _ _ _))))
  all_goals (apply k_fun; exact .tmp rfl .nil; refine ⟨?_, rfl⟩)
  all_goals first
    | exact lb_iff (by omega)
    | exact lb_f (by omega)
    | exact lb_t (by omega)
theorem c_between (n lo hi : Int) (M : Mem) : CallOk Tryz.prog 40 [I n, I lo, I hi] M (fun w M' => w = .bool (decide (lo ≤ n ∧ n ≤ hi)) ∧ M' = M) := by
  refine call_in k40 rfl ?_
  dsimp only [x40, zipE, Nat.reduceAdd]
  (repeat' (first | (with_reducible first | apply w_seq | apply w_ops | apply w_draw | apply w_block | apply w_scope | apply w_ret | apply w_exit | apply w_skip | apply k_seq | apply k_seq_ret | apply k_seq_exit | apply k_block | apply k_block_ret | apply k_block_exit | apply k_loop_ret | apply k_loop_exit | apply k_step_ret | apply k_step_exit | apply xw_nil | apply d_nil) | ((with_reducible first | apply x_val | apply d_val); exact gd; exact sx) | ((with_reducible first | apply x_l1 | apply x_lN | apply d_ld1 | apply d_ldN); exact gd; exact rfl; exact xm) | ((with_reducible first | apply x_st | apply d_st); exact gd; exact rfl; exact rfl; exact xm; exact rfl; exact rfl; exact rfl; intros) | ((with_reducible first | apply x_box | apply d_box | apply x_bsl | apply d_bsl); exact gd; exact rfl; exact rfl; intros) | ((with_reducible first | apply x_new | apply d_new); exact gd; exact rfl; intros) | ((with_reducible first | apply x_mkmap | apply d_mkmap); exact gd; intros) | ((with_reducible first | apply x_off | apply x_off0 | apply d_off | apply d_off_calm | apply d_off_new | apply d_off_anchor); exact gx) | ((with_reducible apply w_cond); exact rfl; all_goals (intro h; (first | replace h := BN.t h | replace h := BN.f h); try first | exact h.elim | (exfalso; omega))) | ((with_reducible first | apply x_guard | apply d_guard | apply x_pick | apply d_pick); (fail_if_success exact lit_t rfl); (fail_if_success exact lit_f rfl); exact rfl; all_goals (intro h; (first | replace h := BN.t h | replace h := BN.f h); try first | exact h.elim | (exfalso; omega))) | (with_reducible first | apply ob_nil | apply ob_cons | apply ob_at_nil) | ((with_reducible apply ob_at_out); exact rfl) | (with_reducible apply ob_at_in) | ((with_reducible apply k_block_out); exact rfl) | (with_reducible apply k_assign) | (with_reducible first | apply k_round | apply k_round_ret | apply k_round_exit) | assumption | exact xm | exact rfl | (intro (_ : Mem)) | (intro (_ : Upd _ _ _ _)) | (intro (_ : Mem.next _ = _)) | (intro (_ : At _ _ _))))
  all_goals (apply k_fun; exact .tmp rfl .nil; refine ⟨?_, rfl⟩)
  all_goals first
    | exact lb_iff (by omega)
    | exact lb_f (by omega)
    | exact lb_t (by omega)
theorem c_into (l n : Int) (hl : 0 ≤ l ∧ l ≤ 1000000) (M : Mem) : CallOk Tryz.prog 125 [I l, I n] M (fun w M' => w = I (iMax (-l) (iMin n l)) ∧ M' = M) := by
  refine call_in k125 rfl ?_
  dsimp only [x125, zipE, Nat.reduceAdd]
  (repeat' (first | (with_reducible first | apply w_seq | apply w_ops | apply w_draw | apply w_block | apply w_scope | apply w_ret | apply w_exit | apply w_skip | apply k_seq | apply k_seq_ret | apply k_seq_exit | apply k_block | apply k_block_ret | apply k_block_exit | apply k_loop_ret | apply k_loop_exit | apply k_step_ret | apply k_step_exit | apply xw_nil | apply d_nil) | ((with_reducible first | apply x_val | apply d_val); exact gd; exact sx) | ((with_reducible first | apply x_l1 | apply x_lN | apply d_ld1 | apply d_ldN); exact gd; exact rfl; exact xm) | ((with_reducible first | apply x_st | apply d_st); exact gd; exact rfl; exact rfl; exact xm; exact rfl; exact rfl; exact rfl; intros) | ((with_reducible first | apply x_box | apply d_box | apply x_bsl | apply d_bsl); exact gd; exact rfl; exact rfl; intros) | ((with_reducible first | apply x_new | apply d_new); exact gd; exact rfl; intros) | ((with_reducible first | apply x_mkmap | apply d_mkmap); exact gd; intros) | ((with_reducible first | apply x_off | apply x_off0 | apply d_off | apply d_off_calm | apply d_off_new | apply d_off_anchor); exact gx) | ((with_reducible apply w_cond); exact rfl; all_goals (intro h; (first | replace h := BN.t h | replace h := BN.f h); try first | exact h.elim | (exfalso; omega))) | ((with_reducible first | apply x_guard | apply d_guard | apply x_pick | apply d_pick); (fail_if_success exact lit_t rfl); (fail_if_success exact lit_f rfl); exact rfl; all_goals (intro h; (first | replace h := BN.t h | replace h := BN.f h); try first | exact h.elim | (exfalso; omega))) | (with_reducible first | apply ob_nil | apply ob_cons | apply ob_at_nil) | ((with_reducible apply ob_at_out); exact rfl) | (with_reducible apply ob_at_in) | ((with_reducible apply k_block_out); exact rfl) | (with_reducible apply k_assign) | (with_reducible first | apply k_round | apply k_round_ret | apply k_round_exit) | assumption | exact xm | exact rfl | (intro (_ : Mem)) | (intro (_ : Upd _ _ _ _)) | (intro (_ : Mem.next _ = _)) | (intro (_ : At _ _ _))))
  all_goals (apply k_fun; exact .tmp rfl .nil; refine ⟨rfl, rfl⟩)
/-- a point that is a place -/
def ePt (x y : Int) : Int := if Pl x y then 0 else 10
theorem c_CheckPoint (x y : Int) (M : Mem) : CallOk Tryz.prog 93 [.agg [I x, I y]] M (fun w M' => w = I (ePt x y) ∧ Grow M M') := by
  refine call_in k93 rfl ?_
  dsimp only [x93, zipE, Nat.reduceAdd]
  (repeat' (first | (with_reducible first | apply w_seq | apply w_ops | apply w_draw | apply w_block | apply w_scope | apply w_ret | apply w_exit | apply w_skip | apply k_seq | apply k_seq_ret | apply k_seq_exit | apply k_block | apply k_block_ret | apply k_block_exit | apply k_loop_ret | apply k_loop_exit | apply k_step_ret | apply k_step_exit | apply xw_nil | apply d_nil | apply w_loop | apply k_loop) | ((with_reducible first | apply x_val | apply d_val); exact gd; exact sx) | ((with_reducible first | apply x_l1 | apply x_lN | apply d_ld1 | apply d_ldN); exact gd; exact rfl; exact xm) | ((with_reducible first | apply x_st | apply d_st); exact gd; exact rfl; exact rfl; exact xm; exact rfl; exact rfl; exact rfl; intros) | ((with_reducible first | apply x_box | apply d_box | apply x_bsl | apply d_bsl); exact gd; exact rfl; exact rfl; intros) | ((with_reducible first | apply x_new | apply d_new); exact gd; exact rfl; intros) | ((with_reducible first | apply x_mkmap | apply d_mkmap); exact gd; intros) | ((with_reducible first | apply x_same | apply d_same); exact gd; exact rfl; exact rfl; (first | exact c_into _ _ (by omega) _); intros) | ((with_reducible first | apply x_off | apply x_off0 | apply d_off | apply d_off_calm | apply d_off_new | apply d_off_anchor); exact gx) | ((with_reducible apply w_cond); exact rfl; all_goals (intro h; (first | replace h := BN.t h | replace h := BN.f h); try first | exact h.elim | (exfalso; omega))) | ((with_reducible first | apply x_guard | apply d_guard | apply x_pick | apply d_pick); (fail_if_success exact lit_t rfl); (fail_if_success exact lit_f rfl); exact rfl; all_goals (intro h; (first | replace h := BN.t h | replace h := BN.f h); try first | exact h.elim | (exfalso; omega))) | (with_reducible first | apply ob_nil | apply ob_cons | apply ob_at_nil) | ((with_reducible apply ob_at_out); exact rfl) | (with_reducible apply ob_at_in) | ((with_reducible apply k_block_out); exact rfl) | (with_reducible apply k_assign) | (with_reducible first | apply k_round | apply k_round_ret | apply k_round_exit) | assumption | exact xm | exact rfl | (intro (_ : Mem)) | (intro (_ : Upd _ _ _ _)) | (intro (_ : Mem.next _ = _)) | (intro (_ : At _ _ _))))
  all_goals (apply k_fun; exact .tmp rfl .nil; refine ⟨?_, ?_⟩)
  all_goals (try unfold iMax iMin at *)
  all_goals first
    | (exact xg; done)
    | (unfold ePt; split <;> first | rfl | (exfalso; omega))
theorem c_place1 (x y : Int) (M : Mem) : CallOk Tryz.prog 102 [.agg [I x, I y]] M (fun w M' => w = .bool (decide (Pl x y)) ∧ Grow M M') := by
  refine call_in k102 rfl ?_
  dsimp only [x102, zipE, Nat.reduceAdd]
  (repeat' (first | (with_reducible first | apply w_seq | apply w_ops | apply w_draw | apply w_block | apply w_scope | apply w_ret | apply w_exit | apply w_skip | apply k_seq | apply k_seq_ret | apply k_seq_exit | apply k_block | apply k_block_ret | apply k_block_exit | apply k_loop_ret | apply k_loop_exit | apply k_step_ret | apply k_step_exit | apply xw_nil | apply d_nil) | ((with_reducible first | apply x_val | apply d_val); exact gd; exact sx) | ((with_reducible first | apply x_l1 | apply x_lN | apply d_ld1 | apply d_ldN); exact gd; exact rfl; exact xm) | ((with_reducible first | apply x_st | apply d_st); exact gd; exact rfl; exact rfl; exact xm; exact rfl; exact rfl; exact rfl; intros) | ((with_reducible first | apply x_box | apply d_box | apply x_bsl | apply d_bsl); exact gd; exact rfl; exact rfl; intros) | ((with_reducible first | apply x_new | apply d_new); exact gd; exact rfl; intros) | ((with_reducible first | apply x_mkmap | apply d_mkmap); exact gd; intros) | ((with_reducible first | apply x_same | apply d_same); exact gd; exact rfl; exact rfl; (first | exact c_between _ _ _ _); intros) | ((with_reducible first | apply x_off | apply x_off0 | apply d_off | apply d_off_calm | apply d_off_new | apply d_off_anchor); exact gx) | ((with_reducible apply w_cond); exact rfl; all_goals (intro h; (first | replace h := BN.t h | replace h := BN.f h); try first | exact h.elim | (exfalso; omega))) | ((with_reducible first | apply x_guard | apply d_guard | apply x_pick | apply d_pick); (fail_if_success exact lit_t rfl); (fail_if_success exact lit_f rfl); exact rfl; all_goals (intro h; (first | replace h := BN.t h | replace h := BN.f h); try first | exact h.elim | (exfalso; omega))) | (with_reducible first | apply ob_nil | apply ob_cons | apply ob_at_nil) | ((with_reducible apply ob_at_out); exact rfl) | (with_reducible apply ob_at_in) | ((with_reducible apply k_block_out); exact rfl) | (with_reducible apply k_assign) | (with_reducible first | apply k_round | apply k_round_ret | apply k_round_exit) | assumption | exact xm | exact rfl | (intro (_ : Mem)) | (intro (_ : Upd _ _ _ _)) | (intro (_ : Mem.next _ = _)) | (intro (_ : At _ _ _))))
  all_goals (apply k_fun; exact .tmp rfl .nil; refine ⟨?_, ?_⟩)
  all_goals first
    | (exact xg; done)
    | exact lb_iff (by omega)
    | exact lb_f (by omega)
    | exact lb_t (by omega)
theorem c_CheckPoint1 (x y : Int) (M : Mem) : CallOk Tryz.prog 101 [.agg [I x, I y]] M (fun w M' => w = I (ePt x y) ∧ Grow M M') := by
  refine call_in k101 rfl ?_
  dsimp only [x101, zipE, Nat.reduceAdd]
  (repeat' (first | (with_reducible first | apply w_seq | apply w_ops | apply w_draw | apply w_block | apply w_scope | apply w_ret | apply w_exit | apply w_skip | apply k_seq | apply k_seq_ret | apply k_seq_exit | apply k_block | apply k_block_ret | apply k_block_exit | apply k_loop_ret | apply k_loop_exit | apply k_step_ret | apply k_step_exit | apply xw_nil | apply d_nil) | ((with_reducible first | apply x_val | apply d_val); exact gd; exact sx) | ((with_reducible first | apply x_l1 | apply x_lN | apply d_ld1 | apply d_ldN); exact gd; exact rfl; exact xm) | ((with_reducible first | apply x_st | apply d_st); exact gd; exact rfl; exact rfl; exact xm; exact rfl; exact rfl; exact rfl; intros) | ((with_reducible first | apply x_box | apply d_box | apply x_bsl | apply d_bsl); exact gd; exact rfl; exact rfl; intros) | ((with_reducible first | apply x_new | apply d_new); exact gd; exact rfl; intros) | ((with_reducible first | apply x_mkmap | apply d_mkmap); exact gd; intros) | ((with_reducible first | apply x_pure | apply d_pure); exact gd; exact rfl; exact rfl; (first | exact c_place1 _ _ _); intros) | ((with_reducible first | apply x_off | apply x_off0 | apply d_off | apply d_off_calm | apply d_off_new | apply d_off_anchor); exact gx) | ((with_reducible apply w_cond); exact rfl; all_goals (intro h; (first | replace h := BN.t h | replace h := BN.f h); try first | exact h.elim | (exfalso; omega))) | ((with_reducible first | apply x_guard | apply d_guard | apply x_pick | apply d_pick); (fail_if_success exact lit_t rfl); (fail_if_success exact lit_f rfl); exact rfl; all_goals (intro h; (first | replace h := BN.t h | replace h := BN.f h); try first | exact h.elim | (exfalso; omega))) | (with_reducible first | apply ob_nil | apply ob_cons | apply ob_at_nil) | ((with_reducible apply ob_at_out); exact rfl) | (with_reducible apply ob_at_in) | ((with_reducible apply k_block_out); exact rfl) | (with_reducible apply k_assign) | (with_reducible first | apply k_round | apply k_round_ret | apply k_round_exit) | assumption | exact xm | exact rfl | (intro (_ : Mem)) | (intro (_ : Upd _ _ _ _)) | (intro (_ : Mem.next _ = _)) | (intro (_ : At _ _ _))))
  all_goals (apply k_fun; exact .tmp rfl .nil; refine ⟨?_, ?_⟩)
  all_goals first
    | (exact xg; done)
    | (unfold ePt; split <;> first | rfl | (exfalso; omega))
theorem c_place4 (x y : Int) (M : Mem) : CallOk Tryz.prog 51 [.agg [I x, I y]] M (fun w M' => w = .bool (decide (Pl x y)) ∧ Grow M M') := by
  refine call_in k51 rfl ?_
  dsimp only [x51, zipE, Nat.reduceAdd]
  (repeat' (first | (with_reducible first | apply w_seq | apply w_ops | apply w_draw | apply w_block | apply w_scope | apply w_ret | apply w_exit | apply w_skip | apply k_seq | apply k_seq_ret | apply k_seq_exit | apply k_block | apply k_block_ret | apply k_block_exit | apply k_loop_ret | apply k_loop_exit | apply k_step_ret | apply k_step_exit | apply xw_nil | apply d_nil) | ((with_reducible first | apply x_val | apply d_val); exact gd; exact sx) | ((with_reducible first | apply x_l1 | apply x_lN | apply d_ld1 | apply d_ldN); exact gd; exact rfl; exact xm) | ((with_reducible first | apply x_st | apply d_st); exact gd; exact rfl; exact rfl; exact xm; exact rfl; exact rfl; exact rfl; intros) | ((with_reducible first | apply x_box | apply d_box | apply x_bsl | apply d_bsl); exact gd; exact rfl; exact rfl; intros) | ((with_reducible first | apply x_new | apply d_new); exact gd; exact rfl; intros) | ((with_reducible first | apply x_mkmap | apply d_mkmap); exact gd; intros) | ((with_reducible first | apply x_pure | apply d_pure); exact gd; exact rfl; exact rfl; (first | exact c_CheckPoint1 _ _ _); intros) | ((with_reducible first | apply x_off | apply x_off0 | apply d_off | apply d_off_calm | apply d_off_new | apply d_off_anchor); exact gx) | ((with_reducible apply w_cond); exact rfl; all_goals (intro h; (first | replace h := BN.t h | replace h := BN.f h); try first | exact h.elim | (exfalso; omega))) | ((with_reducible first | apply x_guard | apply d_guard | apply x_pick | apply d_pick); (fail_if_success exact lit_t rfl); (fail_if_success exact lit_f rfl); exact rfl; all_goals (intro h; (first | replace h := BN.t h | replace h := BN.f h); try first | exact h.elim | (exfalso; omega))) | (with_reducible first | apply ob_nil | apply ob_cons | apply ob_at_nil) | ((with_reducible apply ob_at_out); exact rfl) | (with_reducible apply ob_at_in) | ((with_reducible apply k_block_out); exact rfl) | (with_reducible apply k_assign) | (with_reducible first | apply k_round | apply k_round_ret | apply k_round_exit) | assumption | exact xm | exact rfl | (intro (_ : Mem)) | (intro (_ : Upd _ _ _ _)) | (intro (_ : Mem.next _ = _)) | (intro (_ : At _ _ _))))
  all_goals (apply k_fun; exact .tmp rfl .nil; refine ⟨?_, ?_⟩)
  all_goals first
    | (exact xg; done)
    | (unfold ePt; exact lb_iff (by split <;> omega))
end Go.Proofs.YtgipddabhcmgjaaGreat.C
end
section
open Go PvL Go.Proofs
set_option linter.unusedVariables false
set_option linter.unusedSimpArgs false
namespace Go.Proofs.YtgipddabhcmgjaaGreat.C
theorem eqV_bool : ∀ p q : Bool, eqV Tryz.prog 4 (.bool p) (.bool q) = some (bEq p q)
  | true, true => by kernel_rfl
  | true, false => by kernel_rfl
  | false, true => by kernel_rfl
  | false, false => by kernel_rfl
theorem xs_neb {E : Env} {M : Mem} {x y : XO} {p q : Bool} (hx : xval E x = some (.bool p)) (hy : xval E y = some (.bool q)) : xstep Tryz.prog (.eqg true 4 x y) E M = some (.val (.bool (!(decide (p = q)))) M) := by
  show ob (xval E x) _ = _
  rw [hx, ob_some, hy, ob_some]
  show guard' true (ob (eqV Tryz.prog 4 (.bool p) (.bool q)) _) = _
  rw [eqV_bool, guard'_true, ob_some]
  cases p <;> cases q <;> rfl
/-- the rest by eight -/
def rest8 (x : Int) : Int := if x.tmod 8 < 0 then x.tmod 8 + 8 else x.tmod 8
theorem rest8_bd (x : Int) : 0 ≤ rest8 x ∧ rest8 x ≤ 7 := by
  have h1 := Int.lt_tmod_of_pos x (b := 8) (by omega)
  have h2 := Int.tmod_lt_of_pos x (b := 8) (by omega)
  unfold rest8
  split <;> omega
theorem c_Rest (x : Int) (M : Mem) : CallOk Tryz.prog 39 [I x, I 8] M (fun w M' => w = I (rest8 x) ∧ M' = M) := by
  have h1 := Int.lt_tmod_of_pos x (b := 8) (by omega)
  have h2 := Int.tmod_lt_of_pos x (b := 8) (by omega)
  refine call_in k39 rfl ?_
  dsimp only [x39, zipE, Nat.reduceAdd]
  (repeat' (first | (with_reducible first | apply w_seq | apply w_ops | apply w_draw | apply w_block | apply w_scope | apply w_ret | apply w_exit | apply w_skip | apply k_seq | apply k_seq_ret | apply k_seq_exit | apply k_block | apply k_block_ret | apply k_block_exit | apply k_loop_ret | apply k_loop_exit | apply k_step_ret | apply k_step_exit | apply xw_nil | apply d_nil) | ((with_reducible first | apply x_val | apply d_val); exact gd; exact sx) | ((with_reducible first | apply x_l1 | apply x_lN | apply d_ld1 | apply d_ldN); exact gd; exact rfl; exact xm) | ((with_reducible first | apply x_st | apply d_st); exact gd; exact rfl; exact rfl; exact xm; exact rfl; exact rfl; exact rfl; intros) | ((with_reducible first | apply x_box | apply d_box | apply x_bsl | apply d_bsl); exact gd; exact rfl; exact rfl; intros) | ((with_reducible first | apply x_new | apply d_new); exact gd; exact rfl; intros) | ((with_reducible first | apply x_mkmap | apply d_mkmap); exact gd; intros) | ((with_reducible first | apply x_off | apply x_off0 | apply d_off | apply d_off_calm | apply d_off_new | apply d_off_anchor); exact gx) | ((with_reducible apply w_cond); exact rfl; all_goals (intro h; (first | replace h := BN.t h | replace h := BN.f h); try first | exact h.elim | (exfalso; omega))) | ((with_reducible first | apply x_guard | apply d_guard | apply x_pick | apply d_pick); (fail_if_success exact lit_t rfl); (fail_if_success exact lit_f rfl); exact rfl; all_goals (intro h; (first | replace h := BN.t h | replace h := BN.f h); try first | exact h.elim | (exfalso; omega))) | (with_reducible first | apply ob_nil | apply ob_cons | apply ob_at_nil) | ((with_reducible apply ob_at_out); exact rfl) | (with_reducible apply ob_at_in) | ((with_reducible apply k_block_out); exact rfl) | (with_reducible apply k_assign) | (with_reducible first | apply k_round | apply k_round_ret | apply k_round_exit) | assumption | exact xm | exact rfl | (intro (_ : Mem)) | (intro (_ : Upd _ _ _ _)) | (intro (_ : Mem.next _ = _)) | (intro (_ : At _ _ _))))
  all_goals ((with_reducible first | apply k_fun | apply k_fun_norm); exact rx)
  all_goals refine ⟨?_, rfl⟩
  all_goals unfold rest8
  · rw [if_pos (by omega)]; rfl
  · rw [if_neg (by omega)]; rfl
/-- how far two courses lie apart -/
def trn (a b : Int) : Int := iMin ((b - a + 8) % 8) (8 - (b - a + 8) % 8)
theorem c_turned (a b : Int) (ha : 0 ≤ a ∧ a ≤ 7) (hb : 0 ≤ b ∧ b ≤ 7) (M : Mem) : CallOk Tryz.prog 44 [I a, I b] M (fun w M' => w = I (trn a b) ∧ M' = M) := by
  refine call_in k44 rfl ?_
  dsimp only [x44, zipE, Nat.reduceAdd]
  (repeat' (first | (with_reducible first | apply w_seq | apply w_ops | apply w_draw | apply w_block | apply w_scope | apply w_ret | apply w_exit | apply w_skip | apply k_seq | apply k_seq_ret | apply k_seq_exit | apply k_block | apply k_block_ret | apply k_block_exit | apply k_loop_ret | apply k_loop_exit | apply k_step_ret | apply k_step_exit | apply xw_nil | apply d_nil) | ((with_reducible first | apply x_val | apply d_val); exact gd; exact sx) | ((with_reducible first | apply x_l1 | apply x_lN | apply d_ld1 | apply d_ldN); exact gd; exact rfl; exact xm) | ((with_reducible first | apply x_st | apply d_st); exact gd; exact rfl; exact rfl; exact xm; exact rfl; exact rfl; exact rfl; intros) | ((with_reducible first | apply x_box | apply d_box | apply x_bsl | apply d_bsl); exact gd; exact rfl; exact rfl; intros) | ((with_reducible first | apply x_new | apply d_new); exact gd; exact rfl; intros) | ((with_reducible first | apply x_mkmap | apply d_mkmap); exact gd; intros) | ((with_reducible first | apply x_off | apply x_off0 | apply d_off | apply d_off_calm | apply d_off_new | apply d_off_anchor); exact gx) | ((with_reducible apply w_cond); exact rfl; all_goals (intro h; (first | replace h := BN.t h | replace h := BN.f h); try first | exact h.elim | (exfalso; omega))) | ((with_reducible first | apply x_guard | apply d_guard | apply x_pick | apply d_pick); (fail_if_success exact lit_t rfl); (fail_if_success exact lit_f rfl); exact rfl; all_goals (intro h; (first | replace h := BN.t h | replace h := BN.f h); try first | exact h.elim | (exfalso; omega))) | (with_reducible first | apply ob_nil | apply ob_cons | apply ob_at_nil) | ((with_reducible apply ob_at_out); exact rfl) | (with_reducible apply ob_at_in) | ((with_reducible apply k_block_out); exact rfl) | (with_reducible apply k_assign) | (with_reducible first | apply k_round | apply k_round_ret | apply k_round_exit) | assumption | exact xm | exact rfl | (intro (_ : Mem)) | (intro (_ : Upd _ _ _ _)) | (intro (_ : Mem.next _ = _)) | (intro (_ : At _ _ _))))
  all_goals ((with_reducible first | apply k_fun | apply k_fun_norm); exact rx)
  all_goals exact ⟨rfl, rfl⟩
theorem c_Turned (a b : Int) (ha : 0 ≤ a ∧ a ≤ 7) (hb : 0 ≤ b ∧ b ≤ 7) (M : Mem) : CallOk Tryz.prog 13 [I a, I b] M (fun w M' => w = .tup [I (trn a b), I 0] ∧ M' = M) := by
  refine call_in k13 rfl ?_
  dsimp only [x13, zipE, Nat.reduceAdd]
  (repeat' (first | (with_reducible first | apply w_seq | apply w_ops | apply w_draw | apply w_block | apply w_scope | apply w_ret | apply w_exit | apply w_skip | apply k_seq | apply k_seq_ret | apply k_seq_exit | apply k_block | apply k_block_ret | apply k_block_exit | apply k_loop_ret | apply k_loop_exit | apply k_step_ret | apply k_step_exit | apply xw_nil | apply d_nil) | ((with_reducible first | apply x_val | apply d_val); exact gd; exact sx) | ((with_reducible first | apply x_l1 | apply x_lN | apply d_ld1 | apply d_ldN); exact gd; exact rfl; exact xm) | ((with_reducible first | apply x_st | apply d_st); exact gd; exact rfl; exact rfl; exact xm; exact rfl; exact rfl; exact rfl; intros) | ((with_reducible first | apply x_box | apply d_box | apply x_bsl | apply d_bsl); exact gd; exact rfl; exact rfl; intros) | ((with_reducible first | apply x_new | apply d_new); exact gd; exact rfl; intros) | ((with_reducible first | apply x_mkmap | apply d_mkmap); exact gd; intros) | ((with_reducible first | apply x_same | apply d_same); exact gd; exact rfl; exact rfl; (first | exact c_within _ _ _ _ | exact c_turned _ _ ha hb _); intros) | ((with_reducible first | apply x_off | apply x_off0 | apply d_off | apply d_off_calm | apply d_off_new | apply d_off_anchor); exact gx) | ((with_reducible apply w_cond); exact rfl; all_goals (intro h; (first | replace h := BN.t h | replace h := BN.f h); try first | exact h.elim | (exfalso; omega))) | ((with_reducible first | apply x_guard | apply d_guard | apply x_pick | apply d_pick); (fail_if_success exact lit_t rfl); (fail_if_success exact lit_f rfl); exact rfl; all_goals (intro h; (first | replace h := BN.t h | replace h := BN.f h); try first | exact h.elim | (exfalso; omega))) | (with_reducible first | apply ob_nil | apply ob_cons | apply ob_at_nil) | ((with_reducible apply ob_at_out); exact rfl) | (with_reducible apply ob_at_in) | ((with_reducible apply k_block_out); exact rfl) | (with_reducible apply k_assign) | (with_reducible first | apply k_round | apply k_round_ret | apply k_round_exit) | assumption | exact xm | exact rfl | (intro (_ : Mem)) | (intro (_ : Upd _ _ _ _)) | (intro (_ : Mem.next _ = _)) | (intro (_ : At _ _ _))))
  all_goals ((with_reducible first | apply k_fun | apply k_fun_norm); exact rx)
  all_goals exact ⟨rfl, rfl⟩
/-- the octant of a way -/
def octF (x y : Int) : Int :=
  if 0 ≤ y ∧ 0 ≤ x - y then 0 else if 0 ≤ x ∧ x - y ≤ 0 then 1 else if x ≤ 0 ∧ 0 ≤ x + y then 2 else if 0 ≤ y ∧ x + y ≤ 0 then 3
  else if y ≤ 0 ∧ x - y ≤ 0 then 4 else if x ≤ 0 ∧ 0 ≤ x - y then 5 else if 0 ≤ x ∧ x + y ≤ 0 then 6 else 7
set_option maxHeartbeats 4000000 in
theorem c_Octant (x y : Int) (hx : -131072 ≤ x ∧ x ≤ 131072) (hy : -131072 ≤ y ∧ y ≤ 131072) (M : Mem) : CallOk Tryz.prog 15 [.agg [I x, I y]] M (fun w M' => w = I (octF x y) ∧ Grow M M') := by
  refine call_in k15 rfl ?_
  dsimp only [x15, zipE, Nat.reduceAdd]
  (repeat' (first | (with_reducible first | apply w_seq | apply w_ops | apply w_draw | apply w_block | apply w_scope | apply w_ret | apply w_exit | apply w_skip | apply k_seq | apply k_seq_ret | apply k_seq_exit | apply k_block | apply k_block_ret | apply k_block_exit | apply k_loop_ret | apply k_loop_exit | apply k_step_ret | apply k_step_exit | apply xw_nil | apply d_nil | apply w_loop | apply k_loop) | ((with_reducible first | apply x_val | apply d_val); exact gd; exact sx) | ((with_reducible first | apply x_l1 | apply x_lN | apply d_ld1 | apply d_ldN); exact gd; exact rfl; exact xm) | ((with_reducible first | apply x_st | apply d_st); exact gd; exact rfl; exact rfl; exact xm; exact rfl; exact rfl; exact rfl; intros) | ((with_reducible first | apply x_box | apply d_box | apply x_bsl | apply d_bsl); exact gd; exact rfl; exact rfl; intros) | ((with_reducible first | apply x_new | apply d_new); exact gd; exact rfl; intros) | ((with_reducible first | apply x_mkmap | apply d_mkmap); exact gd; intros) | ((with_reducible first | apply x_same | apply d_same); exact gd; exact rfl; exact rfl; (first | exact c_within _ _ _ _); intros) | ((with_reducible first | apply x_off | apply x_off0 | apply d_off | apply d_off_calm | apply d_off_new | apply d_off_anchor); exact gx) | ((with_reducible apply w_cond); exact rfl; all_goals (intro h; (first | replace h := BN.t h | replace h := BN.f h); try first | exact h.elim | (exfalso; omega))) | ((with_reducible first | apply x_guard | apply d_guard | apply x_pick | apply d_pick); (fail_if_success exact lit_t rfl); (fail_if_success exact lit_f rfl); exact rfl; all_goals (intro h; (first | replace h := BN.t h | replace h := BN.f h); try first | exact h.elim | (exfalso; omega))) | (with_reducible first | apply ob_nil | apply ob_cons | apply ob_at_nil) | ((with_reducible apply ob_at_out); exact rfl) | (with_reducible apply ob_at_in) | ((with_reducible apply k_block_out); exact rfl) | (with_reducible apply k_assign) | (with_reducible first | apply k_round | apply k_round_ret | apply k_round_exit) | assumption | exact xm | exact rfl | (intro (_ : Mem)) | (intro (_ : Upd _ _ _ _)) | (intro (_ : Mem.next _ = _)) | (intro (_ : At _ _ _))))
  all_goals ((with_reducible first | apply k_fun | apply k_fun_norm); exact rx)
  all_goals refine ⟨?_, xg⟩
  all_goals unfold octF
  all_goals (repeat' split)
  all_goals first | rfl | (exfalso; omega)
theorem c_works (M : Mem) : CallOk Tryz.prog 17 [] M (fun w M' => w = .bool true ∧ M' = M) := ⟨_, _, om_ask rfl M, rfl, rfl⟩
theorem trn_sym {a b : Int} (ha : 0 ≤ a ∧ a ≤ 7) (hb : 0 ≤ b ∧ b ≤ 7) : trn a b = trn b a := by unfold trn iMin; omega
theorem trn_bd {a b : Int} (ha : 0 ≤ a ∧ a ≤ 7) (hb : 0 ≤ b ∧ b ≤ 7) : 0 ≤ trn a b ∧ trn a b ≤ 4 := by unfold trn iMin; omega
theorem trn_tri {a b c : Int} (ha : 0 ≤ a ∧ a ≤ 7) (hb : 0 ≤ b ∧ b ≤ 7) (hc : 0 ≤ c ∧ c ≤ 7) : trn a b ≤ trn a c + trn c b := by unfold trn iMin; omega
theorem trn_zero {a b : Int} (ha : 0 ≤ a ∧ a ≤ 7) (hb : 0 ≤ b ∧ b ≤ 7) : trn a b = 0 ↔ a = b := by unfold trn iMin; omega
theorem oct_bd {x y : Int} : 0 ≤ octF x y ∧ octF x y ≤ 7 := by unfold octF; (repeat' split) <;> omega
theorem oct_quarter {x y : Int} (h : ¬ x = 0 ∧ ¬ y = 0 ∧ ¬ x = y ∧ ¬ x = -y) : octF (-y) x = (octF x y + 2) % 8 := by
  unfold octF; (repeat' split) <;> omega
set_option maxHeartbeats 8000000 in
theorem c_CourseTurns (a b c x y : Int) (M : Mem) : CallOk Tryz.prog 11 [.agg [I a, I b, I c], .agg [I x, I y]] M (fun w _ => w = .bool true) := by
  refine call_in k11 rfl ?_
  dsimp only [x11, zipE, Nat.reduceAdd]
  have ha := rest8_bd a
  have hb := rest8_bd b
  have hc := rest8_bd c
  have h1 := trn_sym ha hb
  have h2 := trn_bd ha hb
  have h3 := trn_tri ha hb hc
  have h4 := trn_zero ha hb
  have h7 := trn_bd ha hc
  have h8 := trn_bd hc hb
  have h5 : 0 ≤ octF x y ∧ octF x y ≤ 7 := oct_bd
  have h6 : (¬ x = 0 ∧ ¬ y = 0 ∧ ¬ x = y ∧ ¬ x = -y) → octF (-y) x = (octF x y + 2) % 8 := oct_quarter
  (repeat' (first | (with_reducible first | apply w_seq | apply w_ops | apply w_draw | apply w_block | apply w_scope | apply w_ret | apply w_exit | apply w_skip | apply k_seq | apply k_seq_ret | apply k_seq_exit | apply k_block | apply k_block_ret | apply k_block_exit | apply k_loop_ret | apply k_loop_exit | apply k_step_ret | apply k_step_exit | apply xw_nil | apply d_nil) | ((with_reducible first | apply x_val | apply d_val); exact gd; exact sx) | ((with_reducible first | apply x_l1 | apply x_lN | apply d_ld1 | apply d_ldN); exact gd; exact rfl; exact xm) | ((with_reducible first | apply x_st | apply d_st); exact gd; exact rfl; exact rfl; exact xm; exact rfl; exact rfl; exact rfl; intros) | ((with_reducible first | apply x_box | apply d_box | apply x_bsl | apply d_bsl); exact gd; exact rfl; exact rfl; intros) | ((with_reducible first | apply x_new | apply d_new); exact gd; exact rfl; intros) | ((with_reducible first | apply x_mkmap | apply d_mkmap); exact gd; intros) | ((with_reducible first | apply x_same | apply d_same); exact gd; exact rfl; exact rfl; (first | exact c_Rest _ _ | exact c_between _ _ _ _ | exact c_Turned _ _ ha hb _ | exact c_Turned _ _ hb ha _ | exact c_Turned _ _ ha hc _ | exact c_Turned _ _ hc hb _ | exact c_works _); intros) | ((with_reducible first | apply x_pure | apply d_pure); exact gd; exact rfl; exact rfl; (first | exact c_Octant _ _ (by omega) (by omega) _); intros) | ((with_reducible first | apply x_off | apply x_off0 | apply d_off | apply d_off_calm | apply d_off_new | apply d_off_anchor); exact gx) | ((with_reducible apply w_cond); exact rfl; all_goals (intro h; (first | replace h := BN.t h | replace h := BN.f h); try first | exact h.elim | (exfalso; omega))) | ((with_reducible first | apply x_guard | apply d_guard | apply x_pick | apply d_pick); (fail_if_success exact lit_t rfl); (fail_if_success exact lit_f rfl); exact rfl; all_goals (intro h; (first | replace h := BN.t h | replace h := BN.f h); try first | exact h.elim | (exfalso; omega))) | (with_reducible first | apply ob_nil | apply ob_cons | apply ob_at_nil) | ((with_reducible apply ob_at_out); exact rfl) | (with_reducible apply ob_at_in) | ((with_reducible apply k_block_out); exact rfl) | (with_reducible apply k_assign) | (with_reducible first | apply k_round | apply k_round_ret | apply k_round_exit) | assumption | exact xm | exact rfl | (intro (_ : Mem)) | (intro (_ : Upd _ _ _ _)) | (intro (_ : Mem.next _ = _)) | (intro (_ : At _ _ _))))
  all_goals (try ((with_reducible first | apply k_fun | apply k_fun_norm); exact rx))
  all_goals first | rfl | (exact absurd (decide_eq_decide.2 h4) (by assumption)) | skip
end Go.Proofs.YtgipddabhcmgjaaGreat.C
end
