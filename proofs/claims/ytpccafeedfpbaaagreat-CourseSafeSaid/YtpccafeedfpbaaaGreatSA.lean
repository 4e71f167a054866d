/-
  Part of the proof of CourseSafe: what functions of the program and of the statement come to, walked by the rules. No condition beyond those in each theorem.
-/
import Derived.Test.YtpccafeedfpbaaaGreatPvD
section
open PvL
set_option linter.unusedVariables false
namespace Go.Proofs.YtpccafeedfpbaaaGreat.C
abbrev Bd := Int × Int
abbrev Rg := Bd × Bd × Bd × Bd
/-- the points of a region with an x -/
def rowOf (r : Rg) (x : Int) : Int × Int × Int := (x, iMax (iMax r.2.1.1 (r.2.2.1.1 - x)) (x - r.2.2.2.2), iMin (iMin r.2.1.2 (r.2.2.1.2 - x)) (x - r.2.2.2.1))
abbrev okRow (t : Int × Int × Int) : Bool := decide (t.2.1 ≤ t.2.2)
def rowsFrom (r : Rg) (k n : Nat) : List (Int × Int × Int) := ((List.range n).map fun j => rowOf r (r.1.1 + ((k + j : Nat) : Int))).filter okRow
def rowsK (r : Rg) (k : Nat) : List (Int × Int × Int) := rowsFrom r 0 k
def rowsN (r : Rg) : Nat := (r.1.2 + 1 - r.1.1).toNat
def rowsL (r : Rg) : List (Int × Int × Int) := rowsK r (rowsN r)
theorem rowsFrom_succ (r : Rg) (k n : Nat) : rowsFrom r k (n + 1) = (if okRow (rowOf r (r.1.1 + (k : Int))) then [rowOf r (r.1.1 + (k : Int))] else []) ++ rowsFrom r (k + 1) n := by
  unfold rowsFrom
  rw [List.range_succ_eq_map, List.map_cons, List.map_map, List.filter_cons]
  have e : ((fun j => rowOf r (r.1.1 + ((k + j : Nat) : Int))) ∘ Nat.succ) = fun j => rowOf r (r.1.1 + ((k + 1 + j : Nat) : Int)) := by
    funext j
    show rowOf r (r.1.1 + ((k + (j + 1) : Nat) : Int)) = _
    rw [show k + (j + 1) = k + 1 + j by omega]
  rw [e, Nat.add_zero]
  by_cases h : okRow (rowOf r (r.1.1 + (k : Int))) = true
  · rw [if_pos h, if_pos h]; rfl
  · rw [if_neg h, if_neg h]; rfl
theorem rowsK_succ (r : Rg) (k : Nat) : rowsK r (k + 1) = rowsK r k ++ (if okRow (rowOf r (r.1.1 + (k : Int))) then [rowOf r (r.1.1 + (k : Int))] else []) := by
  unfold rowsK rowsFrom
  rw [List.range_succ, List.map_append, List.filter_append]
  congr 1
  simp only [List.map_cons, List.map_nil, List.filter_cons, List.filter_nil, Nat.zero_add]
theorem rowsK_split (r : Rg) : ∀ (n k : Nat), rowsK r (k + n) = rowsK r k ++ rowsFrom r k n
  | 0, k => by rw [Nat.add_zero]; unfold rowsFrom; simp
  | n + 1, k => by rw [show k + (n + 1) = (k + 1) + n by omega, rowsK_split r n (k + 1), rowsK_succ, List.append_assoc, rowsFrom_succ]
theorem rowsK_get (r : Rg) {k n : Nat} (h : k < n) (hok : okRow (rowOf r (r.1.1 + (k : Int))) = true) : (rowsK r n)[(rowsK r k).length]? = some (rowOf r (r.1.1 + (k : Int))) := by
  obtain ⟨m, rfl⟩ : ∃ m, n = k + (m + 1) := ⟨n - k - 1, by omega⟩
  rw [rowsK_split, List.getElem?_append_right (Nat.le_refl _), Nat.sub_self, rowsFrom_succ, if_pos hok]; rfl
/-- the ends of a row: of a row of one point once -/
def ends1 (t : Int × Int × Int) : List (Int × Int) := if t.2.1 = t.2.2 then [(t.1, t.2.1)] else [(t.1, t.2.1), (t.1, t.2.2)]
def endsOf (l : List (Int × Int × Int)) : List (Int × Int) := l.flatMap ends1
def endsL (r : Rg) : List (Int × Int) := endsOf (rowsL r)
theorem endsOf_split (l : List (Int × Int × Int)) {k : Nat} {t : Int × Int × Int} (h : l[k]? = some t) : endsOf l = endsOf (l.take k) ++ (ends1 t ++ endsOf (l.drop (k + 1))) := by
  obtain ⟨hk, rfl⟩ := List.getElem?_eq_some_iff.1 h
  unfold endsOf
  conv => lhs; rw [← List.take_append_drop k l, List.flatMap_append, List.drop_eq_getElem_cons hk]
  rfl
theorem endsOf_succ (l : List (Int × Int × Int)) {k : Nat} {t : Int × Int × Int} (h : l[k]? = some t) : endsOf (l.take (k + 1)) = endsOf (l.take k) ++ ends1 t := by
  obtain ⟨hk, rfl⟩ := List.getElem?_eq_some_iff.1 h
  unfold endsOf
  rw [List.take_succ_eq_append_getElem hk, List.flatMap_append]
  simp
def ofP (p : Int × Int) : Rg := ((p.1, p.1), (p.2, p.2), (p.1 + p.2, p.1 + p.2), (p.1 - p.2, p.1 - p.2))
def spanB (a b : Bd) : Bd := (iMin a.1 b.1, iMax a.2 b.2)
def plusB (a b : Bd) : Bd := (a.1 + b.1, a.2 + b.2)
def map4 (f : Bd → Bd → Bd) (r q : Rg) : Rg := (f r.1 q.1, f r.2.1 q.2.1, f r.2.2.1 q.2.2.1, f r.2.2.2 q.2.2.2)
def zRg : Rg := ((0, 0), (0, 0), (0, 0), (0, 0))
/-- the least bounds of points so far, and one more -/
def hstep (o : Option Rg) (p : Int × Int) : Option Rg := some (map4 spanB (o.getD (ofP p)) (ofP p))
def hullO (o : Option Rg) (l : List (Int × Int)) : Option Rg := l.foldl hstep o
theorem hullO_take (o : Option Rg) (l : List (Int × Int)) {k : Nat} {p : Int × Int} (h : l[k]? = some p) : hullO o (l.take (k + 1)) = hstep (hullO o (l.take k)) p := by
  obtain ⟨hk, rfl⟩ := List.getElem?_eq_some_iff.1 h
  unfold hullO
  rw [List.take_succ_eq_append_getElem hk, List.foldl_append]; rfl
/-- all bounds of a region are small -/
def Sm (B : Int) (r : Rg) : Prop := (-B ≤ r.1.1 ∧ r.1.1 ≤ B) ∧ (-B ≤ r.1.2 ∧ r.1.2 ≤ B) ∧ (-B ≤ r.2.1.1 ∧ r.2.1.1 ≤ B) ∧ (-B ≤ r.2.1.2 ∧ r.2.1.2 ≤ B) ∧ (-B ≤ r.2.2.1.1 ∧ r.2.2.1.1 ≤ B) ∧ (-B ≤ r.2.2.1.2 ∧ r.2.2.1.2 ≤ B) ∧ (-B ≤ r.2.2.2.1 ∧ r.2.2.2.1 ≤ B) ∧ (-B ≤ r.2.2.2.2 ∧ r.2.2.2.2 ≤ B)
abbrev SmP (B : Int) (p : Int × Int) : Prop := (-B ≤ p.1 ∧ p.1 ≤ B) ∧ (-B ≤ p.2 ∧ p.2 ≤ B)
theorem Sm.mono {B C : Int} {r : Rg} (h : Sm B r) (hc : B ≤ C) : Sm C r := by unfold Sm at *; omega
theorem SmP.mono {B C : Int} {p : Int × Int} (h : SmP B p) (hc : B ≤ C) : SmP C p := by unfold SmP at *; omega
theorem mem_rows {r : Rg} {t : Int × Int × Int} (h : t ∈ rowsL r) : ∃ x, r.1.1 ≤ x ∧ x ≤ r.1.2 ∧ t = rowOf r x ∧ t.2.1 ≤ t.2.2 := by
  unfold rowsL rowsK rowsFrom at h
  rw [List.mem_filter] at h
  obtain ⟨h1, h2⟩ := h
  obtain ⟨j, hj, rfl⟩ := List.mem_map.1 h1
  have hj := List.mem_range.1 hj
  unfold rowsN at hj
  exact ⟨_, by omega, by omega, rfl, of_decide_eq_true h2⟩
theorem rows_mem {r : Rg} {x : Int} (h1 : r.1.1 ≤ x) (h2 : x ≤ r.1.2) (h : (rowOf r x).2.1 ≤ (rowOf r x).2.2) : rowOf r x ∈ rowsL r := by
  unfold rowsL rowsK rowsFrom rowsN
  rw [List.mem_filter]
  refine ⟨List.mem_map.2 ⟨(x - r.1.1).toNat, List.mem_range.2 (by omega), ?_⟩, decide_eq_true h⟩
  rw [Nat.zero_add, Int.toNat_of_nonneg (by omega), Int.add_comm, Int.sub_add_cancel]
theorem row_sm {B : Int} {r : Rg} (h : Sm B r) {x : Int} (h1 : r.1.1 ≤ x) (h2 : x ≤ r.1.2) : (-B ≤ (rowOf r x).1 ∧ (rowOf r x).1 ≤ B) ∧ (-(2 * B) ≤ (rowOf r x).2.1 ∧ (rowOf r x).2.1 ≤ 2 * B) ∧ (-(2 * B) ≤ (rowOf r x).2.2 ∧ (rowOf r x).2.2 ≤ 2 * B) := by
  unfold Sm at h
  unfold rowOf iMax iMin
  dsimp only
  omega
theorem ends_sm {B : Int} {r : Rg} (h : Sm B r) {q : Int × Int} (hq : q ∈ endsL r) : SmP (2 * B) q := by
  unfold endsL endsOf at hq
  obtain ⟨t, ht, hq⟩ := List.mem_flatMap.1 hq
  obtain ⟨x, h1, h2, rfl, h3⟩ := mem_rows ht
  have := row_sm h h1 h2
  have hB : 0 ≤ B := by unfold Sm at h; omega
  unfold ends1 at hq
  unfold SmP
  split at hq
  · obtain rfl := List.mem_singleton.1 hq
    omega
  · rcases List.mem_cons.1 hq with rfl | hq
    · omega
    · obtain rfl := List.mem_singleton.1 hq
      omega
theorem hstep_sm {B : Int} {o : Option Rg} (ho : ∀ r, o = some r → Sm (2 * B) r) {p : Int × Int} (hp : SmP B p) (r : Rg) (hr : hstep o p = some r) : Sm (2 * B) r := by
  cases hr
  unfold SmP at hp
  have h1 : Sm (2 * B) (ofP p) := by unfold Sm ofP; dsimp only; omega
  have h2 : Sm (2 * B) (o.getD (ofP p)) := by
    cases o with
    | none => exact h1
    | some r => exact ho r rfl
  generalize o.getD (ofP p) = a at h2
  generalize ofP p = b at h1
  unfold Sm at *
  unfold map4 spanB iMin iMax
  dsimp only
  omega
theorem hullO_sm {B : Int} : ∀ (l : List (Int × Int)) (o : Option Rg), (∀ r, o = some r → Sm (2 * B) r) → (∀ p ∈ l, SmP B p) → ∀ r, hullO o l = some r → Sm (2 * B) r
  | [], o, ho, _, r, hr => ho r hr
  | p :: l, o, ho, hl, r, hr => hullO_sm l (hstep o p) (fun r hr => hstep_sm ho (hl p List.mem_cons_self) r hr) (fun q hq => hl q (List.mem_cons_of_mem _ hq)) r hr
theorem hull_sm {B : Int} (l : List (Int × Int)) (hl : ∀ p ∈ l, SmP B p) (hB : 0 ≤ B) : Sm (2 * B) ((hullO none l).getD zRg) := by
  cases h : hullO none l with
  | none => unfold Sm zRg; dsimp only [Option.getD]; omega
  | some r => exact hullO_sm l none (fun r hr => by cases hr) hl r h
/-- the tight bounds -/
def tightO (r : Rg) : Option Rg := hullO none (endsL r)
theorem tight_sm {B : Int} {r : Rg} (h : Sm B r) : Sm (4 * B) ((tightO r).getD zRg) := by
  have hB : 0 ≤ B := by unfold Sm at h; omega
  have := hull_sm (endsL r) (fun p hp => ends_sm h hp) (by omega : 0 ≤ 2 * B)
  rw [show 2 * (2 * B) = 4 * B by omega] at this
  exact this
abbrev fitsP (l : Int) (b : Bd) : Prop := -l ≤ b.1 ∧ b.1 ≤ b.2 ∧ b.2 ≤ l
abbrev RgOk (r : Rg) : Prop := fitsP 32768 r.1 ∧ fitsP 32768 r.2.1 ∧ fitsP 65536 r.2.2.1 ∧ fitsP 65536 r.2.2.2
theorem RgOk.sm {r : Rg} (h : RgOk r) : Sm 65536 r := by unfold Sm; dsimp only [RgOk, fitsP] at h; omega
def tightF (r : Rg) : Rg × Int := if RgOk r then (match tightO r with | some t => (t, 0) | none => (zRg, 4)) else (zRg, 11)
def insideF (r : Rg) : Rg × Int := if fitsP 32768 r.1 ∧ fitsP 32768 r.2.1 then (r, 0) else (zRg, 7)
def moveF (r : Rg) (p : Int × Int) : Rg × Int :=
  if RgOk r then (if SmP 65536 p then (match tightO r with | some t => insideF (map4 plusB t (ofP p)) | none => (zRg, 4)) else (zRg, 7)) else (zRg, 11)
def joinF (a b : Rg) : Rg × Int := if RgOk a ∧ RgOk b then (match hullO none (endsL a ++ endsL b) with | some h => (h, 0) | none => (zRg, 4)) else (zRg, 11)
def sweptF (r : Rg) (p q : Int × Int) : Rg × Int :=
  if (moveF r p).2 = 0 then (if (moveF r q).2 = 0 then joinF (moveF r p).1 (moveF r q).1 else (zRg, (moveF r q).2)) else (zRg, (moveF r p).2)
theorem joinF_some {a b : Rg} (hok : RgOk a ∧ RgOk b) (h : (hullO none (endsL a ++ endsL b)).isSome = true) : joinF a b = ((hullO none (endsL a ++ endsL b)).getD zRg, 0) := by
  unfold joinF
  rw [if_pos hok]
  revert h
  cases hullO none (endsL a ++ endsL b) with
  | none => intro h; cases h
  | some t => intro _; rfl
theorem joinF_none {a b : Rg} (hok : RgOk a ∧ RgOk b) (h : (hullO none (endsL a ++ endsL b)).isSome = false) : joinF a b = (zRg, 4) := by
  unfold joinF
  rw [if_pos hok]
  revert h
  cases hullO none (endsL a ++ endsL b) with
  | none => intro _; rfl
  | some t => intro h; cases h
end Go.Proofs.YtpccafeedfpbaaaGreat.C
end
section
open PvL
set_option linter.unusedVariables false
namespace Go.Proofs.YtpccafeedfpbaaaGreat.C
abbrev Pt := Int × Int
abbrev ptc (p : Pt) : List LV := [I p.1, I p.2]
/-- a list in memory -/
def SlA {α : Type} (sz : Nat) (enc : α → List LV) (M : Mem) (a : Option (Nat × Nat)) (l : List α) : Prop := l = [] ∨ ∃ i o, a = some (i, o) ∧ ∀ k (hk : k < l.length), Rd M i (o + k * sz) sz (enc l[k])
def SlA1 {α : Type} (enc : α → LV) (M : Mem) (a : Option (Nat × Nat)) (l : List α) : Prop := l = [] ∨ ∃ i o, a = some (i, o) ∧ ∀ k (hk : k < l.length), Rd1 M i (o + k * 1) (enc l[k])
theorem SlA.grow {α : Type} {sz : Nat} {enc : α → List LV} {M M' : Mem} {a : Option (Nat × Nat)} {l : List α} (h : SlA sz enc M a l) (hg : Grow M M') : SlA sz enc M' a l :=
  h.imp id fun ⟨i, o, h1, h2⟩ => ⟨i, o, h1, fun k hk => (h2 k hk).grow hg⟩
theorem SlA1.grow {α : Type} {enc : α → LV} {M M' : Mem} {a : Option (Nat × Nat)} {l : List α} (h : SlA1 enc M a l) (hg : Grow M M') : SlA1 enc M' a l :=
  h.imp id fun ⟨i, o, h1, h2⟩ => ⟨i, o, h1, fun k hk => (h2 k hk).grow hg⟩
abbrev Pl (x y : Int) : Prop := -32768 ≤ x ∧ x ≤ 32768 ∧ -32768 ≤ y ∧ y ≤ 32768
abbrev PlP (p : Pt) : Prop := Pl p.1 p.2
def turnP (a b c : Pt) : Int := (b.1 - a.1) * (c.2 - a.2) - (b.2 - a.2) * (c.1 - a.1)
theorem mod_lt' {i n : Nat} (h : 0 < n) : (i + 1) % n < n := Nat.mod_lt _ h
def FieldOk (l : List Pt) : Prop := 3 ≤ l.length ∧ l.length ≤ 8 ∧ (∀ p ∈ l, PlP p) ∧
  ∀ (i j : Nat) (hi : i < l.length) (hj : j < l.length), j ≠ i → j ≠ (i + 1) % l.length → 0 < turnP l[i] (l[(i + 1) % l.length]'(mod_lt' (by omega))) l[j]
open Classical in
noncomputable def eFd (l : List Pt) : Int := if FieldOk l then 0 else 12
theorem turn_bd {a b c : Pt} (ha : PlP a) (hb : PlP b) (hc : PlP c) : -17179869184 ≤ (b.1 - a.1) * (c.2 - a.2) ∧ (b.1 - a.1) * (c.2 - a.2) ≤ 17179869184 ∧ -17179869184 ≤ (b.2 - a.2) * (c.1 - a.1) ∧ (b.2 - a.2) * (c.1 - a.1) ≤ 17179869184 := by
  have h1 := mul_bd (a := b.1 - a.1) (b := c.2 - a.2) (A := 65536) (B := 65536) (by dsimp only [PlP, Pl] at *; omega) (by dsimp only [PlP, Pl] at *; omega)
  have h2 := mul_bd (a := b.2 - a.2) (b := c.1 - a.1) (A := 65536) (B := 65536) (by dsimp only [PlP, Pl] at *; omega) (by dsimp only [PlP, Pl] at *; omega)
  omega
/-- the sides of a field -/
def atP (l : List Pt) (k : Nat) : Pt := l.getD k (0, 0)
def sidesL (l : List Pt) : List (Pt × Pt) := (List.range l.length).map fun k => (atP l k, atP l ((k + 1) % l.length))
theorem sidesL_length (l : List Pt) : (sidesL l).length = l.length := by unfold sidesL; rw [List.length_map, List.length_range]
theorem sidesL_get {l : List Pt} {k : Nat} (h : k < l.length) : (sidesL l)[k]? = some (atP l k, atP l ((k + 1) % l.length)) := by
  unfold sidesL
  rw [List.getElem?_map, List.getElem?_range h]; rfl
theorem atP_eq {l : List Pt} {k : Nat} (h : k < l.length) : atP l k = l[k] := by unfold atP; rw [List.getD_eq_getElem?_getD, List.getElem?_eq_getElem h]; rfl
/-- a row, cut by what is to the left of a side -/
def sideK (q : Pt × Pt) : Int := q.2.1 - q.1.1
def sideN (x : Int) (q : Pt × Pt) : Int := (q.2.1 - q.1.1) * q.1.2 + (q.2.2 - q.1.2) * (x - q.1.1)
def clip1 (x : Int) (t : Int × Int) (q : Pt × Pt) : Int × Int :=
  if 0 < sideK q then (iMax t.1 (-((-(sideN x q)) / sideK q)), t.2) else if sideK q < 0 then (t.1, iMin t.2 ((-(sideN x q)) / (-(sideK q)))) else if 0 < sideN x q then (t.1, t.1 - 1) else t
def clips (x : Int) (t : Int × Int) (qs : List (Pt × Pt)) : Int × Int := qs.foldl (clip1 x) t
theorem clip1_dead {x : Int} {t : Int × Int} {q : Pt × Pt} (h : t.2 < t.1) : (clip1 x t q).2 < (clip1 x t q).1 := by
  unfold clip1 iMax iMin
  split
  · dsimp only; omega
  · split
    · dsimp only; omega
    · split
      · dsimp only; omega
      · exact h
theorem clips_dead {x : Int} : ∀ {qs : List (Pt × Pt)} {t : Int × Int}, t.2 < t.1 → (clips x t qs).2 < (clips x t qs).1
  | [], _, h => h
  | q :: qs, _, h => clips_dead (qs := qs) (clip1_dead (q := q) h)
theorem clips_take {x : Int} {t : Int × Int} {qs : List (Pt × Pt)} {k : Nat} {q : Pt × Pt} (h : qs[k]? = some q) : clips x t (qs.take (k + 1)) = clip1 x (clips x t (qs.take k)) q := by
  obtain ⟨hk, rfl⟩ := List.getElem?_eq_some_iff.1 h
  unfold clips
  rw [List.take_succ_eq_append_getElem hk, List.foldl_append]; rfl
theorem clips_split {x : Int} {t : Int × Int} {qs : List (Pt × Pt)} {k : Nat} (hk : k ≤ qs.length) : clips x t qs = clips x (clips x t (qs.take k)) (qs.drop k) := by
  unfold clips
  rw [← List.foldl_append, List.take_append_drop]
def hitRow (l : List Pt) (t : Int × Int × Int) : Option Pt := if (clips t.1 (t.2.1, t.2.2) (sidesL l)).1 ≤ (clips t.1 (t.2.1, t.2.2) (sidesL l)).2 then some (t.1, (clips t.1 (t.2.1, t.2.2) (sidesL l)).1) else none
theorem hitRow_dead {l : List Pt} {t : Int × Int × Int} {k : Nat} (hk : k ≤ (sidesL l).length) (h : (clips t.1 (t.2.1, t.2.2) ((sidesL l).take k)).2 < (clips t.1 (t.2.1, t.2.2) ((sidesL l).take k)).1) : hitRow l t = none := by
  unfold hitRow
  rw [if_neg]
  rw [clips_split hk]
  have := clips_dead (x := t.1) (qs := (sidesL l).drop k) h
  omega
def hitsO (l : List Pt) (r : Rg) : Option Pt := (rowsL r).findSome? (hitRow l)
theorem findSome_none {α β : Type} {f : α → Option β} : ∀ {l : List α}, (∀ t ∈ l, f t = none) → l.findSome? f = none
  | [], _ => rfl
  | a :: l, h => by rw [List.findSome?_cons, h a List.mem_cons_self]; exact findSome_none fun t ht => h t (List.mem_cons_of_mem _ ht)
theorem findSome_at {α β : Type} {f : α → Option β} {l : List α} {k : Nat} {a : α} {b : β} (hk : l[k]? = some a) (h : ∀ t ∈ l.take k, f t = none) (hb : f a = some b) : l.findSome? f = some b := by
  obtain ⟨hlt, rfl⟩ := List.getElem?_eq_some_iff.1 hk
  rw [← List.take_append_drop k l, List.findSome?_append, findSome_none h, List.drop_eq_getElem_cons hlt, List.findSome?_cons, hb]; rfl
theorem side_bd {x : Int} {q : Pt × Pt} (hx : -32768 ≤ x ∧ x ≤ 32768) (h1 : PlP q.1) (h2 : PlP q.2) : (-65536 ≤ sideK q ∧ sideK q ≤ 65536) ∧ (-6442450944 ≤ sideN x q ∧ sideN x q ≤ 6442450944) ∧
    (-2147483648 ≤ (q.2.1 - q.1.1) * q.1.2 ∧ (q.2.1 - q.1.1) * q.1.2 ≤ 2147483648) ∧ (-4294967296 ≤ (q.2.2 - q.1.2) * (x - q.1.1) ∧ (q.2.2 - q.1.2) * (x - q.1.1) ≤ 4294967296) := by
  have e1 := mul_bd (a := q.2.1 - q.1.1) (b := q.1.2) (A := 65536) (B := 32768) (by dsimp only [PlP, Pl] at *; omega) (by dsimp only [PlP, Pl] at *; omega)
  have e2 := mul_bd (a := q.2.2 - q.1.2) (b := x - q.1.1) (A := 65536) (B := 65536) (by dsimp only [PlP, Pl] at *; omega) (by dsimp only [PlP, Pl] at *; omega)
  unfold sideK sideN
  dsimp only [PlP, Pl] at *
  omega
theorem sides_mem {l : List Pt} (hl : ∀ p ∈ l, PlP p) {q : Pt × Pt} (hq : q ∈ sidesL l) : PlP q.1 ∧ PlP q.2 := by
  unfold sidesL at hq
  obtain ⟨k, hk, rfl⟩ := List.mem_map.1 hq
  have hk := List.mem_range.1 hk
  have hm := mod_lt' (i := k) (by omega : 0 < l.length)
  rw [atP_eq hk, atP_eq hm]
  exact ⟨hl _ (List.getElem_mem _), hl _ (List.getElem_mem _)⟩
open Classical in
noncomputable def hitsF (l : List Pt) (r : Rg) : Pt × Int := if FieldOk l then (if RgOk r then (match hitsO l r with | some p => (p, 0) | none => ((0, 0), 4)) else ((0, 0), 11)) else ((0, 0), 12)
abbrev ptv (p : Int × Int) : LV := .agg [I p.1, I p.2]
abbrev rgv (r : Rg) : LV := .agg [I r.1.1, I r.1.2, I r.2.1.1, I r.2.1.2, I r.2.2.1.1, I r.2.2.1.2, I r.2.2.2.1, I r.2.2.2.2]
def eRg (r : Rg) : Int := if RgOk r then 0 else 11
abbrev rowv (t : Int × Int × Int) : LV := .agg [I t.1, I t.2.1, I t.2.2]
abbrev rgc (r : Rg) : List LV := [I r.1.1, I r.1.2, I r.2.1.1, I r.2.1.2, I r.2.2.1.1, I r.2.2.1.2, I r.2.2.2.1, I r.2.2.2.2]
abbrev resv (x : Rg × Int) : LV := .tup [rgv x.1, I x.2]
def eTi (r : Rg) : Int := if (tightO r).isSome then 0 else 4
end Go.Proofs.YtpccafeedfpbaaaGreat.C
end
section
open PvL
set_option linter.unusedVariables false
namespace Go.Proofs.YtpccafeedfpbaaaGreat.C
/-! square roots, rounded down -/
def sqN : Nat → Nat
  | 0 => 0
  | n + 1 => if (sqN n + 1) * (sqN n + 1) ≤ n + 1 then sqN n + 1 else sqN n
theorem sqN_spec : ∀ n : Nat, sqN n * sqN n ≤ n ∧ n < (sqN n + 1) * (sqN n + 1)
  | 0 => by decide
  | n + 1 => by
    obtain ⟨h1, h2⟩ := sqN_spec n
    unfold sqN
    split
    · rename_i h
      refine ⟨h, ?_⟩
      have : (sqN n + 1 + 1) * (sqN n + 1 + 1) = (sqN n + 1) * (sqN n + 1) + 2 * (sqN n + 1) + 1 := by
        simp only [Nat.add_mul, Nat.mul_add]; omega
      omega
    · omega
def sqF (n : Int) : Int := (sqN n.toNat : Nat)
theorem sqF_spec {n : Int} (h : 0 ≤ n) : 0 ≤ sqF n ∧ sqF n * sqF n ≤ n ∧ n < (sqF n + 1) * (sqF n + 1) := by
  obtain ⟨m, rfl⟩ := Int.eq_ofNat_of_zero_le h
  obtain ⟨h1, h2⟩ := sqN_spec m
  unfold sqF
  rw [Int.toNat_natCast]
  refine ⟨by omega, by exact_mod_cast h1, by exact_mod_cast h2⟩
theorem sq_mono {a b : Int} (ha : 0 ≤ a) (hab : a ≤ b) : a * a ≤ b * b := Int.mul_le_mul hab hab ha (by omega)
theorem sq_lt {a b : Int} (hb : 0 ≤ b) (h : a * a < b * b) : a < b := by
  by_cases h1 : b ≤ a
  · have := sq_mono hb h1; omega
  · omega
theorem sqF_uniq {n r : Int} (hr : 0 ≤ r) (h1 : r * r ≤ n) (h2 : n < (r + 1) * (r + 1)) : r = sqF n := by
  have hn : 0 ≤ n := by have := sq_mono (a := 0) (b := r) (by omega) hr; omega
  obtain ⟨g0, g1, g2⟩ := sqF_spec hn
  have a1 := sq_lt (a := r) (b := sqF n + 1) (by omega) (by omega)
  have a2 := sq_lt (a := sqF n) (b := r + 1) (by omega) (by omega)
  omega
theorem sqF_le {n B : Int} (hn : 0 ≤ n) (hB : 0 ≤ B) (h : n < (B + 1) * (B + 1)) : sqF n ≤ B := by
  obtain ⟨g0, g1, g2⟩ := sqF_spec hn
  have := sq_lt (a := sqF n) (b := B + 1) (by omega) (by omega)
  omega
/-- rounded up -/
def sqU (n : Int) : Int := if sqF n * sqF n < n then sqF n + 1 else sqF n
theorem sqU_spec {n : Int} (h : 0 ≤ n) : 0 ≤ sqU n ∧ n ≤ sqU n * sqU n ∧ (0 < sqU n → (sqU n - 1) * (sqU n - 1) < n) := by
  obtain ⟨g0, g1, g2⟩ := sqF_spec h
  unfold sqU
  split
  · rename_i hc
    refine ⟨by omega, by omega, fun _ => ?_⟩
    rw [Int.add_sub_cancel]; exact hc
  · refine ⟨g0, by omega, fun hp => ?_⟩
    have : (sqF n - 1) * (sqF n - 1) < sqF n * sqF n := by
      rw [Int.sub_mul, Int.mul_sub]; omega
    omega
theorem sqU_bd {n B : Int} (h : 0 ≤ n) (hB : 0 ≤ B) (hn : n ≤ B * B) : sqU n ≤ B := by
  obtain ⟨g0, g1, g2⟩ := sqU_spec h
  by_cases hp : 0 < sqU n
  · have := sq_lt (a := sqU n - 1) (b := B) hB (by have := g2 hp; omega)
    omega
  · omega
/-- the steps of a way -/
def distF (a b : Pt) : Int := (b.1 - a.1) * (b.1 - a.1) + (b.2 - a.2) * (b.2 - a.2)
def stepsF (v : Int) (a b : Pt) : Int := (sqU (distF a b) + v - 1) / v
theorem dist_bd {a b : Pt} (ha : PlP a) (hb : PlP b) : (0 ≤ (b.1 - a.1) * (b.1 - a.1) ∧ (b.1 - a.1) * (b.1 - a.1) ≤ 4294967296) ∧ (0 ≤ (b.2 - a.2) * (b.2 - a.2) ∧ (b.2 - a.2) * (b.2 - a.2) ≤ 4294967296) := by
  have sqr : ∀ z : Int, -65536 ≤ z ∧ z ≤ 65536 → 0 ≤ z * z ∧ z * z ≤ 4294967296 := fun z hz => by
    have := mul_bd (a := z) (b := z) (A := 65536) (B := 65536) hz hz
    have h0 : 0 ≤ z * z := by rcases Int.le_total 0 z with h | h; exact Int.mul_nonneg h h; exact Int.mul_nonneg_of_nonpos_of_nonpos h h
    omega
  dsimp only [PlP, Pl] at ha hb
  exact ⟨sqr _ (by omega), sqr _ (by omega)⟩
theorem sqU_small {n : Int} (h : 0 ≤ n ∧ n ≤ 8589934592) : 0 ≤ sqU n ∧ sqU n ≤ 92682 := ⟨(sqU_spec h.1).1, sqU_bd h.1 (by omega) (by omega)⟩
theorem steps_bd {v : Int} (hv : 1 ≤ v ∧ v ≤ 1000) {a b : Pt} (ha : PlP a) (hb : PlP b) : 0 ≤ stepsF v a b ∧ stepsF v a b ≤ 92682 := by
  have h1 := dist_bd ha hb
  have h2 := sqU_small (n := distF a b) (by unfold distF; omega)
  unfold stepsF
  refine ⟨Int.ediv_nonneg (by omega) (by omega), ?_⟩
  refine Int.ediv_le_of_le_mul (by omega) ?_
  have e : 92682 * v = 92682 * (v - 1) + 92682 := by omega
  omega
/-! a survey -/
structure Cr where
  lines : List (Pt × Pt)
  fields : List (List Pt)
  buoys : List Pt
  spread : Rg
  start : Pt × Int
  speed : Int
  turn : Int
  opn : List (List Bd)
def WinOk (l : List Bd) : Prop := l.length ≤ 4 ∧ ∀ (k : Nat) (h : k < l.length), 0 ≤ l[k].1 ∧ l[k].1 ≤ l[k].2 ∧ l[k].2 ≤ 1048576 ∧ (k = 0 ∨ (l[k - 1]'(by omega)).2 < l[k].1)
def LineOk (l : Pt × Pt) : Prop := PlP l.1 ∧ PlP l.2 ∧ l.1 ≠ l.2
def PoseOk (p : Pt × Int) : Prop := PlP p.1 ∧ 0 ≤ p.2 ∧ p.2 ≤ 7
def SpreadOk (r : Rg) : Prop := RgOk r ∧ (tightO r).isSome = true ∧ r.1.2 - r.1.1 ≤ 256 ∧ r.2.1.2 - r.2.1.1 ≤ 256
structure CrOk (s : Cr) : Prop where
  n1 : 1 ≤ s.lines.length
  n5 : s.lines.length ≤ 5
  nf : s.fields.length ≤ 4
  nb : s.buoys.length ≤ 4
  no : s.opn.length = s.lines.length
  lines : ∀ l ∈ s.lines, LineOk l
  opn : ∀ l ∈ s.opn, WinOk l
  fields : ∀ l ∈ s.fields, FieldOk l
  buoys : ∀ p ∈ s.buoys, PlP p
  spread : SpreadOk s.spread
  start : PoseOk s.start
  speed : 1 ≤ s.speed ∧ s.speed ≤ 1000
  turn : 0 ≤ s.turn ∧ s.turn ≤ 1000
open Classical in
noncomputable def eCr (s : Cr) : Int := if CrOk s then 0 else 40
/-- is a way clear? -/
noncomputable def clearF (s : Cr) (a b : Pt) : Bool := decide ((sweptF s.spread a b).2 = 0) && !(s.fields.any fun f => decide ((hitsF f (sweptF s.spread a b).1).2 = 0))
noncomputable def freeF (s : Cr) (a b : Pt) : Bool := decide ((sweptF s.spread a b).2 = 0) && s.fields.all fun f => decide ((hitsF f (sweptF s.spread a b).1).2 = 4)
/-! what is swept lies in the plane -/
theorem mem_ends {r : Rg} {q : Int × Int} (hq : q ∈ endsL r) : r.1.1 ≤ q.1 ∧ q.1 ≤ r.1.2 ∧ r.2.1.1 ≤ q.2 ∧ q.2 ≤ r.2.1.2 := by
  unfold endsL endsOf at hq
  obtain ⟨t, ht, hq⟩ := List.mem_flatMap.1 hq
  obtain ⟨x, h1, h2, rfl, h3⟩ := mem_rows ht
  have hb : r.2.1.1 ≤ (rowOf r x).2.1 ∧ (rowOf r x).2.2 ≤ r.2.1.2 := by unfold rowOf iMax iMin; dsimp only; omega
  have hx : (rowOf r x).1 = x := rfl
  unfold ends1 at hq
  split at hq
  · obtain rfl := List.mem_singleton.1 hq
    dsimp only at *; omega
  · rcases List.mem_cons.1 hq with rfl | hq
    · dsimp only at *; omega
    · obtain rfl := List.mem_singleton.1 hq
      dsimp only at *; omega
theorem ends_pl {r : Rg} (h : RgOk r) {q : Int × Int} (hq : q ∈ endsL r) : PlP q := by
  have := mem_ends hq
  dsimp only [RgOk, fitsP, PlP, Pl] at *; omega
theorem hstep_ok {o : Option Rg} (ho : ∀ r, o = some r → RgOk r) {p : Int × Int} (hp : PlP p) (r : Rg) (hr : hstep o p = some r) : RgOk r := by
  cases hr
  have h1 : RgOk (ofP p) := by dsimp only [RgOk, fitsP, PlP, Pl, ofP] at *; omega
  have h2 : RgOk (o.getD (ofP p)) := by
    cases o with
    | none => exact h1
    | some r => exact ho r rfl
  generalize o.getD (ofP p) = a at h2
  generalize ofP p = b at h1
  dsimp only [RgOk, fitsP, map4, spanB, iMin, iMax] at *
  omega
theorem hullO_ok : ∀ (l : List (Int × Int)) (o : Option Rg), (∀ r, o = some r → RgOk r) → (∀ p ∈ l, PlP p) → ∀ r, hullO o l = some r → RgOk r
  | [], o, ho, _, r, hr => ho r hr
  | p :: l, o, ho, hl, r, hr => hullO_ok l (hstep o p) (fun r hr => hstep_ok ho (hl p List.mem_cons_self) r hr) (fun q hq => hl q (List.mem_cons_of_mem _ hq)) r hr
theorem joinF_ok {a b : Rg} (h : (joinF a b).2 = 0) : RgOk (joinF a b).1 := by
  by_cases hok : RgOk a ∧ RgOk b
  · cases hs : (hullO none (endsL a ++ endsL b)).isSome with
    | false => rw [joinF_none hok hs] at h; cases h
    | true =>
      rw [joinF_some hok hs]
      obtain ⟨r, hr⟩ := Option.isSome_iff_exists.1 hs
      rw [hr]
      refine hullO_ok _ none (fun r hr => by cases hr) (fun p hp => ?_) r hr
      rcases List.mem_append.1 hp with hp | hp
      · exact ends_pl hok.1 hp
      · exact ends_pl hok.2 hp
  · unfold joinF at h; rw [if_neg hok] at h; cases h
theorem sweptF_ok {r : Rg} {p q : Pt} (h : (sweptF r p q).2 = 0) : RgOk (sweptF r p q).1 := by
  unfold sweptF at h ⊢
  split at h
  · rename_i h1
    rw [if_pos h1]
    split at h
    · rename_i h2
      rw [if_pos h2]; exact joinF_ok h
    · rename_i h2; exact absurd h h2
  · rename_i h1; exact absurd h h1
theorem hitsF_cases {l : List Pt} {r : Rg} (hl : FieldOk l) (hr : RgOk r) : (hitsF l r).2 = 0 ∨ (hitsF l r).2 = 4 := by
  unfold hitsF
  rw [if_pos hl, if_pos hr]
  cases hitsO l r with
  | none => right; rfl
  | some p => left; rfl
theorem clear_free {s : Cr} (hs : CrOk s) (a b : Pt) : freeF s a b = clearF s a b := by
  unfold freeF clearF
  by_cases h : (sweptF s.spread a b).2 = 0
  · rw [decide_eq_true h, Bool.true_and, Bool.true_and]
    have hr := sweptF_ok h
    rw [List.not_any_eq_all_not]
    have : ∀ f ∈ s.fields, (decide ((hitsF f (sweptF s.spread a b).1).2 = 4)) = !(decide ((hitsF f (sweptF s.spread a b).1).2 = 0)) := fun f hf => by
      rcases hitsF_cases (hs.fields f hf) hr with e | e <;> rw [e] <;> rfl
    rw [Bool.eq_iff_iff, List.all_eq_true, List.all_eq_true]
    exact ⟨fun g f hf => by rw [← this f hf]; exact g f hf, fun g f hf => by rw [this f hf]; exact g f hf⟩
  · rw [decide_eq_false h]; rfl
end Go.Proofs.YtpccafeedfpbaaaGreat.C
end
section
open PvL
set_option linter.unusedVariables false
namespace Go.Proofs.YtpccafeedfpbaaaGreat.C
theorem hstep_twice (o : Option Rg) (p : Int × Int) : hstep (hstep o p) p = hstep o p := by
  unfold hstep
  show some (map4 spanB (map4 spanB (o.getD (ofP p)) (ofP p)) (ofP p)) = _
  generalize o.getD (ofP p) = a
  generalize ofP p = b
  congr 1
  unfold map4 spanB iMin iMax
  dsimp only
  have h1 : ∀ x y : Int, min (min x y) y = min x y := fun x y => by omega
  have h2 : ∀ x y : Int, max (max x y) y = max x y := fun x y => by omega
  simp only [h1, h2]
def add2 (o : Option Rg) (t : Int × Int × Int) : Option Rg := hstep (hstep o (t.1, t.2.1)) (t.1, t.2.2)
theorem hull_ends1 (o : Option Rg) (t : Int × Int × Int) : hullO o (ends1 t) = add2 o t := by
  unfold ends1 add2
  split
  · rename_i h
    rw [← h, hstep_twice]; rfl
  · rfl
theorem endsOf_append (a b : List (Int × Int × Int)) : endsOf (a ++ b) = endsOf a ++ endsOf b := by unfold endsOf; rw [List.flatMap_append]
theorem hullO_append (o : Option Rg) (a b : List (Int × Int)) : hullO o (a ++ b) = hullO (hullO o a) b := by unfold hullO; rw [List.foldl_append]
theorem hull_rows_ok (o : Option Rg) (r : Rg) (k : Nat) (h : (rowOf r (r.1.1 + (k : Int))).2.1 ≤ (rowOf r (r.1.1 + (k : Int))).2.2) : hullO o (endsOf (rowsK r (k + 1))) = add2 (hullO o (endsOf (rowsK r k))) (rowOf r (r.1.1 + (k : Int))) := by
  rw [rowsK_succ, if_pos (decide_eq_true h), endsOf_append, hullO_append, ← hull_ends1]
  congr 1
  unfold endsOf
  simp
theorem hull_rows_no (o : Option Rg) (r : Rg) (k : Nat) (h : ¬ (rowOf r (r.1.1 + (k : Int))).2.1 ≤ (rowOf r (r.1.1 + (k : Int))).2.2) : hullO o (endsOf (rowsK r (k + 1))) = hullO o (endsOf (rowsK r k)) := by
  rw [rowsK_succ, if_neg (fun hh => h (of_decide_eq_true hh)), List.append_nil]
theorem rowsK_zero (r : Rg) : rowsK r 0 = [] := rfl
theorem hullO_nil (o : Option Rg) : hullO o (endsOf []) = o := rfl
/-! rows that a field hits -/
def rowAt (r : Rg) (k : Nat) : Int × Int × Int := rowOf r (r.1.1 + (k : Int))
def cutRow (l : List Pt) (t : Int × Int × Int) : Int × Int := clips t.1 (t.2.1, t.2.2) (sidesL l)
theorem hitRow_eq (l : List Pt) (t : Int × Int × Int) : hitRow l t = if (cutRow l t).1 ≤ (cutRow l t).2 then some (t.1, (cutRow l t).1) else none := rfl
theorem hitRow_bad {l : List Pt} {t : Int × Int × Int} (h : ¬ t.2.1 ≤ t.2.2) : hitRow l t = none := by
  rw [hitRow_eq, if_neg]
  have := clips_dead (x := t.1) (t := (t.2.1, t.2.2)) (qs := sidesL l) (by dsimp only; omega)
  unfold cutRow
  omega
theorem findSome_filter {α β : Type} {f : α → Option β} {p : α → Bool} (h : ∀ a, p a = false → f a = none) : ∀ l : List α, (l.filter p).findSome? f = l.findSome? f
  | [] => rfl
  | a :: l => by
    rw [List.filter_cons]
    cases hp : p a with
    | true => rw [if_pos rfl, List.findSome?_cons, List.findSome?_cons, findSome_filter h l]
    | false => rw [if_neg (by decide), List.findSome?_cons, h a hp, findSome_filter h l]
theorem hitsO_range (l : List Pt) (r : Rg) : hitsO l r = (List.range (rowsN r)).findSome? fun k => hitRow l (rowAt r k) := by
  unfold hitsO rowsL rowsK rowsFrom
  rw [findSome_filter (fun t ht => hitRow_bad (of_decide_eq_false ht)), List.findSome?_map]
  congr 1
  funext k
  show hitRow l (rowOf r (r.1.1 + ((0 + k : Nat) : Int))) = _
  rw [Nat.zero_add]; rfl
theorem hits_none {l : List Pt} {r : Rg} (h : ∀ k, k < rowsN r → ¬ (cutRow l (rowAt r k)).1 ≤ (cutRow l (rowAt r k)).2) : hitsO l r = none := by
  rw [hitsO_range]
  refine findSome_none fun k hk => ?_
  rw [hitRow_eq, if_neg (h k (List.mem_range.1 hk))]
theorem hits_at {l : List Pt} {r : Rg} {k : Nat} (hk : k < rowsN r) (h : ∀ j, j < k → ¬ (cutRow l (rowAt r j)).1 ≤ (cutRow l (rowAt r j)).2) (hh : (cutRow l (rowAt r k)).1 ≤ (cutRow l (rowAt r k)).2) :
    hitsO l r = some (r.1.1 + (k : Int), (cutRow l (rowAt r k)).1) := by
  rw [hitsO_range]
  refine findSome_at (k := k) (a := k) (List.getElem?_range hk) (fun j hj => ?_) ?_
  · have hj' : j < k := by
      obtain ⟨q, hq1, hq2⟩ := List.getElem_of_mem hj
      rw [List.length_take, List.length_range] at hq1
      rw [List.getElem_take, List.getElem_range] at hq2
      omega
    rw [hitRow_eq, if_neg (h j hj')]
  · rw [hitRow_eq, if_pos hh]; rfl
theorem fdiv_pos {a b : Int} (hb : 0 < b) : a.fdiv b = a / b := Int.fdiv_eq_ediv_of_nonneg a (by omega)
theorem fdiv_neg' {a b : Int} (hb : b < 0) : a.fdiv b = (-a) / (-b) := by
  rw [← Int.neg_fdiv_neg, fdiv_pos (by omega)]
theorem fdiv_bd {a b B : Int} (hb : b ≠ 0) (ha : -B ≤ a ∧ a ≤ B) : -B ≤ a.fdiv b ∧ a.fdiv b ≤ B := by
  have key : ∀ c d : Int, 0 < d → -B ≤ c ∧ c ≤ B → -B ≤ c / d ∧ c / d ≤ B := fun c d hd hc => by
    refine ⟨Int.le_ediv_of_mul_le hd ?_, Int.ediv_le_of_le_mul hd ?_⟩
    · have h1 : 0 ≤ B := by omega
      have := Int.mul_le_mul_of_nonneg_left (a := 1) (b := d) (c := B) (by omega) h1
      rw [Int.neg_mul]; omega
    · have h1 : 0 ≤ B := by omega
      have := Int.mul_le_mul_of_nonneg_left (a := 1) (b := d) (c := B) (by omega) h1
      omega
  rcases Int.lt_or_gt_of_ne hb with h | h
  · rw [fdiv_neg' h]; exact key _ _ (by omega) (by omega)
  · rw [fdiv_pos h]; exact key _ _ h ha
theorem down_eq {a b : Int} (hb : b ≠ 0) : a.fdiv b = a.tdiv b - (if a.tmod b ≠ 0 ∧ ((a < 0) ≠ (b < 0)) then 1 else 0) := by
  rw [Int.fdiv_eq_tdiv]
  have hd : b ∣ a ↔ a.tmod b = 0 := by rw [Int.dvd_iff_tmod_eq_zero]
  by_cases h : b ∣ a
  · rw [if_pos h, if_neg (by rw [hd] at h; omega)]
  · rw [if_neg h]
    rw [hd] at h
    by_cases h1 : 0 ≤ a <;> by_cases h2 : 0 ≤ b
    · rw [if_pos h1, if_pos h2, if_neg (fun hh => hh.2 (by rw [eq_iff_iff]; omega))]
    · rw [if_pos h1, if_neg h2, if_pos ⟨h, fun e => by rw [eq_iff_iff] at e; omega⟩]
    · rw [if_neg h1, if_pos h2, if_pos ⟨h, fun e => by rw [eq_iff_iff] at e; omega⟩, Int.sign_eq_one_of_pos (by omega)]
    · rw [if_neg h1, if_neg h2, if_neg (fun hh => hh.2 (by rw [eq_iff_iff]; omega)), Int.sign_eq_neg_one_of_neg (by omega)]; omega
end Go.Proofs.YtpccafeedfpbaaaGreat.C
end
section
open PvL
set_option linter.unusedVariables false
namespace Go.Proofs.YtpccafeedfpbaaaGreat.C
abbrev bdc (b : Bd) : List LV := [I b.1, I b.2]
abbrev legc (l : Pt × Pt) : List LV := [I l.1.1, I l.1.2, I l.2.1, I l.2.2]
/-- the k-th window of a line is right -/
abbrev winAt (l : List Bd) (k : Nat) : Prop := 0 ≤ (l.getD k (0, 0)).1 ∧ (l.getD k (0, 0)).1 ≤ (l.getD k (0, 0)).2 ∧ (l.getD k (0, 0)).2 ≤ 1048576 ∧ (k = 0 ∨ (l.getD (k - 1) (0, 0)).2 < (l.getD k (0, 0)).1)
theorem getD_eq {α : Type} {l : List α} {k : Nat} {d : α} (h : k < l.length) : l.getD k d = l[k] := by rw [List.getD_eq_getElem?_getD, List.getElem?_eq_getElem h]; rfl
theorem win_iff {l : List Bd} : WinOk l ↔ l.length ≤ 4 ∧ ∀ k, k < l.length → winAt l k := by
  unfold WinOk winAt
  refine and_congr_right fun _ => ⟨fun h k hk => ?_, fun h k hk => ?_⟩
  · have := h k hk
    rw [getD_eq hk]
    refine ⟨this.1, this.2.1, this.2.2.1, this.2.2.2.imp id fun h => ?_⟩
    rw [getD_eq (by omega)]; exact h
  · have := h k hk
    rw [getD_eq hk] at this
    refine ⟨this.1, this.2.1, this.2.2.1, this.2.2.2.imp id fun h => ?_⟩
    rw [getD_eq (by omega)] at h; exact h
open Classical in
noncomputable def winB (l : List Bd) : Bool := decide (WinOk l)
open Classical in
theorem winB_t {l : List Bd} (h : WinOk l) : winB l = true := by unfold winB; exact decide_eq_true h
open Classical in
theorem winB_f {l : List Bd} (h : ¬ WinOk l) : winB l = false := by unfold winB; exact decide_eq_false h
/-! surveys in memory -/
/-- a list of lists -/
def SlL {α : Type} (sz : Nat) (enc : α → List LV) (M : Mem) (a : Option (Nat × Nat)) (ll : List (List α)) : Prop :=
  ll = [] ∨ ∃ i o, a = some (i, o) ∧ ∀ k (hk : k < ll.length), ∃ a' f', Rd1 M i (o + k * 1) (.slice a' ll[k].length f' sz) ∧ SlA sz enc M a' ll[k] ∧ ll[k].length ≤ 1000000000000000
theorem SlL.grow {α : Type} {sz : Nat} {enc : α → List LV} {M M' : Mem} {a : Option (Nat × Nat)} {ll : List (List α)} (h : SlL sz enc M a ll) (hg : Grow M M') : SlL sz enc M' a ll :=
  h.imp id fun ⟨i, o, h1, h2⟩ => ⟨i, o, h1, fun k hk => let ⟨a', f', g1, g2, g3⟩ := h2 k hk; ⟨a', f', g1.grow hg, g2.grow hg, g3⟩⟩
theorem SlA.keep {α : Type} {sz : Nat} {enc : α → List LV} {M M' : Mem} {a : Option (Nat × Nat)} {l : List α} {F : Nat → Prop} {b : Nat} (h : SlA sz enc M a l) (hg : Keep F M M') (hb : ∀ i o, a = some (i, o) → i < b) (hF : ∀ i, F i → b ≤ i) : SlA sz enc M' a l :=
  h.imp id fun ⟨i, o, h1, h2⟩ => ⟨i, o, h1, fun k hk => (h2 k hk).keep hg fun hf => by have := hb i o h1; have := hF i hf; omega⟩
structure CrA where
  aL : Option (Nat × Nat)
  fL : Bool
  aF : Option (Nat × Nat)
  fF : Bool
  aB : Option (Nat × Nat)
  fB : Bool
  aO : Option (Nat × Nat)
  fO : Bool
abbrev crc (A : CrA) (s : Cr) : List LV := [.slice A.aL s.lines.length A.fL 4, .slice A.aF s.fields.length A.fF 1, .slice A.aB s.buoys.length A.fB 2, I s.spread.1.1, I s.spread.1.2, I s.spread.2.1.1, I s.spread.2.1.2, I s.spread.2.2.1.1, I s.spread.2.2.1.2, I s.spread.2.2.2.1, I s.spread.2.2.2.2,
  I s.start.1.1, I s.start.1.2, I s.start.2, I s.speed, I s.turn, .slice A.aO s.opn.length A.fO 1]
abbrev crv (A : CrA) (s : Cr) : LV := .agg (crc A s)
structure CrM (M : Mem) (A : CrA) (s : Cr) : Prop where
  lines : SlA 4 legc M A.aL s.lines
  fields : SlL 2 ptc M A.aF s.fields
  buoys : SlA 2 ptc M A.aB s.buoys
  opn : SlL 2 bdc M A.aO s.opn
  nl : s.lines.length ≤ 1000000000000000
  nf : s.fields.length ≤ 1000000000000000
  nb : s.buoys.length ≤ 1000000000000000
  no : s.opn.length ≤ 1000000000000000
theorem CrM.grow {M M' : Mem} {A : CrA} {s : Cr} (h : CrM M A s) (hg : Grow M M') : CrM M' A s := ⟨h.lines.grow hg, h.fields.grow hg, h.buoys.grow hg, h.opn.grow hg, h.nl, h.nf, h.nb, h.no⟩
open Classical in
noncomputable def crB (s : Cr) : Bool := decide (CrOk s)
open Classical in
theorem crB_t {s : Cr} (h : CrOk s) : crB s = true := by unfold crB; exact decide_eq_true h
open Classical in
theorem crB_f {s : Cr} (h : ¬ CrOk s) : crB s = false := by unfold crB; exact decide_eq_false h
end Go.Proofs.YtpccafeedfpbaaaGreat.C
end
section
open PvL
set_option linter.unusedVariables false
namespace Go.Proofs.YtpccafeedfpbaaaGreat.C
/-- a region has a point -/
def InR (r : Rg) (p : Pt) : Prop := (r.1.1 ≤ p.1 ∧ p.1 ≤ r.1.2) ∧ (r.2.1.1 ≤ p.2 ∧ p.2 ≤ r.2.1.2) ∧ (r.2.2.1.1 ≤ p.1 + p.2 ∧ p.1 + p.2 ≤ r.2.2.1.2) ∧ (r.2.2.2.1 ≤ p.1 - p.2 ∧ p.1 - p.2 ≤ r.2.2.2.2)
/-- a region's bounds lie within another's -/
def Sub (a b : Rg) : Prop := (b.1.1 ≤ a.1.1 ∧ a.1.2 ≤ b.1.2) ∧ (b.2.1.1 ≤ a.2.1.1 ∧ a.2.1.2 ≤ b.2.1.2) ∧ (b.2.2.1.1 ≤ a.2.2.1.1 ∧ a.2.2.1.2 ≤ b.2.2.1.2) ∧ (b.2.2.2.1 ≤ a.2.2.2.1 ∧ a.2.2.2.2 ≤ b.2.2.2.2)
theorem Sub.rfl' (a : Rg) : Sub a a := by unfold Sub; omega
theorem Sub.trans {a b c : Rg} (h : Sub a b) (g : Sub b c) : Sub a c := by unfold Sub at *; omega
theorem Sub.antisymm {a b : Rg} (h : Sub a b) (g : Sub b a) : a = b := by
  unfold Sub at *
  obtain ⟨⟨a1, a2⟩, ⟨a3, a4⟩, ⟨a5, a6⟩, a7, a8⟩ := a
  obtain ⟨⟨b1, b2⟩, ⟨b3, b4⟩, ⟨b5, b6⟩, b7, b8⟩ := b
  dsimp only at *
  have e : a1 = b1 ∧ a2 = b2 ∧ a3 = b3 ∧ a4 = b4 ∧ a5 = b5 ∧ a6 = b6 ∧ a7 = b7 ∧ a8 = b8 := by omega
  rw [e.1, e.2.1, e.2.2.1, e.2.2.2.1, e.2.2.2.2.1, e.2.2.2.2.2.1, e.2.2.2.2.2.2.1, e.2.2.2.2.2.2.2]
theorem InR.sub {a b : Rg} {p : Pt} (h : InR a p) (g : Sub a b) : InR b p := by unfold InR Sub at *; omega
theorem hstep_sub {o : Option Rg} {p : Pt} {t : Rg} (h : hstep o p = some t) : (∀ r, o = some r → Sub r t) ∧ InR t p ∧ ∀ r, (∀ r0, o = some r0 → Sub r0 r) → InR r p → Sub t r := by
  cases h
  cases o with
  | none =>
    refine ⟨fun r hr => (by cases hr), ?_, fun r _ hp => ?_⟩
    · show InR (map4 spanB (ofP p) (ofP p)) p
      unfold InR map4 spanB ofP iMin iMax; dsimp only; omega
    · show Sub (map4 spanB (ofP p) (ofP p)) r
      unfold InR at hp
      unfold Sub map4 spanB ofP iMin iMax; dsimp only; omega
  | some q =>
    refine ⟨fun r hr => ?_, ?_, fun r hq hp => ?_⟩
    · cases hr
      show Sub q (map4 spanB q (ofP p))
      unfold Sub map4 spanB ofP iMin iMax; dsimp only; omega
    · show InR (map4 spanB q (ofP p)) p
      unfold InR map4 spanB ofP iMin iMax; dsimp only; omega
    · have hq := hq q rfl
      show Sub (map4 spanB q (ofP p)) r
      unfold InR at hp
      unfold Sub at hq
      unfold Sub map4 spanB ofP iMin iMax; dsimp only; omega
theorem hullO_lub : ∀ (l : List Pt) (o : Option Rg) (t : Rg), hullO o l = some t → (∀ r, o = some r → Sub r t) ∧ (∀ p ∈ l, InR t p) ∧ ∀ r, (∀ r0, o = some r0 → Sub r0 r) → (∀ p ∈ l, InR r p) → Sub t r
  | [], o, t, h => ⟨fun r hr => by have : o = some t := h; rw [this] at hr; cases hr; exact Sub.rfl' _, fun p hp => absurd hp List.not_mem_nil, fun r hr _ => hr t h⟩
  | p :: l, o, t, h => by
    have h : hullO (hstep o p) l = some t := h
    obtain ⟨h1, h2, h3⟩ := hullO_lub l (hstep o p) t h
    obtain ⟨u, hu⟩ : ∃ u, hstep o p = some u := ⟨_, rfl⟩
    obtain ⟨g1, g2, g3⟩ := hstep_sub hu
    have hut := h1 u hu
    refine ⟨fun r hr => (g1 r hr).trans hut, fun q hq => ?_, fun r hr hl => ?_⟩
    · rcases List.mem_cons.1 hq with rfl | hq
      · exact g2.sub hut
      · exact h2 q hq
    · refine h3 r (fun r0 hr0 => ?_) (fun q hq => hl q (List.mem_cons_of_mem _ hq))
      rw [hu] at hr0; cases hr0
      exact g3 r hr (hl p List.mem_cons_self)
theorem hullO_some : ∀ (l : List Pt) (o : Option Rg), o.isSome = true ∨ l ≠ [] → (hullO o l).isSome = true
  | [], o, h => h.resolve_right (fun h => h rfl)
  | p :: l, o, _ => hullO_some l (hstep o p) (.inl rfl)
/-- the ends of a region's rows lie in it, and whatever has them has all its points -/
theorem in_row {r : Rg} {p : Pt} : InR r p ↔ (r.1.1 ≤ p.1 ∧ p.1 ≤ r.1.2) ∧ (rowOf r p.1).2.1 ≤ p.2 ∧ p.2 ≤ (rowOf r p.1).2.2 := by
  unfold InR rowOf iMax iMin; dsimp only; omega
theorem ends_in {r : Rg} {q : Pt} (hq : q ∈ endsL r) : InR r q := by
  unfold endsL endsOf at hq
  obtain ⟨t, ht, hq⟩ := List.mem_flatMap.1 hq
  obtain ⟨x, h1, h2, rfl, h3⟩ := mem_rows ht
  refine in_row.2 ?_
  unfold ends1 at hq
  have hx : (rowOf r x).1 = x := rfl
  split at hq
  · obtain rfl := List.mem_singleton.1 hq
    dsimp only; rw [hx]; omega
  · rcases List.mem_cons.1 hq with rfl | hq
    · dsimp only; rw [hx]; omega
    · obtain rfl := List.mem_singleton.1 hq
      dsimp only; rw [hx]; omega
theorem row_ends {r : Rg} {p : Pt} (h : InR r p) : (p.1, (rowOf r p.1).2.1) ∈ endsL r ∧ (p.1, (rowOf r p.1).2.2) ∈ endsL r := by
  have h := in_row.1 h
  have hm := rows_mem h.1.1 h.1.2 (by omega)
  unfold endsL endsOf
  have hx : (rowOf r p.1).1 = p.1 := rfl
  refine ⟨List.mem_flatMap.2 ⟨_, hm, ?_⟩, List.mem_flatMap.2 ⟨_, hm, ?_⟩⟩ <;> unfold ends1 <;> rw [hx] <;> split
  · exact List.mem_cons_self
  · exact List.mem_cons_self
  · rename_i e; rw [e]; exact List.mem_cons_self
  · exact List.mem_cons_of_mem _ List.mem_cons_self
theorem ends_all {r b : Rg} (h : ∀ q ∈ endsL r, InR b q) {p : Pt} (hp : InR r p) : InR b p := by
  obtain ⟨h1, h2⟩ := row_ends hp
  have g1 := h _ h1
  have g2 := h _ h2
  have hp := in_row.1 hp
  unfold InR at *
  dsimp only at *
  omega
theorem tight_lub {r t : Rg} (h : tightO r = some t) : (∀ p, InR r p → InR t p) ∧ ∀ b, (∀ p, InR r p → InR b p) → Sub t b := by
  obtain ⟨_, h2, h3⟩ := hullO_lub _ none t h
  exact ⟨fun p hp => ends_all h2 hp, fun b hb => h3 b (fun _ e => by cases e) fun q hq => hb q (ends_in hq)⟩
theorem tight_in {r t : Rg} (h : tightO r = some t) (p : Pt) : InR t p ↔ InR r p :=
  ⟨fun hp => hp.sub ((tight_lub h).2 r fun _ h => h), fun hp => (tight_lub h).1 p hp⟩
theorem tight_some {r : Rg} {p : Pt} (hp : InR r p) : (tightO r).isSome = true := by
  refine hullO_some _ _ (.inr fun e => ?_)
  have := (row_ends hp).1
  rw [e] at this; cases this
theorem some_tight {r t : Rg} (h : tightO r = some t) : ∃ p, InR r p := by
  unfold tightO at h
  cases he : endsL r with
  | nil => rw [he] at h; cases h
  | cons q l => exact ⟨q, ends_in (by rw [he]; exact List.mem_cons_self)⟩
/-- the least bounds of a region's own points -/
def Tight (t : Rg) : Prop := (∃ p, InR t p) ∧ ∀ b, (∀ p, InR t p → InR b p) → Sub t b
theorem Tight.eq {t : Rg} (h : Tight t) : tightO t = some t := by
  obtain ⟨p, hp⟩ := h.1
  obtain ⟨u, hu⟩ := Option.isSome_iff_exists.1 (tight_some hp)
  obtain ⟨h1, h2⟩ := tight_lub hu
  rw [hu, Sub.antisymm (h2 t fun _ h => h) (h.2 u h1)]
theorem tight_tight {r t : Rg} (h : tightO r = some t) : Tight t := by
  obtain ⟨p, hp⟩ := some_tight h
  exact ⟨⟨p, (tight_in h p).2 hp⟩, fun b hb => (tight_lub h).2 b fun p hp => hb p ((tight_in h p).2 hp)⟩
theorem in_shift (t : Rg) (v p : Pt) : InR (map4 plusB t (ofP v)) p ↔ InR t (p.1 - v.1, p.2 - v.2) := by
  unfold InR map4 plusB ofP; dsimp only; omega
theorem sub_shift (t b : Rg) (v : Pt) : Sub (map4 plusB t (ofP v)) b ↔ Sub t (map4 plusB b (ofP (-v.1, -v.2))) := by
  unfold Sub map4 plusB ofP; dsimp only; omega
theorem Tight.shift {t : Rg} (h : Tight t) (v : Pt) : Tight (map4 plusB t (ofP v)) := by
  obtain ⟨⟨p, hp⟩, h2⟩ := h
  refine ⟨⟨(p.1 + v.1, p.2 + v.2), (in_shift _ _ _).2 ?_⟩, fun b hb => (sub_shift _ _ _).2 (h2 _ fun p hp => (in_shift _ _ _).2 ?_)⟩
  · show InR t (p.1 + v.1 - v.1, p.2 + v.2 - v.2)
    rw [show p.1 + v.1 - v.1 = p.1 by omega, show p.2 + v.2 - v.2 = p.2 by omega]; exact hp
  · refine hb _ ((in_shift _ _ _).2 ?_)
    show InR t (p.1 - -v.1 - v.1, p.2 - -v.2 - v.2)
    rw [show p.1 - -v.1 - v.1 = p.1 by omega, show p.2 - -v.2 - v.2 = p.2 by omega]; exact hp
def meetB (a b : Bd) : Bd := (iMax a.1 b.1, iMin a.2 b.2)
theorem meet_sub {a b : Rg} (h : Sub a b) : map4 meetB a b = a := by
  unfold Sub at h
  obtain ⟨⟨a1, a2⟩, ⟨a3, a4⟩, ⟨a5, a6⟩, a7, a8⟩ := a
  obtain ⟨⟨b1, b2⟩, ⟨b3, b4⟩, ⟨b5, b6⟩, b7, b8⟩ := b
  dsimp only at h
  have e1 : ∀ x y : Int, y ≤ x → max x y = x := fun x y _ => by omega
  have e2 : ∀ x y : Int, x ≤ y → min x y = x := fun x y _ => by omega
  unfold map4 meetB iMax iMin
  dsimp only
  rw [e1 _ _ h.1.1, e2 _ _ h.1.2, e1 _ _ h.2.1.1, e2 _ _ h.2.1.2, e1 _ _ h.2.2.1.1, e2 _ _ h.2.2.1.2, e1 _ _ h.2.2.2.1, e2 _ _ h.2.2.2.2]
/-- what is swept has the region at both ends -/
theorem moveF_ok {r : Rg} {p : Pt} (h : (moveF r p).2 = 0) : Tight (moveF r p).1 ∧ RgOk (moveF r p).1 ∧ ∃ t, tightO r = some t ∧ (moveF r p).1 = map4 plusB t (ofP p) := by
  unfold moveF at h ⊢
  split at h
  · rename_i h1
    rw [if_pos h1]
    split at h
    · rename_i h2
      rw [if_pos h2]
      cases ht : tightO r with
      | none => rw [ht] at h; cases h
      | some t =>
        rw [ht] at h
        dsimp only at h ⊢
        have hT := (tight_tight ht).shift p
        unfold insideF at h ⊢
        split at h
        · rename_i h3
          rw [if_pos h3]
          refine ⟨hT, ?_, t, rfl, rfl⟩
          obtain ⟨q, hq⟩ := hT.1
          generalize map4 plusB t (ofP p) = u at *
          have hs : Sub u (u.1, u.2.1, (-65536, 65536), (-65536, 65536)) := hT.2 _ fun p hp => by
            unfold InR at hp ⊢; dsimp only [fitsP] at h3 ⊢; omega
          unfold Sub at hs
          unfold InR at hq
          dsimp only [RgOk, fitsP] at h3 ⊢ hs
          omega
        · cases h
    · cases h
  · cases h
theorem swept_sub {r : Rg} {p q : Pt} (h : (sweptF r p q).2 = 0) : (moveF r p).2 = 0 ∧ (moveF r q).2 = 0 ∧ Sub (moveF r p).1 (sweptF r p q).1 ∧ Sub (moveF r q).1 (sweptF r p q).1 := by
  unfold sweptF at h ⊢
  split at h
  · rename_i h1
    rw [if_pos h1]
    split at h
    · rename_i h2
      rw [if_pos h2]
      obtain ⟨t1, k1, _⟩ := moveF_ok h1
      obtain ⟨t2, k2, _⟩ := moveF_ok h2
      generalize (moveF r p).1 = a at *
      generalize (moveF r q).1 = b at *
      cases hs : hullO none (endsL a ++ endsL b) with
      | none => rw [joinF_none ⟨k1, k2⟩ (by rw [hs]; rfl)] at h; cases h
      | some u =>
        rw [joinF_some ⟨k1, k2⟩ (by rw [hs]; rfl), hs]
        obtain ⟨_, g2, _⟩ := hullO_lub _ none u hs
        exact ⟨h1, h2, t1.2 u fun p hp => ends_all (fun q hq => g2 q (List.mem_append_left _ hq)) hp, t2.2 u fun p hp => ends_all (fun q hq => g2 q (List.mem_append_right _ hq)) hp⟩
    · rename_i h2; exact absurd h h2
  · rename_i h1; exact absurd h h1
def meetF (a b : Rg) : Rg × Int := if RgOk a ∧ RgOk b then (match tightO (map4 meetB a b) with | some t => (t, 0) | none => (zRg, 4)) else (zRg, 11)
theorem meet_swept {r : Rg} {p q : Pt} (h : (sweptF r p q).2 = 0) : meetF (moveF r p).1 (sweptF r p q).1 = ((moveF r p).1, 0) := by
  obtain ⟨h1, h2, h3, h4⟩ := swept_sub h
  obtain ⟨t1, k1, _⟩ := moveF_ok h1
  have k2 := sweptF_ok h
  unfold meetF
  rw [if_pos ⟨k1, k2⟩, meet_sub h3, t1.eq]
end Go.Proofs.YtpccafeedfpbaaaGreat.C
end
section
open PvL
set_option linter.unusedVariables false
namespace Go.Proofs.YtpccafeedfpbaaaGreat.C
theorem part_bd {k n g : Int} (h0 : 0 ≤ k) (h1 : k ≤ n) : (0 ≤ k * g ∧ k * g ≤ n * g) ∨ (n * g ≤ k * g ∧ k * g ≤ 0) := by
  rcases Int.le_total 0 g with h | h
  · exact .inl ⟨Int.mul_nonneg h0 h, Int.mul_le_mul_of_nonneg_right h1 h⟩
  · exact .inr ⟨Int.mul_le_mul_of_nonpos_right h1 h, Int.mul_nonpos_of_nonneg_of_nonpos h0 h⟩
/-- a region has the points between two of its points -/
theorem in_between {S : Rg} {p g : Pt} {k n : Int} (h0 : 0 ≤ k) (h1 : k ≤ n) (ha : InR S p) (hb : InR S (p.1 + n * g.1, p.2 + n * g.2)) : InR S (p.1 + k * g.1, p.2 + k * g.2) := by
  have e1 := part_bd (g := g.1) h0 h1
  have e2 := part_bd (g := g.2) h0 h1
  have e3 := part_bd (g := g.1 + g.2) h0 h1
  have e4 := part_bd (g := g.1 - g.2) h0 h1
  rw [Int.mul_add, Int.mul_add] at e3
  rw [Int.mul_sub, Int.mul_sub] at e4
  unfold InR at *
  dsimp only at *
  omega
theorem swept_point {r : Rg} {a b p g : Pt} {k n : Int} (h : (sweptF r a b).2 = 0) (hp : InR r p) (h0 : 0 ≤ k) (h1 : k ≤ n) (hb : b = (a.1 + n * g.1, a.2 + n * g.2)) : InR (sweptF r a b).1 (a.1 + k * g.1 + p.1, a.2 + k * g.2 + p.2) := by
  obtain ⟨m1, m2, s1, s2⟩ := swept_sub h
  obtain ⟨_, _, t, ht, e1⟩ := moveF_ok m1
  obtain ⟨_, _, u, hu, e2⟩ := moveF_ok m2
  obtain rfl : t = u := by rw [ht] at hu; cases hu; rfl
  have hpt := (tight_in ht p).2 hp
  have q1 : InR (sweptF r a b).1 (a.1 + p.1, a.2 + p.2) := by
    refine InR.sub ?_ s1
    rw [e1, in_shift]
    show InR t (a.1 + p.1 - a.1, a.2 + p.2 - a.2)
    rw [show a.1 + p.1 - a.1 = p.1 by omega, show a.2 + p.2 - a.2 = p.2 by omega]; exact hpt
  have q2 : InR (sweptF r a b).1 (b.1 + p.1, b.2 + p.2) := by
    refine InR.sub ?_ s2
    rw [e2, in_shift]
    show InR t (b.1 + p.1 - b.1, b.2 + p.2 - b.2)
    rw [show b.1 + p.1 - b.1 = p.1 by omega, show b.2 + p.2 - b.2 = p.2 by omega]; exact hpt
  have hb1 : b.1 = a.1 + n * g.1 := by rw [hb]
  have hb2 : b.2 = a.2 + n * g.2 := by rw [hb]
  have := in_between (S := (sweptF r a b).1) (p := (a.1 + p.1, a.2 + p.2)) (g := g) h0 h1 q1 (by
    have e : ((a.1 + p.1) + n * g.1, (a.2 + p.2) + n * g.2) = (b.1 + p.1, b.2 + p.2) := by rw [hb1, hb2]; exact Prod.ext (by dsimp only; omega) (by dsimp only; omega)
    dsimp only
    rw [e]; exact q2)
  dsimp only at this
  have e : (a.1 + p.1 + k * g.1, a.2 + p.2 + k * g.2) = (a.1 + k * g.1 + p.1, a.2 + k * g.2 + p.2) := Prod.ext (by dsimp only; omega) (by dsimp only; omega)
  rw [e] at this
  exact this
/-- is a point left of every side, or on it? -/
def inF (l : List Pt) (q : Pt) : Bool := (sidesL l).all fun s => decide (0 ≤ turnP s.1 s.2 q)
theorem clip1_keep {q : Pt} {t : Int × Int} {s : Pt × Pt} (h : t.1 ≤ q.2 ∧ q.2 ≤ t.2) (hs : 0 ≤ turnP s.1 s.2 q) : (clip1 q.1 t s).1 ≤ q.2 ∧ q.2 ≤ (clip1 q.1 t s).2 := by
  have hN : sideN q.1 s ≤ sideK s * q.2 := by
    unfold turnP at hs
    unfold sideN sideK
    rw [Int.mul_sub] at hs
    omega
  unfold clip1
  generalize sideN q.1 s = N at *
  generalize sideK s = K at *
  split
  · rename_i hk
    have e1 := Int.mul_ediv_add_emod (-N) K
    have e2 := Int.emod_nonneg (-N) (show K ≠ 0 by omega)
    have : -(-N / K) ≤ q.2 := by
      refine Int.not_lt.1 fun hlt => ?_
      have h1 : q.2 + 1 ≤ -(-N / K) := hlt
      have h2 : -N / K ≤ -(q.2 + 1) := by omega
      have h3 : K * (-N / K) ≤ K * (-(q.2 + 1)) := Int.mul_le_mul_of_nonneg_left h2 (by omega)
      have e3 := Int.emod_lt_of_pos (-N) hk
      rw [Int.mul_neg, Int.mul_add, Int.mul_one] at h3
      omega
    unfold iMax; dsimp only; omega
  · split
    · rename_i hk
      have : q.2 ≤ -N / -K := by
        refine Int.not_lt.1 fun hlt => ?_
        have e1 := Int.mul_ediv_add_emod (-N) (-K)
        have e3 := Int.emod_lt_of_pos (-N) (show 0 < -K by omega)
        have h3 : -K * (-N / -K) ≤ -K * (q.2 - 1) := Int.mul_le_mul_of_nonneg_left (by omega) (by omega)
        rw [Int.mul_sub, Int.mul_one, Int.neg_mul, Int.neg_mul] at h3
        rw [Int.neg_mul] at e1
        omega
      unfold iMin; dsimp only; omega
    · have hK : K = 0 := by omega
      subst hK
      rw [Int.zero_mul] at hN
      rw [if_neg (by omega)]
      exact h
theorem clips_keep {q : Pt} : ∀ (ss : List (Pt × Pt)) {t : Int × Int}, (t.1 ≤ q.2 ∧ q.2 ≤ t.2) → (∀ s ∈ ss, 0 ≤ turnP s.1 s.2 q) → (clips q.1 t ss).1 ≤ q.2 ∧ q.2 ≤ (clips q.1 t ss).2
  | [], _, h, _ => h
  | s :: ss, _, h, hs => clips_keep ss (clip1_keep h (hs s List.mem_cons_self)) fun s' h' => hs s' (List.mem_cons_of_mem _ h')
/-- a field that a region does not hit has none of its points -/
theorem hits_none_in {l : List Pt} {r : Rg} (h : hitsO l r = none) {q : Pt} (hq : InR r q) : inF l q = false := by
  cases hi : inF l q with
  | false => rfl
  | true =>
    have hall : ∀ s ∈ sidesL l, 0 ≤ turnP s.1 s.2 q := fun s hs => of_decide_eq_true (List.all_eq_true.1 hi s hs)
    have hr := in_row.1 hq
    have hm := rows_mem hr.1.1 hr.1.2 (by omega)
    have hc := clips_keep (q := q) (t := ((rowOf r q.1).2.1, (rowOf r q.1).2.2)) (sidesL l) (by dsimp only; omega) hall
    have hrow : hitRow l (rowOf r q.1) = some (q.1, (clips q.1 ((rowOf r q.1).2.1, (rowOf r q.1).2.2) (sidesL l)).1) := by
      unfold hitRow
      exact if_pos (by show (clips q.1 _ _).1 ≤ (clips q.1 _ _).2; omega)
    unfold hitsO at h
    rw [List.findSome?_eq_none_iff] at h
    rw [h _ hm] at hrow
    cases hrow
end Go.Proofs.YtpccafeedfpbaaaGreat.C
end
