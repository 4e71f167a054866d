/-
  Part of the proof that what the interpreter of YtkkcpebemcbomaaGreatPvL yields, the model's machine comes to. No condition.
-/
import Derived.Test.YtkkcpebemcbomaaGreatPvO4
namespace PvL
open Go

def Same (ρ ρ' : Rho) (lo hi : Nat) : Prop := RLe ρ ρ' ∧ ∀ i, (i < lo ∨ hi ≤ i) → ρ' i = ρ i
def Fresh (ρ : Rho) (lo hi : Nat) : Prop := ∀ i, lo ≤ i → i < hi → ρ i = none
theorem Same.refl (ρ : Rho) (lo hi : Nat) : Same ρ ρ lo hi := ⟨RLe.refl ρ, fun _ _ => rfl⟩
theorem Same.upd1 {ρ : Rho} {i : Nat} {x : Nat × Nat × Nat} (h : ρ i = none) : Same ρ (upd1 ρ i x) i (i + 1) :=
  ⟨RLe.upd1 h, fun j hj => by unfold PvL.upd1; rw [if_neg (by omega)]⟩

/-- a value and a world come of it -/
def Gives (P : Program) (Pt : Prot) (ρ : Rho) (m : Mem) (w : World) (s : Sem Value) (v : LV) (m' : Mem) : Prop :=
  ∃ ρ' v' w', s.run P w = .ok v' w' ∧ Same ρ ρ' m.next m'.next ∧ VR ρ' v v' ∧ Rel Pt ρ' m' w'

section mem
variable {P : Program} {Pt : Prot} {ρ : Rho} {m : Mem} {w : World}

theorem Gives.pure {s : Sem Value} {v : LV} {v' : Value} (h : Rel Pt ρ m w) (hr : s.run P w = .ok v' w) (hv : VR ρ v v') : Gives P Pt ρ m w s v m :=
  ⟨ρ, v', w, hr, Same.refl _ _ _, hv, h⟩
theorem upd1_self (ρ : Rho) (i : Nat) (x : Nat × Nat × Nat) : upd1 ρ i x i = some x := by unfold upd1; rw [if_pos rfl]
/-- a new row of cells -/
theorem new_cells (h : Rel Pt ρ m w) (hf : ρ m.next = none) {cs : List LV} {C : Array Value} {e e' : TypeId} (hc : CellsR ρ cs C 0) :
    Rel Pt (upd1 ρ m.next (w.heap.size, 0, C.size)) (m.push (.cells true cs e)) { w with heap := w.heap.push (.cells C e') } :=
  h.alloc hf rfl ⟨C, e', (0, 0), rfl, fun _ => rfl, rfl, hc⟩
theorem VRs.cellsR {cs : List LV} {C : Array Value} (h : VRs ρ cs C.toList) : CellsR ρ cs C 0 := fun k v hk => by
  obtain ⟨v', e, hv⟩ := h.get hk
  exact ⟨v', by simpa using e, hv⟩
theorem VRs.cellsR_append {cs : List LV} {C D : Array Value} (h : VRs ρ cs C.toList) : CellsR ρ cs (C ++ D) 0 := fun k v hk => by
  obtain ⟨v', e, hv⟩ := h.get hk
  refine ⟨v', ?_, hv⟩
  simp only [Array.getElem?_toList] at e
  have := (Array.getElem?_eq_some_iff.1 e).1
  rw [Nat.zero_add, Array.getElem?_append_left this]; exact e
theorem newPtr_sim {t : TypeId} {v : LV} {v' : Value} (h : Rel Pt ρ m w) (hf : ρ m.next = none) (hv : VRs ρ v.cells v'.cells.toList) :
    Gives P Pt ρ m w (do pure (.pointer (some (← newVar t v'))) : Sem Value) (.ptr (some (m.next, 0))) (m.push (.cells true v.cells t)) := by
  refine ⟨_, .pointer (some ⟨w.heap.size, 0 + 0, none⟩), _, ?_, Same.upd1 hf, .ptr (upd1_self _ _ _), new_cells h hf (e' := t) (C := v'.cells) hv.cellsR⟩
  simp [newVar, newRow]
theorem rep_length (n : Nat) (z : List LV) : (rep n z).length = n * z.length := by
  induction n with
  | zero => show ([] : List LV).length = _; simp
  | succ n ih => show (z ++ rep n z).length = _; rw [List.length_append, ih, Nat.succ_mul]; omega
theorem rep_get (z : List LV) (hz : 0 < z.length) : ∀ (n k : Nat), k < n * z.length → (rep n z)[k]? = z[k % z.length]?
  | 0, k, h => by simp at h
  | n + 1, k, h => by
    show (z ++ rep n z)[k]? = _
    by_cases hk : k < z.length
    · rw [List.getElem?_append_left hk, Nat.mod_eq_of_lt hk]
    · rw [List.getElem?_append_right (by omega), rep_get z hz n (k - z.length) (by rw [Nat.succ_mul] at h; omega)]
      conv => rhs; rw [show k = (k - z.length) + z.length from by omega, Nat.add_mod_right]
theorem rep_sim {z : List LV} {Z : Array Value} (h : VRs ρ z Z.toList) (hz : 0 < z.length) (n N : Nat) (hn : n ≤ N) :
    VRs ρ (rep n z) (((Array.range (N * Z.size)).map (Z[· % Z.size]!)).toList.take (n * z.length)) := by
  have hl : z.length = Z.size := by simpa using h.length
  have hle : n * z.length ≤ N * Z.size := by rw [← hl]; exact Nat.mul_le_mul_right _ hn
  refine VRs.of_get ?_ fun k v hk => ?_
  · rw [rep_length]; simp; omega
  · have hkl := (List.getElem?_eq_some_iff.1 hk).1
    rw [rep_length] at hkl
    rw [rep_get z hz n k hkl] at hk
    obtain ⟨v', e, hv⟩ := h.get hk
    refine ⟨v', ?_, hv⟩
    rw [List.getElem?_take, if_pos hkl]
    simp only [Array.toList_map, Array.toList_range, List.getElem?_map, List.getElem?_range (show k < N * Z.size by omega), Option.map_some]
    rw [hl] at e
    simp only [Array.getElem?_toList] at e
    rw [getElem!_def, e]
theorem rep_sim' {z : List LV} {Z : Array Value} (h : VRs ρ z Z.toList) (hz : 0 < z.length) (n : Nat) : VRs ρ (rep n z) ((Array.range (n * Z.size)).map (Z[· % Z.size]!)).toList := by
  have := rep_sim h hz n n (Nat.le_refl _)
  rw [List.take_of_length_le] at this
  · exact this
  · have hl : z.length = Z.size := by simpa using h.length
    simp [hl]

theorem sliceElem_eq {t e : TypeId} (h : sliceElem P t = some e) : P.underlying t = some (.slice e) := by
  unfold sliceElem at h
  split at h
  · cases h; assumption
  · cases h

theorem buildSliceL_sim {t : TypeId} {len : Nat} {ps : List (Nat × LV)} {r : R1} (h : buildSliceL P t len ps m rvm = some r) :
    ∃ v b, r = .val v (m.push b) ∧ ∀ (Pt : Prot) (ρ : Rho) (w : World) (ps' : List (Nat × Value)), PR ρ ps ps' → Rel Pt ρ m w → ρ m.next = none →
      Gives P Pt ρ m w (Instr.buildSlice t len ps'.toArray) v (m.push b) := by
  obtain ⟨e, he, h1⟩ := ob_eq.1 h
  obtain ⟨n, hn, h2⟩ := ob_eq.1 h1
  obtain ⟨z, hz, h3⟩ := ob_eq.1 h2
  obtain ⟨hg, h4⟩ := guard'_eq.1 h3
  obtain ⟨c, hc, h5⟩ := ob_eq.1 h4
  rw [Mem.new_eq] at h5
  cases h5
  simp only [Bool.and_eq_true, Nat.ble_eq, Nat.beq_eq] at hg
  obtain ⟨hg1, hg2, hg3⟩ := hg
  refine ⟨_, _, rfl, fun Pt ρ w ps' hp hrel hf => ?_⟩
  have hu := sliceElem_eq he
  obtain ⟨zv, hz1, hz2, hzc, hzf⟩ := zero_sim (w := w) (ρ := ρ) hz
  have hzl : z.cells.length = zv.cells.size := by simpa using hzc.length
  have hr := rep_sim' hzc (by omega) len
  obtain ⟨C', hfill, hv⟩ := fill_sim (ρ := ρ) (pl := fun i => some (i * n, n)) (pl' := fun i => some (i * n, n)) (fun i p hp => hp) ps ps' _ _ _ hp hr hc
  have hlen : C'.size = len * n := by
    -- as many cells as there were
    have h1 := hv.length
    have : c.length = (rep len z.cells).length := fillL_length _ _ _ hc
    rw [rep_length] at this
    simp at h1; rw [hg3] at this; omega
  refine ⟨_, .slice (some ⟨w.heap.size, 0 + 0, none⟩) len len, _, ?_, Same.upd1 hf, .slice (upd1_self _ _ _) (Nat.le_refl _) (fun _ => rfl) (by rw [hlen]; omega), new_cells hrel hf (e' := e) hv.cellsR⟩
  unfold Instr.buildSlice
  simp only [Sem.run_bind, Go.run_underlying hu, Result.andThen_ok, run_sizeOf hn]
  rw [if_neg (by omega)]
  rw [← hzl, hg3] at hfill
  have hrow : ∀ w, (do pure (.slice (some (← newRow e C')) len len) : Sem Value).run P w = .ok (.slice (some ⟨w.heap.size, 0, none⟩) len len) { w with heap := w.heap.push (.cells C' e) } := fun w => by
    simp [newRow]
  by_cases h0 : len * n = 0
  · rw [if_pos h0]
    simp only [Sem.run_pure, Result.andThen_ok, Sem.run_bind]
    rw [h0] at hfill ⊢
    have e0 : ∀ Z : Array Value, (Array.range 0).map (fun x => Z[x % n]!) = #[] := fun Z => by simp
    have e1 : ∀ Z : Array Value, (Array.range 0).map (fun x => Z[x % Z.size]!) = #[] := fun Z => by simp
    rw [e0] at hfill
    rw [e1, hfill]
    exact hrow w
  · rw [if_neg h0]
    simp only [Sem.run_bind, hz1, Sem.run_pure, Result.andThen_ok]
    rw [← hzl, hg3, hfill]
    exact hrow w

theorem nat?_some {α : Type} {z : Int} {k : Nat → Option α} {y : α} (h : nat? z k = some y) : ∃ n : Nat, z = n ∧ k n = some y := nat?_eq.1 h

theorem makeSliceL_sim {t : TypeId} {l c : LV} {r : R1} (h : makeSliceL P t l c m rvm = some r) :
    ∃ v b, r = .val v (m.push b) ∧ ∀ (Pt : Prot) (ρ : Rho) (w : World) (l' c' : Value), VR ρ l l' → VR ρ c c' → Rel Pt ρ m w → ρ m.next = none →
      Gives P Pt ρ m w (Instr.makeSlice t l' c') v (m.push b) := by
  obtain ⟨e, he, h1⟩ := ob_eq.1 h
  obtain ⟨k1, li, rfl, h2⟩ := asInt_eq.1 h1
  obtain ⟨k2, ci, rfl, h3⟩ := (asInt_eq (v := c)).1 h2
  obtain ⟨ln, rfl, h4⟩ := nat?_eq.1 h3
  obtain ⟨cn, rfl, h5⟩ := nat?_eq.1 h4
  obtain ⟨n, hn, h6⟩ := ob_eq.1 h5
  obtain ⟨z, hz, h7⟩ := ob_eq.1 h6
  obtain ⟨by', hby, h8⟩ := ob_eq.1 h7
  obtain ⟨hg, h9⟩ := guard'_eq.1 h8
  rw [Mem.new_eq] at h9
  cases h9
  simp only [Bool.and_eq_true, Nat.ble_eq, Nat.beq_eq] at hg
  obtain ⟨hg1, hg2, hg3, hg4, hg5⟩ := hg
  refine ⟨_, _, rfl, fun Pt ρ w l' c' hl hc hrel hf => ?_⟩
  have hu := sliceElem_eq he
  obtain ⟨i, hi, hib⟩ := run_bytes (w := w) hby
  obtain ⟨zv, hz1, hz2, hzc, hzf⟩ := zero_sim (w := w) (ρ := ρ) hz
  have hzl : z.cells.length = zv.cells.size := by simpa using hzc.length
  rw [hl.int_inv, hc.int_inv]
  let C : Array Value := if cn * n = 0 then #[] else (Array.range (cn * n)).map (zv.cells[· % zv.cells.size]!)
  have hC : C.size = cn * n := by
    show (if cn * n = 0 then #[] else _).size = _
    split
    · simp; omega
    · simp
  have hcells : CellsR ρ (rep ln z.cells) C 0 := by
    intro k v hk
    have hkl := (List.getElem?_eq_some_iff.1 hk).1
    rw [rep_length, hg5] at hkl
    have hr := rep_sim hzc (by omega) ln cn hg1
    obtain ⟨v', e1, hv⟩ := hr.get hk
    refine ⟨v', ?_, hv⟩
    rw [List.getElem?_take, if_pos (by rw [hg5]; exact hkl)] at e1
    have hne : cn * n ≠ 0 := by
      have : ln * n ≤ cn * n := Nat.mul_le_mul_right _ hg1
      omega
    show (if cn * n = 0 then #[] else _)[0 + k]? = _
    rw [if_neg hne, Nat.zero_add]
    rw [← hzl, hg5] at e1
    rw [← hzl, hg5]
    simp only [Array.getElem?_map, Array.getElem?_range, List.getElem?_map, Array.toList_map, Array.toList_range] at e1 ⊢
    have hkc : k < cn * n := by have : ln * n ≤ cn * n := Nat.mul_le_mul_right _ hg1; omega
    rw [← e1, if_pos hkc, List.getElem?_range hkc]
  refine ⟨_, .slice (some ⟨w.heap.size, 0 + 0, none⟩) ln cn, _, ?_, Same.upd1 hf,
    .slice (upd1_self _ _ _) hg1 (fun hb => by rw [Nat.beq_eq] at hb; exact hb.symm) (by rw [hC]; omega), new_cells hrel hf (e' := e) (C := C) hcells⟩
  have hw1 : IntKind.i64.wrap (ln : Int) = ln := by rw [IntKind.wrap_i64]; omega
  have hw2 : IntKind.i64.wrap (cn : Int) = cn := by rw [IntKind.wrap_i64]; omega
  have hb : (i.bytes : Int) * (cn : Int) ≤ 140737488355328 := by
    rw [hib]; have h1 := Int.ofNat_le.2 hg2; rw [Int.natCast_mul] at h1; omega
  unfold Instr.makeSlice
  simp only [Sem.run_bind, Go.run_underlying hu, Result.andThen_ok, Go.asInt, Go.asIntOf, Sem.run_pure, hi, hw1, hw2]
  have hcond : ((decide ((cn : Int) < 0) || decide ((i.bytes : Int) * (cn : Int) > 2 ^ 48)) || decide ((ln : Int) < 0) || decide ((ln : Int) > (cn : Int))) = false := by
    simp; omega
  simp only [hcond, Bool.false_eq_true, if_false]
  simp only [run_askRoom, Result.andThen_ok, run_sizeOf hn, Sem.run_bind, Int.toNat_natCast]
  by_cases h0 : cn * n = 0
  · have hCe : C = #[] := by show (if cn * n = 0 then #[] else _) = _; rw [if_pos h0]
    have e0 : ∀ f : Nat → Value, (Array.range 0).map f = #[] := fun f => by simp
    simp [h0, hCe, newRow, e0]
  · have hCe : C = (Array.range (cn * n)).map (zv.cells[· % zv.cells.size]!) := by show (if cn * n = 0 then #[] else _) = _; rw [if_neg h0]
    simp [h0, hCe, newRow, hz1]
end mem
end PvL
