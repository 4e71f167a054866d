/-
  Part of the proof that what the interpreter of YtkkcpebemcbomaaGreatPvL yields, the model's machine comes to. No condition.
-/
import Derived.Test.YtkkcpebemcbomaaGreatPvR2
namespace PvL
open Go

/-! ### Running the model's words -/
section words
variable {P : Program} {w : World}
theorem run_typeInfo {t : TypeId} {i : TypeInfo} (h : P.info? t = some i) : (typeInfo t).run P w = .ok i w := by
  simp [typeInfo, h]
theorem run_underlying {t : TypeId} {d : TypeDesc} (h : P.underlying t = some d) : (underlying t).run P w = .ok d w := by
  simp [underlying, h]
theorem run_sizeOf {t : TypeId} {n : Nat} (h : szOf P t = some n) : (Go.sizeOf t).run P w = .ok n w := by
  unfold szOf at h
  cases hi : P.info? t with
  | none => rw [hi] at h; cases h
  | some i => rw [hi] at h; cases h; simp [Go.sizeOf, run_typeInfo hi]
theorem run_bytes {t : TypeId} {n : Nat} (h : bytesOfT P t = some n) : ∃ i, (typeInfo t).run P w = .ok i w ∧ i.bytes = n := by
  unfold bytesOfT at h
  cases hi : P.info? t with
  | none => rw [hi] at h; cases h
  | some i => rw [hi] at h; cases h; exact ⟨i, run_typeInfo hi, rfl⟩
theorem run_isAgg {t : TypeId} {b : Bool} (h : isAggT P t = some b) : (isAgg t).run P w = .ok b w := by
  unfold isAggT at h
  cases hu : P.underlying t with
  | none => rw [hu] at h; cases h
  | some d =>
    rw [hu] at h; cases h
    unfold isAgg
    rw [Sem.run_bind, run_underlying hu]
    cases d <;> rfl
theorem run_zeroValue {t : TypeId} {z : LV} (ρ : Rho) (h : zeroL P t = some z) : ∃ v, (zeroValue t).run P w = .ok v w ∧ VR ρ z v ∧ allFlat z.cells = true := by
  obtain ⟨i, hi, h⟩ := ob_eq.1 h
  obtain ⟨v, hv, h⟩ := ob_eq.1 h
  obtain ⟨z', hz, h⟩ := ob_eq.1 h
  obtain ⟨hf, h⟩ := guard'_eq.1 h
  cases h
  exact ⟨v, by simp [zeroValue, run_typeInfo hi, hv], ofV_sim ρ hz, hf⟩
theorem aggSz_eq {t : TypeId} {s : Option Nat} (h : aggSz P t = some s) : (s = none ∧ isAggT P t = some false) ∨ ∃ n, s = some n ∧ isAggT P t = some true ∧ szOf P t = some n := by
  obtain ⟨b, hb, h⟩ := ob_eq.1 h
  cases b with
  | false => cases h; exact .inl ⟨rfl, hb⟩
  | true =>
    obtain ⟨n, hn, h⟩ := ob_eq.1 (show ob (szOf P t) (fun n => some (some n)) = some s from h)
    cases h; exact .inr ⟨n, rfl, hb, hn⟩
theorem add_none (b o k : Nat) : (⟨b, o, none⟩ : Addr).add k = ⟨b, o + k, none⟩ := by
  unfold Addr.add
  split
  · subst_vars; rfl
  · rfl
theorem cell_of {b k : Nat} {C : Array Value} {e : TypeId} {fr : Nat × Nat} (h : w.heap[b]? = some (.cells C e fr)) : w.cell? ⟨b, k, none⟩ = C[k]? := by
  simp [World.cell?, h]
theorem frozen_of {b k : Nat} {C : Array Value} {e : TypeId} (h : w.heap[b]? = some (.cells C e (0, 0))) : w.frozen? ⟨b, k, none⟩ = false := by
  simp [World.frozen?, h]
theorem run_load_of {a : Addr} {v : Value} (h : w.cell? a = some v) : (load a).run P w = .ok v w := by simp [h]
theorem run_loadCellsFrom {b o : Nat} (n : Nat) : ∀ (i : Nat) (acc : Array Value) (vs : List Value), vs.length = n → (∀ k, k < n → w.cell? ⟨b, o + i + k, none⟩ = vs[k]?) →
    (loadCellsFrom ⟨b, o, none⟩ i n acc).run P w = .ok (acc ++ vs.toArray) w := by
  induction n with
  | zero => intro i acc vs hl _; obtain rfl : vs = [] := by simpa using hl
            simp [loadCellsFrom]
  | succ n ih =>
    intro i acc vs hl hc
    cases vs with
    | nil => simp at hl
    | cons v vs =>
      have h0 : w.cell? ⟨b, o + i, none⟩ = some v := by simpa using hc 0 (by omega)
      unfold loadCellsFrom
      rw [Sem.run_bind, add_none, run_load_of h0, Result.andThen_ok]
      rw [ih (i + 1) (acc.push v) vs (by simpa using hl) (fun k hk => ?_)]
      · simp
      · have := hc (k + 1) (by omega)
        rw [show o + (i + 1) + k = o + i + (k + 1) from by omega, this]
        simp
theorem run_loadCells {b o n : Nat} {vs : List Value} (hl : vs.length = n) (hc : ∀ k, k < n → w.cell? ⟨b, o + k, none⟩ = vs[k]?) :
    (loadCells ⟨b, o, none⟩ n).run P w = .ok vs.toArray w := by
  unfold loadCells
  rw [run_loadCellsFrom n 0 #[] vs hl (by simpa using hc)]
  simp
end words

theorem flat_oneCell {ρ : Rho} {v : LV} {v' : Value} (h : VR ρ v v') (hf : v.flat = true) : v'.oneCell' = true := by
  cases h <;> first | rfl | cases hf
theorem allFlat_cons {v : LV} {vs : List LV} : allFlat (v :: vs) = true ↔ v.flat = true ∧ allFlat vs = true := by
  show ifb v.flat (allFlat vs) false = true ↔ _
  cases v.flat <;> simp
theorem VRs.oneCells {ρ : Rho} {vs : List LV} {vs' : List Value} (h : VRs ρ vs vs') (hf : allFlat vs = true) : ∀ x ∈ vs', x.oneCell' = true := by
  induction vs generalizing vs' with
  | nil => cases h; simp
  | cons v vs ih =>
    obtain ⟨h1, h2⟩ := allFlat_cons.1 hf
    cases h with
    | cons h t =>
      intro x hx
      cases hx with
      | head => exact flat_oneCell h h1
      | tail _ hx => exact ih t h2 x hx

/-- a value's cells -/
theorem VR.cells {ρ : Rho} {v : LV} {v' : Value} (h : VR ρ v v') (hf : allFlat v.cells = true) : VRs ρ v.cells v'.cells.toList := by
  cases h with
  | agg h => exact h
  | unk v =>
    have : allFlat [LV.unk] = true := hf
    have := (allFlat_cons.1 this).1
    cases this
  | tup h =>
    have : allFlat [LV.tup _] = true := hf
    have := (allFlat_cons.1 this).1
    cases this
  | _ => exact .cons (by constructor <;> assumption) .nil

theorem storeCells_run (P : Program) (b o : Nat) (e : TypeId) : ∀ (vs : List Value) (i : Nat) (w : World) (C : Array Value),
    w.heap[b]? = some (.cells C e (0, 0)) → (∀ x ∈ vs, x.oneCell' = true) → (vs = [] ∨ o + i + vs.length ≤ C.size) →
    ∃ w' C', (storeCells ⟨b, o, none⟩ vs i).run P w = .ok () w' ∧ w'.heap[b]? = some (.cells C' e (0, 0)) ∧ C'.size = C.size ∧
      (∀ k, C'[k]? = if o + i ≤ k ∧ k < o + i + vs.length then vs[k - (o + i)]? else C[k]?) ∧ (∀ r, r ≠ b → w'.heap[r]? = w.heap[r]?) ∧ (w'.os = w.os ∧ w'.output = w.output) := by
  intro vs
  induction vs with
  | nil =>
    intro i w C h _ _
    refine ⟨w, C, rfl, h, rfl, fun k => ?_, fun _ _ => rfl, rfl, rfl⟩
    rw [if_neg (fun hh => by simp at hh; omega)]
  | cons v vs ih =>
    intro i w C h h1 hsz
    have hsz : o + i + (vs.length + 1) ≤ C.size := by
      rcases hsz with hsz | hsz
      · cases hsz
      · simpa using hsz
    have hc : w.cell? ⟨b, o + i, none⟩ = some (C[o + i]'(by omega)) := by rw [cell_of h]; exact Array.getElem?_eq_getElem (by omega)
    have hb : b < w.heap.size := (Array.getElem?_eq_some_iff.1 h).1
    let w1 := w.setCell ⟨b, o + i, none⟩ v
    have hw1 : w1.heap[b]? = some (.cells (C.setIfInBounds (o + i) v) e (0, 0)) := by
      have hx : w.heap[b] = .cells C e (0, 0) := by
        have := Array.getElem?_eq_some_iff.1 h
        exact this.2
      simp [w1, World.setCell, Array.getElem?_modify, h]
    have hoth : ∀ r, r ≠ b → w1.heap[r]? = w.heap[r]? := by
      intro r hr
      simp [w1, World.setCell, Array.getElem?_modify, Ne.symm hr]
    obtain ⟨w', C', hrun, hh, hs, hk, ho, hos⟩ := ih (i + 1) w1 _ hw1 (fun x hx => h1 x (.tail _ hx)) (.inr (by simp; omega))
    refine ⟨w', C', ?_, hh, by simpa using hs, fun k => ?_, fun r hr => by rw [ho r hr, hoth r hr], hos⟩
    · unfold storeCells
      rw [Sem.run_bind, add_none, run_store _ _ _ _ _ (h1 v (.head _))]
      simp only [hc, frozen_of h, Bool.false_eq_true, if_false, Result.andThen_ok]
      exact hrun
    · rw [hk k]
      by_cases hk1 : k = o + i
      · subst hk1
        rw [if_neg (by omega), if_pos (by simp)]
        simp [Array.getElem?_setIfInBounds]; omega
      · by_cases hk2 : o + (i + 1) ≤ k ∧ k < o + (i + 1) + vs.length
        · rw [if_pos hk2, if_pos (by simp; omega)]
          rw [show k - (o + i) = (k - (o + (i + 1))) + 1 from by omega, List.getElem?_cons_succ]
        · rw [if_neg hk2, if_neg (by simp; omega)]
          simp [Ne.symm hk1]

section mem
variable {Pt : Prot} {ρ : Rho} {m : Mem} {w : World} {P : Program}
theorem atCells_eq {α : Type} {i : Nat} {k : Bool → List LV → TypeId → Option α} {y : α} : atCells m i k = some y ↔ ∃ own c e, m.get i = some (.cells own c e) ∧ k own c e = some y := by
  unfold atCells
  rw [ob_eq]
  constructor
  · rintro ⟨lb, h1, h2⟩
    cases lb with
    | cells own c e => exact ⟨own, c, e, h1, h2⟩
    | _ => cases h2
  · rintro ⟨own, c, e, h1, h2⟩; exact ⟨_, h1, h2⟩
theorem atMap_eq {α : Type} {i : Nat} {k : List (LV × LV) → Option α} {y : α} : atMap m i k = some y ↔ ∃ es, m.get i = some (.map es) ∧ k es = some y := by
  unfold atMap
  rw [ob_eq]
  constructor
  · rintro ⟨lb, h1, h2⟩
    cases lb with
    | map es => exact ⟨es, h1, h2⟩
    | _ => cases h2
  · rintro ⟨es, h1, h2⟩; exact ⟨_, h1, h2⟩
theorem atLoop_eq {α : Type} {i : Nat} {k : LoopState → Option Code → FuncId → Tm → List Tmp → Code → Code → Nat → Option α} {y : α} :
    atLoop m i k = some y ↔ ∃ st pend fn tm ps a b d, m.get i = some (.loop st pend fn tm ps a b d) ∧ k st pend fn tm ps a b d = some y := by
  unfold atLoop
  rw [ob_eq]
  constructor
  · rintro ⟨lb, h1, h2⟩
    cases lb with
    | loop st pend fn tm ps a b d => exact ⟨st, pend, fn, tm, ps, a, b, d, h1, h2⟩
    | _ => cases h2
  · rintro ⟨st, pend, fn, tm, ps, a, b, d, h1, h2⟩; exact ⟨_, h1, h2⟩
theorem atDefr_eq {α : Type} {i : Nat} {k : Option α} {y : α} : atDefr m i k = some y ↔ m.get i = some .defr ∧ k = some y := by
  unfold atDefr
  rw [ob_eq]
  constructor
  · rintro ⟨lb, h1, h2⟩
    cases lb with
    | defr => exact ⟨h1, h2⟩
    | _ => cases h2
  · rintro ⟨h1, h2⟩; exact ⟨_, h1, h2⟩

/-- a row of cells, read -/
theorem Rel.cells (h : Rel Pt ρ m w) {i : Nat} {own : Bool} {cs : List LV} {e : TypeId} (hi : m.get i = some (.cells own cs e)) {b s c : Nat} (hρ : ρ i = some (b, s, c)) :
    ∃ C e' fr, w.heap[b]? = some (.cells C e' fr) ∧ (own = true → fr = (0, 0)) ∧ C.size = c ∧ CellsR ρ cs C s := by
  obtain ⟨_, b0, s0, c0, o, e0, ⟨C, e', fr, rfl, h2, h3, h4⟩, h5, _⟩ := h.live i _ hi
  rw [hρ] at e0; cases e0
  exact ⟨C, e', fr, h5, h2, h3, h4⟩
theorem load1_sim (h : Rel Pt ρ m w) {i off : Nat} {v : LV} (hl : load1 m i off = some v) {b s c : Nat} (hρ : ρ i = some (b, s, c)) : ∃ v', w.cell? ⟨b, s + off, none⟩ = some v' ∧ VR ρ v v' := by
  obtain ⟨own, cs, e, hi, hn⟩ := atCells_eq.1 hl
  obtain ⟨C, e', fr, hh, _, _, hC⟩ := h.cells hi hρ
  rw [nth_eq] at hn
  obtain ⟨v', h1, h2⟩ := hC off v hn
  exact ⟨v', by rw [cell_of hh]; exact h1, h2⟩
theorem loadN_sim (h : Rel Pt ρ m w) {i off n : Nat} {l : List LV} (hl : loadN m i off n = some l) {b s c : Nat} (hρ : ρ i = some (b, s, c)) :
    ∃ vs : List Value, vs.length = n ∧ (∀ k, k < n → w.cell? ⟨b, s + off + k, none⟩ = vs[k]?) ∧ VRs ρ l vs := by
  obtain ⟨own, cs, e, hi, hn⟩ := atCells_eq.1 hl
  obtain ⟨C, e', fr, hh, _, _, hC⟩ := h.cells hi hρ
  rw [drop'_eq] at hn
  obtain ⟨hlen, rfl⟩ := take'_eq.1 hn
  simp only [List.length_drop] at hlen
  have hget : ∀ k, k < n → ∃ v', C[s + off + k]? = some v' := fun k hk => by
    obtain ⟨v', h1, _⟩ := hC (off + k) (cs[off + k]'(by omega)) (List.getElem?_eq_getElem _)
    exact ⟨v', by rw [← h1]; congr 1; omega⟩
  have hsz : n = 0 ∨ s + off + n ≤ C.size := by
    rcases Nat.eq_zero_or_pos n with h0 | h0
    · exact .inl h0
    · obtain ⟨v', h1⟩ := hget (n - 1) (by omega)
      have := (Array.getElem?_eq_some_iff.1 h1).1
      exact .inr (by omega)
  refine ⟨(C.toList.drop (s + off)).take n, ?_, fun k hk => ?_, VRs.of_get ?_ fun k v hk => ?_⟩
  · simp; omega
  · rw [cell_of hh, List.getElem?_take]
    simp [hk]
  · simp; omega
  · have hkn : k < n := by
      have := (List.getElem?_eq_some_iff.1 hk).1
      simp at this; omega
    rw [List.getElem?_take, if_pos hkn, List.getElem?_drop] at hk
    obtain ⟨v', h1, h2⟩ := hC (off + k) v hk
    refine ⟨v', ?_, h2⟩
    rw [List.getElem?_take, if_pos hkn, List.getElem?_drop]
    simp only [Array.getElem?_toList]
    rw [← h1]; congr 1; omega

theorem loadT_sim (h : Rel Pt ρ m w) {t : TypeId} {x v : LV} {x' : Value} (hx : VR ρ x x') (hl : loadT P t m x = some v) :
    ∃ a v', x' = .pointer (some a) ∧ (loadVar t a).run P w = .ok v' w ∧ VR ρ v v' := by
  obtain ⟨i, o, rfl, hl⟩ := asPtr_eq.1 hl
  obtain ⟨s, hs, hl⟩ := ob_eq.1 hl
  cases hx with
  | ptr hρ =>
    rename_i b sh c
    rcases aggSz_eq hs with ⟨rfl, hag⟩ | ⟨n, rfl, hag, hsz⟩
    · obtain ⟨v', h1, h2⟩ := load1_sim h (v := v) hl hρ
      refine ⟨_, v', rfl, ?_, h2⟩
      unfold loadVar
      rw [Sem.run_bind, run_isAgg hag, Result.andThen_ok]
      exact run_load_of h1
    · obtain ⟨l, hl1, hl2⟩ := ob_eq.1 (show ob (loadN m i o n) (fun l => some (.agg l)) = some v from hl)
      cases hl2
      obtain ⟨vs, h1, h2, h3⟩ := loadN_sim h hl1 hρ
      refine ⟨_, .agg vs.toArray, rfl, ?_, .agg (by simpa using h3)⟩
      unfold loadVar
      rw [Sem.run_bind, run_isAgg hag, Result.andThen_ok]
      simp only [if_true, Sem.run_bind, run_sizeOf hsz, Result.andThen_ok, run_loadCells h1 h2]
      rfl

/-- cells, stored into a block of the call's own -/
theorem storeCs_sim (h : Rel Pt ρ m w) {i off : Nat} {vs : List LV} {vs' : List Value} {m' : Mem} (hs : storeCs m i off vs = some m') (hv : VRs ρ vs vs') (hf : allFlat vs = true)
    {b s c : Nat} (hρ : ρ i = some (b, s, c)) : ∃ w', (storeCells ⟨b, s + off, none⟩ vs').run P w = .ok () w' ∧ Rel Pt ρ m' w' ∧ m'.next = m.next := by
  obtain ⟨own, cs, e, hi, hs⟩ := atCells_eq.1 hs
  obtain ⟨hown, hs⟩ := guard'_eq.1 hs
  subst hown
  obtain ⟨cs', hset, hs⟩ := ob_eq.1 hs
  cases hs
  obtain ⟨C, e', fr, hh, hfr, hsz, hC⟩ := h.cells hi hρ
  obtain rfl := hfr rfl
  obtain ⟨g1, g2, g3⟩ := setList_spec _ _ _ _ hset
  have hlen := hv.length
  have hbound : vs' = [] ∨ s + off + 0 + vs'.length ≤ C.size := by
    rcases g2 with rfl | g2
    · cases hv; exact .inl rfl
    · rcases Nat.eq_zero_or_pos vs.length with h0 | h0
      · exact .inl (by apply List.eq_nil_of_length_eq_zero; omega)
      · obtain ⟨v', h1, _⟩ := hC (off + vs.length - 1) (cs[off + vs.length - 1]'(by omega)) (List.getElem?_eq_getElem _)
        have := (Array.getElem?_eq_some_iff.1 h1).1
        exact .inr (by omega)
  obtain ⟨w', C', hrun, hh', hsz', hk, hoth, hos⟩ := storeCells_run P b (s + off) e' vs' 0 w C hh (hv.oneCells hf) hbound
  refine ⟨w', hrun, h.turn hi rfl rfl hρ (o' := .cells C' e' (0, 0)) ⟨C', e', (0, 0), rfl, fun _ => rfl, by omega, fun k v hkv => ?_⟩ hh' hoth hos, Mem.next_upd _ _ _⟩
  rw [g3 k] at hkv
  rw [hk]
  by_cases hc : off ≤ k ∧ k < off + vs.length
  · rw [if_pos hc] at hkv
    rw [if_pos (by omega)]
    obtain ⟨v', e1, e2⟩ := hv.get hkv
    exact ⟨v', by rw [← e1]; congr 1; omega, e2⟩
  · rw [if_neg hc] at hkv
    rw [if_neg (by omega)]
    exact hC k v hkv
theorem storeT_sim (h : Rel Pt ρ m w) {t : TypeId} {x v : LV} {x' v' : Value} {m' : Mem} (hx : VR ρ x x') (hv : VR ρ v v') (hs : storeT P t m x v = some m') :
    ∃ w', (Instr.storeAt t x' v').run P w = .ok () w' ∧ Rel Pt ρ m' w' ∧ m'.next = m.next := by
  obtain ⟨i, o, rfl, hs⟩ := asPtr_eq.1 hs
  obtain ⟨n, hn, hs⟩ := ob_eq.1 hs
  obtain ⟨hlen, hs⟩ := guard'_eq.1 hs
  obtain ⟨hfl, hs⟩ := guard'_eq.1 hs
  cases hx with
  | ptr hρ =>
    have hc := hv.cells hfl
    obtain ⟨w', h1, h2, h3⟩ := storeCs_sim (P := P) h hs hc hfl hρ
    refine ⟨w', ?_, h2, h3⟩
    have hl : v'.cells.size = n := by
      have := hc.length
      rw [Nat.beq_eq] at hlen
      simp at this; omega
    unfold Instr.storeAt Instr.sureAddr storeVar
    simp only [Sem.run_bind, Sem.run_pure, Result.andThen_ok, run_sizeOf hn, hl, ne_eq, not_true_eq_false, if_false]
    exact h1
end mem
end PvL
