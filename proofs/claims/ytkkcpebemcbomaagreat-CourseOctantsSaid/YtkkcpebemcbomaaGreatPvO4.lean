/-
  Part of the proof that what the interpreter of YtkkcpebemcbomaaGreatPvL yields, the model's machine comes to. No condition.
-/
import Derived.Test.YtkkcpebemcbomaaGreatPvO3
namespace PvL
open Go

section aggs
variable {P : Program} {ρ : Rho} {w : World}

/-- parts of a composite: places alike, values related -/
def PR (ρ : Rho) : List (Nat × LV) → List (Nat × Value) → Prop
  | [], [] => True
  | x :: xs, y :: ys => x.1 = y.1 ∧ VR ρ x.2 y.2 ∧ PR ρ xs ys
  | _, _ => False
theorem evParts_sim {T : Tm} {a : Act} (h : TR ρ T a.tmps) {xs : List (Nat × Operand)} {vs : List (Nat × LV)} (hx : evParts T xs = some vs) : PR ρ vs (xs.map fun x => (x.1, a.eval x.2)) := by
  induction xs generalizing vs with
  | nil => cases hx; trivial
  | cons x xs ih =>
    obtain ⟨i, x⟩ := x
    obtain ⟨v, hv, hx⟩ := ob_eq.1 (show ob (ev T x) _ = some vs from hx)
    obtain ⟨vs', hvs, hx⟩ := ob_eq.1 hx
    cases hx
    exact ⟨rfl, ev_sim h hv, ih hvs⟩

/-- the model's store of a part, cell by cell -/
theorem foldl_set (off : Nat) : ∀ (vs : List Value) (j : Nat) (C : Array Value),
    ((vs.zipIdx j).foldl (fun cs (x : Value × Nat) => cs.setIfInBounds (off + x.2) x.1) C).size = C.size ∧
    ∀ k, ((vs.zipIdx j).foldl (fun cs (x : Value × Nat) => cs.setIfInBounds (off + x.2) x.1) C)[k]? =
      if off + j ≤ k ∧ k < off + j + vs.length ∧ k < C.size then vs[k - (off + j)]? else C[k]? := by
  intro vs
  induction vs with
  | nil => intro j C; exact ⟨rfl, fun k => by rw [if_neg (fun h => by simp at h; omega)]; rfl⟩
  | cons v vs ih =>
    intro j C
    simp only [List.zipIdx_cons, List.foldl_cons]
    obtain ⟨h1, h2⟩ := ih (j + 1) (C.setIfInBounds (off + j) v)
    refine ⟨by rw [h1]; simp, fun k => ?_⟩
    rw [h2 k]
    simp only [Array.size_setIfInBounds, List.length_cons]
    by_cases hk : k = off + j
    · subst hk
      rw [if_neg (by omega)]
      by_cases hs : off + j < C.size
      · rw [if_pos (by omega), Array.getElem?_setIfInBounds_self_of_lt hs]; simp
      · rw [if_neg (by omega)]
        rw [Array.getElem?_eq_none (by simpa using Nat.le_of_not_lt hs), Array.getElem?_eq_none (Nat.le_of_not_lt hs)]
    · rw [Array.getElem?_setIfInBounds_ne (Ne.symm hk)]
      by_cases hc : off + (j + 1) ≤ k ∧ k < off + (j + 1) + vs.length ∧ k < C.size
      · rw [if_pos hc, if_pos (by omega), show k - (off + j) = (k - (off + (j + 1))) + 1 from by omega, List.getElem?_cons_succ]
      · rw [if_neg hc, if_neg (by omega)]

theorem fill_sim {pl pl' : Nat → Option (Nat × Nat)} (hpl : ∀ i p, pl i = some p → pl' i = some p) :
    ∀ (ps : List (Nat × LV)) (ps' : List (Nat × Value)) (cs r : List LV) (C : Array Value), PR ρ ps ps' → VRs ρ cs C.toList → fillL pl ps cs = some r →
      ∃ C', Instr.fill pl' C ps' = some C' ∧ VRs ρ r C'.toList
  | [], [], cs, r, C, _, hC, h => by cases h; exact ⟨C, rfl, hC⟩
  | (i, v) :: ps, (i', v') :: ps', cs, r, C, hp, hC, h => by
    obtain ⟨hi, hv, hp⟩ := hp
    have hi : i = i' := hi
    subst hi
    obtain ⟨⟨off, size⟩, hpl1, h1⟩ := ob_eq.1 (show ob (pl i) _ = some r from h)
    obtain ⟨hlen, h2⟩ := guard'_eq.1 (show guard' (Nat.beq v.cells.length size && Nat.ble 1 size) _ = some r from h1)
    obtain ⟨hfl, h3⟩ := guard'_eq.1 h2
    obtain ⟨c, hset, h4⟩ := ob_eq.1 h3
    rw [Bool.and_eq_true, Nat.beq_eq, Nat.ble_eq] at hlen
    obtain ⟨hlen, hpos⟩ := hlen
    have hvc := VR.cells hv hfl
    have hl := hvc.length
    obtain ⟨g1, g2, g3⟩ := setList_spec _ _ _ _ hset
    have hCl := hC.length
    have hsz : v'.cells.size = size := by simp at hl; omega
    have hcsz : cs.length = C.size := by simpa using hCl
    have hbound : off + v'.cells.size ≤ C.size := by
      rcases g2 with g2 | g2
      · rw [g2] at hlen; simp at hlen; omega
      · omega
    unfold Instr.fill
    rw [hpl i _ hpl1]
    simp only
    · rw [if_neg (by simp [hsz]; omega)]
      obtain ⟨f1, f2⟩ := foldl_set off v'.cells.toList 0 C
      refine fill_sim hpl ps ps' c r _ hp ?_ h4
      rw [← Array.foldl_toList]
      refine VRs.of_get ?_ fun k x hk => ?_
      · simp only [Array.length_toList, Array.toList_zipIdx]; rw [f1]; omega
      · rw [g3 k] at hk
        simp only [Array.getElem?_toList, Array.toList_zipIdx]
        rw [f2 k]
        by_cases hc : off ≤ k ∧ k < off + v.cells.length
        · rw [if_pos hc] at hk
          rw [if_pos (by simp at hl ⊢; omega)]
          exact hvc.get hk
        · rw [if_neg hc] at hk
          rw [if_neg (by simp at hl ⊢; omega)]
          have := hC.get hk
          simpa using this
  | [], _ :: _, _, _, _, hp, _, _ => hp.elim
  | _ :: _, [], _, _, _, hp, _, _ => hp.elim

theorem fillL_length {pl : Nat → Option (Nat × Nat)} : ∀ (ps : List (Nat × LV)) (cs c : List LV), fillL pl ps cs = some c → c.length = cs.length
  | [], cs, c, h => by cases h; rfl
  | (i, v) :: ps, cs, c, h => by
    obtain ⟨⟨off, size⟩, hpl1, h1⟩ := ob_eq.1 (show ob (pl i) _ = some c from h)
    obtain ⟨hlen, h2⟩ := guard'_eq.1 (show guard' (Nat.beq v.cells.length size && Nat.ble 1 size) _ = some c from h1)
    obtain ⟨hfl, h3⟩ := guard'_eq.1 h2
    obtain ⟨c', hset, h4⟩ := ob_eq.1 h3
    rw [fillL_length ps _ _ h4, (setList_spec _ _ _ _ hset).1]
theorem nthP_eq (l : List (Nat × Nat)) (n : Nat) : nthP l n = l[n]? := by
  induction l generalizing n with
  | nil => simp [nthP]
  | cons a l ih => cases n with
    | zero => rfl
    | succ n => show nthP l n = _; rw [ih]; simp
theorem placesL_sim {fs : List Field} {l : List (Nat × Nat)} (h : placesL P fs = some l) : (fs.mapM (fun f => do pure (f.offset, ← Go.sizeOf f.type) : Field → Sem (Nat × Nat))).run P w = .ok l w := by
  induction fs generalizing l with
  | nil => cases h; rfl
  | cons f fs ih =>
    obtain ⟨n, hn, h⟩ := ob_eq.1 (show ob (szOf P f.type) _ = some l from h)
    obtain ⟨l', hl', h⟩ := ob_eq.1 h
    cases h
    rw [List.mapM_cons]
    have ih' := ih hl'
    simp [run_sizeOf hn]
    simp at ih'
    rw [ih']; rfl
/-- a zero value, and its cells -/
theorem zero_sim {t : TypeId} {z : LV} (h : zeroL P t = some z) : ∃ v, (zeroValue t).run P w = .ok v w ∧ VR ρ z v ∧ VRs ρ z.cells v.cells.toList ∧ allFlat z.cells = true := by
  obtain ⟨v, h1, h2, h3⟩ := run_zeroValue (w := w) ρ h
  exact ⟨v, h1, h2, h2.cells h3, h3⟩
theorem buildL_sim {t : TypeId} {ps : List (Nat × LV)} {ps' : List (Nat × Value)} {v : LV} (hp : PR ρ ps ps') (h : buildL P t ps = some v) :
    ∃ v', (Instr.build t ps'.toArray).run P w = .ok v' w ∧ VR ρ v v' := by
  obtain ⟨z, hz, h1⟩ := ob_eq.1 h
  obtain ⟨pl, hpl, h2⟩ := ob_eq.1 h1
  obtain ⟨c, hc, h3⟩ := ob_eq.1 h2
  cases h3
  obtain ⟨zv, hz1, hz2, hzc, hzf⟩ := zero_sim (w := w) (ρ := ρ) hz
  unfold partPl at hpl
  split at hpl
  · rename_i fs hu
    obtain ⟨l, hl, hpl⟩ := ob_eq.1 hpl
    cases hpl
    · obtain ⟨C', hf, hv⟩ := fill_sim (ρ := ρ) (pl := nthP l) (pl' := (l.toArray[·]?)) (fun i p hp => by rw [nthP_eq] at hp; simpa using hp) ps ps' _ _ _ hp hzc hc
      refine ⟨.agg C', ?_, .agg hv⟩
      unfold Instr.build
      have hm := placesL_sim (w := w) hl
      simp only [Sem.run_bind, hz1, Result.andThen_ok, Go.run_underlying hu]
      rw [show (fs.mapM (fun f => do pure (f.offset, ← Go.sizeOf f.type) : Field → Sem (Nat × Nat))).run P w = .ok l.toArray w from by
        rw [Array.mapM_eq_mapM_toList, Sem.run_map, hm]; rfl]
      simp only [Result.andThen_ok]
      rw [hf]; rfl
  · rename_i len e hu
    obtain ⟨n, hn, hpl⟩ := ob_eq.1 hpl
    cases hpl
    · obtain ⟨C', hf, hv⟩ := fill_sim (ρ := ρ) (pl := fun i => some (i * n, n)) (pl' := fun i => some (i * n, n)) (fun i p hp => hp) ps ps' _ _ _ hp hzc hc
      refine ⟨.agg C', ?_, .agg hv⟩
      unfold Instr.build
      simp only [Sem.run_bind, hz1, Result.andThen_ok, Go.run_underlying hu, run_sizeOf hn]
      rw [hf]; rfl
  · cases hpl
end aggs
end PvL
