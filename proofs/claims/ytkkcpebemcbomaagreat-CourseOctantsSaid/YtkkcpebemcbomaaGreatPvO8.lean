/-
  Part of the proof that what the interpreter of YtkkcpebemcbomaaGreatPvL yields, the model's machine comes to. No condition.
-/
import Derived.Test.YtkkcpebemcbomaaGreatPvO7
namespace PvL
open Go

theorem bytes_beq {a b : ByteArray} (h : (a == b) = true) : a = b := by
  rw [beq_toListBytes] at h
  have h := eq_of_beq h
  rw [ByteArray.toList_eq, ByteArray.toList_eq] at h
  obtain ⟨⟨x⟩⟩ := a
  obtain ⟨⟨y⟩⟩ := b
  have h : x = y := h
  rw [h]
/-! ### lvEq says what it should -/
theorem lvEq_sound : (∀ a b : LV, lvEq a b = true → a = b) ∧ (∀ a b : List LV, lvEqs a b = true → a = b) := by
  have main : ∀ n : Nat, (∀ a b : LV, sizeOf a ≤ n → lvEq a b = true → a = b) ∧ (∀ a b : List LV, sizeOf a ≤ n → lvEqs a b = true → a = b) := by
    intro n
    induction n with
    | zero =>
      refine ⟨fun a b hs => ?_, fun a b hs => ?_⟩
      · cases a <;> simp at hs
      · cases a <;> simp at hs
    | succ n ih =>
      refine ⟨fun a b hs h => ?_, fun a b hs h => ?_⟩
      · unfold lvEq at h
        split at h
        all_goals first
          | (cases h; done)
          | rfl
          | skip
        · simp only [Bool.and_eq_true, ieq_eq, beq_iff_eq] at h; rw [kEq_iff.1 h.1, h.2]
        · rw [bEq_eq] at h; rw [eq_of_beq h]
        · rw [bytes_beq h]
        · simp only [Bool.and_eq_true, Nat.beq_eq] at h; rw [h.1, h.2]
        · simp only [Bool.and_eq_true, Nat.beq_eq, bEq_eq] at h; rw [h.1, h.2.1, eq_of_beq h.2.2]
        · simp only [Bool.and_eq_true, Nat.beq_eq, bEq_eq] at h
          rw [h.1, h.2.1, h.2.2.1, h.2.2.2.1, eq_of_beq h.2.2.2.2]
        · rw [Nat.beq_eq] at h; rw [h]
        · simp only [Bool.and_eq_true, decide_eq_true_eq] at h
          rw [h.1, ih.2 _ _ (by simp at hs ⊢; omega) h.2.1, ih.2 _ _ (by simp at hs ⊢; omega) h.2.2]
        · rw [ih.2 _ _ (by simp at hs ⊢; omega) h]
        · rw [ih.2 _ _ (by simp at hs ⊢; omega) h]
      · cases a with
        | nil => cases b with
          | nil => rfl
          | cons b bs => cases h
        | cons a as => cases b with
          | nil => cases h
          | cons b bs =>
            have h : (lvEq a b && lvEqs as bs) = true := by unfold lvEqs at h; exact h
            simp only [Bool.and_eq_true] at h
            rw [ih.1 a b (by simp at hs; omega) h.1, ih.2 as bs (by simp at hs; omega) h.2]
  exact ⟨fun a b => (main _).1 a b (Nat.le_refl _), fun a b => (main _).2 a b (Nat.le_refl _)⟩

section maps
variable {P : Program} {ρ : Rho} {w : World}

theorem someB_eq {x : Option Bool} : someB x = true ↔ x = some true := by
  cases x with
  | none => exact ⟨fun h => (by cases h), fun h => (by cases h)⟩
  | some b => cases b with
    | true => exact ⟨fun _ => rfl, fun _ => rfl⟩
    | false => exact ⟨fun h => (by cases h), fun h => (by cases h)⟩
theorem keyPart_sim {rec : TypeId → LV → Bool} {d : Nat} {em : Bool} (ih : ∀ t x x', rec t x = true → VR ρ x x' → (Instr.checkKey em d t x').run P w = .ok () w)
    {t : TypeId} {off : Nat} {xs : List LV} {xs' : Array Value} (hx : VRs ρ xs xs'.toList) (h : keyPart P rec t off xs = true) :
    ∃ a, (part t xs' off).run P w = .ok a w ∧ (Instr.checkKey em d t a).run P w = .ok () w := by
  unfold keyPart at h
  cases hs : aggSz P t with
  | none => rw [hs] at h; cases h
  | some s =>
    rw [hs] at h
    cases s with
    | none =>
      have h : oe (nth xs off) false (rec t) = true := h
      cases hn : nth xs off with
      | none => rw [hn] at h; cases h
      | some a =>
        rw [hn] at h
        obtain ⟨a', h1, h2⟩ := part_sim (w := w) hx hs (v := a) hn
        exact ⟨a', h1, ih _ _ _ h h2⟩
    | some n =>
      have h : oe (take' n (drop' off xs)) false (fun a => rec t (.agg a)) = true := h
      cases hn : take' n (drop' off xs) with
      | none => rw [hn] at h; cases h
      | some a =>
        rw [hn] at h
        obtain ⟨a', h1, h2⟩ := part_sim (w := w) hx hs (v := .agg a) (by show ob (take' n (drop' off xs)) _ = _; rw [hn]; rfl)
        exact ⟨a', h1, ih _ _ _ h h2⟩
theorem keyOk_sim (em : Bool) : ∀ (d : Nat) (t : TypeId) (x : LV) (x' : Value), keyOk P d t x = true → VR ρ x x' → (Instr.checkKey em d t x').run P w = .ok () w
  | 0, _, _, _, h, _ => by cases h
  | d + 1, t, x, x', h, hx => by
    unfold keyOk at h
    unfold Instr.checkKey
    split at h
    · rename_i hu; simp only [Sem.run_bind, Go.run_underlying hu, Result.andThen_ok]; rfl
    · rename_i hu; simp only [Sem.run_bind, Go.run_underlying hu, Result.andThen_ok]; rfl
    · rename_i hu; simp only [Sem.run_bind, Go.run_underlying hu, Result.andThen_ok]; rfl
    · rename_i fs hu
      obtain ⟨xs, rfl, h1⟩ := asAgg_eq.1 (someB_eq.1 h)
      obtain ⟨xs', rfl, hxs⟩ := hx.agg_inv
      simp only [Option.some.injEq] at h1
      simp only [Sem.run_bind, Go.run_underlying hu, Result.andThen_ok]
      rw [← Array.forIn_toList]
      generalize fs.toList = L at h1
      clear h hu
      induction L with
      | nil => simp
      | cons f L ihL =>
        have h1 : ifb (f.name == "_") (keyFields P (keyOk P d) xs L) (keyPart P (keyOk P d) f.type f.offset xs && keyFields P (keyOk P d) xs L) = true := h1
        cases hn : f.name == "_" with
        | true =>
          rw [hn] at h1
          have hn' : f.name = "_" := by simpa using hn
          simp only [List.forIn_cons, Sem.run_bind, hn', ne_eq, not_true_eq_false, if_false, Sem.run_pure, Result.andThen_ok]
          exact ihL h1
        | false =>
          rw [hn] at h1
          have h1 : (keyPart P (keyOk P d) f.type f.offset xs && keyFields P (keyOk P d) xs L) = true := h1
          have hn' : f.name ≠ "_" := by simpa using hn
          simp only [Bool.and_eq_true] at h1
          obtain ⟨a, p1, p2⟩ := keyPart_sim (keyOk_sim em d) hxs h1.1
          simp only [List.forIn_cons, Sem.run_bind, hn', ne_eq, not_false_eq_true, if_true, Result.andThen_ok, p1, p2, Sem.run_pure]
          exact ihL h1.2
    · rename_i len e hu
      obtain ⟨xs, rfl, h1⟩ := asAgg_eq.1 (someB_eq.1 h)
      obtain ⟨xs', rfl, hxs⟩ := hx.agg_inv
      obtain ⟨n, hn, h2⟩ := ob_eq.1 h1
      simp only [Option.some.injEq] at h2
      simp only [Sem.run_bind, Go.run_underlying hu, Result.andThen_ok]
      simp only [Std.Legacy.Range.forIn_eq_forIn_range', Std.Legacy.Range.size, Nat.sub_zero, Nat.add_one_sub_one, Nat.div_one]
      rw [List.range_eq_range'] at h2
      generalize List.range' 0 len = L at h2
      clear h h1 hu
      induction L with
      | nil => simp
      | cons j L ihL =>
        have h2 : (keyPart P (keyOk P d) e (j * n) xs && keyItems P (keyOk P d) e n xs L) = true := h2
        simp only [Bool.and_eq_true] at h2
        obtain ⟨a, p1, p2⟩ := keyPart_sim (keyOk_sim em d) hxs h2.1
        simp only [List.forIn_cons, Sem.run_bind, run_sizeOf hn, Result.andThen_ok, p1, p2, Sem.run_pure]
        exact ihL h2.2
    · cases h

/-- what the model finds -/
def FoundR (ρ : Rho) : Option (Nat × LV × LV) → Option (Nat × Value) → List MapEntry → Prop
  | none, none, _ => True
  | some (i, k, v), some (j, v'), E => i = j ∧ VR ρ v v' ∧ ∃ e, E[i]? = some e ∧ e.val = v' ∧ VR ρ k e.key
  | _, _, _ => False
theorem findAsking_sim {kt : TypeId} {k : LV} {k' : Value} (hk : VR ρ k k') (E0 : List MapEntry) :
    ∀ (es : List (LV × LV)) (E : List MapEntry) (i : Nat) (r : Option (Nat × LV × LV)), (∀ j, E[j]? = E0[i + j]?) → ER ρ es E → findL P kt k es i = some r →
      ∃ r', (Instr.findAsking kt k' E i).run P w = .ok r' w ∧ FoundR ρ r r' E0
  | [], [], i, r, _, _, h => by cases h; exact ⟨none, by simp [Instr.findAsking], trivial⟩
  | (q, v) :: es, e :: E, i, r, h0, hE, h => by
    obtain ⟨hq, hv, hE⟩ := hE
    obtain ⟨b, hb, h1⟩ := ob_eq.1 (show ob (eqL P Op.maxDepth kt k q) _ = some r from h)
    have heq := eqL_sim (w := w) _ _ _ _ _ _ _ hb hk hq
    cases b with
    | true =>
      cases h1
      refine ⟨some (i, e.val), ?_, rfl, hv, e, ?_, rfl, hq⟩
      · unfold Instr.findAsking
        rw [Sem.run_bind, show (Op.equal kt k' e.key).run P w = .ok true w from heq]
        rfl
      · have := h0 0; simpa using this.symm
    | false =>
      obtain ⟨r', hr, hf⟩ := findAsking_sim hk E0 es E (i + 1) r (fun j => by have := h0 (j + 1); simp only [List.getElem?_cons_succ] at this; rw [this]; congr 1; omega) hE h1
      refine ⟨r', ?_, hf⟩
      unfold Instr.findAsking
      rw [Sem.run_bind, show (Op.equal kt k' e.key).run P w = .ok false w from heq]
      exact hr
  | [], _ :: _, _, _, _, hE, _ => hE.elim
  | _ :: _, [], _, _, _, hE, _ => hE.elim
/-- what is compared at once says the same -/
theorem sameNow_eq {kt : TypeId} {d : TypeDesc} (hu : P.underlying kt = some d) {a b : Value} {r : Bool} (h : Instr.sameNow d a b = some r) : (Op.equal kt a b).run P w = .ok r w := by
  unfold Instr.sameNow at h
  split at h
  · split at h
    · rename_i hk; cases h; subst hk; exact run_equalIn_int w 9999 kt _ _ _ _ hu
    · cases h
  · cases h; rw [beq_toListBytes]; exact run_equalIn_string w 9999 kt _ _ hu
  · cases h; exact run_equalIn_bool w 9999 kt _ _ hu
  · cases h
theorem findNow_eq {kt : TypeId} {d : TypeDesc} (hu : P.underlying kt = some d) {k' : Value} : ∀ (E : List MapEntry) (i : Nat) (r : Option (Nat × Value)), Instr.findNow d k' E i = some r → (Instr.findAsking kt k' E i).run P w = .ok r w
  | [], i, r, h => by cases h; rfl
  | e :: E, i, r, h => by
    unfold Instr.findNow at h
    unfold Instr.findAsking
    rw [Sem.run_bind]
    split at h
    · rename_i hs; cases h; rw [sameNow_eq hu hs]; rfl
    · rename_i hs; rw [sameNow_eq hu hs]; exact findNow_eq hu E (i + 1) r h
    · cases h
theorem findKey_sim {kt : TypeId} {k : LV} {k' : Value} (hk : VR ρ k k') {es : List (LV × LV)} {E : List MapEntry} {r : Option (Nat × LV × LV)} (hE : ER ρ es E) (h : findL P kt k es 0 = some r) (hu : ∃ d, P.underlying kt = some d) :
    ∃ r', (Instr.findKey kt k' E).run P w = .ok r' w ∧ FoundR ρ r r' E := by
  obtain ⟨d, hu⟩ := hu
  obtain ⟨r', hr, hf⟩ := findAsking_sim (w := w) hk E es E 0 r (fun j => by simp) hE h
  refine ⟨r', ?_, hf⟩
  unfold Instr.findKey
  rw [Sem.run_bind, Go.run_underlying hu, Result.andThen_ok]
  cases hn : Instr.findNow d k' E 0 with
  | none => exact hr
  | some r2 =>
    have := findNow_eq (w := w) hu E 0 r2 hn
    rw [hr] at this
    cases this
    rfl
theorem keyOk_under {d : Nat} {t : TypeId} {x : LV} (h : keyOk P d t x = true) : ∃ D, P.underlying t = some D := by
  cases d with
  | zero => cases h
  | succ d =>
    unfold keyOk at h
    cases hu : P.underlying t with
    | none => rw [hu] at h; cases h
    | some D => exact ⟨D, rfl⟩
theorem mapTypes_eq {t : TypeId} {q : TypeId × TypeId} (h : mapTypes P t = some q) : P.underlying t = some (.map q.1 q.2) := by
  unfold mapTypes at h
  split at h
  · cases h; assumption
  · cases h
end maps

section maps2
variable {P : Program} {Pt : Prot} {ρ : Rho} {m : Mem} {w : World}
/-- the entries of a map -/
theorem entries_sim {α : Type} (hrel : Rel Pt ρ m w) {x : LV} {x' : Value} (hx : VR ρ x x') {k : List (LV × LV) → Option α} {y : α} (h : entriesOf m x k = some y) :
    ∃ es, k es = some y ∧ ((x' = .map none ∧ es = []) ∨ ∃ i b s c E clk, x = .map (some i) ∧ x' = .map (some b) ∧ ρ i = some (b, s, c) ∧ m.get i = some (.map es) ∧ w.heap[b]? = some (.map E clk) ∧ ER ρ es E.toList) := by
  obtain ⟨r, rfl, h1⟩ := asMap_eq.1 h
  cases r with
  | none => cases hx; exact ⟨[], h1, .inl ⟨rfl, rfl⟩⟩
  | some i =>
    obtain ⟨es, hi, h2⟩ := atMap_eq.1 (show atMap m i k = some y from h1)
    obtain ⟨_, b, s, c, o, hρ, ⟨E, clk, rfl, hE⟩, hh, _⟩ := hrel.live i _ hi
    cases hx with
    | map hρ' =>
      rw [hρ] at hρ'; cases hρ'
      exact ⟨es, h2, .inr ⟨i, b, s, c, E, clk, rfl, rfl, hρ, hi, hh, hE⟩⟩
theorem lookupL_sim (hrel : Rel Pt ρ m w) {t : TypeId} {x k v : LV} {ok : Bool} (h : lookupL P t x k ok m = some v) {x' k' : Value} (hx : VR ρ x x') (hk : VR ρ k k') :
    ∃ v', (Instr.lookup t x' k' ok).run P w = .ok v' w ∧ VR ρ v v' := by
  obtain ⟨⟨kt, et⟩, hq, h1⟩ := ob_eq.1 h
  obtain ⟨hok, h2⟩ := guard'_eq.1 (show guard' (keyOk P 10000 kt k) _ = some v from h1)
  obtain ⟨es, h3, hmap⟩ := entries_sim hrel hx h2
  obtain ⟨r, hr, h4⟩ := ob_eq.1 h3
  have hu := mapTypes_eq hq
  have hfin : ∀ E : Array MapEntry, ER ρ es E.toList → ∃ v', ((do
      Instr.checkKey E.isEmpty 10000 kt k'
      let (v, ok2) ← match ← Instr.findKey kt k' E.toList with
        | some (_, v) => pure (v, true)
        | none => pure (← zeroValue et, false)
      pure (if ok then .tuple #[v, .bool ok2] else v) : Sem Value)).run P w = .ok v' w ∧ VR ρ v v' := by
    intro E hE
    obtain ⟨r', hf, hfr⟩ := findKey_sim (w := w) hk hE hr (keyOk_under hok)
    have hc := keyOk_sim (w := w) E.isEmpty 10000 kt k k' hok hk
    simp only [Sem.run_bind, hc, Result.andThen_ok, hf]
    cases r with
    | none =>
      cases r' with
      | some _ => exact hfr.elim
      | none =>
        obtain ⟨z, hz, h5⟩ := ob_eq.1 (show ob (zeroL P et) _ = some v from h4)
        cases h5
        obtain ⟨zv, hz1, hz2, _, _⟩ := zero_sim (w := w) (ρ := ρ) hz
        simp only [Sem.run_bind, hz1, Result.andThen_ok, Sem.run_pure]
        cases ok with
        | true => exact ⟨_, rfl, .tup (.cons hz2 (.cons (.bool _) .nil))⟩
        | false => exact ⟨_, rfl, hz2⟩
    | some p =>
      obtain ⟨i, q, v1⟩ := p
      cases r' with
      | none => exact hfr.elim
      | some p' =>
        obtain ⟨j, v1'⟩ := p'
        obtain ⟨_, hv1, _⟩ := hfr
        cases h4
        cases ok with
        | true => exact ⟨_, rfl, .tup (.cons hv1 (.cons (.bool _) .nil))⟩
        | false => exact ⟨_, rfl, hv1⟩
  unfold Instr.lookup
  simp only [Sem.run_bind, Go.run_underlying hu, Result.andThen_ok]
  rcases hmap with ⟨rfl, rfl⟩ | ⟨i, b, s, c, E, clk, _, rfl, hρ, hi, hh, hE⟩
  · obtain ⟨v', hv1, hv2⟩ := hfin #[] trivial
    refine ⟨v', ?_, hv2⟩
    exact hv1
  · obtain ⟨v', hv1, hv2⟩ := hfin E hE
    refine ⟨v', ?_, hv2⟩
    have hg : (getObj b).run P w = .ok (.map E clk) w := by simp [getObj, Sem.run, hh]
    show Sem.run P (getObj b >>= _) w = _
    rw [Sem.run_bind, hg, Result.andThen_ok]
    exact hv1
theorem ER.length : ∀ {es : List (LV × LV)} {E : List MapEntry}, ER ρ es E → es.length = E.length
  | [], [], _ => rfl
  | _ :: _, _ :: _, h => by simp [ER.length h.2.2]
  | [], _ :: _, h => h.elim
  | _ :: _, [], h => h.elim
theorem ER.append {es : List (LV × LV)} {E : List MapEntry} (h : ER ρ es E) {k v : LV} {e : MapEntry} (hk : VR ρ k e.key) (hv : VR ρ v e.val) : ER ρ (es ++ [(k, v)]) (E ++ [e]) := by
  induction es generalizing E with
  | nil => cases E with
    | nil => exact ⟨hk, hv, trivial⟩
    | cons _ _ => exact h.elim
  | cons x es ih => cases E with
    | nil => exact h.elim
    | cons y E => exact ⟨h.1, h.2.1, ih h.2.2⟩
theorem ER.set {es : List (LV × LV)} {E : List MapEntry} (h : ER ρ es E) : ∀ (i : Nat) {k v : LV} {e : MapEntry}, i < E.length → VR ρ k e.key → VR ρ v e.val → ER ρ (setVal es i k v) (E.set i e) := by
  induction es generalizing E with
  | nil => cases E with
    | nil => intro i _ _ _ hi; simp at hi
    | cons _ _ => exact h.elim
  | cons x es ih => cases E with
    | nil => exact h.elim
    | cons y E =>
      intro i k v e hi hk hv
      cases i with
      | zero => exact ⟨hk, hv, h.2.2⟩
      | succ i => exact ⟨h.1, h.2.1, ih h.2.2 i (by simpa using hi) hk hv⟩
theorem mapUpdateL_sim (hrel : Rel Pt ρ m w) {t : TypeId} {x k v : LV} {m' : Mem} (h : mapUpdateL P t x k v m = some m') {x' k' v' : Value} (hx : VR ρ x x') (hk : VR ρ k k') (hv : VR ρ v v') :
    ∃ w', (Instr.mapUpdate t x' k' v').run P w = .ok () w' ∧ Rel Pt ρ m' w' ∧ m'.next = m.next := by
  obtain ⟨⟨kt, et⟩, hq, h1⟩ := ob_eq.1 h
  obtain ⟨hok, h2⟩ := guard'_eq.1 (show guard' (keyOk P 10000 kt k) _ = some m' from h1)
  obtain ⟨r0, rfl, h3⟩ := asMap_eq.1 h2
  obtain ⟨i, rfl, h4⟩ := ob_eq.1 h3
  obtain ⟨es, hi, h5⟩ := atMap_eq.1 h4
  obtain ⟨p, hp, h6⟩ := ob_eq.1 h5
  obtain ⟨_, b, s, c, o, hρ, ⟨E, clk, rfl, hE⟩, hh, _⟩ := hrel.live i _ hi
  cases hx with
  | map hρ' =>
    rw [hρ] at hρ'; cases hρ'
    have hu := mapTypes_eq hq
    obtain ⟨r', hf, hfr⟩ := findKey_sim (w := w) hk hE hp (keyOk_under hok)
    have hc := keyOk_sim (w := w) false 10000 kt k k' hok hk
    have hg : (getObj b).run P w = .ok (.map E clk) w := by simp [getObj, Sem.run, hh]
    have hb : b < w.heap.size := (Array.getElem?_eq_some_iff.1 hh).1
    have hset : ∀ (w1 : World) (o : Obj), w1.heap = w.heap → (setObj b o).run P w1 = .ok () { w1 with heap := w1.heap.setIfInBounds b o } := by
      intro w1 o e
      simp only [setObj, Sem.run, e, hh]
    have hturn : ∀ (w1 : World) (es' : List (LV × LV)) (E' : Array MapEntry) (clk' : Nat), w1.heap = w.heap → (w1.os = w.os ∧ w1.output = w.output) → ER ρ es' E'.toList →
        Rel Pt ρ (m.upd i (some (.map es'))) { w1 with heap := w1.heap.setIfInBounds b (.map E' clk') } := by
      intro w1 es' E' clk' e hos hE'
      refine hrel.turn hi rfl rfl hρ (o' := .map E' clk') ⟨E', clk', rfl, hE'⟩ ?_ ?_ hos
      · show (w1.heap.setIfInBounds b _)[b]? = _
        rw [e, Array.getElem?_setIfInBounds_self_of_lt hb]
      · intro r hr
        show (w1.heap.setIfInBounds b _)[r]? = _
        rw [e, Array.getElem?_setIfInBounds_ne (Ne.symm hr)]
    unfold Instr.mapUpdate
    simp only [Sem.run_bind, Go.run_underlying hu, Result.andThen_ok, hg, hc, hf]
    cases p with
    | none =>
      cases r' with
      | some _ => exact hfr.elim
      | none =>
        cases h6
        refine ⟨_, by simp only [hset w _ rfl]; rfl, hturn w _ _ _ rfl ⟨rfl, rfl⟩ (by simpa using hE.append hk hv), Mem.next_upd _ _ _⟩
    | some q =>
      obtain ⟨j, kold, vold⟩ := q
      cases r' with
      | none => exact hfr.elim
      | some p' =>
        obtain ⟨j', v1'⟩ := p'
        obtain ⟨hjj, _, e, he, _, hke⟩ := hfr
        have hjj : j = j' := hjj
        subst hjj
        obtain ⟨hlv, h7⟩ := guard'_eq.1 (show guard' (lvEq k kold) _ = some m' from h6)
        cases h7
        have hkk := lvEq_sound.1 _ _ hlv
        subst hkk
        have heE : E[j]? = some e := by simpa using he
        have hjl : j < E.size := (Array.getElem?_eq_some_iff.1 heE).1
        simp only [heE, Option.map_some, Option.getD_some]
        -- which of two like keys stays, the model may draw
        have hkey : ∃ kk w1, (Instr.keyThatStays e.key k').run P w = .ok kk w1 ∧ VR ρ k kk ∧ w1.heap = w.heap ∧ (w1.os = w.os ∧ w1.output = w.output) := by
          unfold Instr.keyThatStays
          split
          · exact ⟨k', w, rfl, hk, rfl, rfl, rfl⟩
          · simp only [Sem.run_bind, run_choose]
            rw [if_neg (by simp [Question.forced])]
            simp only [Result.andThen_ok, Sem.run_pure]
            split
            · exact ⟨_, _, rfl, hk, rfl, rfl, rfl⟩
            · exact ⟨_, _, rfl, hke, rfl, rfl, rfl⟩
        obtain ⟨kk, w1, hk1, hk2, hk3, hk4⟩ := hkey
        refine ⟨_, by rw [Sem.run_bind, hk1, Result.andThen_ok, hset w1 _ hk3], hturn w1 _ _ _ hk3 hk4 ?_, Mem.next_upd _ _ _⟩
        have : (E.modify j fun e => { e with key := kk, val := v' }).toList = E.toList.set j { e with key := kk, val := v' } := by
          rw [Array.toList_modify]
          rw [List.modify_eq_set, List.getElem?_eq_getElem (by simpa using hjl)]
          have : E.toList[j]'(by simpa using hjl) = e := by
            have := Array.getElem?_eq_some_iff.1 heE
            simpa using this.2
          simp [this]
        rw [this]
        exact hE.set j (by simpa using hjl) hk2 hv
end maps2
end PvL
