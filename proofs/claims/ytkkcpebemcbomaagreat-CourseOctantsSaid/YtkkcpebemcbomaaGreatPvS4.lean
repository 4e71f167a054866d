/-
  Part of the proof that what the interpreter of YtkkcpebemcbomaaGreatPvL yields, the model's machine comes to. No condition.
-/
import Derived.Test.YtkkcpebemcbomaaGreatPvS3
namespace PvL
open Go

section
variable {P : Program} {rec : Task → Option Out}

theorem range_succ' (i n : Nat) : List.range' i (n + 1) = i :: List.range' (i + 1) n := by simp [List.range'_succ]
/-- the operations of a region, in the text's order -/
theorem opsRun_sim (hm : RecMono rec) (hrec : RecSim P rec) (hcall : ∀ f as m1 v m2, rec (.call f as m1) = some (.call v m2) → ∃ fn, fnOf P f = some fn) {ops : Array Oper} :
    ∀ (os : List Oper) (i : Nat) (T T' : Tm) (m m' : Mem), (∀ j, os[j]? = ops[i + j]?) → opsRun P rec ops.toList os T m = some (T', m') →
    ∀ (Pt : Prot) (ρ : Rho) (b : Frame) (k : List Item) (cs : List Frame) (w : World) (a : Act), TR ρ T a.tmps → Rel Pt ρ m w → Fresh ρ m.next m'.next →
      ∃ ρ' a' w', Same ρ ρ' m.next m'.next ∧ TR ρ' T' a'.tmps ∧ a'.defers = a.defers ∧ Rel Pt ρ' m' w' ∧
        Steps P (lone (b.atR a (.inRegion ops (List.range' i os.length) :: k)) cs w) (lone (b.atR a' k) cs w')
  | [], i, T, T', m, m', _, h, Pt, ρ, b, k, cs, w, a, hT, hrel, hf => by
    cases h
    exact ⟨ρ, a, w, Same.refl _ _ _, hT, rfl, hrel, .one stepR_region_end⟩
  | o :: os, i, T, T', m, m', hos, h, Pt, ρ, b, k, cs, w, a, hT, hrel, hf => by
    have ho : ops[i]? = some o := by have := hos 0; simpa using this.symm
    have hos' : ∀ j, os[j]? = ops[i + 1 + j]? := fun j => by have := hos (j + 1); simp only [List.getElem?_cons_succ] at this; rw [this]; congr 1; omega
    rw [List.length_cons, range_succ']
    rcases opsRun_cons h with ⟨hw, T1, m1, hst, h1⟩ | ⟨hw, T1, hp, h1⟩
    · have hw' := wanted_sim hw hT
      have n1 := hst.next hm
      have n2 := opsRun_next hm _ _ _ _ h1
      obtain ⟨ρ1, v1, w1, hs1, hT1, hrel1, hsteps⟩ := opStep_sim (b := b) hm hrec ho hst hcall (List.range' (i + 1) os.length) k cs hw' hT hrel (hf.left n2)
      obtain ⟨ρ2, a2, w2, hs2, hT2, hd2, hrel2, hsteps2⟩ := opsRun_sim hm hrec hcall os (i + 1) T1 T' m1 m' hos' h1 Pt ρ1 b k cs w1 _ hT1 hrel1 (hf.right hs1 n1)
      exact ⟨ρ2, a2, w2, hs1.trans hs2 n1 n2, hT2, by rw [hd2, put_defers], hrel2, hsteps.trans hsteps2⟩
    · have hw' := wanted_sim hw hT
      obtain ⟨ρ2, a2, w2, hs2, hT2, hd2, hrel2, hsteps2⟩ := opsRun_sim hm hrec hcall os (i + 1) T1 T' m m' hos' h1 Pt ρ b k cs w (a.put o.dst undef) (hT.put hp (.tup .nil)) hrel hf
      refine ⟨ρ2, a2, w2, hs2, hT2, by rw [hd2, put_defers], hrel2, .head ?_ hsteps2⟩
      have := stepR_op_skip (P := P) (b := b) (a := a) (k := k) (cs := cs) (w := w) (ops := ops) (i := i) (rest := List.range' (i + 1) os.length) (by simp [ho, hw'])
      rw [this, ho]; rfl

/-- the results of a function -/
def resF (tmps : Array Value) : ResultVar → Sem Value := fun r => match r with
  | .tmp t => pure (tmps.getD t undef)
  | .cell a t => do loadVar t (← asAddr (tmps.getD a undef))
theorem results_sim {Pt : Prot} {ρ : Rho} {m : Mem} {w : World} {T : Tm} {tmps : Array Value} (hT : TR ρ T tmps) (hrel : Rel Pt ρ m w) :
    ∀ (rs : List ResultVar) (vs : List LV), resultsOf P T m rs = some vs → ∃ vs' : List Value, (rs.mapM (resF tmps)).run P w = .ok vs' w ∧ VRs ρ vs vs'
  | [], vs, h => by cases h; exact ⟨[], rfl, .nil⟩
  | r :: rs, vs, h => by
    obtain ⟨v, hv, h1⟩ := ob_eq.1 (show ob (resultOf P T m r) _ = some vs from h)
    obtain ⟨vs2, hvs, h2⟩ := ob_eq.1 h1
    cases h2
    obtain ⟨vs', hr, hvr⟩ := results_sim hT hrel rs vs2 hvs
    have key : ∃ v', (resF tmps r).run P w = .ok v' w ∧ VR ρ v v' := by
      cases r with
      | tmp t =>
        have hv : evT T t = some v := hv
        rw [evT_eq] at hv; cases hv
        exact ⟨_, rfl, hT.2 t⟩
      | cell x t =>
        obtain ⟨xv, hx, hl⟩ := ob_eq.1 (show ob (evT T x) (fun a => loadT P t m a) = some v from hv)
        rw [evT_eq] at hx; cases hx
        obtain ⟨ad, v', e, hr, hv'⟩ := loadT_sim hrel (hT.2 x) hl
        refine ⟨v', ?_, hv'⟩
        simp only [resF, Sem.run_bind, e, asAddr, Sem.run_pure, Result.andThen_ok]
        exact hr
    obtain ⟨v', hr', hv'⟩ := key
    refine ⟨v' :: vs', ?_, .cons hv' hvr⟩
    rw [List.mapM_cons, Sem.run_bind, hr', Result.andThen_ok, Sem.run_bind, hr]
    rfl
theorem packed_sim {ρ : Rho} {vs : List LV} {vs' : Array Value} (h : VRs ρ vs vs'.toList) : VR ρ (packed vs) (if h : vs'.size = 1 then vs'[0] else .tuple vs') := by
  obtain ⟨l⟩ := vs'
  have h : VRs ρ vs l := h
  have hl := h.length
  match vs, l, h with
  | [], [], h => simp; exact .tup .nil
  | [v], [v'], h => cases h with | cons h _ => simpa [packed] using h
  | v :: u :: vs, v' :: u' :: l, h =>
    have : ¬ (v' :: u' :: l).toArray.size = 1 := by simp
    rw [dif_neg this]
    exact .tup h
/-- the marks of loops over functions, taken off as the frame is left -/
theorem takeMarks_sim {Pt : Prot} (b : Frame) (hb : b.roundOf = none) (k : List Item) (cs : List Frame) :
    ∀ (ms : List Nat) (ds : List Deferred) (ρ : Rho) (m m' : Mem) (w : World) (tmps : Array Value), takeMarks ms m = some m' → DR ρ ms ds → Rel Pt ρ m w →
      ∃ w', Rel Pt ρ m' w' ∧ Steps P (lone { b.atR { tmps, defers := ds } k with mode := .returning } cs w) (lone { b.atR { tmps, defers := [] } k with mode := .returning } cs w')
  | [], [], ρ, m, m', w, tmps, h, _, hrel => by cases h; exact ⟨w, hrel, Steps.refl _ _⟩
  | d :: ms, x :: ds, ρ, m, m', w, tmps, h, ⟨⟨bl, s, c, hρ, hx⟩, hd⟩, hrel => by
    obtain ⟨hg, h1⟩ := atDefr_eq.1 (show atDefr m d (takeMarks ms (m.upd d none)) = some m' from h)
    obtain ⟨_, b1, s1, c1, o, e1, hbr, hh, hp⟩ := hrel.live d _ hg
    rw [hρ] at e1; cases e1
    have hbr : o = .deferred (some []) := hbr
    subst hbr
    subst hx
    have hbl : bl < w.heap.size := (Array.getElem?_eq_some_iff.1 hh).1
    let w1 : World := { w with heap := w.heap.setIfInBounds bl (.deferred none) }
    -- the block's name is given up first, then it is turned
    have hrel1 : Rel Pt ρ (m.upd d none) w1 := by
      have h0 := hrel.drop d
      refine ⟨fun r o hr => ?_, fun j l hj => ?_, h0.inj, h0.still.1, fun r C t fr hr e => ?_⟩
      rotate_right
      · have e : (w.heap.setIfInBounds bl (.deferred none))[r]? = some (.cells C t fr) := e
        by_cases eb : r = bl
        · rw [eb, Array.getElem?_setIfInBounds_self_of_lt hbl] at e; cases e
        · rw [Array.getElem?_setIfInBounds_ne (Ne.symm eb)] at e; exact h0.still.2 r C t fr hr e
      · have : r ≠ bl := fun e => by
          subst e
          have hp : Pt r = none := hp
          rw [hp] at hr; cases hr
        show (w.heap.setIfInBounds bl _)[r]? = _
        rw [Array.getElem?_setIfInBounds_ne (Ne.symm this)]
        exact h0.keep r o hr
      · obtain ⟨hl, b2, s2, c2, o2, e2, g1, g2, g3⟩ := h0.live j l hj
        have hne : b2 ≠ bl := by
          intro eb; subst eb
          rw [Mem.get_upd] at hj
          by_cases e : j = d
          · rw [if_pos e] at hj; cases hj
          · rw [if_neg e] at hj
            by_cases hr : isRo l = true
            · rw [if_pos hr] at g3
              have hp : Pt b2 = none := hp
              rw [hp] at g3; cases g3.1
            · exact e (hrel.inj j d l _ _ _ hj hg (by simpa using hr) rfl e2 hρ rfl)
        refine ⟨hl, b2, s2, c2, o2, e2, g1, ?_, g3⟩
        show (w.heap.setIfInBounds bl _)[b2]? = _
        rw [Array.getElem?_setIfInBounds_ne (Ne.symm hne)]
        exact g2
    obtain ⟨w', hrel', hst⟩ := takeMarks_sim b hb k cs ms ds ρ _ m' w1 tmps h1 hd hrel1
    refine ⟨w', hrel', .head ?_ hst⟩
    have hrun : (Instr.takeDeferred bl).run P w = .ok [] w1 := by
      simp [Instr.takeDeferred, getObj, setObj, Sem.run, hh, w1]
    exact step_lone_go (by simp [stepG, unwind, Frame.atR, Sem.runT_eq, hrun])
  | [], _ :: _, _, _, _, _, _, _, h, _ => h.elim
  | _ :: _, [], _, _, _, _, _, _, h, _ => h.elim

theorem Tm.setAll_sim {ρ : Rho} : ∀ (vs : List LV) (vs' : List Value) (i : Nat) (T T' : Tm) (A : Array Value), Tm.setAll vs i T = some T' → VRs ρ vs vs' →
    A.size = T.size → (∀ j, j < i → VR ρ (T.get j) (A.getD j undef)) → (∀ j, i ≤ j → T.get j = .unk) → (∀ j v', vs'[j]? = some v' → A[i + j]? = some v') → TR ρ T' A
  | [], vs', i, T, T', A, h, _, hs, hlo, hhi, _ => by
    cases h
    refine ⟨hs, fun j => ?_⟩
    by_cases hj : j < i
    · exact hlo j hj
    · rw [hhi j (by omega)]; exact .unk _
  | v :: vs, vs', i, T, T', A, h, hv, hs, hlo, hhi, hA => by
    cases hv with
    | cons hv hvs =>
      rename_i v' vs'
      obtain ⟨T1, h1, h2⟩ := ob_eq.1 (show ob (T.set i v) _ = some T' from h)
      obtain ⟨hi, e⟩ := Tm.set_eq.1 h1
      refine Tm.setAll_sim vs vs' (i + 1) T1 T' A h2 hvs (by rw [hs, e]) (fun j hj => ?_) (fun j hj => ?_) (fun j x hx => ?_)
      · rw [Tm.get_set h1]
        by_cases hji : j = i
        · subst hji
          rw [if_pos rfl, Array.getD_eq_getD_getElem?]
          have := hA 0 v' rfl
          rw [Nat.add_zero] at this
          rw [this]; exact hv
        · rw [if_neg hji]; exact hlo j (by omega)
      · rw [Tm.get_set h1, if_neg (by omega)]; exact hhi j (by omega)
      · have := hA (j + 1) x (by simpa using hx)
        rw [← this]; congr 1; omega
theorem ofList_sim {ρ : Rho} {n : Nat} {vs : List LV} {T : Tm} {A : Array Value} (h : Tm.ofList n vs = some T) (hv : VRs ρ vs A.toList) : TR ρ T (A ++ Array.replicate (n - A.size) undef) := by
  unfold Tm.ofList at h
  rw [fN_eq] at h
  have hl : vs.length = A.size := by simpa using hv.length
  refine Tm.setAll_sim vs A.toList 0 _ T _ h hv ?_ (fun j hj => by omega) (fun j _ => ?_) (fun j v' hj => ?_)
  · show (A ++ Array.replicate (n - A.size) undef).size = Nat.max n vs.length
    simp [hl, Nat.max_def]; split <;> omega
  · unfold Tm.get; simp
  · simp only [Array.getElem?_toList] at hj
    have hb := (Array.getElem?_eq_some_iff.1 hj).1
    rw [Nat.zero_add, Array.getElem?_append_left hb]; exact hj
end
end PvL
