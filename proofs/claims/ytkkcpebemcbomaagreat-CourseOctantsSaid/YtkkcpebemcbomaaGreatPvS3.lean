/-
  Part of the proof that what the interpreter of YtkkcpebemcbomaaGreatPvL yields, the model's machine comes to. No condition.
-/
import Derived.Test.YtkkcpebemcbomaaGreatPvS2
import Derived.Test.YtkkcpebemcbomaaGreatPvO10
import Derived.CallsIn
namespace PvL
open Go

section
variable {P : Program}

theorem Same.trans {ρ ρ1 ρ2 : Rho} {a b c : Nat} (h : Same ρ ρ1 a b) (h' : Same ρ1 ρ2 b c) (hab : a ≤ b) (hbc : b ≤ c) : Same ρ ρ2 a c :=
  ⟨h.1.trans h'.1, fun i hi => by rw [h'.2 i (by omega), h.2 i (by omega)]⟩
theorem Fresh.left {ρ : Rho} {a b c : Nat} (h : Fresh ρ a c) (hbc : b ≤ c) : Fresh ρ a b := fun i h1 h2 => h i h1 (by omega)
theorem Fresh.right {ρ ρ1 : Rho} {a b c : Nat} (h : Fresh ρ a c) (hs : Same ρ ρ1 a b) (hab : a ≤ b) : Fresh ρ1 b c := fun i h1 h2 => by
  rw [hs.2 i (by omega)]; exact h i (by omega) h2

def DR (ρ : Rho) : List Nat → List Deferred → Prop
  | [], [] => True
  | d :: ds, x :: xs => (∃ b s c, ρ d = some (b, s, c) ∧ x = { target := .collected b, args := #[] }) ∧ DR ρ ds xs
  | _, _ => False
theorem DR.mono {ρ ρ' : Rho} (h : RLe ρ ρ') : ∀ {ds : List Nat} {xs : List Deferred}, DR ρ ds xs → DR ρ' ds xs
  | [], [], _ => trivial
  | _ :: _, _ :: _, ⟨⟨b, s, c, h1, h2⟩, h3⟩ => ⟨⟨b, s, c, h _ _ h1, h2⟩, DR.mono h h3⟩
  | [], _ :: _, h => h.elim
  | _ :: _, [], h => h.elim
def RO (ρ : Rho) : Option Nat → Option Nat → Prop
  | none, none => True
  | some l, some b => ∃ s c, ρ l = some (b, s, c)
  | _, _ => False
theorem RO.mono {ρ ρ' : Rho} (h : RLe ρ ρ') {ro rb : Option Nat} (hr : RO ρ ro rb) : RO ρ' ro rb := by
  cases ro <;> cases rb <;> first | exact hr | (obtain ⟨s, c, h1⟩ := hr; exact ⟨s, c, h _ _ h1⟩)

/-- where a code's walk arrives -/
def Arr (P : Program) (m : Machine) (b : Frame) (k : List Item) (cs : List Frame) : Ex → Act → World → Prop
  | .norm, a, w => Steps P m (lone (b.atR a k) cs w)
  | .ret, a, w => ∃ k1, Steps P m (lone (b.atR a (.code .ret :: k1)) cs w)
  | .exit id, a, w => ∃ k1, exitTo id k1 = exitTo id k ∧ Steps P m (lone (b.atR a (.code (.exit id) :: k1)) cs w)
theorem Arr.of_steps {m m1 : Machine} {b : Frame} {k : List Item} {cs : List Frame} {e : Ex} {a : Act} {w : World} (h : Steps P m m1) (h' : Arr P m1 b k cs e a w) : Arr P m b k cs e a w := by
  cases e with
  | norm => exact h.trans h'
  | ret => obtain ⟨k1, h1⟩ := h'; exact ⟨k1, h.trans h1⟩
  | exit id => obtain ⟨k1, h0, h1⟩ := h'; exact ⟨k1, h0, h.trans h1⟩

/-- what a task's outcome says of the machine -/
def Sim (P : Program) : Task → Out → Prop
  | .code fn ro c T ms m, .code e T' ms' m' => ∀ (Pt : Prot) (ρ : Rho) (b : Frame) (k : List Item) (cs : List Frame) (w : World) (a : Act),
      b.fn = fn → RO ρ ro b.roundOf → TR ρ T a.tmps → DR ρ ms a.defers → Rel Pt ρ m w → Fresh ρ m.next m'.next →
      ∃ ρ' a' w', Same ρ ρ' m.next m'.next ∧ TR ρ' T' a'.tmps ∧ DR ρ' ms' a'.defers ∧ Rel Pt ρ' m' w' ∧ Arr P (lone (b.atR a (.code c :: k)) cs w) b k cs e a' w'
  | .call f as m, .call v m' => ∀ (Pt : Prot) (ρ : Rho) (w : World) (as' : Array Value) (cs : List Frame), VRs ρ as as'.toList → Rel Pt ρ m w → Fresh ρ m.next m'.next →
      ∃ ρ' v' w', Same ρ ρ' m.next m'.next ∧ VR ρ' v v' ∧ Rel Pt ρ' m' w' ∧ ∃ fr, Steps P (lone (Frame.enter P f as' .normal) cs w) (lone fr cs w') ∧ fr.fn = f ∧ fr.leaving P w' (.returned v')
  | .round l as m, .call v m' => ∀ (Pt : Prot) (ρ : Rho) (w : World) (as' : Array Value) (bl s c : Nat) (fc : Frame) (cs : List Frame), ρ l = some (bl, s, c) → VRs ρ as as'.toList → Rel Pt ρ m w → Fresh ρ m.next m'.next →
      ∃ ρ' v' w', Same ρ ρ' m.next m'.next ∧ VR ρ' v v' ∧ Rel Pt ρ' m' w' ∧ ∃ f tmps assign body, (Instr.yield bl as').run P w = .ok (.round bl f tmps assign body) w ∧
        Steps P (lone (Frame.round bl f tmps assign body .normal) (fc :: cs) w) (lone (fc.finish v') cs w')
  | _, _ => True

/-- guards -/
theorem wanted_sim {ρ : Rho} {T : Tm} {a : Act} {ops : Array Oper} {o : Oper} {b : Bool} (h : wanted ops.toList T o.guard = some b) (hT : TR ρ T a.tmps) : Region.wanted o (yielded ops a.tmps) = b := by
  unfold Region.wanted
  cases hg : o.guard with
  | none => rw [hg] at h; cases h; rfl
  | some p =>
    obtain ⟨j, want⟩ := p
    rw [hg] at h
    have h : oe ((ops.toList[j]?).bind (·.dst)) (some false) (fun d => ob (evT T d) (isBoolAs want)) = some b := h
    simp only [Array.getElem?_toList] at h
    have hy : ∀ x, ((ops[j]?).bind (·.dst)).bind (a.tmps[·]?) = x → yielded ops a.tmps j = (match x with | some (.bool b) => some b | _ => none) := by
      intro x hx; unfold yielded; rw [hx]; rfl
    show (yielded ops a.tmps j == some want) = b
    cases hd : (ops[j]?).bind (·.dst) with
    | none =>
      rw [hd] at h; cases h
      rw [hy none (by rw [hd]; rfl)]
      rfl
    | some d =>
      rw [hd] at h hy
      have h : ob (evT T d) (isBoolAs want) = some b := h
      rw [evT_eq] at h
      have h : isBoolAs want (T.get d) = some b := h
      have hv := hT.2 d
      unfold isBoolAs at h
      split at h
      · rename_i b' e
        cases h
        rw [e] at hv
        have := hv.bool_inv
        rw [Array.getD_eq_getD_getElem?] at this
        have h2 : a.tmps[d]? = some (.bool b') := by
          cases ht : a.tmps[d]? with
          | none => rw [ht] at this; cases this
          | some x => rw [ht] at this; simp at this; rw [this]
        rw [hy _ (show (some d).bind (a.tmps[·]?) = some (.bool b') from h2), bEq_eq]
        cases b' <;> cases want <;> rfl
      · rename_i e
        cases h
        rw [e] at hv
        have h2 : a.tmps.getD d undef = .tuple #[] := by
          generalize a.tmps.getD d undef = x at hv
          cases hv with
          | tup h => rename_i vs'; obtain ⟨l⟩ := vs'; have h : VRs ρ [] l := h; cases h; rfl
        rw [Array.getD_eq_getD_getElem?] at h2
        cases ht : a.tmps[d]? with
        | none => rw [hy none ht]; rfl
        | some x => rw [ht] at h2; simp at h2; subst h2; rw [hy (some (.tuple #[])) ht]; rfl
      · cases h

variable {rec : Task → Option Out}
def RecSim (P : Program) (rec : Task → Option Out) : Prop := ∀ t o, rec t = some o → Sim P t o

/-- one operation, at the machine -/
theorem opStep_sim (hm : RecMono rec) (hrec : RecSim P rec) {ops : Array Oper} {i : Nat} {o : Oper} {T T' : Tm} {m m' : Mem} (ho : ops[i]? = some o) (hs : OpStep P rec T m o.op o.dst T' m')
    (hcall : ∀ f as m1 v m2, rec (.call f as m1) = some (.call v m2) → ∃ fn, fnOf P f = some fn)
    {Pt : Prot} {ρ : Rho} {b : Frame} {w : World} {a : Act} (rest : List Nat) (k : List Item) (cs : List Frame) (hw : Region.wanted o (yielded ops a.tmps) = true) (hT : TR ρ T a.tmps) (hrel : Rel Pt ρ m w) (hf : Fresh ρ m.next m'.next) :
    ∃ ρ' v' w', Same ρ ρ' m.next m'.next ∧ TR ρ' T' (a.put o.dst v').tmps ∧ Rel Pt ρ' m' w' ∧
      Steps P (lone (b.atR a (.inRegion ops (i :: rest) :: k)) cs w) (lone (b.atR (a.put o.dst v') (.inRegion ops rest :: k)) cs w') := by
  have hnd : ∀ r, op1 P o.op T m = some r → ∀ c, o.op ≠ .defer c := by
    intro r hr c e
    rw [e] at hr
    cases hr
  have hfin : ∀ v, (b.atR a (.inRegion ops (i :: rest) :: k)).finish v = b.atR (a.put o.dst v) (.inRegion ops rest :: k) := by
    intro v; rw [Frame.finish_atR, ho]; rfl
  cases hs with
  | val h hp =>
    have hok := op1_sim h hT hrel hf
    obtain ⟨ρ', v', w', hr, hsame, hv, hrel'⟩ := hok
    refine ⟨ρ', v', w', hsame, (hT.mono hsame.1).put hp hv, hrel', .one (step_lone_go ?_)⟩
    rw [stepGR_op ho hw, Oper.semAt_eq _ _ _ (hnd _ h), ← hfin]
    simp [stepG.apply, hr]
  | skip h hp =>
    have hok := op1_sim h hT hrel hf
    obtain ⟨w', hr, hrel', hn⟩ := hok
    refine ⟨ρ, undef, w', by rw [hn]; exact Same.refl _ _ _, hT.put hp (.tup .nil), hrel', .one (step_lone_go ?_)⟩
    rw [stepGR_op ho hw, Oper.semAt_eq _ _ _ (hnd _ h), ← hfin]
    simp [stepG.apply, hr]
  | enter h hr hp =>
    rename_i f as m1 v
    have hm1 : m.next ≤ m1.next := op1_next _ _ h
    have hm2 : m1.next ≤ m'.next := hm _ _ hr
    have hok := op1_sim h hT hrel (hf.left hm2)
    obtain ⟨rfl, hok⟩ := hok
    obtain ⟨fn, hfn⟩ := hcall _ _ _ _ _ hr
    obtain ⟨as', hrun, has⟩ := hok fn hfn
    obtain ⟨ρ', v', w', hsame, hv, hrel', hst⟩ := hrec _ _ hr Pt ρ w as' (b.atR a (.inRegion ops (i :: rest) :: k) :: cs) has hrel hf
    refine ⟨ρ', v', w', hsame, (hT.mono hsame.1).put hp hv, hrel', ?_⟩
    obtain ⟨fr, h1, h2, h3⟩ := hst
    have henter : step P (lone (b.atR a (.inRegion ops (i :: rest) :: k)) cs w) = .next (lone (Frame.enter P f as' .normal) (b.atR a (.inRegion ops (i :: rest) :: k) :: cs) w) :=
      step_lone_go (by rw [stepGR_op ho hw, Oper.semAt_eq _ _ _ (hnd _ h)]; simp [stepG.apply, hrun, Frame.atR])
    refine .head henter (h1.trans (.one ?_))
    rw [← hfin]; exact step_leave_returned h3
  | round h hr hp =>
    rename_i l as m1 v
    have hm2 : m1.next ≤ m'.next := hm _ _ hr
    have hok := op1_sim h hT hrel (hf.left hm2)
    obtain ⟨rfl, bl, s, c, as', hρ, has, hrun⟩ := hok
    obtain ⟨ρ', v', w', hsame, hv, hrel', f, tmps, assign, body, hy, hst⟩ := hrec _ _ hr Pt ρ w as' bl s c (b.atR a (.inRegion ops (i :: rest) :: k)) cs hρ has hrel hf
    refine ⟨ρ', v', w', hsame, (hT.mono hsame.1).put hp hv, hrel', ?_⟩
    rw [hy] at hrun
    have henter : step P (lone (b.atR a (.inRegion ops (i :: rest) :: k)) cs w) = .next (lone (Frame.round bl f tmps assign body .normal) (b.atR a (.inRegion ops (i :: rest) :: k) :: cs) w) :=
      step_lone_go (by rw [stepGR_op ho hw, Oper.semAt_eq _ _ _ (hnd _ h)]; simp [stepG.apply, hrun, Frame.atR])
    refine .head henter ?_
    rw [← hfin]; exact hst
end
end PvL
