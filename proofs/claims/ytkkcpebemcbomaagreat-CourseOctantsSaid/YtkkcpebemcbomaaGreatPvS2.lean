/-
  Part of the proof that what the interpreter of YtkkcpebemcbomaaGreatPvL yields, the model's machine comes to. No condition.
-/
import Derived.Test.YtkkcpebemcbomaaGreatPvS1
namespace PvL
open Go

def Out.mem : Out → Mem | .code _ _ _ m | .call _ m => m
def Task.mem : Task → Mem | .code _ _ _ _ _ m | .call _ _ m | .round _ _ m => m

section
variable {P : Program} {rec : Task → Option Out}

theorem outCode_eq {α : Type} {r : Option Out} {k : Ex → Tm → List Nat → Mem → Option α} {y : α} : outCode r k = some y ↔ ∃ e T ms m, r = some (.code e T ms m) ∧ k e T ms m = some y := by
  unfold outCode
  rw [ob_eq]
  constructor
  · rintro ⟨o, h1, h2⟩
    cases o with
    | code e T ms m => exact ⟨e, T, ms, m, h1, h2⟩
    | call v m => cases h2
  · rintro ⟨e, T, ms, m, h1, h2⟩; exact ⟨_, h1, h2⟩
theorem outCall_eq {α : Type} {r : Option Out} {k : LV → Mem → Option α} {y : α} : outCall r k = some y ↔ ∃ v m, r = some (.call v m) ∧ k v m = some y := by
  unfold outCall
  rw [ob_eq]
  constructor
  · rintro ⟨o, h1, h2⟩
    cases o with
    | code e T ms m => cases h2
    | call v m => exact ⟨v, m, h1, h2⟩
  · rintro ⟨v, m, h1, h2⟩; exact ⟨_, h1, h2⟩
theorem exE_norm {β : Type} (a b : β) (c : Nat → β) : exE .norm a b c = a := rfl
theorem exE_ret {β : Type} (a b : β) (c : Nat → β) : exE .ret a b c = b := rfl
theorem exE_exit {β : Type} (i : Nat) (a b : β) (c : Nat → β) : exE (.exit i) a b c = c i := rfl

/-- one operation, done -/
inductive OpStep (P : Program) (rec : Task → Option Out) (T : Tm) (m : Mem) (op : Op) (dst : Option Tmp) : Tm → Mem → Prop
  | val {v : LV} {m' : Mem} {T' : Tm} (h : op1 P op T m = some (.val v m')) (hp : T.put dst v = some T') : OpStep P rec T m op dst T' m'
  | skip {m' : Mem} {T' : Tm} (h : op1 P op T m = some (.skip m')) (hp : T.put dst lundef = some T') : OpStep P rec T m op dst T' m'
  | enter {f : FuncId} {as : List LV} {m1 m' : Mem} {v : LV} {T' : Tm} (h : op1 P op T m = some (.enter f as m1)) (hr : rec (.call f as m1) = some (.call v m')) (hp : T.put dst v = some T') : OpStep P rec T m op dst T' m'
  | round {l : Nat} {as : List LV} {m1 m' : Mem} {v : LV} {T' : Tm} (h : op1 P op T m = some (.round l as m1)) (hr : rec (.round l as m1) = some (.call v m')) (hp : T.put dst v = some T') : OpStep P rec T m op dst T' m'
theorem opFull_eq {T : Tm} {m : Mem} {op : Op} {dst : Option Tmp} {α : Type} {k : Tm → Mem → Option α} {y : α} (h : opFull P rec T m op dst k = some y) : ∃ T' m', OpStep P rec T m op dst T' m' ∧ k T' m' = some y := by
  obtain ⟨r, h1, h2⟩ := ob_eq.1 h
  cases r with
  | val v m' =>
    obtain ⟨T', h3, h4⟩ := ob_eq.1 (show ob (T.put dst v) (fun T => k T m') = some y from h2)
    exact ⟨T', m', .val h1 h3, h4⟩
  | skip m' =>
    obtain ⟨T', h3, h4⟩ := ob_eq.1 (show ob (T.put dst lundef) (fun T => k T m') = some y from h2)
    exact ⟨T', m', .skip h1 h3, h4⟩
  | enter f as m1 =>
    obtain ⟨v, m', h3, h4⟩ := outCall_eq.1 (show outCall (rec (.call f as m1)) (fun v m => ob (T.put dst v) fun T => k T m) = some y from h2)
    obtain ⟨T', h5, h6⟩ := ob_eq.1 h4
    exact ⟨T', m', .enter h1 h3 h5, h6⟩
  | round l as m1 =>
    obtain ⟨v, m', h3, h4⟩ := outCall_eq.1 (show outCall (rec (.round l as m1)) (fun v m => ob (T.put dst v) fun T => k T m) = some y from h2)
    obtain ⟨T', h5, h6⟩ := ob_eq.1 h4
    exact ⟨T', m', .round h1 h3 h5, h6⟩

def RecMono (rec : Task → Option Out) : Prop := ∀ t o, rec t = some o → t.mem.next ≤ o.mem.next
theorem OpStep.next (hm : RecMono rec) {T T' : Tm} {m m' : Mem} {op : Op} {dst : Option Tmp} (h : OpStep P rec T m op dst T' m') : m.next ≤ m'.next := by
  cases h with
  | val h _ => exact op1_next op _ h
  | skip h _ => exact op1_next op _ h
  | enter h hr _ => exact Nat.le_trans (op1_next op _ h) (hm _ _ hr)
  | round h hr _ => exact Nat.le_trans (op1_next op _ h) (hm _ _ hr)

theorem opsRun_nil {all : List Oper} {T : Tm} {m : Mem} : opsRun P rec all [] T m = some (T, m) := rfl
theorem opsRun_cons {all : List Oper} {o : Oper} {os : List Oper} {T : Tm} {m : Mem} {q : Tm × Mem} (h : opsRun P rec all (o :: os) T m = some q) :
    (wanted all T o.guard = some true ∧ ∃ T' m', OpStep P rec T m o.op o.dst T' m' ∧ opsRun P rec all os T' m' = some q) ∨
    (wanted all T o.guard = some false ∧ ∃ T', T.put o.dst lundef = some T' ∧ opsRun P rec all os T' m = some q) := by
  have h : ob (wanted all T o.guard) (fun wt => ifb wt (opFull P rec T m o.op o.dst fun T m => opsRun P rec all os T m) (ob (T.put o.dst lundef) fun T => opsRun P rec all os T m)) = some q := h
  obtain ⟨wt, hw, h⟩ := ob_eq.1 h
  rw [hw]
  cases wt with
  | true => exact .inl ⟨rfl, opFull_eq h⟩
  | false =>
    obtain ⟨T', h1, h2⟩ := ob_eq.1 (show ob (T.put o.dst lundef) (fun T => opsRun P rec all os T m) = some q from h)
    exact .inr ⟨rfl, T', h1, h2⟩
theorem opsRun_next (hm : RecMono rec) {all : List Oper} : ∀ (os : List Oper) (T : Tm) (m : Mem) (q : Tm × Mem), opsRun P rec all os T m = some q → m.next ≤ q.2.next
  | [], T, m, q, h => by cases h; exact Nat.le_refl _
  | o :: os, T, m, q, h => by
    rcases opsRun_cons h with ⟨_, T', m', h1, h2⟩ | ⟨_, T', _, h2⟩
    · exact Nat.le_trans (h1.next hm) (opsRun_next hm os _ _ _ h2)
    · exact opsRun_next hm os _ _ _ h2

/-- one step of a drawn region -/
inductive DStep (P : Program) (rec : Task → Option Out) (all : List Oper) (ds : List Nat) (o : Oper) (i : Nat) (s : DS) : DS → Prop
  | mover {T' : Tm} {m' : Mem} (hw : wanted all s.T o.guard = some true) (h : OpStep P rec s.T s.m o.op o.dst T' m') (hc : cls o.op = .mover) :
      DStep P rec all ds o i s ⟨T', m', s.st, s.k, ifb (readsMem o.op) ({ op := o.op, T := s.T, v := dstV T' o.dst, lo := anchorsIn (ds.getD i 0) all 0, hi := anchorsFree i all ds } :: s.ps) s.ps⟩
  | new {T' : Tm} {m' : Mem} (hw : wanted all s.T o.guard = some true) (h : OpStep P rec s.T s.m o.op o.dst T' m') (hc : cls o.op = .new) : DStep P rec all ds o i s ⟨T', m', s.st, s.k, s.ps⟩
  | anchor {T' : Tm} {m' : Mem} (hw : wanted all s.T o.guard = some true) (h : OpStep P rec s.T s.m o.op o.dst T' m') (hc : cls o.op = .anchor) : DStep P rec all ds o i s ⟨T', m', m' :: s.st, s.k + 1, s.ps⟩
  | offA {T' : Tm} (hw : wanted all s.T o.guard = some false) (h : s.T.put o.dst lundef = some T') (hc : cls o.op = .anchor) : DStep P rec all ds o i s ⟨T', s.m, s.m :: s.st, s.k + 1, s.ps⟩
  | off {T' : Tm} (hw : wanted all s.T o.guard = some false) (h : s.T.put o.dst lundef = some T') (hc : cls o.op ≠ .anchor) : DStep P rec all ds o i s ⟨T', s.m, s.st, s.k, s.ps⟩
theorem drawRun_cons {all : List Oper} {ds : List Nat} {o : Oper} {os : List Oper} {i : Nat} {s q : DS} (h : drawRun P rec all ds (o :: os) i s = some q) :
    ∃ s', DStep P rec all ds o i s s' ∧ drawRun P rec all ds os (i + 1) s' = some q := by
  obtain ⟨T, m, st, k, ps⟩ := s
  unfold drawRun at h
  obtain ⟨wt, hw, h⟩ := ob_eq.1 h
  cases wt with
  | true =>
    obtain ⟨T', m', h1, h2⟩ := opFull_eq (show opFull P rec T m o.op o.dst _ = some q from h)
    cases hc : cls o.op with
    | mover => rw [hc] at h2; exact ⟨_, .mover hw h1 hc, h2⟩
    | new => rw [hc] at h2; exact ⟨_, .new hw h1 hc, h2⟩
    | anchor => rw [hc] at h2; exact ⟨_, .anchor hw h1 hc, h2⟩
  | false =>
    obtain ⟨T', h1, h2⟩ := ob_eq.1 (show ob (T.put o.dst lundef) _ = some q from h)
    cases hc : cls o.op with
    | anchor => rw [hc] at h2; exact ⟨_, .offA hw h1 hc, h2⟩
    | mover => rw [hc] at h2; exact ⟨_, .off hw h1 (by rw [hc]; simp), h2⟩
    | new => rw [hc] at h2; exact ⟨_, .off hw h1 (by rw [hc]; simp), h2⟩
theorem DStep.next (hm : RecMono rec) {all : List Oper} {ds : List Nat} {o : Oper} {i : Nat} {s s' : DS} (h : DStep P rec all ds o i s s') : s.m.next ≤ s'.m.next := by
  cases h with
  | mover _ h _ => exact h.next hm
  | new _ h _ => exact h.next hm
  | anchor _ h _ => exact h.next hm
  | offA _ _ _ => exact Nat.le_refl _
  | off _ _ _ => exact Nat.le_refl _
theorem drawRun_next (hm : RecMono rec) {all : List Oper} {ds : List Nat} : ∀ (os : List Oper) (i : Nat) (s q : DS), drawRun P rec all ds os i s = some q → s.m.next ≤ q.m.next
  | [], i, s, q, h => by cases h; exact Nat.le_refl _
  | o :: os, i, s, q, h => by
    obtain ⟨s', h1, h2⟩ := drawRun_cons h
    exact Nat.le_trans (h1.next hm) (drawRun_next hm os _ _ _ h2)

theorem atLoop_get {α : Type} {m : Mem} {i : Nat} {k : LoopState → Option Code → FuncId → Tm → List Tmp → Code → Code → Nat → Option α} {y : α} (h : atLoop m i k = some y) :
    ∃ st pend fn tm ps a b d, m.get i = some (.loop st pend fn tm ps a b d) ∧ k st pend fn tm ps a b d = some y := by
  unfold atLoop at h
  obtain ⟨lb, h1, h2⟩ := ob_eq.1 h
  cases lb with
  | loop st pend fn tm ps a b d => exact ⟨st, pend, fn, tm, ps, a, b, d, h1, h2⟩
  | _ => cases h2
theorem takeMarks_next : ∀ (ms : List Nat) (m m' : Mem), takeMarks ms m = some m' → m'.next = m.next
  | [], m, m', h => by cases h; rfl
  | d :: ds, m, m', h => by
    unfold takeMarks atDefr at h
    obtain ⟨b, h1, h2⟩ := ob_eq.1 h
    cases b with
    | defr => rw [takeMarks_next ds _ _ h2, Mem.next_upd]
    | _ => cases h2

/-- how code comes out: case by case -/
theorem notBusy_eq {α : Type} {s : LoopState} {k : Option α} {y : α} (h : notBusy s k = some y) : s ≠ .busy ∧ k = some y := by
  cases s with
  | busy => cases h
  | _ => exact ⟨by simp, h⟩
theorem ready_eq {α : Type} {s : LoopState} {k : Option α} {y : α} (h : ready? s k = some y) : s = .ready ∧ k = some y := by
  cases s with
  | ready => exact ⟨rfl, h⟩
  | _ => cases h
theorem isNorm_eq {α : Type} {e : Ex} {k : Option α} {y : α} (h : isNorm e k = some y) : e = .norm ∧ k = some y := by
  cases e with
  | norm => exact ⟨rfl, h⟩
  | _ => cases h
theorem asFn_eq {α : Type} {v : LV} {k : FuncId → List LV → List LV → Option α} {y : α} (h : asFn v k = some y) : ∃ g a b, v = .func (.func g) a b ∧ k g a b = some y := by
  unfold asFn at h
  split at h
  · exact ⟨_, _, _, rfl, h⟩
  · cases h
end

section
variable {P : Program} {rec : Task → Option Out}
theorem rfEnd_next (hm : RecMono rec) {fn : FuncId} {ro : Option Nat} {l : Nat} {T : Tm} {ms : List Nat} {m : Mem} {o : Out} (h : rfEnd rec fn ro l T ms m = some o) : m.next ≤ o.mem.next := by
  obtain ⟨st, pend, fn', tm', ps', a', b', d', hg, h1⟩ := atLoop_get h
  obtain ⟨_, h2⟩ := notBusy_eq h1
  cases pend with
  | none => cases h2; exact Nat.le_of_eq (Mem.next_upd _ _ _).symm
  | some c =>
    have := hm _ _ (show rec (.code fn ro c T ms _) = some o from h2)
    exact Nat.le_trans (Nat.le_of_eq (Mem.next_upd _ _ _).symm) this
theorem rfCall_next (hm : RecMono rec) {fn : FuncId} {ro : Option Nat} {f : Operand} {ps : Array Tmp} {as bd : Code} {d : Nat} {T : Tm} {ms : List Nat} {m : Mem} {o : Out} (h : rfCall rec fn ro f ps as bd d T ms m = some o) : m.next ≤ o.mem.next := by
  unfold rfCall at h
  rw [Mem.new_eq] at h
  obtain ⟨fv, _, h1⟩ := ob_eq.1 h
  obtain ⟨g, x, y, _, h2⟩ := asFn_eq h1
  obtain ⟨v, m', h3, h4⟩ := outCall_eq.1 h2
  have a1 := hm _ _ h3
  have a2 := rfEnd_next hm h4
  have a3 : m.next ≤ (m.push (.loop .ready none fn T ps.toList as bd d)).next := Nat.le_succ _
  exact Nat.le_trans a3 (Nat.le_trans a1 a2)
theorem stepT_next (hm : RecMono rec) : RecMono (stepT P rec) := by
  intro t o h
  cases t with
  | code fn ro c T ms m =>
    have h : stCode P rec fn ro c T ms m = some o := h
    cases c with
    | skip => cases h; exact Nat.le_refl _
    | label l => cases h; exact Nat.le_refl _
    | ret => cases h; exact Nat.le_refl _
    | exit id => cases h; exact Nat.le_refl _
    | seq a b =>
      obtain ⟨e, T1, ms1, m1, h1, h2⟩ := outCode_eq.1 (show outCode _ _ = some o from h)
      have a1 := hm _ _ h1
      cases e with
      | norm => exact Nat.le_trans a1 (hm _ _ (show rec (.code fn ro b T1 ms1 m1) = some o from h2))
      | ret => cases h2; exact a1
      | exit id => cases h2; exact a1
    | cond x a b =>
      obtain ⟨v, _, h1⟩ := ob_eq.1 (show ob (ev T x) _ = some o from h)
      obtain ⟨c, _, h2⟩ := asBool_eq.1 h1
      cases c with
      | true => exact hm (.code fn ro a T ms m) o h2
      | false => exact hm (.code fn ro b T ms m) o h2
    | block id b =>
      obtain ⟨e, T1, ms1, m1, h1, h2⟩ := outCode_eq.1 (show outCode _ _ = some o from h)
      have a1 := hm _ _ h1
      cases e with
      | norm => cases h2; exact a1
      | ret => cases h2; exact a1
      | exit id' =>
        have h2 : ifb (Nat.beq id' id) _ _ = some o := h2
        cases hb : Nat.beq id' id with
        | true => rw [hb] at h2; cases h2; exact a1
        | false => rw [hb] at h2; cases h2; exact a1
    | scope b => exact hm (.code fn ro b T ms m) o h
    | loop b =>
      obtain ⟨e, T1, ms1, m1, h1, h2⟩ := outCode_eq.1 (show outCode _ _ = some o from h)
      have a1 := hm _ _ h1
      cases e with
      | norm => exact Nat.le_trans a1 (hm _ _ (show rec (.code fn ro (.loop b) T1 ms1 m1) = some o from h2))
      | ret => cases h2; exact a1
      | exit id => cases h2; exact a1
    | region id ops dr =>
      cases dr with
      | false =>
        obtain ⟨⟨T1, m1⟩, h1, h2⟩ := ob_eq.1 (show ob (opsRun P rec ops.toList ops.toList T m) _ = some o from h)
        cases h2
        exact opsRun_next hm _ _ _ _ h1
      | true =>
        obtain ⟨_, h0⟩ := guard'_eq.1 (show guard' (regionOk ops) _ = some o from h)
        obtain ⟨d, h1, h2⟩ := ob_eq.1 h0
        obtain ⟨T1, m1, st, k, ps⟩ := d
        obtain ⟨_, h3⟩ := guard'_eq.1 (show guard' _ _ = some o from h2)
        cases h3
        exact drawRun_next hm _ _ _ _ h1
    | rangeFunc f ps as bd =>
      have h : cRangeFunc rec fn ro f ps as bd T ms m = some o := h
      cases ro with
      | none =>
        have h : m.new .defr (fun d m => rfCall rec fn none f ps as bd d T (d :: ms) m) = some o := h
        rw [Mem.new_eq] at h
        exact Nat.le_trans (Nat.le_succ _) (rfCall_next hm h)
      | some l =>
        obtain ⟨st, pend, fn', tm', ps', a', b', d', _, h1⟩ := atLoop_get (show atLoop m l _ = some o from h)
        exact rfCall_next hm h1
    | _ => cases h
  | call f args m =>
    obtain ⟨fn, _, h1⟩ := ob_eq.1 (show stCall P rec f args m = some o from h)
    obtain ⟨T, _, h2⟩ := ob_eq.1 h1
    obtain ⟨c, _, h3⟩ := ob_eq.1 h2
    obtain ⟨e, T1, ms1, m1, h4, h5⟩ := outCode_eq.1 h3
    have a1 := hm _ _ h4
    have fin : ∀ {o}, callEnd P fn T1 ms1 m1 = some o → m.next ≤ o.mem.next := by
      intro o h
      obtain ⟨m2, h6, h7⟩ := ob_eq.1 h
      obtain ⟨vs, _, h8⟩ := ob_eq.1 h7
      cases h8
      show m.next ≤ m2.next
      rw [takeMarks_next _ _ _ h6]
      exact a1
    cases e with
    | norm => exact fin h5
    | ret => exact fin h5
    | exit id => cases h5
  | round l args m =>
    obtain ⟨st, pend, fn, tm, ps, as, bd, d, _, h1⟩ := atLoop_get (show stRound rec l args m = some o from h)
    obtain ⟨_, h2⟩ := ready_eq h1
    obtain ⟨T, _, h3⟩ := ob_eq.1 h2
    obtain ⟨e, T1, ms1, m1, h4, h5⟩ := outCode_eq.1 h3
    obtain ⟨_, h6⟩ := isNorm_eq h5
    obtain ⟨st2, pend2, fn2, tm2, ps2, as2, bd2, d2, _, h7⟩ := atLoop_get h6
    obtain ⟨_, h8⟩ := ready_eq h7
    obtain ⟨e3, T3, ms3, m3, h9, h10⟩ := outCode_eq.1 h8
    obtain ⟨st4, pend4, fn4, tm4, ps4, as4, bd4, d4, _, h11⟩ := atLoop_get h10
    have a1 := hm _ _ h4
    have a2 := hm _ _ h9
    have a3 : m1.next ≤ m3.next := by
      have : (m1.upd l (some (.loop .busy pend2 fn2 tm2 ps2 as2 bd2 d2))).next ≤ m3.next := a2
      rw [Mem.next_upd] at this; exact this
    have a4 : o.mem.next = m3.next := by
      cases e3 with
      | norm => cases h11; exact Mem.next_upd _ _ _
      | ret => cases h11; exact Mem.next_upd _ _ _
      | exit id => cases h11; exact Mem.next_upd _ _ _
    rw [a4]
    exact Nat.le_trans a1 a3
theorem run_next : ∀ n, RecMono (run P n)
  | 0, _, _, h => by cases h
  | n + 1, t, o, h => stepT_next (run_next n) t o h
end
end PvL
