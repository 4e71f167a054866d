/-
  Part of the proof that what the interpreter of YtkkcpebemcbomaaGreatPvL yields, the model's machine comes to. No condition.
-/
import Derived.Test.YtkkcpebemcbomaaGreatPvS4
import Derived.RangeFuncIn
namespace PvL
open Go

section
variable {P : Program} {rec : Task → Option Out}

/-- what a drawn region owes: proved apart -/
def DrawSim (P : Program) (rec : Task → Option Out) : Prop := ∀ (ops : Array Oper) (T T' : Tm) (m m' : Mem) (st : List Mem) (kk : Nat) (ps : List Pend),
    regionOk ops = true → drawRun P rec ops.toList (deps ops) ops.toList 0 ⟨T, m, [m], 0, []⟩ = some ⟨T', m', st, kk, ps⟩ → pendAll P st kk ps = true →
    ∀ (Pt : Prot) (ρ : Rho) (b : Frame) (id : Nat) (k : List Item) (cs : List Frame) (w : World) (a : Act), TR ρ T a.tmps → Rel Pt ρ m w → Fresh ρ m.next m'.next →
      ∃ ρ' a' w', Same ρ ρ' m.next m'.next ∧ TR ρ' T' a'.tmps ∧ a'.defers = a.defers ∧ Rel Pt ρ' m' w' ∧
        Steps P (lone (b.atR a (.code (.region id ops true) :: k)) cs w) (lone (b.atR a' k) cs w')

theorem getObj_run {w : World} {r : Nat} {o : Obj} (h : w.heap[r]? = some o) (ho : ∀ c e f, o ≠ .cells c e f) : (getObj r).run P w = .ok o w := by
  simp only [getObj, Sem.run, h]
theorem setObj_run {w : World} {r : Nat} {o o' : Obj} (h : w.heap[r]? = some o) (ho : ∀ c e f, o ≠ .cells c e f) : (setObj r o').run P w = .ok () { w with heap := w.heap.setIfInBounds r o' } := by
  simp only [setObj, Sem.run, h]
/-- a loop's record, read -/
theorem Rel.loop {Pt : Prot} {ρ : Rho} {m : Mem} {w : World} (h : Rel Pt ρ m w) {i : Nat} {st : LoopState} {pend : Option Code} {fn : FuncId} {tm : Tm} {ps : List Tmp} {as bd : Code} {d : Nat}
    (hi : m.get i = some (.loop st pend fn tm ps as bd d)) {b s c : Nat} (hρ : ρ i = some (b, s, c)) :
    ∃ T' db, w.heap[b]? = some (.loop { state := st, pending := pend, fn, tmps := T', params := ps.toArray, assign := as, body := bd, defers := db }) ∧ TR ρ tm T' ∧ ∃ s c, ρ d = some (db, s, c) := by
  obtain ⟨_, b0, s0, c0, o, e0, ⟨T', db, rfl, hT, hd⟩, hh, _⟩ := h.live i _ hi
  rw [hρ] at e0; cases e0
  exact ⟨T', db, hh, hT, hd⟩
/-- a loop's record, turned -/
theorem Rel.turnLoop {Pt : Prot} {ρ : Rho} {m : Mem} {w : World} (h : Rel Pt ρ m w) {i : Nat} {st st' : LoopState} {pend pend' : Option Code} {fn : FuncId} {tm : Tm} {ps : List Tmp} {as bd : Code} {d : Nat}
    (hi : m.get i = some (.loop st pend fn tm ps as bd d)) {b s c : Nat} (hρ : ρ i = some (b, s, c)) {T' : Array Value} {db : Nat} (hT : TR ρ tm T') (hd : ∃ s c, ρ d = some (db, s, c)) (hb : b < w.heap.size) :
    Rel Pt ρ (m.upd i (some (.loop st' pend' fn tm ps as bd d))) { w with heap := w.heap.setIfInBounds b (.loop { state := st', pending := pend', fn, tmps := T', params := ps.toArray, assign := as, body := bd, defers := db }) } := by
  refine h.turn hi rfl rfl hρ (o' := .loop { state := st', pending := pend', fn, tmps := T', params := ps.toArray, assign := as, body := bd, defers := db }) ⟨T', db, rfl, hT, hd⟩ ?_ ?_
  · show (w.heap.setIfInBounds b _)[b]? = _
    rw [Array.getElem?_setIfInBounds_self_of_lt hb]
  · intro r hr
    show (w.heap.setIfInBounds b _)[r]? = _
    rw [Array.getElem?_setIfInBounds_ne (Ne.symm hr)]
theorem Rel.rho {Pt : Prot} {ρ : Rho} {m : Mem} {w : World} (h : Rel Pt ρ m w) {i : Nat} {lb : LB} (hi : m.get i = some lb) : ∃ b s c, ρ i = some (b, s, c) := by
  obtain ⟨_, b, s, c, _, e, _⟩ := h.live i lb hi
  exact ⟨b, s, c, e⟩

theorem Steps.tail {m1 m2 m3 : Machine} (h : step P m1 = .next m2) (h' : Steps P m1 m3) (hne : m3 ≠ m1) : Steps P m2 m3 := by
  obtain ⟨n, hn⟩ := h'
  cases n with
  | zero => cases hn; exact absurd rfl hne
  | succ n =>
    simp only [runN, h] at hn
    exact ⟨n, hn⟩
theorem lone_todo {fr fr' : Frame} {cs cs' : List Frame} {w w' : World} (h : lone fr cs w = lone fr' cs' w') : fr.todo = fr'.todo := by
  unfold lone at h
  have := congrArg Machine.gs h
  simp at this
  rw [this.1]
/-- a loop's later rounds: from its 'inLoop' as from the statement itself -/
theorem Arr.of_loop {m0 X : Machine} {b : Frame} {k : List Item} {cs : List Frame} {x : Code} {a1 a2 : Act} {w1 w2 : World} {e : Ex} (pre : Steps P m0 X) (s2 : step P (lone (b.atR a1 (Item.code (.loop x) :: k)) cs w1) = .next X)
    (h : Arr P (lone (b.atR a1 (Item.code (.loop x) :: k)) cs w1) b k cs e a2 w2) : Arr P m0 b k cs e a2 w2 := by
  cases e with
  | norm =>
    refine pre.trans (Steps.tail s2 h fun e => ?_)
    have := lone_todo e
    simp [Frame.atR] at this
  | ret =>
    obtain ⟨k1, h1⟩ := h
    refine ⟨k1, pre.trans (Steps.tail s2 h1 fun e => ?_)⟩
    have := lone_todo e
    simp [Frame.atR] at this
  | exit id =>
    obtain ⟨k1, hk, h1⟩ := h
    refine ⟨k1, hk, pre.trans (Steps.tail s2 h1 fun e => ?_)⟩
    have := lone_todo e
    simp [Frame.atR] at this

/-- the end of a range over a function, and the jump that a round has left -/
theorem rfEnd_sim (hrec : RecSim P rec) {fn : FuncId} {ro : Option Nat} {l : Nat} {T T' : Tm} {ms ms' : List Nat} {m m' : Mem} {e : Ex} (h : rfEnd rec fn ro l T ms m = some (.code e T' ms' m'))
    {Pt : Prot} {ρ : Rho} {b : Frame} {k : List Item} {cs : List Frame} {w : World} {a : Act} {bl s c : Nat} (hρ : ρ l = some (bl, s, c)) (hb : b.fn = fn) (hro : RO ρ ro b.roundOf) (hT : TR ρ T a.tmps) (hd : DR ρ ms a.defers) (hrel : Rel Pt ρ m w) (hf : Fresh ρ m.next m'.next) :
    ∃ ρ' a' w', Same ρ ρ' m.next m'.next ∧ TR ρ' T' a'.tmps ∧ DR ρ' ms' a'.defers ∧ Rel Pt ρ' m' w' ∧ Arr P (lone (b.atR a (.endRangeFunc bl :: k)) cs w) b k cs e a' w' := by
  obtain ⟨st, pend, fn', tm', ps', a', b', d', hg, h1⟩ := atLoop_get h
  obtain ⟨hnb, h2⟩ := notBusy_eq h1
  obtain ⟨TT, db, hh, hTT, hdd⟩ := hrel.loop hg hρ
  have hbl : bl < w.heap.size := (Array.getElem?_eq_some_iff.1 hh).1
  have hrel1 := hrel.turnLoop (st' := .exhausted) (pend' := pend) hg hρ hTT hdd hbl
  have hend : (Instr.endLoop bl).run P w = .ok pend { w with heap := w.heap.setIfInBounds bl (.loop { state := .exhausted, pending := pend, fn := fn', tmps := TT, params := ps'.toArray, assign := a', body := b', defers := db }) } := by
    unfold Instr.endLoop Instr.getLoop
    simp only [Sem.run_bind, getObj_run hh (by simp), Result.andThen_ok, Sem.run_pure]
    have : (st == LoopState.busy) = false := by cases st <;> first | rfl | exact absurd rfl hnb
    simp only [this, Bool.false_eq_true, if_false, Sem.run_bind, setObj_run hh (by simp), Result.andThen_ok, Sem.run_pure]
  have hstep := stepR_endRangeFunc (P := P) (b := b) (a := a) (k := k) (cs := cs) hend
  cases pend with
  | none =>
    cases h2
    exact ⟨ρ, a, _, by rw [Mem.next_upd]; exact Same.refl _ _ _, hT, hd, hrel1, .one hstep⟩
  | some c0 =>
    have h2 : rec (.code fn ro c0 T ms (m.upd l (some (.loop .exhausted (some c0) fn' tm' ps' a' b' d')))) = some (.code e T' ms' m') := h2
    obtain ⟨ρ', a1, w1, hs, hT1, hd1, hr1, harr⟩ := hrec _ _ h2 Pt ρ b k cs _ a hb hro hT hd hrel1 (by rw [Mem.next_upd]; exact hf)
    rw [Mem.next_upd] at hs
    exact ⟨ρ', a1, w1, hs, hT1, hd1, hr1, .of_steps (.one hstep) harr⟩

theorem rfCall_sim (hm : RecMono rec) (hrec : RecSim P rec) (hcall : ∀ f as m1 v m2, rec (.call f as m1) = some (.call v m2) → ∃ fn, fnOf P f = some fn)
    {fn : FuncId} {ro : Option Nat} {f : Operand} {ps : Array Tmp} {as bd : Code} {d : Nat} {T T' : Tm} {ms ms' : List Nat} {m m' : Mem} {e : Ex} (h : rfCall rec fn ro f ps as bd d T ms m = some (.code e T' ms' m'))
    {Pt : Prot} {ρ : Rho} {b : Frame} {k : List Item} {cs : List Frame} {w : World} {a : Act} {w0 : World} {mark : List Deferred} {db s c : Nat} (hρ : ρ d = some (db, s, c)) (hb : b.fn = fn) (hro : RO ρ ro b.roundOf) (hT : TR ρ T a.tmps)
    (hd : DR ρ ms (mark ++ a.defers)) (hrel : Rel Pt ρ m w) (hf : Fresh ρ m.next m'.next)
    (henter : (Instr.enterLoop b.fn a.tmps ps as bd b.roundOf).run P w0 = .ok (w.heap.size, mark) { w with heap := w.heap.push (.loop { state := .ready, pending := none, fn := b.fn, tmps := a.tmps, params := ps, assign := as, body := bd, defers := db }) }) :
    ∃ ρ' a' w', Same ρ ρ' m.next m'.next ∧ TR ρ' T' a'.tmps ∧ DR ρ' ms' a'.defers ∧ Rel Pt ρ' m' w' ∧ Arr P (lone (b.atR a (.code (.rangeFunc f ps as bd) :: k)) cs w0) b k cs e a' w' := by
  unfold rfCall at h
  rw [Mem.new_eq] at h
  obtain ⟨fv, hfv, h1⟩ := ob_eq.1 h
  obtain ⟨g, fi, ca, rfl, h2⟩ := asFn_eq h1
  obtain ⟨v, m2, h3, h4⟩ := outCall_eq.1 h2
  obtain ⟨fn0, hfn0⟩ := hcall _ _ _ _ _ h3
  have n3 : m.next + 1 ≤ m2.next := hm _ _ h3
  have n4 : m2.next ≤ m'.next := rfEnd_next hm h4
  have hf0 : ρ m.next = none := hf _ (Nat.le_refl _) (by omega)
  have hle := RLe.upd1 (ρ := ρ) (i := m.next) (x := (w.heap.size, 0, 0)) hf0
  have hrel1 := hrel.alloc hf0 (lb := .loop .ready none fn T ps.toList as bd d) (o := .loop { state := .ready, pending := none, fn := b.fn, tmps := a.tmps, params := ps, assign := as, body := bd, defers := db }) (c := 0) rfl
    ⟨a.tmps, db, by rw [hb, Array.toArray_toList], hT, s, c, hρ⟩
  have hs1 := Same.upd1 (ρ := ρ) (i := m.next) (x := (w.heap.size, 0, 0)) hf0
  have hfr := (hf.right hs1 (Nat.le_succ _))
  have hvf := ev_sim hT hfv
  cases hev : a.eval f with
  | func F fi' ca' =>
    rw [hev] at hvf
    cases hvf with
    | func g1 g2 =>
      have hargs : VRs (upd1 ρ m.next (w.heap.size, 0, 0)) (fi ++ [LV.func (.yield m.next) [] []] ++ ca) (fi' ++ #[Value.func (.yield w.heap.size) #[] #[]] ++ ca').toList := by
        simp only [Array.toList_append]
        exact ((g1.mono hle).append (.cons (.yield (upd1_self _ _ _)) .nil)).append (g2.mono hle)
      obtain ⟨ρ2, v', w2, hs2, hv2, hrel2, hst⟩ := hrec _ _ h3 Pt _ _ (fi' ++ #[Value.func (.yield w.heap.size) #[] #[]] ++ ca') (b.atR { a with defers := mark ++ a.defers } (.inRangeFunc w.heap.size :: k) :: cs) hargs hrel1 (hfr.left n4)
      have hs12 := hs1.trans hs2 (Nat.le_succ _) n3
      have hl2 : ρ2 m.next = some (w.heap.size, 0, 0) := hs2.1 _ _ (upd1_self _ _ _)
      obtain ⟨ρ3, a3, w3, hs3, hT3, hd3, hrel3, harr⟩ := rfEnd_sim (b := b) (k := k) (cs := cs) (a := { a with defers := mark ++ a.defers }) hrec h4 hl2 hb (hro.mono hs12.1) (hT.mono hs12.1) (hd.mono hs12.1) hrel2 (hfr.right hs2 n3)
      refine ⟨ρ3, a3, w3, hs12.trans hs3 (by omega) n4, hT3, hd3, hrel3, ?_⟩
      -- the machine: the record is laid, the function called with yield
      obtain ⟨fr, k1, k2, k3⟩ := hst
      obtain ⟨fn', hg, hx3⟩ := ob_eq.1 hfn0
      obtain ⟨hbody, hx4⟩ := guard'_eq.1 hx3
      obtain ⟨hname, hx5⟩ := guard'_eq.1 hx4
      have hnone : fn'.body.isNone = false := by cases hbb : fn'.body with
        | none => rw [hbb] at hbody; cases hbody
        | some _ => rfl
      have hnm : (fn'.name == "runtime.NumGoroutine") = false := by simpa using hname
      have hres : (resolve a.eval (rangeCall f w.heap.size) 0).run P { w with heap := w.heap.push (.loop { state := .ready, pending := none, fn := b.fn, tmps := a.tmps, params := ps, assign := as, body := bd, defers := db }) } =
          .ok { target := .fn (.func g) ca', args := fi' ++ #[Value.func (.yield w.heap.size) #[] #[]] } { w with heap := w.heap.push (.loop { state := .ready, pending := none, fn := b.fn, tmps := a.tmps, params := ps, assign := as, body := bd, defers := db }) } := by
        show Sem.run P (Deferred.ofValue (a.eval f) (#[Operand.const (Value.func (.yield w.heap.size) #[] #[])].map a.eval)) _ = _
        rw [hev]
        simp [Deferred.ofValue, Act.eval]
      have hinv : (invoke (.fn (.func g) ca') (fi' ++ #[Value.func (.yield w.heap.size) #[] #[]])).run P { w with heap := w.heap.push (.loop { state := .ready, pending := none, fn := b.fn, tmps := a.tmps, params := ps, assign := as, body := bd, defers := db }) } =
          .ok (.enter g (fi' ++ #[Value.func (.yield w.heap.size) #[] #[]] ++ ca')) { w with heap := w.heap.push (.loop { state := .ready, pending := none, fn := b.fn, tmps := a.tmps, params := ps, assign := as, body := bd, defers := db }) } := by
        simp only [invoke, callFunc, Sem.run_bind, run_program, Result.andThen_ok, hg, hnm, hnone, Bool.false_eq_true, if_false]
        rfl
      have hstep := stepR_rangeFunc (P := P) (b := b) (a := a) (k := k) (cs := cs) (g := f) henter hres hinv
      refine .of_steps (.head hstep (k1.trans (.one ?_))) harr
      rw [← finish_atR_inRangeFunc w.heap.size v']; exact step_leave_returned k3
  | _ => rw [hev] at hvf; cases hvf

theorem setParams_len : ∀ (ps : List Tmp) (as : List LV) (T T' : Tm), setParams ps as T = some T' → as.length = ps.length
  | [], [], _, _, _ => rfl
  | p :: ps, v :: vs, T, T', h => by
    obtain ⟨T1, _, h2⟩ := ob_eq.1 (show ob (T.set p v) _ = some T' from h)
    simp [setParams_len ps vs T1 T' h2]
  | [], _ :: _, _, _, h => by cases h
  | _ :: _, [], _, _, h => by cases h
theorem setParams_sim {ρ : Rho} : ∀ (ps : List Tmp) (as : List LV) (T T' : Tm) (as' : List Value) (A : Array Value), setParams ps as T = some T' → VRs ρ as as' → TR ρ T A →
    ∃ A', A' = (ps.zip as').foldl (fun tmps (x : Tmp × Value) => tmps.setIfInBounds x.1 x.2) A ∧ TR ρ T' A'
  | [], [], T, T', as', A, h, hv, hT => by cases h; cases hv; exact ⟨A, rfl, hT⟩
  | p :: ps, v :: vs, T, T', as', A, h, hv, hT => by
    obtain ⟨T1, h1, h2⟩ := ob_eq.1 (show ob (T.set p v) _ = some T' from h)
    cases hv with
    | cons hv hvs =>
      rename_i v' vs'
      obtain ⟨A', e, hT'⟩ := setParams_sim ps vs T1 T' vs' (A.setIfInBounds p v') h2 hvs (hT.set h1 hv)
      exact ⟨A', e, hT'⟩
  | [], _ :: _, _, _, _, _, h, _, _ => by cases h
  | _ :: _, [], _, _, _, _, h, _, _ => by cases h

/-- **ONE LEVEL MORE OF THE INTERPRETER IS RIGHT** -/
theorem stepT_sim (hm : RecMono rec) (hrec : RecSim P rec) (hcall : ∀ f as m1 v m2, rec (.call f as m1) = some (.call v m2) → ∃ fn, fnOf P f = some fn) (hdraw : DrawSim P rec) : RecSim P (stepT P rec) := by
  intro t o h
  cases t with
  | code fn ro c T ms m =>
    cases o with
    | call v m' => trivial
    | code e T' ms' m' =>
    intro Pt ρ b k cs w a hb hro hT hd hrel hf
    have h : stCode P rec fn ro c T ms m = some (.code e T' ms' m') := h
    cases c with
    | skip => cases h; exact ⟨ρ, a, w, Same.refl _ _ _, hT, hd, hrel, .one stepR_skip⟩
    | label l => cases h; exact ⟨ρ, a, w, Same.refl _ _ _, hT, hd, hrel, .one stepR_label⟩
    | ret => cases h; exact ⟨ρ, a, w, Same.refl _ _ _, hT, hd, hrel, k, Steps.refl _ _⟩
    | exit id => cases h; exact ⟨ρ, a, w, Same.refl _ _ _, hT, hd, hrel, k, rfl, Steps.refl _ _⟩
    | seq x y =>
      obtain ⟨e1, T1, ms1, m1, h1, h2⟩ := outCode_eq.1 (show outCode _ _ = some _ from h)
      have n1 : m.next ≤ m1.next := hm _ _ h1
      cases e1 with
      | norm =>
        have h2 : rec (.code fn ro y T1 ms1 m1) = some (.code e T' ms' m') := h2
        have n2 : m1.next ≤ m'.next := hm _ _ h2
        obtain ⟨ρ1, a1, w1, hs1, hT1, hd1, hr1, harr1⟩ := hrec _ _ h1 Pt ρ b (Item.code y :: k) cs w a hb hro hT hd hrel (hf.left n2)
        obtain ⟨ρ2, a2, w2, hs2, hT2, hd2, hr2, harr2⟩ := hrec _ _ h2 Pt ρ1 b k cs w1 a1 hb (hro.mono hs1.1) hT1 hd1 hr1 (hf.right hs1 n1)
        exact ⟨ρ2, a2, w2, hs1.trans hs2 n1 n2, hT2, hd2, hr2, .of_steps (.head stepR_seq harr1) harr2⟩
      | ret =>
        cases h2
        obtain ⟨ρ1, a1, w1, hs1, hT1, hd1, hr1, k1, harr1⟩ := hrec _ _ h1 Pt ρ b (Item.code y :: k) cs w a hb hro hT hd hrel hf
        exact ⟨ρ1, a1, w1, hs1, hT1, hd1, hr1, k1, .head stepR_seq harr1⟩
      | exit id =>
        cases h2
        obtain ⟨ρ1, a1, w1, hs1, hT1, hd1, hr1, k1, hk, harr1⟩ := hrec _ _ h1 Pt ρ b (Item.code y :: k) cs w a hb hro hT hd hrel hf
        exact ⟨ρ1, a1, w1, hs1, hT1, hd1, hr1, k1, hk, .head stepR_seq harr1⟩
    | cond x y z =>
      obtain ⟨v, hv, h1⟩ := ob_eq.1 (show ob (ev T x) _ = some _ from h)
      obtain ⟨c, rfl, h2⟩ := asBool_eq.1 h1
      have hx := (ev_sim hT hv).bool_inv
      cases c with
      | true =>
        obtain ⟨ρ1, a1, w1, hs1, hT1, hd1, hr1, harr1⟩ := hrec (.code fn ro y T ms m) _ h2 Pt ρ b k cs w a hb hro hT hd hrel hf
        exact ⟨ρ1, a1, w1, hs1, hT1, hd1, hr1, .of_steps (.one (stepR_cond hx)) harr1⟩
      | false =>
        obtain ⟨ρ1, a1, w1, hs1, hT1, hd1, hr1, harr1⟩ := hrec (.code fn ro z T ms m) _ h2 Pt ρ b k cs w a hb hro hT hd hrel hf
        exact ⟨ρ1, a1, w1, hs1, hT1, hd1, hr1, .of_steps (.one (stepR_cond hx)) harr1⟩
    | block id x =>
      obtain ⟨e1, T1, ms1, m1, h1, h2⟩ := outCode_eq.1 (show outCode _ _ = some _ from h)
      have key : m1 = m' → ∃ ρ' a' w', Same ρ ρ' m.next m'.next ∧ TR ρ' T1 a'.tmps ∧ DR ρ' ms1 a'.defers ∧ Rel Pt ρ' m1 w' ∧ Arr P (lone (b.atR a (Item.code x :: Item.inBlock id :: k)) cs w) b (Item.inBlock id :: k) cs e1 a' w' := by
        intro e; subst e
        exact hrec _ _ h1 Pt ρ b (.inBlock id :: k) cs w a hb hro hT hd hrel hf
      cases e1 with
      | norm =>
        cases h2
        obtain ⟨ρ1, a1, w1, hs1, hT1, hd1, hr1, harr1⟩ := key rfl
        exact ⟨ρ1, a1, w1, hs1, hT1, hd1, hr1, .head stepR_block (Steps.trans harr1 (.one stepR_inBlock))⟩
      | ret =>
        cases h2
        obtain ⟨ρ1, a1, w1, hs1, hT1, hd1, hr1, k1, harr1⟩ := key rfl
        exact ⟨ρ1, a1, w1, hs1, hT1, hd1, hr1, k1, .head stepR_block harr1⟩
      | exit id' =>
        have h2 : ifb (Nat.beq id' id) (some (Out.code .norm T1 ms1 m1)) (some (Out.code (.exit id') T1 ms1 m1)) = some (Out.code e T' ms' m') := h2
        cases hi : Nat.beq id' id with
        | true =>
          rw [hi] at h2; cases h2
          have hi := Nat.eq_of_beq_eq_true hi
          subst hi
          obtain ⟨ρ1, a1, w1, hs1, hT1, hd1, hr1, k1, hk, harr1⟩ := key rfl
          exact ⟨ρ1, a1, w1, hs1, hT1, hd1, hr1, .head stepR_block (Steps.trans harr1 (.one (stepR_exit (by rw [hk]; simp [exitTo]))))⟩
        | false =>
          rw [hi] at h2; cases h2
          obtain ⟨ρ1, a1, w1, hs1, hT1, hd1, hr1, k1, hk, harr1⟩ := key rfl
          have hne : (id == id') = false := by
            rw [beq_eq_false_iff_ne]; intro e; subst e; rw [Nat.beq_refl] at hi; cases hi
          exact ⟨ρ1, a1, w1, hs1, hT1, hd1, hr1, k1, by rw [hk]; simp [exitTo, hne], .head stepR_block harr1⟩
    | scope x =>
      obtain ⟨ρ1, a1, w1, hs1, hT1, hd1, hr1, harr1⟩ := hrec (.code fn ro x T ms m) _ h Pt ρ b (.inScope x :: k) cs w a hb hro hT hd hrel hf
      have s0 : step P (lone (b.atR a (.code (.scope x) :: k)) cs w) = .next (lone (b.atR a (.code x :: .inScope x :: k)) cs w) := step_lone_go (by simp [stepG, stepG.exec, Frame.atR])
      have s1 : step P (lone (b.atR a1 (.inScope x :: k)) cs w1) = .next (lone (b.atR a1 k) cs w1) := step_lone_go (by simp [stepG, stepG.exec, Frame.atR])
      refine ⟨ρ1, a1, w1, hs1, hT1, hd1, hr1, ?_⟩
      cases e with
      | norm => exact .head s0 (Steps.trans harr1 (.one s1))
      | ret => obtain ⟨k1, harr1⟩ := harr1; exact ⟨k1, .head s0 harr1⟩
      | exit id => obtain ⟨k1, hk, harr1⟩ := harr1; exact ⟨k1, hk, .head s0 harr1⟩
    | loop x =>
      obtain ⟨e1, T1, ms1, m1, h1, h2⟩ := outCode_eq.1 (show outCode _ _ = some _ from h)
      have n1 : m.next ≤ m1.next := hm _ _ h1
      cases e1 with
      | norm =>
        have h2 : rec (.code fn ro (.loop x) T1 ms1 m1) = some (.code e T' ms' m') := h2
        have n2 : m1.next ≤ m'.next := hm _ _ h2
        obtain ⟨ρ1, a1, w1, hs1, hT1, hd1, hr1, harr1⟩ := hrec _ _ h1 Pt ρ b (.inLoop x :: k) cs w a hb hro hT hd hrel (hf.left n2)
        obtain ⟨ρ2, a2, w2, hs2, hT2, hd2, hr2, harr2⟩ := hrec _ _ h2 Pt ρ1 b k cs w1 a1 hb (hro.mono hs1.1) hT1 hd1 hr1 (hf.right hs1 n1)
        refine ⟨ρ2, a2, w2, hs1.trans hs2 n1 n2, hT2, hd2, hr2, ?_⟩
        -- the rounds that follow: from '.inLoop' as from the statement itself
        have s1 : step P (lone (b.atR a1 (.inLoop x :: k)) cs w1) = .next (lone (b.atR a1 (.code x :: .inLoop x :: k)) cs w1) := stepR_inLoop
        have s2 : step P (lone (b.atR a1 (.code (.loop x) :: k)) cs w1) = .next (lone (b.atR a1 (.code x :: .inLoop x :: k)) cs w1) := stepR_loop
        have pre : Steps P (lone (b.atR a (.code (.loop x) :: k)) cs w) (lone (b.atR a1 (.code x :: .inLoop x :: k)) cs w1) := .head stepR_loop (Steps.trans harr1 (.one s1))
        exact Arr.of_loop pre s2 harr2
      | ret =>
        cases h2
        obtain ⟨ρ1, a1, w1, hs1, hT1, hd1, hr1, k1, harr1⟩ := hrec _ _ h1 Pt ρ b (.inLoop x :: k) cs w a hb hro hT hd hrel hf
        exact ⟨ρ1, a1, w1, hs1, hT1, hd1, hr1, k1, .head stepR_loop harr1⟩
      | exit id =>
        cases h2
        obtain ⟨ρ1, a1, w1, hs1, hT1, hd1, hr1, k1, hk, harr1⟩ := hrec _ _ h1 Pt ρ b (.inLoop x :: k) cs w a hb hro hT hd hrel hf
        exact ⟨ρ1, a1, w1, hs1, hT1, hd1, hr1, k1, hk, .head stepR_loop harr1⟩
    | region id ops dr =>
      cases dr with
      | false =>
        obtain ⟨⟨T1, m1⟩, h1, h2⟩ := ob_eq.1 (show ob (opsRun P rec ops.toList ops.toList T m) _ = some _ from h)
        cases h2
        obtain ⟨ρ1, a1, w1, hs1, hT1, hd1, hr1, hst⟩ := opsRun_sim hm hrec hcall ops.toList 0 T T' m m' (fun j => by simp) h1 Pt ρ b k cs w a hT hrel hf
        refine ⟨ρ1, a1, w1, hs1, hT1, by rw [hd1]; exact hd.mono hs1.1, hr1, .head stepR_region ?_⟩
        rw [List.range_eq_range', show ops.size = ops.toList.length from by simp]
        exact hst
      | true =>
        obtain ⟨hok, h0⟩ := guard'_eq.1 (show guard' (regionOk ops) _ = some _ from h)
        obtain ⟨d, h1, h2⟩ := ob_eq.1 h0
        obtain ⟨T1, m1, st, kk, ps⟩ := d
        obtain ⟨hp, h3⟩ := guard'_eq.1 (show guard' _ _ = some _ from h2)
        cases h3
        obtain ⟨ρ1, a1, w1, hs1, hT1, hd1, hr1, hst⟩ := hdraw ops T T' m m' st kk ps hok h1 hp Pt ρ b id k cs w a hT hrel hf
        exact ⟨ρ1, a1, w1, hs1, hT1, by rw [hd1]; exact hd.mono hs1.1, hr1, hst⟩
    | rangeFunc f ps as bd =>
      have h : cRangeFunc rec fn ro f ps as bd T ms m = some (.code e T' ms' m') := h
      cases ro with
      | none =>
        have hrb : b.roundOf = none := by
          cases hb2 : b.roundOf with
          | none => rfl
          | some _ => rw [hb2] at hro; exact hro.elim
        have h : m.new .defr (fun d m => rfCall rec fn none f ps as bd d T (d :: ms) m) = some (.code e T' ms' m') := h
        rw [Mem.new_eq] at h
        have n1 : m.next + 1 ≤ m'.next := rfCall_next hm h
        have hf0 : ρ m.next = none := hf _ (Nat.le_refl _) (by omega)
        have hs1 := Same.upd1 (ρ := ρ) (i := m.next) (x := (w.heap.size, 0, 0)) hf0
        have hrel1 := hrel.alloc hf0 (lb := .defr) (o := .deferred (some [])) (c := 0) rfl rfl
        obtain ⟨ρ2, a2, w2, hs2, hT2, hd2, hr2, harr⟩ := rfCall_sim (b := b) (k := k) (cs := cs) (a := a) (w0 := w) (mark := [{ target := .collected w.heap.size, args := #[] }]) hm hrec hcall h (upd1_self _ _ _) hb (by rw [hrb]; trivial) (hT.mono hs1.1)
          ⟨⟨w.heap.size, 0, 0, upd1_self _ _ _, rfl⟩, hd.mono hs1.1⟩ hrel1 (hf.right hs1 (Nat.le_succ _)) (by rw [hrb]; simp [Instr.enterLoop]; rfl)
        exact ⟨ρ2, a2, w2, hs1.trans hs2 (Nat.le_succ _) n1, hT2, hd2, hr2, harr⟩
      | some l =>
        obtain ⟨st, pend, fn', tm', ps', a', b', d', hg, h1⟩ := atLoop_get (show atLoop m l _ = some _ from h)
        cases hrb : b.roundOf with
        | none => rw [hrb] at hro; exact hro.elim
        | some bl =>
          have hro0 := hro
          rw [hrb] at hro
          obtain ⟨s, c, hρ⟩ := hro
          obtain ⟨TT, db, hh, hTT, s2, c2, hdd⟩ := hrel.loop hg hρ
          exact rfCall_sim (b := b) (k := k) (cs := cs) (a := a) (w0 := w) (mark := []) hm hrec hcall h1 hdd hb hro0 hT hd hrel hf (by
            rw [hrb]
            unfold Instr.enterLoop Instr.getLoop
            simp only [Sem.run_bind, getObj_run hh (by simp), Result.andThen_ok, Sem.run_pure]
            rfl)
    | _ => cases h
  | call f as m =>
    cases o with
    | code e T' ms' m' => trivial
    | call v m' =>
    intro Pt ρ w as' cs has hrel hf
    obtain ⟨fn, hfn, h1⟩ := ob_eq.1 (show stCall P rec f as m = some _ from h)
    obtain ⟨T, hT, h2⟩ := ob_eq.1 h1
    obtain ⟨c, hc, h3⟩ := ob_eq.1 h2
    obtain ⟨e, T1, ms1, m1, h4, h5⟩ := outCode_eq.1 h3
    obtain ⟨fn', hg, hx3⟩ := ob_eq.1 hfn
    obtain ⟨_, hx4⟩ := guard'_eq.1 hx3
    obtain ⟨_, hx5⟩ := guard'_eq.1 hx4
    cases hx5
    have hend : callEnd P fn T1 ms1 m1 = some (.call v m') ∧ (e = .norm ∨ e = .ret) := by
      cases e with
      | norm => exact ⟨h5, .inl rfl⟩
      | ret => exact ⟨h5, .inr rfl⟩
      | exit id => cases h5
    obtain ⟨hend, he⟩ := hend
    obtain ⟨m2, h6, h7⟩ := ob_eq.1 hend
    obtain ⟨vs, h8, h9⟩ := ob_eq.1 h7
    cases h9
    have hn : m'.next = m1.next := takeMarks_next _ _ _ h6
    let b : Frame := { fn := f, tmps := #[], todo := [], defers := [], mode := .run, kind := .normal, roundOf := none }
    have henter : Frame.enter P f as' .normal = b.atR { tmps := as' ++ Array.replicate (fn.ntmps - as'.size) undef, defers := [] } [.code c] := by
      simp [Frame.enter, Frame.atR, hg, hc, b]
    obtain ⟨ρ1, a1, w1, hs1, hT1, hd1, hr1, harr⟩ := hrec _ _ h4 Pt ρ b [] cs w { tmps := as' ++ Array.replicate (fn.ntmps - as'.size) undef, defers := [] } rfl trivial (ofList_sim hT has) trivial hrel (by rw [← hn]; exact hf)
    have hret : ∃ k1, Steps P (lone (Frame.enter P f as' .normal) cs w) (lone { b.atR a1 k1 with mode := .returning } cs w1) := by
      rw [henter]
      rcases he with rfl | rfl
      · exact ⟨[], Steps.trans harr (.one (stepR_end rfl))⟩
      · obtain ⟨k1, harr⟩ := harr
        exact ⟨_, harr.trans (.one (stepR_ret rfl))⟩
    obtain ⟨k1, hst⟩ := hret
    obtain ⟨w2, hr2, hst2⟩ := takeMarks_sim (P := P) b rfl k1 cs ms1 a1.defers ρ1 m1 m' w1 a1.tmps h6 hd1 hr1
    obtain ⟨vs', hres, hvs⟩ := results_sim hT1 hr2 fn.results.toList vs h8
    refine ⟨ρ1, (if h : vs'.toArray.size = 1 then vs'.toArray[0] else .tuple vs'.toArray), w2, by rw [hn]; exact hs1, packed_sim (by simpa using hvs), hr2, _, hst.trans hst2, rfl, rfl, rfl, rfl, fn, hg, ?_⟩
    show (results fn a1.tmps).run P w2 = _
    unfold results
    rw [Sem.run_bind]
    have hF : (fun r => match r with
      | .tmp t => pure (a1.tmps.getD t undef)
      | .cell a t => do loadVar t (← asAddr (a1.tmps.getD a undef)) : ResultVar → Sem Value) = resF a1.tmps := by
      funext r; cases r <;> rfl
    have : (fn.results.mapM (resF a1.tmps)).run P w2 = .ok vs'.toArray w2 := by
      rw [Array.mapM_eq_mapM_toList, Sem.run_map, hres]; rfl
    rw [← hF] at this
    refine (congrArg (fun x => Result.andThen x _) this).trans ?_
    rfl
  | round l as m =>
    cases o with
    | code e T' ms' m' => trivial
    | call v m' =>
    intro Pt ρ w as' bl s c fc cs hρ has hrel hf
    obtain ⟨st, pend, fn, tm, ps, assign, body, d, hg, h1⟩ := atLoop_get (show stRound rec l as m = some _ from h)
    obtain ⟨rfl, h2⟩ := ready_eq h1
    obtain ⟨T, hT, h3⟩ := ob_eq.1 h2
    obtain ⟨e, T1, ms1, m1, h4, h5⟩ := outCode_eq.1 h3
    obtain ⟨rfl, h6⟩ := isNorm_eq h5
    obtain ⟨st2, pend2, fn2, tm2, ps2, as2, bd2, d2, hg2, h7⟩ := atLoop_get h6
    obtain ⟨rfl, h8⟩ := ready_eq h7
    obtain ⟨e3, T3, ms3, m3, h9, h10⟩ := outCode_eq.1 h8
    obtain ⟨st4, pend4, fn4, tm4, ps4, as4, bd4, d4, hg4, h11⟩ := atLoop_get h10
    obtain ⟨TT, db, hh, hTT, hdd⟩ := hrel.loop hg hρ
    have hm'n : m'.next = m3.next := by
      cases e3 with
      | norm => cases h11; exact Mem.next_upd _ _ _
      | ret => cases h11; exact Mem.next_upd _ _ _
      | exit id => cases h11; exact Mem.next_upd _ _ _
    have n1 : m.next ≤ m1.next := hm _ _ h4
    have n2 : m1.next ≤ m3.next := by
      have : (m1.upd l (some (.loop .busy pend2 fn2 tm2 ps2 as2 bd2 d2))).next ≤ m3.next := hm _ _ h9
      rw [Mem.next_upd] at this; exact this
    rw [hm'n] at hf
    obtain ⟨tmps', hset, hT'⟩ := setParams_sim ps as tm T as'.toList TT hT has hTT
    let b : Frame := { fn := fn, tmps := #[], todo := [], defers := [], mode := .run, kind := .normal, roundOf := some bl }
    obtain ⟨ρ1, a1, w1, hs1, hT1, hd1, hr1, harr1⟩ := hrec _ _ h4 Pt ρ b [.beginRound, .code body] (fc :: cs) w { tmps := tmps', defers := [] } rfl ⟨s, c, hρ⟩ hT' trivial hrel (hf.left n2)
    have hρ1 := hs1.1 _ _ hρ
    obtain ⟨TT2, db2, hh2, hTT2, hdd2⟩ := hr1.loop hg2 hρ1
    have hbl1 : bl < w1.heap.size := (Array.getElem?_eq_some_iff.1 hh2).1
    have hr1' := hr1.turnLoop (st' := .busy) (pend' := pend2) hg2 hρ1 hTT2 hdd2 hbl1
    have hbegin : (Instr.beginRound bl).run P w1 = .ok () { w1 with heap := w1.heap.setIfInBounds bl (.loop { state := .busy, pending := pend2, fn := fn2, tmps := TT2, params := ps2.toArray, assign := as2, body := bd2, defers := db2 }) } := by
      unfold Instr.beginRound Instr.getLoop
      simp only [Sem.run_bind, getObj_run hh2 (by simp), Result.andThen_ok, Sem.run_pure, setObj_run hh2 (by simp)]
    obtain ⟨ρ3, a3, w3, hs3, hT3, hd3, hr3, harr3⟩ := hrec _ _ h9 Pt ρ1 b [] (fc :: cs) _ a1 rfl ⟨s, c, hρ1⟩ hT1 hd1 hr1' (by rw [Mem.next_upd]; exact hf.right hs1 n1)
    rw [Mem.next_upd] at hs3
    have hρ3 := hs3.1 _ _ hρ1
    obtain ⟨TT4, db4, hh4, hTT4, hdd4⟩ := hr3.loop hg4 hρ3
    have hbl3 : bl < w3.heap.size := (Array.getElem?_eq_some_iff.1 hh4).1
    have hendR : ∀ jump : Option Code, (Instr.endRound bl jump).run P w3 = .ok (.bool jump.isNone) { w3 with heap := w3.heap.setIfInBounds bl (.loop { state := if jump.isNone then .ready else .done, pending := jump, fn := fn4, tmps := TT4, params := ps4.toArray, assign := as4, body := bd4, defers := db4 }) } := by
      intro jump
      unfold Instr.endRound Instr.getLoop
      simp only [Sem.run_bind, getObj_run hh4 (by simp), Result.andThen_ok, Sem.run_pure, setObj_run hh4 (by simp)]
    have hyield : (Instr.yield bl as').run P w = .ok (.round bl fn tmps' assign body) w := by
      unfold Instr.yield Instr.getLoop
      simp only [Sem.run_bind, getObj_run hh (by simp), Result.andThen_ok, Sem.run_pure]
      have hl : as'.size = ps.toArray.size := by
        have := has.length
        have h2 := setParams_len ps as tm T hT
        simp at this ⊢; omega
      simp only [hl, ne_eq, not_true_eq_false, if_false, Sem.run_pure]
      rw [hset, ← Array.foldl_toList, Array.toList_zip]
    have hround : Frame.round bl fn tmps' assign body .normal = b.atR { tmps := tmps', defers := [] } [.code assign, .beginRound, .code body] := by
      simp [Frame.round, Frame.atR, b]
    have s12 : Steps P (lone (Frame.round bl fn tmps' assign body .normal) (fc :: cs) w) (lone (b.atR a1 [.code body]) (fc :: cs) { w1 with heap := w1.heap.setIfInBounds bl (.loop { state := .busy, pending := pend2, fn := fn2, tmps := TT2, params := ps2.toArray, assign := as2, body := bd2, defers := db2 }) }) := by
      rw [hround]
      exact Steps.trans harr1 (.one (stepR_beginRound rfl hbegin))
    have hs13 := hs1.trans hs3 n1 n2
    cases e3 with
    | norm =>
      cases h11
      refine ⟨ρ3, .bool true, _, by rw [Mem.next_upd]; exact hs13, .bool _, hr3.turnLoop (st' := .ready) (pend' := none) hg4 hρ3 hTT4 hdd4 hbl3, fn, tmps', assign, body, hyield, ?_⟩
      exact s12.trans (Steps.trans harr3 (.one (stepR_round_end rfl rfl (hendR none))))
    | ret =>
      cases h11
      obtain ⟨k1, harr3⟩ := harr3
      refine ⟨ρ3, .bool false, _, by rw [Mem.next_upd]; exact hs13, .bool _, hr3.turnLoop (st' := .done) (pend' := some .ret) hg4 hρ3 hTT4 hdd4 hbl3, fn, tmps', assign, body, hyield, ?_⟩
      exact s12.trans (Steps.trans harr3 (.one (stepR_round_ret rfl rfl (hendR (some .ret)))))
    | exit id =>
      cases h11
      obtain ⟨k1, hk, harr3⟩ := harr3
      refine ⟨ρ3, .bool false, _, by rw [Mem.next_upd]; exact hs13, .bool _, hr3.turnLoop (st' := .done) (pend' := some (.exit id)) hg4 hρ3 hTT4 hdd4 hbl3, fn, tmps', assign, body, hyield, ?_⟩
      exact s12.trans (Steps.trans harr3 (.one (stepR_round_exit rfl rfl (by rw [hk]; rfl) (hendR (some (.exit id))))))

theorem fnOf_of_run : ∀ (n : Nat) f as m v m2, run P n (.call f as m) = some (.call v m2) → ∃ fn, fnOf P f = some fn
  | 0, _, _, _, _, _, h => by cases h
  | n + 1, f, as, m, v, m2, h => by
    obtain ⟨fn, hfn, _⟩ := ob_eq.1 (show stCall P (run P n) f as m = some _ from h)
    exact ⟨fn, hfn⟩
end
end PvL
