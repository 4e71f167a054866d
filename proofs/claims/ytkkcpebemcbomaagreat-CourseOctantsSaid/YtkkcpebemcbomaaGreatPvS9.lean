/-
  Part of the proof that what the interpreter of YtkkcpebemcbomaaGreatPvL yields, the model's machine comes to. No condition.
-/
import Derived.Test.YtkkcpebemcbomaaGreatPvS8
namespace PvL
open Go

section
variable {P : Program} {rec : Task → Option Out} {ops : Array Oper} {D : Nat → DS}

theorem mv_step {T T' : Tm} {m m' : Mem} {op : Op} {d : Option Tmp} (hc : cls op = .mover) (h : OpStep P rec T m op d T' m') :
    ∃ v, op1 P op T m = some (.val v m) ∧ T.put d v = some T' ∧ m' = m := by
  obtain ⟨X, hX, _⟩ := op1_mv (P := P) (T := T) op hc
  have key : ∀ r, op1 P op T m = some r → ∃ v, r = .val v m := fun r hr => by
    rw [hX m] at hr
    obtain ⟨v, _, hv⟩ := ob_eq.1 hr
    exact ⟨v, (Option.some.inj hv).symm⟩
  cases h with
  | val h hp => obtain ⟨v, e⟩ := key _ h; cases e; exact ⟨_, h, hp, rfl⟩
  | skip h hp => obtain ⟨v, e⟩ := key _ h; cases e
  | enter h hr hp => obtain ⟨v, e⟩ := key _ h; cases e
  | round h hr hp => obtain ⟨v, e⟩ := key _ h; cases e
theorem new_step {T T' : Tm} {m m' : Mem} {op : Op} {d : Option Tmp} (hc : cls op = .new) (h : OpStep P rec T m op d T' m') :
    ∃ v lb, T.put d v = some T' ∧ m' = m.push lb ∧ isRo lb = false ∧ ∀ M : Mem, M.next = m.next → op1 P op T M = some (.val v (M.push lb)) := by
  cases h with
  | val h hp => obtain ⟨v, lb, e, h1, h2⟩ := op1_new op hc h; cases e; exact ⟨_, lb, hp, rfl, h1, h2⟩
  | skip h hp => obtain ⟨v, lb, e, _⟩ := op1_new op hc h; cases e
  | enter h hr hp => obtain ⟨v, lb, e, _⟩ := op1_new op hc h; cases e
  | round h hr hp => obtain ⟨v, lb, e, _⟩ := op1_new op hc h; cases e

theorem DStep.mem {all : List Oper} {ds : List Nat} {o : Oper} {i : Nat} {s s' : DS} (h : DStep P rec all ds o i s s') (ha : isAnchor o.op = false) :
    s'.m = s.m ∨ (isNew o.op = true ∧ ∃ lb, isRo lb = false ∧ s'.m = s.m.push lb) := by
  cases h with
  | mover hw h hc => obtain ⟨_, _, _, e⟩ := mv_step hc h; exact .inl e
  | new hw h hc => obtain ⟨v, lb, _, e, hr, _⟩ := new_step hc h; exact .inr ⟨by simp [isNew, hc], lb, hr, e⟩
  | anchor hw h hc => simp [isAnchor, hc] at ha
  | offA hw h hc => simp [isAnchor, hc] at ha
  | off hw h hc => exact .inl rfl
structure Tr (P : Program) (rec : Task → Option Out) (ops : Array Oper) (D : Nat → DS) : Prop where
  ok : RegOk ops
  mono : RecMono rec
  step : ∀ j o, ops[j]? = some o → DStep P rec ops.toList (deps ops) o j (D j) (D (j + 1))
  st0 : (D 0).st = [(D 0).m]
  k0 : (D 0).k = 0
  pend : pendAll P (D ops.size).st (D ops.size).k (D ops.size).ps = true

theorem Tr.at_ (h : Tr P rec ops D) {j : Nat} (hj : j < ops.size) : ∃ o, ops[j]? = some o ∧ DStep P rec ops.toList (deps ops) o j (D j) (D (j + 1)) :=
  ⟨ops[j], Array.getElem?_eq_getElem hj, h.step j _ (Array.getElem?_eq_getElem hj)⟩
theorem lt_of_at {j : Nat} {o : Oper} (h : ops[j]? = some o) : j < ops.size := (Array.getElem?_eq_some_iff.1 h).1

theorem Tr.size (h : Tr P rec ops D) : ∀ j, j ≤ ops.size → (D j).T.size = (D 0).T.size
  | 0, _ => rfl
  | j + 1, hj => by
    obtain ⟨o, _, hs⟩ := h.at_ (j := j) (by omega)
    rw [hs.facts.1.1, h.size j (by omega)]
theorem Tr.before (h : Tr P rec ops D) {t : Tmp} : ∀ j, j ≤ ops.size → (∀ i o, i < j → ops[i]? = some o → o.dst ≠ some t) → (D j).T.get t = (D 0).T.get t
  | 0, _, _ => rfl
  | j + 1, hj, hn => by
    obtain ⟨o, ho, hs⟩ := h.at_ (j := j) (by omega)
    rw [hs.facts.1.2 t (hn j o (by omega) ho), h.before j (by omega) fun i o hi => hn i o (by omega)]
theorem Tr.after (h : Tr P rec ops D) {t : Tmp} : ∀ (d j : Nat), j + d = ops.size → (∀ i o, j ≤ i → ops[i]? = some o → o.dst ≠ some t) → (D ops.size).T.get t = (D j).T.get t
  | 0, j, e, _ => by rw [← e]; rfl
  | d + 1, j, e, hn => by
    obtain ⟨o, ho, hs⟩ := h.at_ (j := j) (by omega)
    rw [h.after d (j + 1) (by omega) fun i o hi => hn i o (by omega), hs.facts.1.2 t (hn j o (by omega) ho)]
theorem Tr.next (h : Tr P rec ops D) : ∀ (d i : Nat), i + d ≤ ops.size → (D i).m.next ≤ (D (i + d)).m.next
  | 0, _, _ => Nat.le_refl _
  | d + 1, i, hj => by
    obtain ⟨o, _, hs⟩ := h.at_ (j := i + d) (by omega)
    exact Nat.le_trans (h.next d i (by omega)) (hs.next h.mono)
theorem Tr.cnt (h : Tr P rec ops D) : ∀ j, j ≤ ops.size → (D j).k = acnt (fun x => Nat.blt x j) ops.toList 0
  | 0, _ => by
    rw [h.k0, acnt_congr (q := fun _ => false), acnt_false]
    intro j o _ _
    cases hb : Nat.blt (0 + j) 0 with
    | false => rfl
    | true => rw [Nat.blt_eq] at hb; omega
  | j + 1, hj => by
    obtain ⟨o, ho, hs⟩ := h.at_ (j := j) (by omega)
    rw [hs.facts.2.1, h.cnt j (by omega), acnt_succ j ops.toList 0 j o (by omega) (by simpa using ho)]
theorem Tr.stk (h : Tr P rec ops D) : ∀ (d j : Nat), j + d = ops.size → ∃ pre, (D ops.size).st = pre ++ (D j).st ∧ pre.length + (D j).k = (D ops.size).k
  | 0, j, e => by rw [← e]; exact ⟨[], rfl, by simp⟩
  | d + 1, j, e => by
    obtain ⟨o, ho, hs⟩ := h.at_ (j := j) (by omega)
    obtain ⟨pre, h1, h2⟩ := h.stk d (j + 1) (by omega)
    obtain ⟨_, h3, h4, _⟩ := hs.facts
    cases ha : isAnchor o.op with
    | true =>
      rw [ha] at h4 h3
      have h4 : (D (j + 1)).st = (D (j + 1)).m :: (D j).st := h4
      have h3 : (D (j + 1)).k = (D j).k + 1 := h3
      exact ⟨pre ++ [(D (j + 1)).m], by rw [h1, h4]; simp, by simp; omega⟩
    | false =>
      rw [ha] at h4 h3
      have h4 : (D (j + 1)).st = (D j).st := h4
      have h3 : (D (j + 1)).k = (D j).k + 0 := h3
      exact ⟨pre, by rw [h1, h4], by omega⟩
theorem Tr.pss (h : Tr P rec ops D) : ∀ (d j : Nat), j + d = ops.size → ∃ pre, (D ops.size).ps = pre ++ (D j).ps
  | 0, j, e => by rw [← e]; exact ⟨[], rfl⟩
  | d + 1, j, e => by
    obtain ⟨o, ho, hs⟩ := h.at_ (j := j) (by omega)
    obtain ⟨pre, h1⟩ := h.pss d (j + 1) (by omega)
    obtain ⟨_, _, _, p2, h4⟩ := hs.facts
    exact ⟨pre ++ p2, by rw [h1, h4]; simp⟩
/-- the place behind the last anchor that has run -/
def AtEnd (ops : Array Oper) (q : Nat) : Prop := q = 0 ∨ ∃ o, ops[q - 1]? = some o ∧ isAnchor o.op = true ∧ 0 < q
theorem Tr.head (h : Tr P rec ops D) {q : Nat} (hq : AtEnd ops q) : ∃ l, (D q).st = (D q).m :: l := by
  rcases hq with rfl | ⟨o, ho, ha, hp⟩
  · exact ⟨[], h.st0⟩
  · have hs := (h.step (q - 1) o ho).facts.2.2.1
    rw [ha, show q - 1 + 1 = q by omega] at hs
    exact ⟨_, hs⟩

/-- a look that was asked for, at the stage it may run at -/
theorem Tr.looked (h : Tr P rec ops D) {q j : Nat} (hq : AtEnd ops q) (hqn : q ≤ ops.size) (hj : j < ops.size) {p : Pend} (hp : p ∈ (D (j + 1)).ps)
    (hlo : p.lo ≤ (D q).k) (hhi : (D q).k ≤ p.hi) : pendHere P p (D q).m = true := by
  obtain ⟨l, hl⟩ := h.head hq
  obtain ⟨pre, h1, h2⟩ := h.stk (ops.size - q) q (by omega)
  obtain ⟨pp, h3⟩ := h.pss (ops.size - (j + 1)) (j + 1) (by omega)
  have := pendAll_spec _ h.pend p (by rw [h3]; exact List.mem_append_right _ hp)
  rw [h1, hl] at this
  exact pendAt_spec pre _ l _ this (by omega) (by omega) (by omega)

variable {Pt : Prot} {ρ0 : Rho}
/-- blocks made ahead of their time -/
def News (ops : Array Oper) (D : Nat → DS) (L : Array Bool) (q : Nat) (Pt Pt' : Prot) (ρ : Rho) : Prop :=
  ∀ i o lb, ops[i]? = some o → L.getD i false = true → q ≤ i → isNew o.op = true → (D (i + 1)).m = (D i).m.push lb →
    ∃ b s c ob, ρ (D i).m.next = some (b, s, c) ∧ BR ρ lb ob s c ∧ Pt' b = some ob ∧ Pt b = none
def Dist (ops : Array Oper) (D : Nat → DS) (L : Array Bool) (q : Nat) (ρ : Rho) : Prop :=
  ∀ i i' o o' lb lb' x x', ops[i]? = some o → ops[i']? = some o' → L.getD i false = true → L.getD i' false = true → q ≤ i → q ≤ i' → isNew o.op = true → isNew o'.op = true →
    (D (i + 1)).m = (D i).m.push lb → (D (i' + 1)).m = (D i').m.push lb' → i ≠ i' → ρ (D i).m.next = some x → ρ (D i').m.next = some x' → x.1 ≠ x'.1

structure Inv (ops : Array Oper) (D : Nat → DS) (Pt : Prot) (ρ0 : Rho) (df : List Deferred) (L : Array Bool) (q : Nat) (U : Tm) (Pt' : Prot) (ρ : Rho) (w : World) (a : Act) : Prop where
  sizeL : L.size = ops.size
  qn : q ≤ ops.size
  hq : AtEnd ops q
  anch : ∀ i o, ops[i]? = some o → isAnchor o.op = true → (L.getD i false = true ↔ i < q)
  down : ∀ j o, ops[j]? = some o → L.getD j false = true → ∀ e ∈ o.after, Region.binds .any e = true → L.getD e.on false = true
  sz : U.size = (D 0).T.size
  tmp : ∀ (i : Nat) (o : Oper) (d : Tmp), ops[i]? = some o → o.dst = some d → U.get d = if L.getD i false = true then (D ops.size).T.get d else (D 0).T.get d
  tmp0 : ∀ (d : Tmp), (∀ (i : Nat) (o : Oper), ops[i]? = some o → o.dst ≠ some d) → U.get d = (D 0).T.get d
  hT : TR ρ U a.tmps
  hd : a.defers = df
  rel : Rel Pt' ρ (D q).m w
  le : Pt.Le Pt'
  news : News ops D L q Pt Pt' ρ
  dist : Dist ops D L q ρ
  fresh : ∀ i, i < ops.size → L.getD i false = false → Fresh ρ (D i).m.next (D (i + 1)).m.next
  same : Same ρ0 ρ (D 0).m.next (D ops.size).m.next

/-- all that was made ahead of place j, taken in -/
theorem Inv.adopt (h : Tr P rec ops D) {df : List Deferred} {L : Array Bool} {q : Nat} {U : Tm} {Pt' : Prot} {ρ : Rho} {w : World} {a : Act} (hi : Inv ops D Pt ρ0 df L q U Pt' ρ w a) :
    ∀ (d : Nat), q + d ≤ ops.size → (∀ i o, q ≤ i → i < q + d → ops[i]? = some o → (isNew o.op = true → L.getD i false = true) ∧ isAnchor o.op = false) →
      ∃ Pt'', Rel Pt'' ρ (D (q + d)).m w ∧ Pt.Le Pt'' ∧ News ops D L (q + d) Pt Pt'' ρ
  | 0, _, _ => ⟨Pt', hi.rel, hi.le, hi.news⟩
  | d + 1, hn, hc => by
    obtain ⟨P1, h1, h2, h3⟩ := hi.adopt h d (by omega) fun i o a b => hc i o a (by omega)
    obtain ⟨o, ho, hs⟩ := h.at_ (j := q + d) (by omega)
    obtain ⟨hnew, hna⟩ := hc (q + d) o (by omega) (by omega) ho
    rcases hs.mem hna with e | ⟨hk, lb, hro, e⟩
    · refine ⟨P1, ?_, h2, fun i o lb g1 g2 g3 => h3 i o lb g1 g2 (by omega)⟩
      show Rel P1 ρ (D (q + d + 1)).m w
      rw [e]; exact h1
    · obtain ⟨b, s, c, ob, k1, k2, k3, k4⟩ := h3 (q + d) o lb ho (hnew hk) (Nat.le_refl _) hk e
      have hnr : ¬P1.ro b := fun hr => by rw [← h2.2.1] at hr; exact Pt.sub b hr k4
      refine ⟨P1.free b hnr, ?_, ⟨fun x o' hx => ?_, h2.2⟩, fun i o' lb' g1 g2 g3 g4 g5 => ?_⟩
      · show Rel _ ρ (D (q + d + 1)).m w
        rw [e]; exact h1.back k1 k2 k3 hro hnr
      · show (if x = b then none else P1 x) = some o'
        have hne : x ≠ b := fun eb => by rw [eb, k4] at hx; cases hx
        rw [if_neg hne]; exact h2.1 x o' hx
      · obtain ⟨b', s', c', ob', l1, l2, l3, l4⟩ := h3 i o' lb' g1 g2 (by omega) g4 g5
        have hne : b' ≠ b := hi.dist i (q + d) o' o lb' lb _ _ g1 ho g2 (hnew hk) (by omega) (by omega) g4 hk g5 e (by omega) l1 k1
        refine ⟨b', s', c', ob', l1, l2, ?_, l4⟩
        show (if b' = b then none else P1 b') = some ob'
        rw [if_neg hne]; exact l3
end
end PvL
