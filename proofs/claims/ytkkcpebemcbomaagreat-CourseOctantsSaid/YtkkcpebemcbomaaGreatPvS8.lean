/-
  Part of the proof that what the interpreter of YtkkcpebemcbomaaGreatPvL yields, the model's machine comes to. No condition.
-/
import Derived.Test.YtkkcpebemcbomaaGreatPvS7
namespace PvL
open Go

section prot
variable {Pt : Prot} {ρ : Rho} {m : Mem} {w : World}
def Prot.hide (Pt : Prot) (b : Nat) (o : Obj) : Prot := ⟨fun x => if x = b then some o else Pt x, Pt.ro, fun x hx => by
  by_cases e : x = b
  · simp [e]
  · simp only [e, if_false]; exact Pt.sub x hx, Pt.base, Pt.os, Pt.out⟩
def Prot.free (Pt : Prot) (b : Nat) (hb : ¬Pt.ro b) : Prot := ⟨fun x => if x = b then none else Pt x, Pt.ro, fun x hx => by
  by_cases e : x = b
  · subst e; exact absurd hx hb
  · simp only [e, if_false]; exact Pt.sub x hx, Pt.base, Pt.os, Pt.out⟩
/-- more is left alone -/
def Prot.Le (A B : Prot) : Prop := (∀ x o, A x = some o → B x = some o) ∧ A.ro = B.ro ∧ A.base = B.base ∧ A.os = B.os ∧ A.out = B.out

theorem Rel.weaken {Pt' : Prot} (hle : Pt.Le Pt') (h : Rel Pt' ρ m w) : Rel Pt ρ m w := by
  refine ⟨fun r o hr => h.keep r o (hle.1 r o hr), fun i lb hi => ?_, h.inj, by rw [hle.2.2.1, hle.2.2.2.1, hle.2.2.2.2]; exact h.still⟩
  obtain ⟨hl, b, s, c, o, e, h1, h2, h3⟩ := h.live i lb hi
  refine ⟨hl, b, s, c, o, e, h1, h2, ?_⟩
  cases hr : isRo lb with
  | true =>
    rw [hr] at h3
    have h3 : Pt' b = some o ∧ Pt'.ro b := h3
    rw [← hle.2.1] at h3
    refine ⟨?_, h3.2⟩
    cases hp : Pt b with
    | none => exact absurd hp (Pt.sub b h3.2)
    | some o' => rw [hle.1 b o' hp] at h3; exact h3.1
  | false =>
    rw [hr] at h3
    have h3 : Pt' b = none := h3
    show Pt b = none
    cases hp : Pt b with
    | none => rfl
    | some o' => rw [hle.1 b o' hp] at h3; cases h3

theorem Rel.bump {n : Nat} (h : Rel Pt ρ m w) (hn : m.next ≤ n) : Rel Pt ρ ⟨n, m.tr⟩ w :=
  ⟨h.keep, fun i lb hi => by
    obtain ⟨hl, r⟩ := h.live i lb hi
    exact ⟨Nat.lt_of_lt_of_le hl hn, r⟩, h.inj, h.still⟩

/-- the newest block, out of sight -/
theorem Rel.out {M : Mem} {lb : LB} {n : Nat} (hn : n ≤ M.next) (hlt : ∀ i lb, M.get i = some lb → i < n) (h : Rel Pt ρ (M.push lb) w) (hro : isRo lb = false) :
    ∃ b s c o, ρ M.next = some (b, s, c) ∧ BR ρ lb o s c ∧ Pt b = none ∧ Rel (Pt.hide b o) ρ ⟨n, M.tr⟩ w := by
  have hg : (M.push lb).get M.next = some lb := by rw [Mem.get_push, if_pos rfl]
  have hold : ∀ i l, M.get i = some l → (M.push lb).get i = some l ∧ i ≠ M.next := fun i l hi => by
    have hne : i ≠ M.next := fun e => by have := hlt i l hi; omega
    rw [Mem.get_push, if_neg hne]; exact ⟨hi, hne⟩
  obtain ⟨_, b, s, c, o, e, h1, h2, h3⟩ := h.live _ _ hg
  rw [hro] at h3
  have h3 : Pt b = none := h3
  refine ⟨b, s, c, o, e, h1, h3, fun r o' hr => ?_, fun i l hi => ?_, fun i j l l' x y hi hj => ?_, h.still⟩
  · by_cases hb : r = b
    · have hr : (if r = b then some o else Pt r) = some o' := hr
      rw [if_pos hb] at hr; cases hr; rw [hb]; exact h2
    · have hr : (if r = b then some o else Pt r) = some o' := hr
      rw [if_neg hb] at hr; exact h.keep r o' hr
  · obtain ⟨g1, g2⟩ := hold i l hi
    obtain ⟨_, b', s', c', o', e', k1, k2, k3⟩ := h.live i l g1
    refine ⟨hlt i l hi, b', s', c', o', e', k1, k2, ?_⟩
    cases hr : isRo l with
    | true =>
      rw [hr] at k3
      have k3 : Pt b' = some o' ∧ Pt.ro b' := k3
      refine ⟨?_, k3.2⟩
      show (if b' = b then some o else Pt b') = some o'
      rw [if_neg (fun e => by rw [e, h3] at k3; cases k3.1)]; exact k3.1
    | false =>
      rw [hr] at k3
      have k3 : Pt b' = none := k3
      show (if b' = b then some o else Pt b') = none
      rw [if_neg (fun eb => g2 (h.inj i M.next l lb _ _ g1 hg hr hro e' e eb))]; exact k3
  · exact h.inj i j l l' x y (hold i l hi).1 (hold j l' hj).1

/-- and back -/
theorem Rel.back (h : Rel Pt ρ m w) {lb : LB} {b s c : Nat} {o : Obj} (hρ : ρ m.next = some (b, s, c)) (hb : BR ρ lb o s c) (hp : Pt b = some o) (hro : isRo lb = false) (hnr : ¬Pt.ro b) :
    Rel (Pt.free b hnr) ρ (m.push lb) w := by
  refine ⟨fun r o' hr => ?_, fun i l hi => ?_, fun i j l l' x y hi hj h1 h2 hx hy he => ?_, h.still⟩
  · have hr : (if r = b then none else Pt r) = some o' := hr
    by_cases e : r = b
    · rw [if_pos e] at hr; cases hr
    · rw [if_neg e] at hr; exact h.keep r o' hr
  · rw [Mem.get_push] at hi
    by_cases e : i = m.next
    · rw [if_pos e] at hi; cases hi
      refine ⟨by show i < m.next + 1; omega, b, s, c, o, by rw [e]; exact hρ, hb, h.keep b o hp, ?_⟩
      rw [hro]
      show (if b = b then none else Pt b) = none
      rw [if_pos rfl]
    · rw [if_neg e] at hi
      obtain ⟨hl, b', s', c', o', e', k1, k2, k3⟩ := h.live i l hi
      refine ⟨Nat.lt_succ_of_lt hl, b', s', c', o', e', k1, k2, ?_⟩
      cases hr : isRo l with
      | true =>
        rw [hr] at k3
        have k3 : Pt b' = some o' ∧ Pt.ro b' := k3
        refine ⟨?_, k3.2⟩
        show (if b' = b then none else Pt b') = some o'
        have hne : b' ≠ b := fun e => hnr (e ▸ k3.2)
        rw [if_neg hne]; exact k3.1
      | false =>
        rw [hr] at k3
        have k3 : Pt b' = none := k3
        show (if b' = b then none else Pt b') = none
        by_cases e : b' = b
        · rw [if_pos e]
        · rw [if_neg e]; exact k3
  · rw [Mem.get_push] at hi hj
    have key : ∀ k lk z, m.get k = some lk → isRo lk = false → ρ k = some z → z.1 ≠ b := fun k lk z hk hr hz e => by
      obtain ⟨_, b', s', c', o', e', _, _, k3⟩ := h.live k lk hk
      rw [hr] at k3
      have k3 : Pt b' = none := k3
      rw [hz] at e'; cases e'
      have e : b' = b := e
      rw [e, hp] at k3; cases k3
    by_cases e : i = m.next
    · by_cases e2 : j = m.next
      · rw [e, e2]
      · rw [if_neg e2] at hj
        rw [e, hρ] at hx; cases hx
        exact absurd he.symm (key j l' y hj h2 hy)
    · rw [if_neg e] at hi
      by_cases e2 : j = m.next
      · rw [e2, hρ] at hy; cases hy
        exact absurd he (key i l x hi h1 hx)
      · rw [if_neg e2] at hj
        exact h.inj i j l l' x y hi hj h1 h2 hx hy he
end prot

section puts
theorem Tm.put_eq {T T' : Tm} {d : Option Tmp} {v : LV} (h : T.put d v = some T') : T'.size = T.size ∧ (∀ t, d = some t → T'.get t = v) ∧ ∀ t, d ≠ some t → T'.get t = T.get t := by
  cases d with
  | none => 
    cases h
    refine ⟨rfl, ?_, ?_⟩
    · intro t e; cases e
    · intro t _; rfl
  | some d =>
    have h : T.set d v = some T' := h
    refine ⟨by obtain ⟨_, rfl⟩ := Tm.set_eq.1 h; rfl, fun t e => ?_, fun t e => ?_⟩
    · cases e; rw [Tm.get_set h, if_pos rfl]
    · rw [Tm.get_set h, if_neg (fun e' => e (by rw [e']))]
theorem Tm.put_other {T T' U : Tm} {d : Option Tmp} {v : LV} (h : T.put d v = some T') (hs : U.size = T.size) (v' : LV) : ∃ U', U.put d v' = some U' := by
  cases d with
  | none => exact ⟨U, rfl⟩
  | some d => 
    obtain ⟨hl, _⟩ := Tm.set_eq.1 (show T.set d v = some T' from h)
    exact ⟨_, Tm.set_eq.2 ⟨by rw [hs]; exact hl, rfl⟩⟩

variable {P : Program} {rec : Task → Option Out}
/-- what an operation does to the temporaries -/
def Puts (T T' : Tm) (d : Option Tmp) : Prop := T'.size = T.size ∧ ∀ t, d ≠ some t → T'.get t = T.get t
theorem OpStep.puts {T T' : Tm} {m m' : Mem} {op : Op} {d : Option Tmp} (h : OpStep P rec T m op d T' m') : Puts T T' d := by
  cases h with
  | val _ hp => have := Tm.put_eq hp; exact ⟨this.1, this.2.2⟩
  | skip _ hp => have := Tm.put_eq hp; exact ⟨this.1, this.2.2⟩
  | enter _ _ hp => have := Tm.put_eq hp; exact ⟨this.1, this.2.2⟩
  | round _ _ hp => have := Tm.put_eq hp; exact ⟨this.1, this.2.2⟩
theorem OpStep.congr {T T' U : Tm} {m m' : Mem} {op : Op} {d : Option Tmp} (h : OpStep P rec T m op d T' m') (hop : op1 P op T m = op1 P op U m) (hs : U.size = T.size) :
    ∃ U', OpStep P rec U m op d U' m' ∧ Puts U U' d ∧ ∀ t, d = some t → U'.get t = T'.get t := by
  cases h with
  | val h hp =>
    rename_i v
    obtain ⟨U', hu⟩ := Tm.put_other hp hs v
    exact ⟨U', .val (hop ▸ h) hu, (OpStep.val (rec := rec) (hop ▸ h) hu).puts, fun t e => by rw [(Tm.put_eq hu).2.1 t e, (Tm.put_eq hp).2.1 t e]⟩
  | skip h hp =>
    obtain ⟨U', hu⟩ := Tm.put_other hp hs lundef
    exact ⟨U', .skip (hop ▸ h) hu, (OpStep.skip (rec := rec) (hop ▸ h) hu).puts, fun t e => by rw [(Tm.put_eq hu).2.1 t e, (Tm.put_eq hp).2.1 t e]⟩
  | enter h hr hp =>
    rename_i v
    obtain ⟨U', hu⟩ := Tm.put_other hp hs v
    exact ⟨U', .enter (hop ▸ h) hr hu, (OpStep.enter (hop ▸ h) hr hu).puts, fun t e => by rw [(Tm.put_eq hu).2.1 t e, (Tm.put_eq hp).2.1 t e]⟩
  | round h hr hp =>
    rename_i v
    obtain ⟨U', hu⟩ := Tm.put_other hp hs v
    exact ⟨U', .round (hop ▸ h) hr hu, (OpStep.round (hop ▸ h) hr hu).puts, fun t e => by rw [(Tm.put_eq hu).2.1 t e, (Tm.put_eq hp).2.1 t e]⟩
end puts

/-! ### The run in the text's order, laid out -/
section trace
variable {P : Program} {rec : Task → Option Out}
theorem drawRun_trace {all : List Oper} {ds : List Nat} : ∀ (os : List Oper) (i : Nat) (s q : DS), drawRun P rec all ds os i s = some q →
    ∃ D : Nat → DS, D i = s ∧ D (i + os.length) = q ∧ ∀ j o, os[j]? = some o → DStep P rec all ds o (i + j) (D (i + j)) (D (i + j + 1))
  | [], i, s, q, h => by cases h; exact ⟨fun _ => s, rfl, rfl, fun j o h => by cases h⟩
  | o :: os, i, s, q, h => by
    obtain ⟨s', h1, h2⟩ := drawRun_cons h
    obtain ⟨D, d1, d2, d3⟩ := drawRun_trace os (i + 1) s' q h2
    refine ⟨fun k => if k = i then s else D k, by simp, ?_, fun j o' hj => ?_⟩
    · show (if i + (os.length + 1) = i then s else D (i + (os.length + 1))) = q
      rw [if_neg (by omega), ← d2, show i + (os.length + 1) = i + 1 + os.length by omega]
    · cases j with
      | zero =>
        cases hj
        show DStep P rec all ds o i (if i = i then s else D i) (if i + 1 = i then s else D (i + 1))
        rw [if_pos rfl, if_neg (by omega), d1]; exact h1
      | succ j =>
        show DStep P rec all ds o' (i + (j + 1)) (if i + (j + 1) = i then s else D (i + (j + 1))) (if i + (j + 1) + 1 = i then s else D (i + (j + 1) + 1))
        rw [if_neg (by omega), if_neg (by omega)]
        have := d3 j o' (by simpa using hj)
        rw [show i + 1 + j = i + (j + 1) by omega] at this
        exact this

theorem pendAt_spec {p : Pend} : ∀ (pre : List Mem) (m0 : Mem) (rest : List Mem) (K : Nat), pendAt P p (pre ++ m0 :: rest) K = true → pre.length ≤ K → p.lo ≤ K - pre.length → K - pre.length ≤ p.hi → pendHere P p m0 = true
  | [], m0, rest, K, h, _, h1, h2 => by
    obtain ⟨h3, _⟩ := (Bool.and_eq_true _ _ ▸ h : ifb (Nat.ble p.lo K && Nat.ble K p.hi) (pendHere P p m0) true = true ∧ pendAt P p rest (K - 1) = true)
    rw [show Nat.ble p.lo K = true from by rw [Nat.ble_eq]; simpa using h1, show Nat.ble K p.hi = true from by rw [Nat.ble_eq]; simpa using h2] at h3
    exact h3
  | x :: pre, m0, rest, K, h, hl, h1, h2 => by
    obtain ⟨_, h3⟩ := (Bool.and_eq_true _ _ ▸ h : ifb (Nat.ble p.lo K && Nat.ble K p.hi) (pendHere P p x) true = true ∧ pendAt P p (pre ++ m0 :: rest) (K - 1) = true)
    simp only [List.length_cons] at hl h1 h2
    exact pendAt_spec pre m0 rest (K - 1) h3 (by omega) (by rw [show K - 1 - pre.length = K - (pre.length + 1) by omega]; exact h1) (by rw [show K - 1 - pre.length = K - (pre.length + 1) by omega]; exact h2)
theorem pendAll_spec {st : List Mem} {k : Nat} : ∀ (ps : List Pend), pendAll P st k ps = true → ∀ p ∈ ps, pendAt P p st k = true
  | [], _, p, h => by cases h
  | x :: xs, h, p, hp => by
    obtain ⟨h1, h2⟩ := (Bool.and_eq_true _ _ ▸ h : pendAt P x st k = true ∧ pendAll P st k xs = true)
    rcases List.mem_cons.1 hp with rfl | hp
    · exact h1
    · exact pendAll_spec xs h2 p hp

/-- one step of it: temporaries, stages -/
theorem DStep.facts {all : List Oper} {ds : List Nat} {o : Oper} {i : Nat} {s s' : DS} (h : DStep P rec all ds o i s s') :
    Puts s.T s'.T o.dst ∧ s'.k = s.k + ifb (isAnchor o.op) 1 0 ∧ (if isAnchor o.op then s'.st = s'.m :: s.st else s'.st = s.st) ∧ (∃ ps, s'.ps = ps ++ s.ps) := by
  cases h with
  | mover hw h hc =>
    refine ⟨h.puts, by simp [isAnchor, hc, ifb], by simp [isAnchor, hc], ?_⟩
    cases hr : readsMem o.op with
    | true => exact ⟨[_], rfl⟩
    | false => exact ⟨[], rfl⟩
  | new hw h hc => exact ⟨h.puts, by simp [isAnchor, hc, ifb], by simp [isAnchor, hc], [], rfl⟩
  | anchor hw h hc => exact ⟨h.puts, by simp [isAnchor, hc, ifb], by simp [isAnchor, hc], [], rfl⟩
  | offA hw h hc => exact ⟨⟨(Tm.put_eq h).1, (Tm.put_eq h).2.2⟩, by simp [isAnchor, hc, ifb], by simp [isAnchor, hc], [], rfl⟩
  | off hw h hc =>
    have : isAnchor o.op = false := by
      unfold isAnchor
      cases hk : cls o.op <;> first | rfl | exact absurd hk hc
    exact ⟨⟨(Tm.put_eq h).1, (Tm.put_eq h).2.2⟩, by simp [this, ifb], by simp [this], [], rfl⟩
end trace
end PvL
