/-
 The same of whole code, and of operations in any drawn order; closed calls by their entries. No condition.
-/
import Derived.Test.YtifcpjfpjkoicaaGreatPvB
import Derived.CallsIn
import Derived.RangeFuncIn
import Derived.CheckFast
import Derived.Orders
import Derived.RowKit3
section
namespace PvL
open Go

def Mono (n : Nat) (x : Option R1) : Prop := ∀ r, x = some r -> n <= (match r with | .val _ m | .skip m | .enter _ _ m | .round _ _ m => m.next)
section
variable {α β : Type} {n : Nat}
theorem Mono.none : Mono n none := fun _ h => (by cases h)
theorem Mono.ob {x : Option α} {f : α -> Option R1} (h : ∀ a, Mono n (f a)) : Mono n (ob x f) := fun r hr => by
 obtain ⟨a, _, h1⟩ := ob_eq.1 hr; exact h a r h1
theorem Mono.guard {b : Bool} {x : Option R1} (h : Mono n x) : Mono n (guard' b x) := fun r hr => h r (guard'_eq.1 hr).2
theorem Mono.ifb {b : Bool} {x y : Option R1} (h : Mono n x) (h' : Mono n y) : Mono n (ifb b x y) := by cases b <;> assumption
theorem Mono.oe {x : Option α} {z : Option R1} {f : α -> Option R1} (h : Mono n z) (h' : ∀ a, Mono n (f a)) : Mono n (oe x z f) := by cases x with
 | none => exact h
 | some a => exact h' a
theorem Mono.pr {x : α × β} {f : α -> β -> Option R1} (h : ∀ a b, Mono n (f a b)) : Mono n (pr x f) := by cases x; exact h _ _
theorem Mono.asInt {v : LV} {k : IntKind -> Int -> Option R1} (h : ∀ a b, Mono n (k a b)) : Mono n (asInt v k) := fun r hr => by
 obtain ⟨a, b, _, h1⟩ := asInt_eq.1 hr; exact h a b r h1
theorem Mono.asBool {v : LV} {k : Bool -> Option R1} (h : ∀ a, Mono n (k a)) : Mono n (asBool v k) := fun r hr => by
 obtain ⟨a, _, h1⟩ := asBool_eq.1 hr; exact h a r h1
theorem Mono.asTup {v : LV} {k : List LV -> Option R1} (h : ∀ a, Mono n (k a)) : Mono n (asTup v k) := fun r hr => by
 obtain ⟨a, _, h1⟩ := asTup_eq.1 hr; exact h a r h1
theorem Mono.asSlice {v : LV} {k : Option (Nat × Nat) -> Nat -> Bool -> Nat -> Option R1} (h : ∀ a b c d, Mono n (k a b c d)) : Mono n (asSlice v k) := fun r hr => by
 obtain ⟨a, b, c, d, _, h1⟩ := asSlice_eq.1 hr; exact h a b c d r h1
theorem Mono.nat {z : Int} {k : Nat -> Option R1} (h : ∀ a, Mono n (k a)) : Mono n (nat? z k) := by
 cases z with
 | ofNat a => exact h a
 | negSucc a => exact Mono.none
theorem Mono.fN {k : Nat -> Option R1} {a : Nat} (h : Mono n (k a)) : Mono n (fN a k) := by rw [fN_eq]; exact h
theorem Mono.val {v : LV} {m : Mem} (h : n <= m.next) : Mono n (some (.val v m)) := fun r hr => by cases hr; exact h
theorem Mono.skip {m : Mem} (h : n <= m.next) : Mono n (some (.skip m)) := fun r hr => by cases hr; exact h
theorem Mono.enter {f : FuncId} {as : List LV} {m : Mem} (h : n <= m.next) : Mono n (some (.enter f as m)) := fun r hr => by cases hr; exact h
theorem Mono.round {f : Nat} {as : List LV} {m : Mem} (h : n <= m.next) : Mono n (some (.round f as m)) := fun r hr => by cases hr; exact h
theorem Mono.new {m : Mem} {b : LB} {k : Nat -> Mem -> Option R1} (h : ∀ i m', m'.next = m.next + 1 -> Mono n (k i m')) : Mono n (m.new b k) := by
 rw [Mem.new_eq]; exact h _ _ rfl
theorem Mono.atCells {m : Mem} {i : Nat} {k : Bool -> List LV -> TypeId -> Option R1} (h : ∀ a b c, Mono n (k a b c)) : Mono n (atCells m i k) := by
 unfold PvL.atCells
 refine Mono.ob fun b => ?_
 cases b with
 | cells a b c => exact h _ _ _
 | _ => exact Mono.none
theorem Mono.arg0 {l : List α} {k : α -> List α -> Option R1} (h : ∀ a as, Mono n (k a as)) : Mono n (arg0 l k) := by
 cases l with
 | nil => exact Mono.none
 | cons a as => exact h a as
end

section
variable {P : Program} {T : Tm} {m : Mem}
theorem storeCs_next {i off : Nat} {vs : List LV} {m' : Mem} (h : storeCs m i off vs = some m') : m'.next = m.next := by
 unfold storeCs at h
 unfold PvL.atCells at h
 obtain ⟨b, _, h⟩ := ob_eq.1 h
 cases b with
 | cells a b c =>
  obtain ⟨_, h⟩ := guard'_eq.1 (show guard' _ _ = some m' from h)
  obtain ⟨_, _, h⟩ := ob_eq.1 h
  cases h
  exact Mem.next_upd _ _ _
 | _ => cases h
theorem storeT_next {t : TypeId} {x v : LV} {m' : Mem} (h : storeT P t m x v = some m') : m'.next = m.next := by
 obtain ⟨_, _, _, h⟩ := asPtr_eq.1 h
 obtain ⟨_, _, h⟩ := ob_eq.1 h
 obtain ⟨_, h⟩ := guard'_eq.1 h
 obtain ⟨_, h⟩ := guard'_eq.1 h
 exact storeCs_next h
theorem mapUpdateL_next {t : TypeId} {x k v : LV} {m' : Mem} (h : mapUpdateL P t x k v m = some m') : m'.next = m.next := by
 obtain ⟨⟨_, _⟩, _, h⟩ := ob_eq.1 h
 obtain ⟨_, h⟩ := guard'_eq.1 (show guard' _ _ = some m' from h)
 obtain ⟨_, _, h⟩ := asMap_eq.1 h
 obtain ⟨_, _, h⟩ := ob_eq.1 h
 unfold PvL.atMap at h
 obtain ⟨b, _, h⟩ := ob_eq.1 h
 cases b with
 | map es =>
  obtain ⟨p, _, h⟩ := ob_eq.1 (show ob _ _ = some m' from h)
  cases p with
  | none => cases h; exact Mem.next_upd _ _ _
  | some q =>
   obtain ⟨_, _, _⟩ := q
   obtain ⟨_, h⟩ := guard'_eq.1 (show guard' _ _ = some m' from h)
   cases h; exact Mem.next_upd _ _ _
 | _ => cases h
theorem Mono.obSkip {x : Option Mem} (h : ∀ m', x = some m' -> m'.next = m.next) : Mono m.next (PvL.ob x fun m => some (.skip m)) := fun r hr => by
 obtain ⟨m', h1, h2⟩ := ob_eq.1 hr
 cases h2
 exact Nat.le_of_eq (h m' h1).symm
theorem Mono.obRv {x : Option LV} : Mono m.next (PvL.ob x (rv m)) := Mono.ob fun _ => Mono.val (Nat.le_refl _)
theorem append_next {st xt : TypeId} {s x : LV} : Mono m.next (appendL P st xt s x m rvm) := by
 unfold appendL
 refine Mono.ob fun e => Mono.ob fun xd => Mono.ifb Mono.none (Mono.ob fun sz => Mono.ob fun by' => Mono.asSlice fun a len full es => Mono.ob fun n => Mono.ifb (Mono.val (Nat.le_refl _)) (Mono.ob fun z => Mono.guard (Mono.ob fun old => Mono.ob fun new => Mono.guard ?_)))
 unfold killed
 refine Mono.oe (Mono.new fun i m' e => Mono.fN (Mono.val (by omega))) fun p => Mono.pr fun id _ => Mono.ifb (Mono.new fun i m' e => Mono.fN (Mono.val (by omega))) (Mono.guard (Mono.atCells fun _ _ _ => Mono.guard (Mono.new fun i m' e => Mono.fN (Mono.val ?_))))
 rw [e, Mem.next_upd]; omega
theorem copy_next {dt : TypeId} {d x : LV} : Mono m.next (copyL P dt d x m rvm) := by
 unfold copyL
 refine Mono.ob fun e => Mono.ob fun sz => Mono.asSlice fun a dl _ _ => Mono.ob fun sl => Mono.fN (Mono.ifb (Mono.val (Nat.le_refl _)) (Mono.ob fun l => Mono.guard (Mono.oe (Mono.val (Nat.le_refl _)) fun p => Mono.pr fun id off => ?_)))
 intro r hr
 obtain ⟨m', h1, h2⟩ := ob_eq.1 hr
 cases h2
 exact Nat.le_of_eq (storeCs_next h1).symm
theorem callV_next {f : LV} {as : List LV} : Mono m.next (callV f as m) := by
 unfold callV
 split
 ·exact Mono.enter (Nat.le_refl _)
 ·exact Mono.round (Nat.le_refl _)
 ·exact Mono.none
theorem op1_next (o : Op) : Mono m.next (op1 P o T m) := by
 cases o with
 | move x => exact Mono.obRv
 | assign x => exact Mono.obRv
 | pick c a b => exact Mono.ob fun _ => Mono.asBool fun _ => Mono.ifb Mono.obRv Mono.obRv
 | alloc t => exact Mono.ob fun _ => Mono.guard (Mono.new fun _ _ e => Mono.val (by omega))
 | box t x => exact Mono.ob fun _ => Mono.guard (Mono.new fun _ _ e => Mono.val (by omega))
 | build t ps => exact Mono.ob fun _ => Mono.obRv
 | buildSlice t n ps => exact Mono.ob fun _ => Mono.ob fun _ => Mono.ob fun _ => Mono.ob fun _ => Mono.guard (Mono.ob fun _ => Mono.new fun _ _ e => Mono.val (by omega))
 | load t a => exact Mono.ob fun _ => Mono.obRv
 | store t a x => exact Mono.ob fun _ => Mono.ob fun _ => Mono.obSkip fun _ => storeT_next
 | nilCheck x => exact Mono.ob fun _ => Mono.obRv
 | binOp op t x y u => exact Mono.ob fun _ => Mono.ob fun _ => Mono.obRv
 | unOp op t x => exact Mono.ob fun _ => Mono.obRv
 | convert s d x => exact Mono.ob fun _ => Mono.obRv
 | makeFunc fn a b =>
  cases fn with
  | func g => exact Mono.ob fun _ => Mono.ob fun _ => Mono.val (Nat.le_refl _)
  | _ => exact Mono.none
 | makeMap t r => exact Mono.guard (Mono.new fun _ _ e => Mono.val (by omega))
 | makeSlice t l c => exact Mono.ob fun _ => Mono.ob fun _ => Mono.ob fun _ => Mono.asInt fun _ _ => Mono.asInt fun _ _ => Mono.nat fun _ => Mono.nat fun _ => Mono.ob fun _ => Mono.ob fun _ => Mono.ob fun _ => Mono.guard (Mono.new fun _ _ e => Mono.val (by omega))
 | slice t x lo hi mx => exact Mono.ob fun _ => Mono.ob fun _ => Mono.ob fun _ => Mono.ob fun _ => Mono.obRv
 | fieldAddr t x f => exact Mono.ob fun _ => Mono.obRv
 | field t x f => exact Mono.ob fun _ => Mono.obRv
 | indexAddr t x i => exact Mono.ob fun _ => Mono.ob fun _ => Mono.obRv
 | index t x i => exact Mono.ob fun _ => Mono.ob fun _ => Mono.obRv
 | lookup t x i ok => exact Mono.ob fun _ => Mono.ob fun _ => Mono.obRv
 | mapUpdate t x k v => exact Mono.ob fun _ => Mono.ob fun _ => Mono.ob fun _ => Mono.obSkip fun _ => mapUpdateL_next
 | extract x i => exact Mono.ob fun _ => Mono.asTup fun _ => Mono.obRv
 | call c =>
  obtain ⟨callee, args, ats⟩ := c
  refine Mono.ob fun as => ?_
  cases callee with
  | value f => exact Mono.ob fun _ => callV_next
  | invoke r n => exact Mono.none
  | builtin b =>
   show Mono m.next (callB P b ats.toList as m)
   cases b with
   | append => exact Mono.arg0 fun _ _ => Mono.arg0 fun _ _ => Mono.arg0 fun _ _ => Mono.arg0 fun _ _ => Mono.guard append_next
   | copy => exact Mono.arg0 fun _ _ => Mono.arg0 fun _ _ => Mono.arg0 fun _ _ => Mono.guard copy_next
   | len => exact Mono.arg0 fun _ _ => Mono.arg0 fun _ _ => Mono.obRv
   | max => exact Mono.arg0 fun _ _ => Mono.obRv
   | min => exact Mono.arg0 fun _ _ => Mono.obRv
   | _ => exact Mono.none
 | _ => exact Mono.none
end
end PvL
end
section
namespace PvL
open Go

def Out.mem : Out -> Mem | .code _ _ _ m | .call _ m => m
def Task.mem : Task -> Mem | .code _ _ _ _ _ m | .call _ _ m | .round _ _ m => m

section
variable {P : Program} {rec : Task -> Option Out}

theorem outCode_eq {α : Type} {r : Option Out} {k : Ex -> Tm -> List Nat -> Mem -> Option α} {y : α} : outCode r k = some y ↔ ∃ e T ms m, r = some (.code e T ms m) /\ k e T ms m = some y := by
 unfold outCode
 rw [ob_eq]
 constructor
 ·rintro ⟨o, h1, h2⟩
  cases o with
  | code e T ms m => exact ⟨e, T, ms, m, h1, h2⟩
  | call v m => cases h2
 ·rintro ⟨e, T, ms, m, h1, h2⟩; exact ⟨_, h1, h2⟩
theorem outCall_eq {α : Type} {r : Option Out} {k : LV -> Mem -> Option α} {y : α} : outCall r k = some y ↔ ∃ v m, r = some (.call v m) /\ k v m = some y := by
 unfold outCall
 rw [ob_eq]
 constructor
 ·rintro ⟨o, h1, h2⟩
  cases o with
  | code e T ms m => cases h2
  | call v m => exact ⟨v, m, h1, h2⟩
 ·rintro ⟨v, m, h1, h2⟩; exact ⟨_, h1, h2⟩
inductive OpStep (P : Program) (rec : Task -> Option Out) (T : Tm) (m : Mem) (op : Op) (dst : Option Tmp) : Tm -> Mem -> Prop
 | val {v : LV} {m' : Mem} {T' : Tm} (h : op1 P op T m = some (.val v m')) (hp : T.put dst v = some T') : OpStep P rec T m op dst T' m'
 | skip {m' : Mem} {T' : Tm} (h : op1 P op T m = some (.skip m')) (hp : T.put dst lundef = some T') : OpStep P rec T m op dst T' m'
 | enter {f : FuncId} {as : List LV} {m1 m' : Mem} {v : LV} {T' : Tm} (h : op1 P op T m = some (.enter f as m1)) (hr : rec (.call f as m1) = some (.call v m')) (hp : T.put dst v = some T') : OpStep P rec T m op dst T' m'
 | round {l : Nat} {as : List LV} {m1 m' : Mem} {v : LV} {T' : Tm} (h : op1 P op T m = some (.round l as m1)) (hr : rec (.round l as m1) = some (.call v m')) (hp : T.put dst v = some T') : OpStep P rec T m op dst T' m'
theorem opFull_eq {T : Tm} {m : Mem} {op : Op} {dst : Option Tmp} {α : Type} {k : Tm -> Mem -> Option α} {y : α} (h : opFull P rec T m op dst k = some y) : ∃ T' m', OpStep P rec T m op dst T' m' /\ k T' m' = some y := by
 obtain ⟨r, h1, h2⟩ := ob_eq.1 h
 cases r with
 | val v m' =>
  obtain ⟨T', h3, h4⟩ := ob_eq.1 (show ob (T.put dst v) (fun T => k T m') = some y from h2)
  exact ⟨T', m', .val h1 h3, h4⟩
 | skip m' =>
  obtain ⟨T', h3, h4⟩ := ob_eq.1 (show ob (T.put dst lundef) (fun T => k T m') = some y from h2)
  exact ⟨T', m', .skip h1 h3, h4⟩
 | enter f as m1 =>
  obtain ⟨v, m', h3, h4⟩ := outCall_eq.1 (show outCall (rec (.call f as m1)) (fun v m => ob (T.put dst v) fun T => k T m) = some y from h2)
  obtain ⟨T', h5, h6⟩ := ob_eq.1 h4
  exact ⟨T', m', .enter h1 h3 h5, h6⟩
 | round l as m1 =>
  obtain ⟨v, m', h3, h4⟩ := outCall_eq.1 (show outCall (rec (.round l as m1)) (fun v m => ob (T.put dst v) fun T => k T m) = some y from h2)
  obtain ⟨T', h5, h6⟩ := ob_eq.1 h4
  exact ⟨T', m', .round h1 h3 h5, h6⟩

def RecMono (rec : Task -> Option Out) : Prop := ∀ t o, rec t = some o -> t.mem.next <= o.mem.next
theorem OpStep.next (hm : RecMono rec) {T T' : Tm} {m m' : Mem} {op : Op} {dst : Option Tmp} (h : OpStep P rec T m op dst T' m') : m.next <= m'.next := by
 cases h with
 | val h _ => exact op1_next op _ h
 | skip h _ => exact op1_next op _ h
 | enter h hr _ => exact Nat.le_trans (op1_next op _ h) (hm _ _ hr)
 | round h hr _ => exact Nat.le_trans (op1_next op _ h) (hm _ _ hr)

theorem opsRun_cons {all : List Oper} {o : Oper} {os : List Oper} {T : Tm} {m : Mem} {q : Tm × Mem} (h : opsRun P rec all (o :: os) T m = some q) :
  (wanted all T o.guard = some true /\ ∃ T' m', OpStep P rec T m o.op o.dst T' m' /\ opsRun P rec all os T' m' = some q) ∨
  (wanted all T o.guard = some false /\ ∃ T', T.put o.dst lundef = some T' /\ opsRun P rec all os T' m = some q) := by
 have h : ob (wanted all T o.guard) (fun wt => ifb wt (opFull P rec T m o.op o.dst fun T m => opsRun P rec all os T m) (ob (T.put o.dst lundef) fun T => opsRun P rec all os T m)) = some q := h
 obtain ⟨wt, hw, h⟩ := ob_eq.1 h
 rw [hw]
 cases wt with
 | true => exact .inl ⟨rfl, opFull_eq h⟩
 | false =>
  obtain ⟨T', h1, h2⟩ := ob_eq.1 (show ob (T.put o.dst lundef) (fun T => opsRun P rec all os T m) = some q from h)
  exact .inr ⟨rfl, T', h1, h2⟩
theorem opsRun_next (hm : RecMono rec) {all : List Oper} : ∀ (os : List Oper) (T : Tm) (m : Mem) (q : Tm × Mem), opsRun P rec all os T m = some q -> m.next <= q.2.next
 | [], T, m, q, h => by cases h; exact Nat.le_refl _
 | o :: os, T, m, q, h => by
  rcases opsRun_cons h with ⟨_, T', m', h1, h2⟩ | ⟨_, T', _, h2⟩
  ·exact Nat.le_trans (h1.next hm) (opsRun_next hm os _ _ _ h2)
  ·exact opsRun_next hm os _ _ _ h2

inductive DStep (P : Program) (rec : Task -> Option Out) (all : List Oper) (ds : List Nat) (o : Oper) (i : Nat) (s : DS) : DS -> Prop
 | mover {T' : Tm} {m' : Mem} (hw : wanted all s.T o.guard = some true) (h : OpStep P rec s.T s.m o.op o.dst T' m') (hc : cls P o.op = .mover) :
   DStep P rec all ds o i s ⟨T', m', s.st, s.k, ifb (readsMem o.op) ({ op := o.op, T := s.T, v := dstV T' o.dst, lo := anchorsIn P (ds.getD i 0) all 0, hi := anchorsFree P i all ds } :: s.ps) s.ps⟩
 | new {T' : Tm} {m' : Mem} (hw : wanted all s.T o.guard = some true) (h : OpStep P rec s.T s.m o.op o.dst T' m') (hc : cls P o.op = .new) : DStep P rec all ds o i s ⟨T', m', s.st, s.k, s.ps⟩
 | anchor {T' : Tm} {m' : Mem} (hw : wanted all s.T o.guard = some true) (h : OpStep P rec s.T s.m o.op o.dst T' m') (hc : cls P o.op = .anchor) : DStep P rec all ds o i s ⟨T', m', m' :: s.st, s.k + 1, s.ps⟩
 | calm {T' : Tm} {m' : Mem} (hw : wanted all s.T o.guard = some true) (h : OpStep P rec s.T s.m o.op o.dst T' m') (hc : cls P o.op = .calm) : DStep P rec all ds o i s ⟨T', m', s.st, s.k, s.ps⟩
 | offA {T' : Tm} (hw : wanted all s.T o.guard = some false) (h : s.T.put o.dst lundef = some T') (hc : cls P o.op = .anchor) : DStep P rec all ds o i s ⟨T', s.m, s.m :: s.st, s.k + 1, s.ps⟩
 | off {T' : Tm} (hw : wanted all s.T o.guard = some false) (h : s.T.put o.dst lundef = some T') (hc : cls P o.op ≠ .anchor) : DStep P rec all ds o i s ⟨T', s.m, s.st, s.k, s.ps⟩
theorem drawRun_cons {all : List Oper} {ds : List Nat} {o : Oper} {os : List Oper} {i : Nat} {s q : DS} (h : drawRun P rec all ds (o :: os) i s = some q) :
  ∃ s', DStep P rec all ds o i s s' /\ drawRun P rec all ds os (i + 1) s' = some q := by
 obtain ⟨T, m, st, k, ps⟩ := s
 unfold drawRun at h
 obtain ⟨wt, hw, h⟩ := ob_eq.1 h
 cases wt with
 | true =>
  obtain ⟨T', m', h1, h2⟩ := opFull_eq (show opFull P rec T m o.op o.dst _ = some q from h)
  cases hc : cls P o.op with
  | mover => rw [hc] at h2; exact ⟨_, .mover hw h1 hc, h2⟩
  | new => rw [hc] at h2; exact ⟨_, .new hw h1 hc, h2⟩
  | calm => rw [hc] at h2; exact ⟨_, .calm hw h1 hc, h2⟩
  | anchor => rw [hc] at h2; exact ⟨_, .anchor hw h1 hc, h2⟩
 | false =>
  obtain ⟨T', h1, h2⟩ := ob_eq.1 (show ob (T.put o.dst lundef) _ = some q from h)
  cases hc : cls P o.op with
  | anchor => rw [hc] at h2; exact ⟨_, .offA hw h1 hc, h2⟩
  | mover => rw [hc] at h2; exact ⟨_, .off hw h1 (by rw [hc]; simp), h2⟩
  | new => rw [hc] at h2; exact ⟨_, .off hw h1 (by rw [hc]; simp), h2⟩
  | calm => rw [hc] at h2; exact ⟨_, .off hw h1 (by rw [hc]; simp), h2⟩
theorem DStep.next (hm : RecMono rec) {all : List Oper} {ds : List Nat} {o : Oper} {i : Nat} {s s' : DS} (h : DStep P rec all ds o i s s') : s.m.next <= s'.m.next := by
 cases h with
 | mover _ h _ => exact h.next hm
 | new _ h _ => exact h.next hm
 | calm _ h _ => exact h.next hm
 | anchor _ h _ => exact h.next hm
 | offA _ _ _ => exact Nat.le_refl _
 | off _ _ _ => exact Nat.le_refl _
theorem drawRun_next (hm : RecMono rec) {all : List Oper} {ds : List Nat} : ∀ (os : List Oper) (i : Nat) (s q : DS), drawRun P rec all ds os i s = some q -> s.m.next <= q.m.next
 | [], i, s, q, h => by cases h; exact Nat.le_refl _
 | o :: os, i, s, q, h => by
  obtain ⟨s', h1, h2⟩ := drawRun_cons h
  exact Nat.le_trans (h1.next hm) (drawRun_next hm os _ _ _ h2)

theorem atLoop_get {α : Type} {m : Mem} {i : Nat} {k : LoopState -> Option Code -> FuncId -> Tm -> List Tmp -> Code -> Code -> Nat -> Option α} {y : α} (h : atLoop m i k = some y) :
  ∃ st pend fn tm ps a b d, m.get i = some (.loop st pend fn tm ps a b d) /\ k st pend fn tm ps a b d = some y := by
 unfold atLoop at h
 obtain ⟨lb, h1, h2⟩ := ob_eq.1 h
 cases lb with
 | loop st pend fn tm ps a b d => exact ⟨st, pend, fn, tm, ps, a, b, d, h1, h2⟩
 | _ => cases h2
theorem takeMarks_next : ∀ (ms : List Nat) (m m' : Mem), takeMarks ms m = some m' -> m'.next = m.next
 | [], m, m', h => by cases h; rfl
 | d :: ds, m, m', h => by
  unfold takeMarks atDefr at h
  obtain ⟨b, h1, h2⟩ := ob_eq.1 h
  cases b with
  | defr => rw [takeMarks_next ds _ _ h2, Mem.next_upd]
  | _ => cases h2

theorem notBusy_eq {α : Type} {s : LoopState} {k : Option α} {y : α} (h : notBusy s k = some y) : s ≠ .busy /\ k = some y := by
 cases s with
 | busy => cases h
 | _ => exact ⟨by simp, h⟩
theorem ready_eq {α : Type} {s : LoopState} {k : Option α} {y : α} (h : ready? s k = some y) : s = .ready /\ k = some y := by
 cases s with
 | ready => exact ⟨rfl, h⟩
 | _ => cases h
theorem isNorm_eq {α : Type} {e : Ex} {k : Option α} {y : α} (h : isNorm e k = some y) : e = .norm /\ k = some y := by
 cases e with
 | norm => exact ⟨rfl, h⟩
 | _ => cases h
theorem asFn_eq {α : Type} {v : LV} {k : FuncId -> List LV -> List LV -> Option α} {y : α} (h : asFn v k = some y) : ∃ g a b, v = .func (.func g) a b /\ k g a b = some y := by
 unfold asFn at h
 split at h
 ·exact ⟨_, _, _, rfl, h⟩
 ·cases h
end

section
variable {P : Program} {rec : Task -> Option Out}
theorem rfEnd_next (hm : RecMono rec) {fn : FuncId} {ro : Option Nat} {l : Nat} {T : Tm} {ms : List Nat} {m : Mem} {o : Out} (h : rfEnd rec fn ro l T ms m = some o) : m.next <= o.mem.next := by
 obtain ⟨st, pend, fn', tm', ps', a', b', d', hg, h1⟩ := atLoop_get h
 obtain ⟨_, h2⟩ := notBusy_eq h1
 cases pend with
 | none => cases h2; exact Nat.le_of_eq (Mem.next_upd _ _ _).symm
 | some c =>
  have := hm _ _ (show rec (.code fn ro c T ms _) = some o from h2)
  exact Nat.le_trans (Nat.le_of_eq (Mem.next_upd _ _ _).symm) this
theorem rfCall_next (hm : RecMono rec) {fn : FuncId} {ro : Option Nat} {f : Operand} {ps : Array Tmp} {as bd : Code} {d : Nat} {T : Tm} {ms : List Nat} {m : Mem} {o : Out} (h : rfCall rec fn ro f ps as bd d T ms m = some o) : m.next <= o.mem.next := by
 unfold rfCall at h
 rw [Mem.new_eq] at h
 obtain ⟨fv, _, h1⟩ := ob_eq.1 h
 obtain ⟨g, x, y, _, h2⟩ := asFn_eq h1
 obtain ⟨v, m', h3, h4⟩ := outCall_eq.1 h2
 have a1 := hm _ _ h3
 have a2 := rfEnd_next hm h4
 have a3 : m.next <= (m.push (.loop .ready none fn T ps.toList as bd d)).next := Nat.le_succ _
 exact Nat.le_trans a3 (Nat.le_trans a1 a2)
theorem stepT_next (hm : RecMono rec) : RecMono (stepT P rec) := by
 intro t o h
 cases t with
 | code fn ro c T ms m =>
  have h : stCode P rec fn ro c T ms m = some o := h
  cases c with
  | skip => cases h; exact Nat.le_refl _
  | label l => cases h; exact Nat.le_refl _
  | ret => cases h; exact Nat.le_refl _
  | exit id => cases h; exact Nat.le_refl _
  | seq a b =>
   obtain ⟨e, T1, ms1, m1, h1, h2⟩ := outCode_eq.1 (show outCode _ _ = some o from h)
   have a1 := hm _ _ h1
   cases e with
   | norm => exact Nat.le_trans a1 (hm _ _ (show rec (.code fn ro b T1 ms1 m1) = some o from h2))
   | ret => cases h2; exact a1
   | exit id => cases h2; exact a1
  | cond x a b =>
   obtain ⟨v, _, h1⟩ := ob_eq.1 (show ob (ev T x) _ = some o from h)
   obtain ⟨c, _, h2⟩ := asBool_eq.1 h1
   cases c with
   | true => exact hm (.code fn ro a T ms m) o h2
   | false => exact hm (.code fn ro b T ms m) o h2
  | block id b =>
   obtain ⟨e, T1, ms1, m1, h1, h2⟩ := outCode_eq.1 (show outCode _ _ = some o from h)
   have a1 := hm _ _ h1
   cases e with
   | norm => cases h2; exact a1
   | ret => cases h2; exact a1
   | exit id' =>
    have h2 : ifb (Nat.beq id' id) _ _ = some o := h2
    cases hb : Nat.beq id' id with
    | true => rw [hb] at h2; cases h2; exact a1
    | false => rw [hb] at h2; cases h2; exact a1
  | scope b => exact hm (.code fn ro b T ms m) o h
  | loop b =>
   obtain ⟨e, T1, ms1, m1, h1, h2⟩ := outCode_eq.1 (show outCode _ _ = some o from h)
   have a1 := hm _ _ h1
   cases e with
   | norm => exact Nat.le_trans a1 (hm _ _ (show rec (.code fn ro (.loop b) T1 ms1 m1) = some o from h2))
   | ret => cases h2; exact a1
   | exit id => cases h2; exact a1
  | region id ops dr =>
   cases dr with
   | false =>
    obtain ⟨⟨T1, m1⟩, h1, h2⟩ := ob_eq.1 (show ob (opsRun P rec ops.toList ops.toList T m) _ = some o from h)
    cases h2
    exact opsRun_next hm _ _ _ _ h1
   | true =>
    obtain ⟨_, h0⟩ := guard'_eq.1 (show guard' (regionOk P ops) _ = some o from h)
    obtain ⟨d, h1, h2⟩ := ob_eq.1 h0
    obtain ⟨T1, m1, st, k, ps⟩ := d
    obtain ⟨_, h3⟩ := guard'_eq.1 (show guard' _ _ = some o from h2)
    cases h3
    exact drawRun_next hm _ _ _ _ h1
  | rangeFunc f ps as bd =>
   have h : cRangeFunc rec fn ro f ps as bd T ms m = some o := h
   cases ro with
   | none =>
    have h : m.new .defr (fun d m => rfCall rec fn none f ps as bd d T (d :: ms) m) = some o := h
    rw [Mem.new_eq] at h
    exact Nat.le_trans (Nat.le_succ _) (rfCall_next hm h)
   | some l =>
    obtain ⟨st, pend, fn', tm', ps', a', b', d', _, h1⟩ := atLoop_get (show atLoop m l _ = some o from h)
    exact rfCall_next hm h1
  | _ => cases h
 | call f args m =>
  obtain ⟨fn, _, h1⟩ := ob_eq.1 (show stCall P rec f args m = some o from h)
  obtain ⟨T, _, h2⟩ := ob_eq.1 h1
  obtain ⟨c, _, h3⟩ := ob_eq.1 h2
  obtain ⟨e, T1, ms1, m1, h4, h5⟩ := outCode_eq.1 h3
  have a1 := hm _ _ h4
  have fin : ∀ {o}, callEnd P fn T1 ms1 m1 = some o -> m.next <= o.mem.next := by
   intro o h
   obtain ⟨m2, h6, h7⟩ := ob_eq.1 h
   obtain ⟨vs, _, h8⟩ := ob_eq.1 h7
   cases h8
   show m.next <= m2.next
   rw [takeMarks_next _ _ _ h6]
   exact a1
  cases e with
  | norm => exact fin h5
  | ret => exact fin h5
  | exit id => cases h5
 | round l args m =>
  obtain ⟨st, pend, fn, tm, ps, as, bd, d, _, h1⟩ := atLoop_get (show stRound rec l args m = some o from h)
  obtain ⟨_, h2⟩ := ready_eq h1
  obtain ⟨T, _, h3⟩ := ob_eq.1 h2
  obtain ⟨e, T1, ms1, m1, h4, h5⟩ := outCode_eq.1 h3
  obtain ⟨_, h6⟩ := isNorm_eq h5
  obtain ⟨st2, pend2, fn2, tm2, ps2, as2, bd2, d2, _, h7⟩ := atLoop_get h6
  obtain ⟨_, h8⟩ := ready_eq h7
  obtain ⟨e3, T3, ms3, m3, h9, h10⟩ := outCode_eq.1 h8
  obtain ⟨st4, pend4, fn4, tm4, ps4, as4, bd4, d4, _, h11⟩ := atLoop_get h10
  have a1 := hm _ _ h4
  have a2 := hm _ _ h9
  have a3 : m1.next <= m3.next := by
   have : (m1.upd l (some (.loop .busy pend2 fn2 tm2 ps2 as2 bd2 d2))).next <= m3.next := a2
   rw [Mem.next_upd] at this; exact this
  have a4 : o.mem.next = m3.next := by
   cases e3 with
   | norm => cases h11; exact Mem.next_upd _ _ _
   | ret => cases h11; exact Mem.next_upd _ _ _
   | exit id => cases h11; exact Mem.next_upd _ _ _
  rw [a4]
  exact Nat.le_trans a1 a3
end
end PvL
end
section
namespace PvL
open Go

section op1
variable {P : Program}

theorem copy_sim {m : Mem} {dt : TypeId} {d x : LV} {r : R1} (h : copyL P dt d x m rvm = some r) :
  ∃ v m', r = .val v m' /\ ∀ (Pt : Prot) (ρ : Rho) (w : World) (d' x' : Value) (ts : Array TypeId) (ty : TypeId), ts[0]? = some dt -> VR ρ d d' -> VR ρ x x' -> Rel Pt ρ m w ->
   Gives P Pt ρ m w (Builtin.copy_ ts ty #[d', x']) v m' := by
 obtain ⟨e, he, h1⟩ := ob_eq.1 h
 obtain ⟨sz, hsz, h2⟩ := ob_eq.1 h1
 obtain ⟨a, dl, full, es, rfl, h3⟩ := asSlice_eq.1 h2
 obtain ⟨sl, hsl, h4⟩ := ob_eq.1 h3
 rw [fN_eq] at h4
 cases hn0 : Nat.beq (Nat.min sl dl) 0 with
 | true =>
  rw [hn0] at h4
  cases h4
  have hn0 : Nat.min sl dl = 0 := Nat.eq_of_beq_eq_true hn0
  have hu := sliceElem_eq he
  refine ⟨_, _, rfl, fun Pt ρ w d' x' ts ty ht hd hx hrel => ?_⟩
  refine Gives.pure hrel (v' := .int .i64 (Nat.min sl dl)) ?_ (.int _ _)
  obtain ⟨L, hL, hL2⟩ : ∃ L : Array Value, (Builtin.firstCells sz 0 x').run P w = .ok L w /\ L.toList = [] := by
   unfold lenOfL at hsl
   split at hsl
   ·cases hx with
    | sliceNil => exact ⟨#[], rfl, rfl⟩
    | slice => exact ⟨#[], by simp [Builtin.firstCells, loadCells, loadCellsFrom], rfl⟩
    | sliceZ => exact ⟨#[], by simp [Builtin.firstCells, loadCells, loadCellsFrom], rfl⟩
    | sliceE => exact ⟨#[], by simp [Builtin.firstCells, loadCells, loadCellsFrom], rfl⟩
   ·rw [hx.str_inv]; exact ⟨_, rfl, by simp⟩
   ·cases hsl
  have hd' : ∃ A cap, d' = .slice A dl cap := by
   cases hd with
   | sliceNil => exact ⟨_, _, rfl⟩
   | slice => exact ⟨_, _, rfl⟩
   | sliceZ => exact ⟨_, _, rfl⟩
   | sliceE => exact ⟨_, _, rfl⟩
  obtain ⟨A, cap, rfl⟩ := hd'
  unfold Builtin.copy_
  simp only [ht, List.getElem?_toArray, List.getElem?_cons_zero, List.getElem?_cons_succ, Sem.run_bind, Go.run_underlying hu, Result.andThen_ok, lenOf_sim hsl hx, run_sizeOf hsz, hn0, hL, hL2]
  cases A <;> rfl
 | false =>
 rw [hn0, ifb_false] at h4
 have hmin : ∀ k, lenOfL x = some k -> Nat.min sl dl <= k := fun k hk => by rw [hsl] at hk; cases hk; exact Nat.min_le_left _ _
 obtain ⟨l, hl, h5⟩ := ob_eq.1 h4
 obtain ⟨hfl, h6⟩ := guard'_eq.1 h5
 have hu := sliceElem_eq he
 cases a with
 | none =>
  cases h6
  refine ⟨_, _, rfl, fun Pt ρ w d' x' ts ty ht hd hx hrel => ?_⟩
  cases hd with
  | sliceNil =>
   obtain ⟨L, hL, hv, _⟩ := firstL_sim (P := P) hrel hl (fun k hk => by rw [hsl] at hk; cases hk; exact Nat.min_le_left _ _) hx
   refine Gives.pure hrel (v' := .int .i64 (Nat.min sl 0)) ?_ (.int _ _)
   unfold Builtin.copy_
   simp only [ht, List.getElem?_toArray, List.getElem?_cons_zero, List.getElem?_cons_succ, Sem.run_bind, Go.run_underlying hu, Result.andThen_ok, lenOf_sim hsl hx, run_sizeOf hsz, hL]
   rfl
 | some p =>
  obtain ⟨id, off⟩ := p
  obtain ⟨m', hst, h7⟩ := ob_eq.1 (show ob (storeCs m id off l) _ = some r from h6)
  cases h7
  refine ⟨_, _, rfl, fun Pt ρ w d' x' ts ty ht hd hx hrel => ?_⟩
  cases hd with
  | sliceZ => exact absurd hn0 (by rw [show Nat.min sl 0 = 0 from Nat.min_zero _]; decide)
  | sliceE => exact absurd hn0 (by rw [show Nat.min sl 0 = 0 from Nat.min_zero _]; decide)
  | slice hρ hle hf hc =>
   obtain ⟨L, hL, hv, _⟩ := firstL_sim (P := P) hrel hl (fun k hk => by rw [hsl] at hk; cases hk; exact Nat.min_le_left _ _) hx
   obtain ⟨w', hrun, hrel', hnext⟩ := storeCs_sim (P := P) hrel hst hv hfl hρ
   refine ⟨ρ, .int .i64 (Nat.min sl dl), w', ?_, by rw [hnext]; exact Same.refl _ _ _, .int _ _, hrel'⟩
   unfold Builtin.copy_
   simp only [ht, List.getElem?_toArray, List.getElem?_cons_zero, List.getElem?_cons_succ, Sem.run_bind, Go.run_underlying hu, Result.andThen_ok, lenOf_sim hsl hx, run_sizeOf hsz, hL, hrun]
   rfl

def R1.mem : R1 -> Mem | .val _ m | .skip m | .enter _ _ m | .round _ _ m => m
def OpOk (P : Program) (Pt : Prot) (ρ : Rho) (m : Mem) (w : World) (a : Act) (o : Oper) : R1 -> Prop
 | .val v m' => ∃ ρ' v' w', (execOp a.eval o).run P w = .ok (.value v') w' /\ Same ρ ρ' m.next m'.next /\ VR ρ' v v' /\ Rel Pt ρ' m' w'
 | .skip m' => ∃ w', (execOp a.eval o).run P w = .ok .skip w' /\ Rel Pt ρ m' w' /\ m'.next = m.next
 | .enter f args m' => m' = m /\ ∀ fn, fnOf P f = some fn -> ∃ args', (execOp a.eval o).run P w = .ok (.enter f args') w /\ VRs ρ args args'.toList
 | .round l args m' => m' = m /\ ∃ b s c args', ρ l = some (b, s, c) /\ VRs ρ args args'.toList /\ (execOp a.eval o).run P w = (Instr.yield b args').run P w

variable {Pt : Prot} {ρ : Rho} {m : Mem} {w : World} {T : Tm} {a : Act}

theorem ok_val {o : Oper} {v : LV} {s : Sem Value} (he : execOp a.eval o = (do pure (.value (<- s)) : Sem Next)) (hrel : Rel Pt ρ m w) (h : ∃ v', s.run P w = .ok v' w /\ VR ρ v v') : OpOk P Pt ρ m w a o (.val v m) := by
 obtain ⟨v', hr, hv⟩ := h
 exact ⟨ρ, v', w, by rw [he, Sem.run_bind, hr]; rfl, Same.refl _ _ _, hv, hrel⟩
theorem ok_gives {o : Oper} {v : LV} {m' : Mem} {s : Sem Value} (he : execOp a.eval o = (do pure (.value (<- s)) : Sem Next)) (h : Gives P Pt ρ m w s v m') : OpOk P Pt ρ m w a o (.val v m') := by
 obtain ⟨ρ', v', w', hr, hs, hv, hrel⟩ := h
 exact ⟨ρ', v', w', by rw [he, Sem.run_bind, hr]; rfl, hs, hv, hrel⟩
theorem rv_eq {m : Mem} {x : Option LV} {r : R1} (h : ob x (rv m) = some r) : ∃ v, x = some v /\ r = .val v m := by
 obtain ⟨v, hv, h⟩ := ob_eq.1 h
 cases h
 exact ⟨v, hv, rfl⟩
theorem evOpt_sim {T : Tm} {a : Act} (h : TR ρ T a.tmps) {x : Option Operand} {v : Option LV} (hx : evOpt T x = some v) : OR ρ v (x.map a.eval) := by
 cases x with
 | none => cases hx; trivial
 | some x =>
  obtain ⟨u, hu, h2⟩ := ob_eq.1 (show ob (ev T x) _ = some v from hx)
  cases h2
  exact ev_sim h hu
theorem map_toList {α β : Type} (xs : Array α) (f : α -> β) : (xs.map f) = (xs.toList.map f).toArray := by
 rw [<- Array.toList_map, Array.toArray_toList]

theorem callV_sim {f : LV} {args : List LV} {r : R1} (h : callV f args m = some r) {f' : Value} (hf : VR ρ f f') {args' : Array Value} (ha : VRs ρ args args'.toList) :
  (∃ g as, r = .enter g as m /\ ∀ fn, fnOf P g = some fn -> ∃ as', (do let d <- Deferred.ofValue f' args'; invoke d.target d.args : Sem Next).run P w = .ok (.enter g as') w /\ VRs ρ as as'.toList) ∨
  (∃ l b s c, r = .round l args m /\ ρ l = some (b, s, c) /\ (do let d <- Deferred.ofValue f' args'; invoke d.target d.args : Sem Next).run P w = (Instr.yield b args').run P w) := by
 unfold callV at h
 split at h
 ·rename_i g fi ca
  cases h
  left
  refine ⟨g, _, rfl, fun fn hfn => ?_⟩
  cases hf with
  | func h1 h2 =>
   rename_i fi' ca'
   obtain ⟨fn', hg, h3⟩ := ob_eq.1 hfn
   obtain ⟨hbody, h4⟩ := guard'_eq.1 h3
   obtain ⟨hname, h5⟩ := guard'_eq.1 h4
   cases h5
   refine ⟨fi' ++ args' ++ ca', ?_, ?_⟩
   ·simp only [Deferred.ofValue, Sem.run_bind, Sem.run_pure, Result.andThen_ok, invoke, callFunc, run_program, hg]
    have hnone : fn.body.isNone = false := by cases hb : fn.body with
     | none => rw [hb] at hbody; cases hbody
     | some _ => rfl
    have hnm : (fn.name == "runtime.NumGoroutine") = false := by simpa using hname
    simp only [hnm, hnone, Bool.false_eq_true, if_false]
    rfl
   ·simp only [Array.toList_append]
    exact (h1.append ha).append h2
 ·rename_i l
  cases h
  right
  cases hf with
  | yield hρ =>
   rename_i b s c
   refine ⟨l, b, s, c, rfl, hρ, ?_⟩
   show (Instr.yield b (#[] ++ args')).run P w = _
   rw [Array.empty_append]
 ·cases h

theorem two_args {x y : LV} {A : Array Value} (h : VRs ρ [x, y] A.toList) : ∃ x' y', A = #[x', y'] /\ VR ρ x x' /\ VR ρ y y' := by
 obtain ⟨l⟩ := A
 have h : VRs ρ [x, y] l := h
 cases h with
 | cons h1 h2 => cases h2 with
  | cons h2 h3 => cases h3; exact ⟨_, _, rfl, h1, h2⟩

set_option maxHeartbeats 2000000 in
theorem op1_sim {o : Oper} {r : R1} (h : op1 P o.op T m = some r) (hT : TR ρ T a.tmps) (hrel : Rel Pt ρ m w) (hf : Fresh ρ m.next r.mem.next) : OpOk P Pt ρ m w a o r := by
 obtain ⟨dst, op, ty, pos, after, guard⟩ := o
 cases op with
 | move x =>
  obtain ⟨v, hv, rfl⟩ := rv_eq (show ob (ev T x) (rv m) = some r from h)
  exact ⟨ρ, _, w, rfl, Same.refl _ _ _, ev_sim hT hv, hrel⟩
 | assign x =>
  obtain ⟨v, hv, rfl⟩ := rv_eq (show ob (ev T x) (rv m) = some r from h)
  exact ⟨ρ, _, w, rfl, Same.refl _ _ _, ev_sim hT hv, hrel⟩
 | pick c x y =>
  obtain ⟨cv, hc, h1⟩ := ob_eq.1 (show ob (ev T c) _ = some r from h)
  obtain ⟨b, rfl, h2⟩ := asBool_eq.1 h1
  have hcv := (ev_sim hT hc).bool_inv
  cases b with
  | true =>
   obtain ⟨v, hv, rfl⟩ := rv_eq (show ob (ev T x) (rv m) = some r from h2)
   refine ⟨ρ, a.eval x, w, ?_, Same.refl _ _ _, ev_sim hT hv, hrel⟩
   simp [execOp, hcv, Go.asBool]
  | false =>
   obtain ⟨v, hv, rfl⟩ := rv_eq (show ob (ev T y) (rv m) = some r from h2)
   refine ⟨ρ, a.eval y, w, ?_, Same.refl _ _ _, ev_sim hT hv, hrel⟩
   simp [execOp, hcv, Go.asBool]
 | alloc t =>
  obtain ⟨z, hz, h1⟩ := ob_eq.1 (show ob (zeroL P t) _ = some r from h)
  obtain ⟨hfl, h2⟩ := guard'_eq.1 h1
  unfold newPtr at h2
  rw [Mem.new_eq] at h2
  cases h2
  obtain ⟨zv, hz1, hz2, hzc, hzf⟩ := zero_sim (w := w) (ρ := ρ) hz
  have hn := newPtr_sim (P := P) (t := t) hrel (hf _ (Nat.le_refl _) (Nat.lt_succ_self _)) hzc
  refine ok_gives (s := Instr.alloc t true (.tuple #[])) rfl ?_
  obtain ⟨ρ', v', w', h3, h4⟩ := hn
  refine ⟨ρ', v', w', ?_, h4⟩
  simp only [Instr.alloc, Sem.run_bind, hz1, Result.andThen_ok]
  exact h3
 | box t x =>
  obtain ⟨v, hv, h1⟩ := ob_eq.1 (show ob (ev T x) _ = some r from h)
  obtain ⟨hfl, h2⟩ := guard'_eq.1 h1
  unfold newPtr at h2
  rw [Mem.new_eq] at h2
  cases h2
  exact ok_gives (s := Instr.box t (a.eval x)) rfl (newPtr_sim (P := P) (t := t) hrel (hf _ (Nat.le_refl _) (Nat.lt_succ_self _)) ((ev_sim hT hv).cells hfl))
 | build t ps =>
  obtain ⟨vs, hvs, h1⟩ := ob_eq.1 (show ob (evParts T ps.toList) _ = some r from h)
  obtain ⟨v, hv, rfl⟩ := rv_eq h1
  obtain ⟨v', hr, hvr⟩ := buildL_sim (P := P) (w := w) (evParts_sim hT hvs) hv
  refine ok_val (s := Instr.build t (ps.map fun (i, x) => (i, a.eval x))) rfl hrel ⟨v', ?_, hvr⟩
  rw [map_toList]; exact hr
 | buildSlice t n ps =>
  obtain ⟨vs, hvs, h1⟩ := ob_eq.1 (show ob (evParts T ps.toList) _ = some r from h)
  obtain ⟨v, b, rfl, hsim⟩ := buildSliceL_sim h1
  refine ok_gives (s := Instr.buildSlice t n (ps.map fun (i, x) => (i, a.eval x))) rfl ?_
  rw [map_toList]
  exact hsim Pt ρ w _ (evParts_sim hT hvs) hrel (hf _ (Nat.le_refl _) (Nat.lt_succ_self _))
 | load t x =>
  obtain ⟨x1, hx, h1⟩ := ob_eq.1 (show ob (ev T x) _ = some r from h)
  obtain ⟨v, hv, rfl⟩ := rv_eq h1
  obtain ⟨ad, v', e, hr, hvr⟩ := loadT_sim hrel (ev_sim hT hx) hv
  refine ok_val (s := Instr.loadAt t (a.eval x)) rfl hrel ⟨v', ?_, hvr⟩
  rw [e]
  exact hr
 | store t x y =>
  obtain ⟨x1, hx, h1⟩ := ob_eq.1 (show ob (ev T x) _ = some r from h)
  obtain ⟨y1, hy, h2⟩ := ob_eq.1 h1
  obtain ⟨m', hm, h3⟩ := ob_eq.1 h2
  cases h3
  obtain ⟨w', hr, hrel', hn⟩ := storeT_sim (P := P) hrel (ev_sim hT hx) (ev_sim hT hy) hm
  exact ⟨w', by simp [execOp, hr], hrel', hn⟩
 | nilCheck x =>
  obtain ⟨x1, hx, h1⟩ := ob_eq.1 (show ob (ev T x) _ = some r from h)
  obtain ⟨v, hv, rfl⟩ := rv_eq h1
  obtain ⟨ad, e, hvr⟩ := nilCheckL_sim hv (ev_sim hT hx)
  exact ⟨ρ, a.eval x, w, by simp [execOp, e], Same.refl _ _ _, hvr, hrel⟩
 | binOp op t x y yt =>
  obtain ⟨x1, hx, h1⟩ := ob_eq.1 (show ob (ev T x) _ = some r from h)
  obtain ⟨y1, hy, h2⟩ := ob_eq.1 h1
  obtain ⟨v, hv, rfl⟩ := rv_eq h2
  exact ok_val rfl hrel (binL_sim (P := P) (w := w) hv (ev_sim hT hx) (ev_sim hT hy) x y)
 | unOp op t x =>
  obtain ⟨x1, hx, h1⟩ := ob_eq.1 (show ob (ev T x) _ = some r from h)
  obtain ⟨v, hv, rfl⟩ := rv_eq h1
  exact ok_val rfl hrel (unL_sim hv (ev_sim hT hx))
 | convert s d x =>
  obtain ⟨x1, hx, h1⟩ := ob_eq.1 (show ob (ev T x) _ = some r from h)
  obtain ⟨v, hv, rfl⟩ := rv_eq h1
  exact ok_val rfl hrel (convL_sim hv (ev_sim hT hx))
 | makeFunc fn fi ca =>
  have h : fnFunc fn (fun g => ob (evs T fi.toList) fun a => ob (evs T ca.toList) fun b => some (R1.val (.func (.func g) a b) m)) = some r := h
  cases fn with
  | func g =>
   obtain ⟨x1, hx, h1⟩ := ob_eq.1 (show ob (evs T fi.toList) _ = some r from h)
   obtain ⟨y1, hy, h2⟩ := ob_eq.1 h1
   cases h2
   refine ⟨ρ, _, w, rfl, Same.refl _ _ _, .func ?_ ?_, hrel⟩
   ·rw [Array.toList_map]; exact evs_sim hT hx
   ·rw [Array.toList_map]; exact evs_sim hT hy
  | _ => cases h
 | makeMap t rv0 =>
  obtain ⟨hg, h1⟩ := guard'_eq.1 (show guard' rv0.isNone _ = some r from h)
  rw [Mem.new_eq] at h1
  cases h1
  cases rv0 with
  | some _ => cases hg
  | none =>
   have hf0 := hf _ (Nat.le_refl _) (Nat.lt_succ_self _)
   refine ⟨_, .map (some w.heap.size), _, ?_, Same.upd1 hf0, .map (upd1_self _ _ (w.heap.size, 0, 0)), hrel.alloc hf0 rfl (o := .map #[] 0) ⟨#[], 0, rfl, trivial⟩⟩
   simp [execOp, Instr.makeMap]
 | makeSlice t l c =>
  obtain ⟨x1, hx, h1⟩ := ob_eq.1 (show ob (ev T l) _ = some r from h)
  obtain ⟨y1, hy, h2⟩ := ob_eq.1 h1
  obtain ⟨v, b, rfl, hsim⟩ := makeSliceL_sim h2
  exact ok_gives rfl (hsim Pt ρ w _ _ (ev_sim hT hx) (ev_sim hT hy) hrel (hf _ (Nat.le_refl _) (Nat.lt_succ_self _)))
 | slice t x lo hi mx =>
  obtain ⟨x1, hx, h1⟩ := ob_eq.1 (show ob (ev T x) _ = some r from h)
  obtain ⟨lo1, hlo, h2⟩ := ob_eq.1 h1
  obtain ⟨hi1, hhi, h3⟩ := ob_eq.1 h2
  obtain ⟨mx1, hmx, h4⟩ := ob_eq.1 h3
  obtain ⟨v, hv, rfl⟩ := rv_eq h4
  exact ok_val rfl hrel (sliceL_sim hv (ev_sim hT hx) (evOpt_sim hT hlo) (evOpt_sim hT hhi) (evOpt_sim hT hmx))
 | fieldAddr t x f =>
  obtain ⟨x1, hx, h1⟩ := ob_eq.1 (show ob (ev T x) _ = some r from h)
  obtain ⟨v, hv, rfl⟩ := rv_eq h1
  exact ok_val rfl hrel (fieldAddrL_sim hv (ev_sim hT hx))
 | field t x f =>
  obtain ⟨x1, hx, h1⟩ := ob_eq.1 (show ob (ev T x) _ = some r from h)
  obtain ⟨v, hv, rfl⟩ := rv_eq h1
  exact ok_val rfl hrel (fieldL_sim hv (ev_sim hT hx))
 | indexAddr t x i =>
  obtain ⟨x1, hx, h1⟩ := ob_eq.1 (show ob (ev T x) _ = some r from h)
  obtain ⟨y1, hy, h2⟩ := ob_eq.1 h1
  obtain ⟨v, hv, rfl⟩ := rv_eq h2
  exact ok_val rfl hrel (indexAddrL_sim hv (ev_sim hT hx) (ev_sim hT hy))
 | index t x i =>
  obtain ⟨x1, hx, h1⟩ := ob_eq.1 (show ob (ev T x) _ = some r from h)
  obtain ⟨y1, hy, h2⟩ := ob_eq.1 h1
  obtain ⟨v, hv, rfl⟩ := rv_eq h2
  exact ok_val rfl hrel (indexL_sim hv (ev_sim hT hx) (ev_sim hT hy))
 | lookup t x i ok =>
  obtain ⟨x1, hx, h1⟩ := ob_eq.1 (show ob (ev T x) _ = some r from h)
  obtain ⟨y1, hy, h2⟩ := ob_eq.1 h1
  obtain ⟨v, hv, rfl⟩ := rv_eq h2
  exact ok_val rfl hrel (lookupL_sim hrel hv (ev_sim hT hx) (ev_sim hT hy))
 | mapUpdate t x k y =>
  obtain ⟨x1, hx, h1⟩ := ob_eq.1 (show ob (ev T x) _ = some r from h)
  obtain ⟨k1, hk, h2⟩ := ob_eq.1 h1
  obtain ⟨y1, hy, h3⟩ := ob_eq.1 h2
  obtain ⟨m', hm, h4⟩ := ob_eq.1 h3
  cases h4
  obtain ⟨w', hr, hrel', hn⟩ := mapUpdateL_sim (P := P) hrel hm (ev_sim hT hx) (ev_sim hT hk) (ev_sim hT hy)
  exact ⟨w', by simp [execOp, hr], hrel', hn⟩
 | extract x i =>
  obtain ⟨x1, hx, h1⟩ := ob_eq.1 (show ob (ev T x) _ = some r from h)
  obtain ⟨vs, rfl, h2⟩ := asTup_eq.1 h1
  obtain ⟨v, hv, rfl⟩ := rv_eq h2
  exact ok_val rfl hrel (extract_sim hv (ev_sim hT hx))
 | call c =>
  obtain ⟨callee, args, ats⟩ := c
  obtain ⟨as, has, h1⟩ := ob_eq.1 (show ob (evs T args.toList) _ = some r from h)
  have hargs : VRs ρ as (args.map a.eval).toList := by rw [Array.toList_map]; exact evs_sim hT has
  cases callee with
  | invoke rc nm => cases h1
  | value f =>
   obtain ⟨fv, hfv, h2⟩ := ob_eq.1 (show ob (ev T f) _ = some r from h1)
   have hex : execOp a.eval ⟨dst, .call ⟨.value f, args, ats⟩, ty, pos, after, guard⟩ = (do let d <- Deferred.ofValue (a.eval f) (args.map a.eval); invoke d.target d.args : Sem Next) := rfl
   rcases callV_sim (P := P) (w := w) h2 (ev_sim hT hfv) hargs with ⟨g, gs, rfl, hg⟩ | ⟨l, b, s, c, rfl, hρ, hg⟩
   ·refine ⟨rfl, fun fn hfn => ?_⟩
    obtain ⟨as', h3, h4⟩ := hg fn hfn
    exact ⟨as', by rw [hex]; exact h3, h4⟩
   ·exact ⟨rfl, b, s, c, args.map a.eval, hρ, hargs, by rw [hex]; exact hg⟩
  | builtin bi =>
   have hex : execOp a.eval ⟨dst, .call ⟨.builtin bi, args, ats⟩, ty, pos, after, guard⟩ = builtin bi ats ty (args.map fun | .const _ => true | _ => false) (args.map a.eval) := rfl
   have h1 : callB P bi ats.toList as m = some r := h1
   cases bi with
   | append =>
    obtain ⟨st, ts1, ht1, h2⟩ := arg0_eq.1 (show arg0 ats.toList _ = some r from h1)
    obtain ⟨xt, ts2, ht2, h3⟩ := arg0_eq.1 h2
    obtain ⟨s, as1, rfl, h4⟩ := arg0_eq.1 h3
    obtain ⟨x, as2, rfl, h5⟩ := arg0_eq.1 h4
    obtain ⟨he, h6⟩ := guard'_eq.1 h5
    obtain rfl : as2 = [] := by simpa using he
    obtain ⟨v, m', rfl, hsim⟩ := append_sim h6
    have hA := two_args hargs
    obtain ⟨s', x', hA, hs, hx⟩ := hA
    refine ok_gives (s := Builtin.append_ ats ty (args.map a.eval)) (by rw [hex]; rfl) ?_
    rw [hA]
    exact hsim Pt ρ w s' x' ats ty (by rw [<- Array.getElem?_toList, ht1]; rfl) (by rw [<- Array.getElem?_toList, ht1, ht2]; rfl) hs hx hrel hf
   | copy =>
    obtain ⟨dt, ts1, ht1, h2⟩ := arg0_eq.1 (show arg0 ats.toList _ = some r from h1)
    obtain ⟨s, as1, rfl, h4⟩ := arg0_eq.1 h2
    obtain ⟨x, as2, rfl, h5⟩ := arg0_eq.1 h4
    obtain ⟨he, h6⟩ := guard'_eq.1 h5
    obtain rfl : as2 = [] := by simpa using he
    obtain ⟨v, m', rfl, hsim⟩ := copy_sim h6
    obtain ⟨s', x', hA, hs, hx⟩ := two_args hargs
    refine ok_gives (s := Builtin.copy_ ats ty (args.map a.eval)) (by rw [hex]; rfl) ?_
    rw [hA]
    exact hsim Pt ρ w s' x' ats ty (by rw [<- Array.getElem?_toList, ht1]; rfl) hs hx hrel
   | len =>
    obtain ⟨t, ts1, ht1, h2⟩ := arg0_eq.1 (show arg0 ats.toList _ = some r from h1)
    obtain ⟨x, as1, rfl, h3⟩ := arg0_eq.1 h2
    obtain ⟨v, hv, rfl⟩ := rv_eq h3
    refine ok_val (s := Builtin.len_ ats ty (args.map a.eval)) (by rw [hex]; rfl) hrel ?_
    have e : args.map a.eval = ((args.map a.eval).toList).toArray := by rw [Array.toArray_toList]
    rw [e]
    cases hA : (args.map a.eval).toList with
    | nil => rw [hA] at hargs; cases hargs
    | cons x' as' =>
     rw [hA] at hargs
     cases hargs with
     | cons hx hrest => exact lenL_sim hrel hv hx ats ty as' (by rw [<- Array.getElem?_toList, ht1]; rfl)
   | max =>
    obtain ⟨x, as1, rfl, h3⟩ := arg0_eq.1 (show arg0 as _ = some r from h1)
    obtain ⟨v, hv, rfl⟩ := rv_eq h3
    refine ok_val (s := Builtin.max_ ats ty (args.map a.eval)) (by rw [hex]; rfl) hrel ?_
    unfold Builtin.max_
    cases hA : (args.map a.eval).toList with
    | nil => rw [hA] at hargs; cases hargs
    | cons x' as' =>
     rw [hA] at hargs
     cases hargs with
     | cons hx hrest => exact foldL_sim (fun _ _ _ _ _ g1 g2 g3 => max2L_sim g1 g2 g3) _ _ _ _ _ hv hx hrest
   | min =>
    obtain ⟨x, as1, rfl, h3⟩ := arg0_eq.1 (show arg0 as _ = some r from h1)
    obtain ⟨v, hv, rfl⟩ := rv_eq h3
    refine ok_val (s := Builtin.min_ ats ty (args.map a.eval)) (by rw [hex]; rfl) hrel ?_
    unfold Builtin.min_
    cases hA : (args.map a.eval).toList with
    | nil => rw [hA] at hargs; cases hargs
    | cons x' as' =>
     rw [hA] at hargs
     cases hargs with
     | cons hx hrest => exact foldL_sim (fun _ _ _ _ _ g1 g2 g3 => min2L_sim g1 g2 g3) _ _ _ _ _ hv hx hrest
   | _ => cases h1
 | _ => cases h
end op1
end PvL
end
section
namespace PvL
open Go

section
variable {P : Program}

theorem Same.trans {ρ ρ1 ρ2 : Rho} {a b c : Nat} (h : Same ρ ρ1 a b) (h' : Same ρ1 ρ2 b c) (hab : a <= b) (hbc : b <= c) : Same ρ ρ2 a c :=
 ⟨h.1.trans h'.1, fun i hi => by rw [h'.2 i (by omega), h.2 i (by omega)]⟩
theorem Fresh.left {ρ : Rho} {a b c : Nat} (h : Fresh ρ a c) (hbc : b <= c) : Fresh ρ a b := fun i h1 h2 => h i h1 (by omega)
theorem Fresh.right {ρ ρ1 : Rho} {a b c : Nat} (h : Fresh ρ a c) (hs : Same ρ ρ1 a b) (hab : a <= b) : Fresh ρ1 b c := fun i h1 h2 => by
 rw [hs.2 i (by omega)]; exact h i (by omega) h2

def DR (ρ : Rho) : List Nat -> List Deferred -> Prop
 | [], [] => True
 | d :: ds, x :: xs => (∃ b s c, ρ d = some (b, s, c) /\ x = { target := .collected b, args := #[] }) /\ DR ρ ds xs
 | _, _ => False
theorem DR.mono {ρ ρ' : Rho} (h : RLe ρ ρ') : ∀ {ds : List Nat} {xs : List Deferred}, DR ρ ds xs -> DR ρ' ds xs
 | [], [], _ => trivial
 | _ :: _, _ :: _, ⟨⟨b, s, c, h1, h2⟩, h3⟩ => ⟨⟨b, s, c, h _ _ h1, h2⟩, DR.mono h h3⟩
 | [], _ :: _, h => h.elim
 | _ :: _, [], h => h.elim
def RO (ρ : Rho) : Option Nat -> Option Nat -> Prop
 | none, none => True
 | some l, some b => ∃ s c, ρ l = some (b, s, c)
 | _, _ => False
theorem RO.mono {ρ ρ' : Rho} (h : RLe ρ ρ') {ro rb : Option Nat} (hr : RO ρ ro rb) : RO ρ' ro rb := by
 cases ro <;> cases rb <;> first | exact hr | (obtain ⟨s, c, h1⟩ := hr; exact ⟨s, c, h _ _ h1⟩)

def Arr (P : Program) (m : Machine) (b : Frame) (k : List Item) (cs : List Frame) : Ex -> Act -> World -> Prop
 | .norm, a, w => Steps P m (lone (b.atR a k) cs w)
 | .ret, a, w => ∃ k1, Steps P m (lone (b.atR a (.code .ret :: k1)) cs w)
 | .exit id, a, w => ∃ k1, exitTo id k1 = exitTo id k /\ Steps P m (lone (b.atR a (.code (.exit id) :: k1)) cs w)
theorem Arr.of_steps {m m1 : Machine} {b : Frame} {k : List Item} {cs : List Frame} {e : Ex} {a : Act} {w : World} (h : Steps P m m1) (h' : Arr P m1 b k cs e a w) : Arr P m b k cs e a w := by
 cases e with
 | norm => exact h.trans h'
 | ret => obtain ⟨k1, h1⟩ := h'; exact ⟨k1, h.trans h1⟩
 | exit id => obtain ⟨k1, h0, h1⟩ := h'; exact ⟨k1, h0, h.trans h1⟩

def Sim (P : Program) : Task -> Out -> Prop
 | .code fn ro c T ms m, .code e T' ms' m' => ∀ (Pt : Prot) (ρ : Rho) (b : Frame) (k : List Item) (cs : List Frame) (w : World) (a : Act),
   b.fn = fn -> RO ρ ro b.roundOf -> TR ρ T a.tmps -> DR ρ ms a.defers -> Rel Pt ρ m w -> Fresh ρ m.next m'.next ->
   ∃ ρ' a' w', Same ρ ρ' m.next m'.next /\ TR ρ' T' a'.tmps /\ DR ρ' ms' a'.defers /\ Rel Pt ρ' m' w' /\ Arr P (lone (b.atR a (.code c :: k)) cs w) b k cs e a' w'
 | .call f as m, .call v m' => ∀ (Pt : Prot) (ρ : Rho) (w : World) (as' : Array Value) (cs : List Frame), VRs ρ as as'.toList -> Rel Pt ρ m w -> Fresh ρ m.next m'.next ->
   ∃ ρ' v' w', Same ρ ρ' m.next m'.next /\ VR ρ' v v' /\ Rel Pt ρ' m' w' /\ ∃ fr, Steps P (lone (Frame.enter P f as' .normal) cs w) (lone fr cs w') /\ fr.fn = f /\ fr.leaving P w' (.returned v')
 | .round l as m, .call v m' => ∀ (Pt : Prot) (ρ : Rho) (w : World) (as' : Array Value) (bl s c : Nat) (fc : Frame) (cs : List Frame), ρ l = some (bl, s, c) -> VRs ρ as as'.toList -> Rel Pt ρ m w -> Fresh ρ m.next m'.next ->
   ∃ ρ' v' w', Same ρ ρ' m.next m'.next /\ VR ρ' v v' /\ Rel Pt ρ' m' w' /\ ∃ f tmps assign body, (Instr.yield bl as').run P w = .ok (.round bl f tmps assign body) w /\
    Steps P (lone (Frame.round bl f tmps assign body .normal) (fc :: cs) w) (lone (fc.finish v') cs w')
 | _, _ => True

theorem wanted_sim {ρ : Rho} {T : Tm} {a : Act} {ops : Array Oper} {o : Oper} {b : Bool} (h : wanted ops.toList T o.guard = some b) (hT : TR ρ T a.tmps) : Region.wanted o (yielded ops a.tmps) = b := by
 unfold Region.wanted
 cases hg : o.guard with
 | none => rw [hg] at h; cases h; rfl
 | some p =>
  obtain ⟨j, want⟩ := p
  rw [hg] at h
  have h : oe ((ops.toList[j]?).bind (·.dst)) (some false) (fun d => ob (evT T d) (isBoolAs want)) = some b := h
  simp only [Array.getElem?_toList] at h
  have hy : ∀ x, ((ops[j]?).bind (·.dst)).bind (a.tmps[·]?) = x -> yielded ops a.tmps j = (match x with | some (.bool b) => some b | _ => none) := by
   intro x hx; unfold yielded; rw [hx]; rfl
  show (yielded ops a.tmps j == some want) = b
  cases hd : (ops[j]?).bind (·.dst) with
  | none =>
   rw [hd] at h; cases h
   rw [hy none (by rw [hd]; rfl)]
   rfl
  | some d =>
   rw [hd] at h hy
   have h : ob (evT T d) (isBoolAs want) = some b := h
   rw [evT_eq] at h
   have h : isBoolAs want (T.get d) = some b := h
   have hv := hT.2 d
   unfold isBoolAs at h
   split at h
   ·rename_i b' e
    cases h
    rw [e] at hv
    have := hv.bool_inv
    rw [Array.getD_eq_getD_getElem?] at this
    have h2 : a.tmps[d]? = some (.bool b') := by
     cases ht : a.tmps[d]? with
     | none => rw [ht] at this; cases this
     | some x => rw [ht] at this; simp at this; rw [this]
    rw [hy _ (show (some d).bind (a.tmps[·]?) = some (.bool b') from h2), bEq_eq]
    cases b' <;> cases want <;> rfl
   ·rename_i e
    cases h
    rw [e] at hv
    have h2 : a.tmps.getD d undef = .tuple #[] := by
     generalize a.tmps.getD d undef = x at hv
     cases hv with
     | tup h => rename_i vs'; obtain ⟨l⟩ := vs'; have h : VRs ρ [] l := h; cases h; rfl
    rw [Array.getD_eq_getD_getElem?] at h2
    cases ht : a.tmps[d]? with
    | none => rw [hy none ht]; rfl
    | some x => rw [ht] at h2; simp at h2; subst h2; rw [hy (some (.tuple #[])) ht]; rfl
   ·cases h

variable {rec : Task -> Option Out}
def RecSim (P : Program) (rec : Task -> Option Out) : Prop := ∀ t o, rec t = some o -> Sim P t o

theorem opStep_sim (hm : RecMono rec) (hrec : RecSim P rec) {ops : Array Oper} {i : Nat} {o : Oper} {T T' : Tm} {m m' : Mem} (ho : ops[i]? = some o) (hs : OpStep P rec T m o.op o.dst T' m')
  (hcall : ∀ f as m1 v m2, rec (.call f as m1) = some (.call v m2) -> ∃ fn, fnOf P f = some fn)
  {Pt : Prot} {ρ : Rho} {b : Frame} {w : World} {a : Act} (rest : List Nat) (k : List Item) (cs : List Frame) (hw : Region.wanted o (yielded ops a.tmps) = true) (hT : TR ρ T a.tmps) (hrel : Rel Pt ρ m w) (hf : Fresh ρ m.next m'.next) :
  ∃ ρ' v' w', Same ρ ρ' m.next m'.next /\ TR ρ' T' (a.put o.dst v').tmps /\ Rel Pt ρ' m' w' /\
   Steps P (lone (b.atR a (.inRegion ops (i :: rest) :: k)) cs w) (lone (b.atR (a.put o.dst v') (.inRegion ops rest :: k)) cs w') := by
 have hnd : ∀ r, op1 P o.op T m = some r -> ∀ c, o.op ≠ .defer c := by
  intro r hr c e
  rw [e] at hr
  cases hr
 have hfin : ∀ v, (b.atR a (.inRegion ops (i :: rest) :: k)).finish v = b.atR (a.put o.dst v) (.inRegion ops rest :: k) := by
  intro v; rw [Frame.finish_atR, ho]; rfl
 cases hs with
 | val h hp =>
  have hok := op1_sim h hT hrel hf
  obtain ⟨ρ', v', w', hr, hsame, hv, hrel'⟩ := hok
  refine ⟨ρ', v', w', hsame, (hT.mono hsame.1).put hp hv, hrel', .one (step_lone_go ?_)⟩
  rw [stepGR_op ho hw, Oper.semAt_eq _ _ _ (hnd _ h), <- hfin]
  simp [stepG.apply, hr]
 | skip h hp =>
  have hok := op1_sim h hT hrel hf
  obtain ⟨w', hr, hrel', hn⟩ := hok
  refine ⟨ρ, undef, w', by rw [hn]; exact Same.refl _ _ _, hT.put hp (.tup .nil), hrel', .one (step_lone_go ?_)⟩
  rw [stepGR_op ho hw, Oper.semAt_eq _ _ _ (hnd _ h), <- hfin]
  simp [stepG.apply, hr]
 | enter h hr hp =>
  rename_i f as m1 v
  have hm1 : m.next <= m1.next := op1_next _ _ h
  have hm2 : m1.next <= m'.next := hm _ _ hr
  have hok := op1_sim h hT hrel (hf.left hm2)
  obtain ⟨rfl, hok⟩ := hok
  obtain ⟨fn, hfn⟩ := hcall _ _ _ _ _ hr
  obtain ⟨as', hrun, has⟩ := hok fn hfn
  obtain ⟨ρ', v', w', hsame, hv, hrel', hst⟩ := hrec _ _ hr Pt ρ w as' (b.atR a (.inRegion ops (i :: rest) :: k) :: cs) has hrel hf
  refine ⟨ρ', v', w', hsame, (hT.mono hsame.1).put hp hv, hrel', ?_⟩
  obtain ⟨fr, h1, h2, h3⟩ := hst
  have henter : step P (lone (b.atR a (.inRegion ops (i :: rest) :: k)) cs w) = .next (lone (Frame.enter P f as' .normal) (b.atR a (.inRegion ops (i :: rest) :: k) :: cs) w) :=
   step_lone_go (by rw [stepGR_op ho hw, Oper.semAt_eq _ _ _ (hnd _ h)]; simp [stepG.apply, hrun, Frame.atR])
  refine .head henter (h1.trans (.one ?_))
  rw [<- hfin]; exact step_leave_returned h3
 | round h hr hp =>
  rename_i l as m1 v
  have hm2 : m1.next <= m'.next := hm _ _ hr
  have hok := op1_sim h hT hrel (hf.left hm2)
  obtain ⟨rfl, bl, s, c, as', hρ, has, hrun⟩ := hok
  obtain ⟨ρ', v', w', hsame, hv, hrel', f, tmps, assign, body, hy, hst⟩ := hrec _ _ hr Pt ρ w as' bl s c (b.atR a (.inRegion ops (i :: rest) :: k)) cs hρ has hrel hf
  refine ⟨ρ', v', w', hsame, (hT.mono hsame.1).put hp hv, hrel', ?_⟩
  rw [hy] at hrun
  have henter : step P (lone (b.atR a (.inRegion ops (i :: rest) :: k)) cs w) = .next (lone (Frame.round bl f tmps assign body .normal) (b.atR a (.inRegion ops (i :: rest) :: k) :: cs) w) :=
   step_lone_go (by rw [stepGR_op ho hw, Oper.semAt_eq _ _ _ (hnd _ h)]; simp [stepG.apply, hrun, Frame.atR])
  refine .head henter ?_
  rw [<- hfin]; exact hst
end
end PvL
end
section
namespace PvL
open Go

section
variable {P : Program} {rec : Task -> Option Out}

theorem range_succ' (i n : Nat) : List.range' i (n + 1) = i :: List.range' (i + 1) n := by simp [List.range'_succ]
theorem opsRun_sim (hm : RecMono rec) (hrec : RecSim P rec) (hcall : ∀ f as m1 v m2, rec (.call f as m1) = some (.call v m2) -> ∃ fn, fnOf P f = some fn) {ops : Array Oper} :
  ∀ (os : List Oper) (i : Nat) (T T' : Tm) (m m' : Mem), (∀ j, os[j]? = ops[i + j]?) -> opsRun P rec ops.toList os T m = some (T', m') ->
  ∀ (Pt : Prot) (ρ : Rho) (b : Frame) (k : List Item) (cs : List Frame) (w : World) (a : Act), TR ρ T a.tmps -> Rel Pt ρ m w -> Fresh ρ m.next m'.next ->
   ∃ ρ' a' w', Same ρ ρ' m.next m'.next /\ TR ρ' T' a'.tmps /\ a'.defers = a.defers /\ Rel Pt ρ' m' w' /\
    Steps P (lone (b.atR a (.inRegion ops (List.range' i os.length) :: k)) cs w) (lone (b.atR a' k) cs w')
 | [], i, T, T', m, m', _, h, Pt, ρ, b, k, cs, w, a, hT, hrel, hf => by
  cases h
  exact ⟨ρ, a, w, Same.refl _ _ _, hT, rfl, hrel, .one stepR_region_end⟩
 | o :: os, i, T, T', m, m', hos, h, Pt, ρ, b, k, cs, w, a, hT, hrel, hf => by
  have ho : ops[i]? = some o := by have := hos 0; simpa using this.symm
  have hos' : ∀ j, os[j]? = ops[i + 1 + j]? := fun j => by have := hos (j + 1); simp only [List.getElem?_cons_succ] at this; rw [this]; congr 1; omega
  rw [List.length_cons, range_succ']
  rcases opsRun_cons h with ⟨hw, T1, m1, hst, h1⟩ | ⟨hw, T1, hp, h1⟩
  ·have hw' := wanted_sim hw hT
   have n1 := hst.next hm
   have n2 := opsRun_next hm _ _ _ _ h1
   obtain ⟨ρ1, v1, w1, hs1, hT1, hrel1, hsteps⟩ := opStep_sim (b := b) hm hrec ho hst hcall (List.range' (i + 1) os.length) k cs hw' hT hrel (hf.left n2)
   obtain ⟨ρ2, a2, w2, hs2, hT2, hd2, hrel2, hsteps2⟩ := opsRun_sim hm hrec hcall os (i + 1) T1 T' m1 m' hos' h1 Pt ρ1 b k cs w1 _ hT1 hrel1 (hf.right hs1 n1)
   exact ⟨ρ2, a2, w2, hs1.trans hs2 n1 n2, hT2, by rw [hd2, put_defers], hrel2, hsteps.trans hsteps2⟩
  ·have hw' := wanted_sim hw hT
   obtain ⟨ρ2, a2, w2, hs2, hT2, hd2, hrel2, hsteps2⟩ := opsRun_sim hm hrec hcall os (i + 1) T1 T' m m' hos' h1 Pt ρ b k cs w (a.put o.dst undef) (hT.put hp (.tup .nil)) hrel hf
   refine ⟨ρ2, a2, w2, hs2, hT2, by rw [hd2, put_defers], hrel2, .head ?_ hsteps2⟩
   have := stepR_op_skip (P := P) (b := b) (a := a) (k := k) (cs := cs) (w := w) (ops := ops) (i := i) (rest := List.range' (i + 1) os.length) (by simp [ho, hw'])
   rw [this, ho]; rfl

def resF (tmps : Array Value) : ResultVar -> Sem Value := fun r => match r with
 | .tmp t => pure (tmps.getD t undef)
 | .cell a t => do loadVar t (<- asAddr (tmps.getD a undef))
theorem results_sim {Pt : Prot} {ρ : Rho} {m : Mem} {w : World} {T : Tm} {tmps : Array Value} (hT : TR ρ T tmps) (hrel : Rel Pt ρ m w) :
  ∀ (rs : List ResultVar) (vs : List LV), resultsOf P T m rs = some vs -> ∃ vs' : List Value, (rs.mapM (resF tmps)).run P w = .ok vs' w /\ VRs ρ vs vs'
 | [], vs, h => by cases h; exact ⟨[], rfl, .nil⟩
 | r :: rs, vs, h => by
  obtain ⟨v, hv, h1⟩ := ob_eq.1 (show ob (resultOf P T m r) _ = some vs from h)
  obtain ⟨vs2, hvs, h2⟩ := ob_eq.1 h1
  cases h2
  obtain ⟨vs', hr, hvr⟩ := results_sim hT hrel rs vs2 hvs
  have key : ∃ v', (resF tmps r).run P w = .ok v' w /\ VR ρ v v' := by
   cases r with
   | tmp t =>
    have hv : evT T t = some v := hv
    rw [evT_eq] at hv; cases hv
    exact ⟨_, rfl, hT.2 t⟩
   | cell x t =>
    obtain ⟨xv, hx, hl⟩ := ob_eq.1 (show ob (evT T x) (fun a => loadT P t m a) = some v from hv)
    rw [evT_eq] at hx; cases hx
    obtain ⟨ad, v', e, hr, hv'⟩ := loadT_sim hrel (hT.2 x) hl
    refine ⟨v', ?_, hv'⟩
    simp only [resF, Sem.run_bind, e, asAddr, Sem.run_pure, Result.andThen_ok]
    exact hr
  obtain ⟨v', hr', hv'⟩ := key
  refine ⟨v' :: vs', ?_, .cons hv' hvr⟩
  rw [List.mapM_cons, Sem.run_bind, hr', Result.andThen_ok, Sem.run_bind, hr]
  rfl
theorem packed_sim {ρ : Rho} {vs : List LV} {vs' : Array Value} (h : VRs ρ vs vs'.toList) : VR ρ (packed vs) (if h : vs'.size = 1 then vs'[0] else .tuple vs') := by
 obtain ⟨l⟩ := vs'
 have h : VRs ρ vs l := h
 have hl := h.length
 match vs, l, h with
 | [], [], h => simp; exact .tup .nil
 | [v], [v'], h => cases h with | cons h _ => simpa [packed] using h
 | v :: u :: vs, v' :: u' :: l, h =>
  have : ¬ (v' :: u' :: l).toArray.size = 1 := by simp
  rw [dif_neg this]
  exact .tup h
theorem takeMarks_sim {Pt : Prot} (b : Frame) (hb : b.roundOf = none) (k : List Item) (cs : List Frame) :
  ∀ (ms : List Nat) (ds : List Deferred) (ρ : Rho) (m m' : Mem) (w : World) (tmps : Array Value), takeMarks ms m = some m' -> DR ρ ms ds -> Rel Pt ρ m w ->
   ∃ w', Rel Pt ρ m' w' /\ Steps P (lone { b.atR { tmps, defers := ds } k with mode := .returning } cs w) (lone { b.atR { tmps, defers := [] } k with mode := .returning } cs w')
 | [], [], ρ, m, m', w, tmps, h, _, hrel => by cases h; exact ⟨w, hrel, Steps.refl _ _⟩
 | d :: ms, x :: ds, ρ, m, m', w, tmps, h, ⟨⟨bl, s, c, hρ, hx⟩, hd⟩, hrel => by
  obtain ⟨hg, h1⟩ := atDefr_eq.1 (show atDefr m d (takeMarks ms (m.upd d none)) = some m' from h)
  obtain ⟨_, b1, s1, c1, o, e1, hbr, hh, hp⟩ := hrel.live d _ hg
  rw [hρ] at e1; cases e1
  have hbr : o = .deferred (some []) := hbr
  subst hbr
  subst hx
  have hbl : bl < w.heap.size := (Array.getElem?_eq_some_iff.1 hh).1
  let w1 : World := { w with heap := w.heap.setIfInBounds bl (.deferred none) }
  have hrel1 : Rel Pt ρ (m.upd d none) w1 := by
   have h0 := hrel.drop d
   refine ⟨fun r o hr => ?_, fun j l hj => ?_, h0.inj, h0.still.1, fun r C t fr hr e => ?_⟩
   rotate_right
   ·have e : (w.heap.setIfInBounds bl (.deferred none))[r]? = some (.cells C t fr) := e
    by_cases eb : r = bl
    ·rw [eb, Array.getElem?_setIfInBounds_self_of_lt hbl] at e; cases e
    ·rw [Array.getElem?_setIfInBounds_ne (Ne.symm eb)] at e; exact h0.still.2 r C t fr hr e
   ·have : r ≠ bl := fun e => by
     subst e
     have hp : Pt r = none := hp
     rw [hp] at hr; cases hr
    show (w.heap.setIfInBounds bl _)[r]? = _
    rw [Array.getElem?_setIfInBounds_ne (Ne.symm this)]
    exact h0.keep r o hr
   ·obtain ⟨hl, b2, s2, c2, o2, e2, g1, g2, g3⟩ := h0.live j l hj
    have hne : b2 ≠ bl := by
     intro eb; subst eb
     rw [Mem.get_upd] at hj
     by_cases e : j = d
     ·rw [if_pos e] at hj; cases hj
     ·rw [if_neg e] at hj
      by_cases hr : isRo l = true
      ·rw [if_pos hr] at g3
       have hp : Pt b2 = none := hp
       rw [hp] at g3; cases g3.1
      ·exact e (hrel.inj j d l _ _ _ hj hg (by simpa using hr) rfl e2 hρ rfl)
    refine ⟨hl, b2, s2, c2, o2, e2, g1, ?_, g3⟩
    show (w.heap.setIfInBounds bl _)[b2]? = _
    rw [Array.getElem?_setIfInBounds_ne (Ne.symm hne)]
    exact g2
  obtain ⟨w', hrel', hst⟩ := takeMarks_sim b hb k cs ms ds ρ _ m' w1 tmps h1 hd hrel1
  refine ⟨w', hrel', .head ?_ hst⟩
  have hrun : (Instr.takeDeferred bl).run P w = .ok [] w1 := by
   simp [Instr.takeDeferred, getObj, setObj, Sem.run, hh, w1]
  exact step_lone_go (by simp [stepG, unwind, Frame.atR, Sem.runT_eq, hrun])
 | [], _ :: _, _, _, _, _, _, _, h, _ => h.elim
 | _ :: _, [], _, _, _, _, _, _, h, _ => h.elim

theorem Tm.setAll_sim {ρ : Rho} : ∀ (vs : List LV) (vs' : List Value) (i : Nat) (T T' : Tm) (A : Array Value), Tm.setAll vs i T = some T' -> VRs ρ vs vs' ->
  A.size = T.size -> (∀ j, j < i -> VR ρ (T.get j) (A.getD j undef)) -> (∀ j, i <= j -> T.get j = .unk) -> (∀ j v', vs'[j]? = some v' -> A[i + j]? = some v') -> TR ρ T' A
 | [], vs', i, T, T', A, h, _, hs, hlo, hhi, _ => by
  cases h
  refine ⟨hs, fun j => ?_⟩
  by_cases hj : j < i
  ·exact hlo j hj
  ·rw [hhi j (by omega)]; exact .unk _
 | v :: vs, vs', i, T, T', A, h, hv, hs, hlo, hhi, hA => by
  cases hv with
  | cons hv hvs =>
   rename_i v' vs'
   obtain ⟨T1, h1, h2⟩ := ob_eq.1 (show ob (T.set i v) _ = some T' from h)
   obtain ⟨hi, e⟩ := Tm.set_eq.1 h1
   refine Tm.setAll_sim vs vs' (i + 1) T1 T' A h2 hvs (by rw [hs, e]) (fun j hj => ?_) (fun j hj => ?_) (fun j x hx => ?_)
   ·rw [Tm.get_set h1]
    by_cases hji : j = i
    ·subst hji
     rw [if_pos rfl, Array.getD_eq_getD_getElem?]
     have := hA 0 v' rfl
     rw [Nat.add_zero] at this
     rw [this]; exact hv
    ·rw [if_neg hji]; exact hlo j (by omega)
   ·rw [Tm.get_set h1, if_neg (by omega)]; exact hhi j (by omega)
   ·have := hA (j + 1) x (by simpa using hx)
    rw [<- this]; congr 1; omega
theorem ofList_sim {ρ : Rho} {n : Nat} {vs : List LV} {T : Tm} {A : Array Value} (h : Tm.ofList n vs = some T) (hv : VRs ρ vs A.toList) : TR ρ T (A ++ Array.replicate (n - A.size) undef) := by
 unfold Tm.ofList at h
 rw [fN_eq] at h
 have hl : vs.length = A.size := by simpa using hv.length
 refine Tm.setAll_sim vs A.toList 0 _ T _ h hv ?_ (fun j hj => by omega) (fun j _ => ?_) (fun j v' hj => ?_)
 ·show (A ++ Array.replicate (n - A.size) undef).size = Nat.max n vs.length
  simp [hl, Nat.max_def]; split <;> omega
 ·unfold Tm.get; simp
 ·simp only [Array.getElem?_toList] at hj
  have hb := (Array.getElem?_eq_some_iff.1 hj).1
  rw [Nat.zero_add, Array.getElem?_append_left hb]; exact hj
end
end PvL
end
section
namespace PvL
open Go

section
variable {P : Program} {rec : Task -> Option Out}

def DrawSim (P : Program) (rec : Task -> Option Out) : Prop := ∀ (ops : Array Oper) (T T' : Tm) (m m' : Mem) (st : List Mem) (kk : Nat) (ps : List Pend),
  regionOk P ops = true -> drawRun P rec ops.toList (deps ops) ops.toList 0 ⟨T, m, [m], 0, []⟩ = some ⟨T', m', st, kk, ps⟩ -> pendAll P st kk ps = true ->
  ∀ (Pt : Prot) (ρ : Rho) (b : Frame) (id : Nat) (k : List Item) (cs : List Frame) (w : World) (a : Act), TR ρ T a.tmps -> Rel Pt ρ m w -> Fresh ρ m.next m'.next ->
   ∃ ρ' a' w', Same ρ ρ' m.next m'.next /\ TR ρ' T' a'.tmps /\ a'.defers = a.defers /\ Rel Pt ρ' m' w' /\
    Steps P (lone (b.atR a (.code (.region id ops true) :: k)) cs w) (lone (b.atR a' k) cs w')

theorem getObj_run {w : World} {r : Nat} {o : Obj} (h : w.heap[r]? = some o) (ho : ∀ c e f, o ≠ .cells c e f) : (getObj r).run P w = .ok o w := by
 simp only [getObj, Sem.run, h]
theorem setObj_run {w : World} {r : Nat} {o o' : Obj} (h : w.heap[r]? = some o) (ho : ∀ c e f, o ≠ .cells c e f) : (setObj r o').run P w = .ok () { w with heap := w.heap.setIfInBounds r o' } := by
 simp only [setObj, Sem.run, h]
theorem Rel.loop {Pt : Prot} {ρ : Rho} {m : Mem} {w : World} (h : Rel Pt ρ m w) {i : Nat} {st : LoopState} {pend : Option Code} {fn : FuncId} {tm : Tm} {ps : List Tmp} {as bd : Code} {d : Nat}
  (hi : m.get i = some (.loop st pend fn tm ps as bd d)) {b s c : Nat} (hρ : ρ i = some (b, s, c)) :
  ∃ T' db, w.heap[b]? = some (.loop { state := st, pending := pend, fn, tmps := T', params := ps.toArray, assign := as, body := bd, defers := db }) /\ TR ρ tm T' /\ ∃ s c, ρ d = some (db, s, c) := by
 obtain ⟨_, b0, s0, c0, o, e0, ⟨T', db, rfl, hT, hd⟩, hh, _⟩ := h.live i _ hi
 rw [hρ] at e0; cases e0
 exact ⟨T', db, hh, hT, hd⟩
theorem Rel.turnLoop {Pt : Prot} {ρ : Rho} {m : Mem} {w : World} (h : Rel Pt ρ m w) {i : Nat} {st st' : LoopState} {pend pend' : Option Code} {fn : FuncId} {tm : Tm} {ps : List Tmp} {as bd : Code} {d : Nat}
  (hi : m.get i = some (.loop st pend fn tm ps as bd d)) {b s c : Nat} (hρ : ρ i = some (b, s, c)) {T' : Array Value} {db : Nat} (hT : TR ρ tm T') (hd : ∃ s c, ρ d = some (db, s, c)) (hb : b < w.heap.size) :
  Rel Pt ρ (m.upd i (some (.loop st' pend' fn tm ps as bd d))) { w with heap := w.heap.setIfInBounds b (.loop { state := st', pending := pend', fn, tmps := T', params := ps.toArray, assign := as, body := bd, defers := db }) } := by
 refine h.turn hi rfl rfl hρ (o' := .loop { state := st', pending := pend', fn, tmps := T', params := ps.toArray, assign := as, body := bd, defers := db }) ⟨T', db, rfl, hT, hd⟩ ?_ ?_
 ·show (w.heap.setIfInBounds b _)[b]? = _
  rw [Array.getElem?_setIfInBounds_self_of_lt hb]
 ·intro r hr
  show (w.heap.setIfInBounds b _)[r]? = _
  rw [Array.getElem?_setIfInBounds_ne (Ne.symm hr)]
theorem Steps.tail {m1 m2 m3 : Machine} (h : step P m1 = .next m2) (h' : Steps P m1 m3) (hne : m3 ≠ m1) : Steps P m2 m3 := by
 obtain ⟨n, hn⟩ := h'
 cases n with
 | zero => cases hn; exact absurd rfl hne
 | succ n =>
  simp only [runN, h] at hn
  exact ⟨n, hn⟩
theorem lone_todo {fr fr' : Frame} {cs cs' : List Frame} {w w' : World} (h : lone fr cs w = lone fr' cs' w') : fr.todo = fr'.todo := by
 unfold lone at h
 have := congrArg Machine.gs h
 simp at this
 rw [this.1]
theorem Arr.of_loop {m0 X : Machine} {b : Frame} {k : List Item} {cs : List Frame} {x : Code} {a1 a2 : Act} {w1 w2 : World} {e : Ex} (pre : Steps P m0 X) (s2 : step P (lone (b.atR a1 (Item.code (.loop x) :: k)) cs w1) = .next X)
  (h : Arr P (lone (b.atR a1 (Item.code (.loop x) :: k)) cs w1) b k cs e a2 w2) : Arr P m0 b k cs e a2 w2 := by
 cases e with
 | norm =>
  refine pre.trans (Steps.tail s2 h fun e => ?_)
  have := lone_todo e
  simp [Frame.atR] at this
 | ret =>
  obtain ⟨k1, h1⟩ := h
  refine ⟨k1, pre.trans (Steps.tail s2 h1 fun e => ?_)⟩
  have := lone_todo e
  simp [Frame.atR] at this
 | exit id =>
  obtain ⟨k1, hk, h1⟩ := h
  refine ⟨k1, hk, pre.trans (Steps.tail s2 h1 fun e => ?_)⟩
  have := lone_todo e
  simp [Frame.atR] at this

theorem rfEnd_sim (hrec : RecSim P rec) {fn : FuncId} {ro : Option Nat} {l : Nat} {T T' : Tm} {ms ms' : List Nat} {m m' : Mem} {e : Ex} (h : rfEnd rec fn ro l T ms m = some (.code e T' ms' m'))
  {Pt : Prot} {ρ : Rho} {b : Frame} {k : List Item} {cs : List Frame} {w : World} {a : Act} {bl s c : Nat} (hρ : ρ l = some (bl, s, c)) (hb : b.fn = fn) (hro : RO ρ ro b.roundOf) (hT : TR ρ T a.tmps) (hd : DR ρ ms a.defers) (hrel : Rel Pt ρ m w) (hf : Fresh ρ m.next m'.next) :
  ∃ ρ' a' w', Same ρ ρ' m.next m'.next /\ TR ρ' T' a'.tmps /\ DR ρ' ms' a'.defers /\ Rel Pt ρ' m' w' /\ Arr P (lone (b.atR a (.endRangeFunc bl :: k)) cs w) b k cs e a' w' := by
 obtain ⟨st, pend, fn', tm', ps', a', b', d', hg, h1⟩ := atLoop_get h
 obtain ⟨hnb, h2⟩ := notBusy_eq h1
 obtain ⟨TT, db, hh, hTT, hdd⟩ := hrel.loop hg hρ
 have hbl : bl < w.heap.size := (Array.getElem?_eq_some_iff.1 hh).1
 have hrel1 := hrel.turnLoop (st' := .exhausted) (pend' := pend) hg hρ hTT hdd hbl
 have hend : (Instr.endLoop bl).run P w = .ok pend { w with heap := w.heap.setIfInBounds bl (.loop { state := .exhausted, pending := pend, fn := fn', tmps := TT, params := ps'.toArray, assign := a', body := b', defers := db }) } := by
  unfold Instr.endLoop Instr.getLoop
  simp only [Sem.run_bind, getObj_run hh (by simp), Result.andThen_ok, Sem.run_pure]
  have : (st == LoopState.busy) = false := by cases st <;> first | rfl | exact absurd rfl hnb
  simp only [this, Bool.false_eq_true, if_false, Sem.run_bind, setObj_run hh (by simp), Result.andThen_ok, Sem.run_pure]
 have hstep := stepR_endRangeFunc (P := P) (b := b) (a := a) (k := k) (cs := cs) hend
 cases pend with
 | none =>
  cases h2
  exact ⟨ρ, a, _, by rw [Mem.next_upd]; exact Same.refl _ _ _, hT, hd, hrel1, .one hstep⟩
 | some c0 =>
  have h2 : rec (.code fn ro c0 T ms (m.upd l (some (.loop .exhausted (some c0) fn' tm' ps' a' b' d')))) = some (.code e T' ms' m') := h2
  obtain ⟨ρ', a1, w1, hs, hT1, hd1, hr1, harr⟩ := hrec _ _ h2 Pt ρ b k cs _ a hb hro hT hd hrel1 (by rw [Mem.next_upd]; exact hf)
  rw [Mem.next_upd] at hs
  exact ⟨ρ', a1, w1, hs, hT1, hd1, hr1, .of_steps (.one hstep) harr⟩

theorem rfCall_sim (hm : RecMono rec) (hrec : RecSim P rec) (hcall : ∀ f as m1 v m2, rec (.call f as m1) = some (.call v m2) -> ∃ fn, fnOf P f = some fn)
  {fn : FuncId} {ro : Option Nat} {f : Operand} {ps : Array Tmp} {as bd : Code} {d : Nat} {T T' : Tm} {ms ms' : List Nat} {m m' : Mem} {e : Ex} (h : rfCall rec fn ro f ps as bd d T ms m = some (.code e T' ms' m'))
  {Pt : Prot} {ρ : Rho} {b : Frame} {k : List Item} {cs : List Frame} {w : World} {a : Act} {w0 : World} {mark : List Deferred} {db s c : Nat} (hρ : ρ d = some (db, s, c)) (hb : b.fn = fn) (hro : RO ρ ro b.roundOf) (hT : TR ρ T a.tmps)
  (hd : DR ρ ms (mark ++ a.defers)) (hrel : Rel Pt ρ m w) (hf : Fresh ρ m.next m'.next)
  (henter : (Instr.enterLoop b.fn a.tmps ps as bd b.roundOf).run P w0 = .ok (w.heap.size, mark) { w with heap := w.heap.push (.loop { state := .ready, pending := none, fn := b.fn, tmps := a.tmps, params := ps, assign := as, body := bd, defers := db }) }) :
  ∃ ρ' a' w', Same ρ ρ' m.next m'.next /\ TR ρ' T' a'.tmps /\ DR ρ' ms' a'.defers /\ Rel Pt ρ' m' w' /\ Arr P (lone (b.atR a (.code (.rangeFunc f ps as bd) :: k)) cs w0) b k cs e a' w' := by
 unfold rfCall at h
 rw [Mem.new_eq] at h
 obtain ⟨fv, hfv, h1⟩ := ob_eq.1 h
 obtain ⟨g, fi, ca, rfl, h2⟩ := asFn_eq h1
 obtain ⟨v, m2, h3, h4⟩ := outCall_eq.1 h2
 obtain ⟨fn0, hfn0⟩ := hcall _ _ _ _ _ h3
 have n3 : m.next + 1 <= m2.next := hm _ _ h3
 have n4 : m2.next <= m'.next := rfEnd_next hm h4
 have hf0 : ρ m.next = none := hf _ (Nat.le_refl _) (by omega)
 have hle := RLe.upd1 (ρ := ρ) (i := m.next) (x := (w.heap.size, 0, 0)) hf0
 have hrel1 := hrel.alloc hf0 (lb := .loop .ready none fn T ps.toList as bd d) (o := .loop { state := .ready, pending := none, fn := b.fn, tmps := a.tmps, params := ps, assign := as, body := bd, defers := db }) (c := 0) rfl
  ⟨a.tmps, db, by rw [hb, Array.toArray_toList], hT, s, c, hρ⟩
 have hs1 := Same.upd1 (ρ := ρ) (i := m.next) (x := (w.heap.size, 0, 0)) hf0
 have hfr := (hf.right hs1 (Nat.le_succ _))
 have hvf := ev_sim hT hfv
 cases hev : a.eval f with
 | func F fi' ca' =>
  rw [hev] at hvf
  cases hvf with
  | func g1 g2 =>
   have hargs : VRs (upd1 ρ m.next (w.heap.size, 0, 0)) (fi ++ [LV.func (.yield m.next) [] []] ++ ca) (fi' ++ #[Value.func (.yield w.heap.size) #[] #[]] ++ ca').toList := by
    simp only [Array.toList_append]
    exact ((g1.mono hle).append (.cons (.yield (upd1_self _ _ _)) .nil)).append (g2.mono hle)
   obtain ⟨ρ2, v', w2, hs2, hv2, hrel2, hst⟩ := hrec _ _ h3 Pt _ _ (fi' ++ #[Value.func (.yield w.heap.size) #[] #[]] ++ ca') (b.atR { a with defers := mark ++ a.defers } (.inRangeFunc w.heap.size :: k) :: cs) hargs hrel1 (hfr.left n4)
   have hs12 := hs1.trans hs2 (Nat.le_succ _) n3
   have hl2 : ρ2 m.next = some (w.heap.size, 0, 0) := hs2.1 _ _ (upd1_self _ _ _)
   obtain ⟨ρ3, a3, w3, hs3, hT3, hd3, hrel3, harr⟩ := rfEnd_sim (b := b) (k := k) (cs := cs) (a := { a with defers := mark ++ a.defers }) hrec h4 hl2 hb (hro.mono hs12.1) (hT.mono hs12.1) (hd.mono hs12.1) hrel2 (hfr.right hs2 n3)
   refine ⟨ρ3, a3, w3, hs12.trans hs3 (by omega) n4, hT3, hd3, hrel3, ?_⟩
   obtain ⟨fr, k1, k2, k3⟩ := hst
   obtain ⟨fn', hg, hx3⟩ := ob_eq.1 hfn0
   obtain ⟨hbody, hx4⟩ := guard'_eq.1 hx3
   obtain ⟨hname, hx5⟩ := guard'_eq.1 hx4
   have hnone : fn'.body.isNone = false := by cases hbb : fn'.body with
    | none => rw [hbb] at hbody; cases hbody
    | some _ => rfl
   have hnm : (fn'.name == "runtime.NumGoroutine") = false := by simpa using hname
   have hres : (resolve a.eval (rangeCall f w.heap.size) 0).run P { w with heap := w.heap.push (.loop { state := .ready, pending := none, fn := b.fn, tmps := a.tmps, params := ps, assign := as, body := bd, defers := db }) } =
     .ok { target := .fn (.func g) ca', args := fi' ++ #[Value.func (.yield w.heap.size) #[] #[]] } { w with heap := w.heap.push (.loop { state := .ready, pending := none, fn := b.fn, tmps := a.tmps, params := ps, assign := as, body := bd, defers := db }) } := by
    show Sem.run P (Deferred.ofValue (a.eval f) (#[Operand.const (Value.func (.yield w.heap.size) #[] #[])].map a.eval)) _ = _
    rw [hev]
    simp [Deferred.ofValue, Act.eval]
   have hinv : (invoke (.fn (.func g) ca') (fi' ++ #[Value.func (.yield w.heap.size) #[] #[]])).run P { w with heap := w.heap.push (.loop { state := .ready, pending := none, fn := b.fn, tmps := a.tmps, params := ps, assign := as, body := bd, defers := db }) } =
     .ok (.enter g (fi' ++ #[Value.func (.yield w.heap.size) #[] #[]] ++ ca')) { w with heap := w.heap.push (.loop { state := .ready, pending := none, fn := b.fn, tmps := a.tmps, params := ps, assign := as, body := bd, defers := db }) } := by
    simp only [invoke, callFunc, Sem.run_bind, run_program, Result.andThen_ok, hg, hnm, hnone, Bool.false_eq_true, if_false]
    rfl
   have hstep := stepR_rangeFunc (P := P) (b := b) (a := a) (k := k) (cs := cs) (g := f) henter hres hinv
   refine .of_steps (.head hstep (k1.trans (.one ?_))) harr
   rw [<- finish_atR_inRangeFunc w.heap.size v']; exact step_leave_returned k3
 | _ => rw [hev] at hvf; cases hvf

theorem setParams_len : ∀ (ps : List Tmp) (as : List LV) (T T' : Tm), setParams ps as T = some T' -> as.length = ps.length
 | [], [], _, _, _ => rfl
 | p :: ps, v :: vs, T, T', h => by
  obtain ⟨T1, _, h2⟩ := ob_eq.1 (show ob (T.set p v) _ = some T' from h)
  simp [setParams_len ps vs T1 T' h2]
 | [], _ :: _, _, _, h => by cases h
 | _ :: _, [], _, _, h => by cases h
theorem setParams_sim {ρ : Rho} : ∀ (ps : List Tmp) (as : List LV) (T T' : Tm) (as' : List Value) (A : Array Value), setParams ps as T = some T' -> VRs ρ as as' -> TR ρ T A ->
  ∃ A', A' = (ps.zip as').foldl (fun tmps (x : Tmp × Value) => tmps.setIfInBounds x.1 x.2) A /\ TR ρ T' A'
 | [], [], T, T', as', A, h, hv, hT => by cases h; cases hv; exact ⟨A, rfl, hT⟩
 | p :: ps, v :: vs, T, T', as', A, h, hv, hT => by
  obtain ⟨T1, h1, h2⟩ := ob_eq.1 (show ob (T.set p v) _ = some T' from h)
  cases hv with
  | cons hv hvs =>
   rename_i v' vs'
   obtain ⟨A', e, hT'⟩ := setParams_sim ps vs T1 T' vs' (A.setIfInBounds p v') h2 hvs (hT.set h1 hv)
   exact ⟨A', e, hT'⟩
 | [], _ :: _, _, _, _, _, h, _, _ => by cases h
 | _ :: _, [], _, _, _, _, h, _, _ => by cases h

theorem stepT_sim (hm : RecMono rec) (hrec : RecSim P rec) (hcall : ∀ f as m1 v m2, rec (.call f as m1) = some (.call v m2) -> ∃ fn, fnOf P f = some fn) (hdraw : DrawSim P rec) : RecSim P (stepT P rec) := by
 intro t o h
 cases t with
 | code fn ro c T ms m =>
  cases o with
  | call v m' => trivial
  | code e T' ms' m' =>
  intro Pt ρ b k cs w a hb hro hT hd hrel hf
  have h : stCode P rec fn ro c T ms m = some (.code e T' ms' m') := h
  cases c with
  | skip => cases h; exact ⟨ρ, a, w, Same.refl _ _ _, hT, hd, hrel, .one stepR_skip⟩
  | label l => cases h; exact ⟨ρ, a, w, Same.refl _ _ _, hT, hd, hrel, .one stepR_label⟩
  | ret => cases h; exact ⟨ρ, a, w, Same.refl _ _ _, hT, hd, hrel, k, Steps.refl _ _⟩
  | exit id => cases h; exact ⟨ρ, a, w, Same.refl _ _ _, hT, hd, hrel, k, rfl, Steps.refl _ _⟩
  | seq x y =>
   obtain ⟨e1, T1, ms1, m1, h1, h2⟩ := outCode_eq.1 (show outCode _ _ = some _ from h)
   have n1 : m.next <= m1.next := hm _ _ h1
   cases e1 with
   | norm =>
    have h2 : rec (.code fn ro y T1 ms1 m1) = some (.code e T' ms' m') := h2
    have n2 : m1.next <= m'.next := hm _ _ h2
    obtain ⟨ρ1, a1, w1, hs1, hT1, hd1, hr1, harr1⟩ := hrec _ _ h1 Pt ρ b (Item.code y :: k) cs w a hb hro hT hd hrel (hf.left n2)
    obtain ⟨ρ2, a2, w2, hs2, hT2, hd2, hr2, harr2⟩ := hrec _ _ h2 Pt ρ1 b k cs w1 a1 hb (hro.mono hs1.1) hT1 hd1 hr1 (hf.right hs1 n1)
    exact ⟨ρ2, a2, w2, hs1.trans hs2 n1 n2, hT2, hd2, hr2, .of_steps (.head stepR_seq harr1) harr2⟩
   | ret =>
    cases h2
    obtain ⟨ρ1, a1, w1, hs1, hT1, hd1, hr1, k1, harr1⟩ := hrec _ _ h1 Pt ρ b (Item.code y :: k) cs w a hb hro hT hd hrel hf
    exact ⟨ρ1, a1, w1, hs1, hT1, hd1, hr1, k1, .head stepR_seq harr1⟩
   | exit id =>
    cases h2
    obtain ⟨ρ1, a1, w1, hs1, hT1, hd1, hr1, k1, hk, harr1⟩ := hrec _ _ h1 Pt ρ b (Item.code y :: k) cs w a hb hro hT hd hrel hf
    exact ⟨ρ1, a1, w1, hs1, hT1, hd1, hr1, k1, hk, .head stepR_seq harr1⟩
  | cond x y z =>
   obtain ⟨v, hv, h1⟩ := ob_eq.1 (show ob (ev T x) _ = some _ from h)
   obtain ⟨c, rfl, h2⟩ := asBool_eq.1 h1
   have hx := (ev_sim hT hv).bool_inv
   cases c with
   | true =>
    obtain ⟨ρ1, a1, w1, hs1, hT1, hd1, hr1, harr1⟩ := hrec (.code fn ro y T ms m) _ h2 Pt ρ b k cs w a hb hro hT hd hrel hf
    exact ⟨ρ1, a1, w1, hs1, hT1, hd1, hr1, .of_steps (.one (stepR_cond hx)) harr1⟩
   | false =>
    obtain ⟨ρ1, a1, w1, hs1, hT1, hd1, hr1, harr1⟩ := hrec (.code fn ro z T ms m) _ h2 Pt ρ b k cs w a hb hro hT hd hrel hf
    exact ⟨ρ1, a1, w1, hs1, hT1, hd1, hr1, .of_steps (.one (stepR_cond hx)) harr1⟩
  | block id x =>
   obtain ⟨e1, T1, ms1, m1, h1, h2⟩ := outCode_eq.1 (show outCode _ _ = some _ from h)
   have key : m1 = m' -> ∃ ρ' a' w', Same ρ ρ' m.next m'.next /\ TR ρ' T1 a'.tmps /\ DR ρ' ms1 a'.defers /\ Rel Pt ρ' m1 w' /\ Arr P (lone (b.atR a (Item.code x :: Item.inBlock id :: k)) cs w) b (Item.inBlock id :: k) cs e1 a' w' := by
    intro e; subst e
    exact hrec _ _ h1 Pt ρ b (.inBlock id :: k) cs w a hb hro hT hd hrel hf
   cases e1 with
   | norm =>
    cases h2
    obtain ⟨ρ1, a1, w1, hs1, hT1, hd1, hr1, harr1⟩ := key rfl
    exact ⟨ρ1, a1, w1, hs1, hT1, hd1, hr1, .head stepR_block (Steps.trans harr1 (.one stepR_inBlock))⟩
   | ret =>
    cases h2
    obtain ⟨ρ1, a1, w1, hs1, hT1, hd1, hr1, k1, harr1⟩ := key rfl
    exact ⟨ρ1, a1, w1, hs1, hT1, hd1, hr1, k1, .head stepR_block harr1⟩
   | exit id' =>
    have h2 : ifb (Nat.beq id' id) (some (Out.code .norm T1 ms1 m1)) (some (Out.code (.exit id') T1 ms1 m1)) = some (Out.code e T' ms' m') := h2
    cases hi : Nat.beq id' id with
    | true =>
     rw [hi] at h2; cases h2
     have hi := Nat.eq_of_beq_eq_true hi
     subst hi
     obtain ⟨ρ1, a1, w1, hs1, hT1, hd1, hr1, k1, hk, harr1⟩ := key rfl
     exact ⟨ρ1, a1, w1, hs1, hT1, hd1, hr1, .head stepR_block (Steps.trans harr1 (.one (stepR_exit (by rw [hk]; simp [exitTo]))))⟩
    | false =>
     rw [hi] at h2; cases h2
     obtain ⟨ρ1, a1, w1, hs1, hT1, hd1, hr1, k1, hk, harr1⟩ := key rfl
     have hne : (id == id') = false := by
      rw [beq_eq_false_iff_ne]; intro e; subst e; rw [Nat.beq_refl] at hi; cases hi
     exact ⟨ρ1, a1, w1, hs1, hT1, hd1, hr1, k1, by rw [hk]; simp [exitTo, hne], .head stepR_block harr1⟩
  | scope x =>
   obtain ⟨ρ1, a1, w1, hs1, hT1, hd1, hr1, harr1⟩ := hrec (.code fn ro x T ms m) _ h Pt ρ b (.inScope x :: k) cs w a hb hro hT hd hrel hf
   have s0 : step P (lone (b.atR a (.code (.scope x) :: k)) cs w) = .next (lone (b.atR a (.code x :: .inScope x :: k)) cs w) := step_lone_go (by simp [stepG, stepG.exec, Frame.atR])
   have s1 : step P (lone (b.atR a1 (.inScope x :: k)) cs w1) = .next (lone (b.atR a1 k) cs w1) := step_lone_go (by simp [stepG, stepG.exec, Frame.atR])
   refine ⟨ρ1, a1, w1, hs1, hT1, hd1, hr1, ?_⟩
   cases e with
   | norm => exact .head s0 (Steps.trans harr1 (.one s1))
   | ret => obtain ⟨k1, harr1⟩ := harr1; exact ⟨k1, .head s0 harr1⟩
   | exit id => obtain ⟨k1, hk, harr1⟩ := harr1; exact ⟨k1, hk, .head s0 harr1⟩
  | loop x =>
   obtain ⟨e1, T1, ms1, m1, h1, h2⟩ := outCode_eq.1 (show outCode _ _ = some _ from h)
   have n1 : m.next <= m1.next := hm _ _ h1
   cases e1 with
   | norm =>
    have h2 : rec (.code fn ro (.loop x) T1 ms1 m1) = some (.code e T' ms' m') := h2
    have n2 : m1.next <= m'.next := hm _ _ h2
    obtain ⟨ρ1, a1, w1, hs1, hT1, hd1, hr1, harr1⟩ := hrec _ _ h1 Pt ρ b (.inLoop x :: k) cs w a hb hro hT hd hrel (hf.left n2)
    obtain ⟨ρ2, a2, w2, hs2, hT2, hd2, hr2, harr2⟩ := hrec _ _ h2 Pt ρ1 b k cs w1 a1 hb (hro.mono hs1.1) hT1 hd1 hr1 (hf.right hs1 n1)
    refine ⟨ρ2, a2, w2, hs1.trans hs2 n1 n2, hT2, hd2, hr2, ?_⟩
    have s1 : step P (lone (b.atR a1 (.inLoop x :: k)) cs w1) = .next (lone (b.atR a1 (.code x :: .inLoop x :: k)) cs w1) := stepR_inLoop
    have s2 : step P (lone (b.atR a1 (.code (.loop x) :: k)) cs w1) = .next (lone (b.atR a1 (.code x :: .inLoop x :: k)) cs w1) := stepR_loop
    have pre : Steps P (lone (b.atR a (.code (.loop x) :: k)) cs w) (lone (b.atR a1 (.code x :: .inLoop x :: k)) cs w1) := .head stepR_loop (Steps.trans harr1 (.one s1))
    exact Arr.of_loop pre s2 harr2
   | ret =>
    cases h2
    obtain ⟨ρ1, a1, w1, hs1, hT1, hd1, hr1, k1, harr1⟩ := hrec _ _ h1 Pt ρ b (.inLoop x :: k) cs w a hb hro hT hd hrel hf
    exact ⟨ρ1, a1, w1, hs1, hT1, hd1, hr1, k1, .head stepR_loop harr1⟩
   | exit id =>
    cases h2
    obtain ⟨ρ1, a1, w1, hs1, hT1, hd1, hr1, k1, hk, harr1⟩ := hrec _ _ h1 Pt ρ b (.inLoop x :: k) cs w a hb hro hT hd hrel hf
    exact ⟨ρ1, a1, w1, hs1, hT1, hd1, hr1, k1, hk, .head stepR_loop harr1⟩
  | region id ops dr =>
   cases dr with
   | false =>
    obtain ⟨⟨T1, m1⟩, h1, h2⟩ := ob_eq.1 (show ob (opsRun P rec ops.toList ops.toList T m) _ = some _ from h)
    cases h2
    obtain ⟨ρ1, a1, w1, hs1, hT1, hd1, hr1, hst⟩ := opsRun_sim hm hrec hcall ops.toList 0 T T' m m' (fun j => by simp) h1 Pt ρ b k cs w a hT hrel hf
    refine ⟨ρ1, a1, w1, hs1, hT1, by rw [hd1]; exact hd.mono hs1.1, hr1, .head stepR_region ?_⟩
    rw [List.range_eq_range', show ops.size = ops.toList.length from by simp]
    exact hst
   | true =>
    obtain ⟨hok, h0⟩ := guard'_eq.1 (show guard' (regionOk P ops) _ = some _ from h)
    obtain ⟨d, h1, h2⟩ := ob_eq.1 h0
    obtain ⟨T1, m1, st, kk, ps⟩ := d
    obtain ⟨hp, h3⟩ := guard'_eq.1 (show guard' _ _ = some _ from h2)
    cases h3
    obtain ⟨ρ1, a1, w1, hs1, hT1, hd1, hr1, hst⟩ := hdraw ops T T' m m' st kk ps hok h1 hp Pt ρ b id k cs w a hT hrel hf
    exact ⟨ρ1, a1, w1, hs1, hT1, by rw [hd1]; exact hd.mono hs1.1, hr1, hst⟩
  | rangeFunc f ps as bd =>
   have h : cRangeFunc rec fn ro f ps as bd T ms m = some (.code e T' ms' m') := h
   cases ro with
   | none =>
    have hrb : b.roundOf = none := by
     cases hb2 : b.roundOf with
     | none => rfl
     | some _ => rw [hb2] at hro; exact hro.elim
    have h : m.new .defr (fun d m => rfCall rec fn none f ps as bd d T (d :: ms) m) = some (.code e T' ms' m') := h
    rw [Mem.new_eq] at h
    have n1 : m.next + 1 <= m'.next := rfCall_next hm h
    have hf0 : ρ m.next = none := hf _ (Nat.le_refl _) (by omega)
    have hs1 := Same.upd1 (ρ := ρ) (i := m.next) (x := (w.heap.size, 0, 0)) hf0
    have hrel1 := hrel.alloc hf0 (lb := .defr) (o := .deferred (some [])) (c := 0) rfl rfl
    obtain ⟨ρ2, a2, w2, hs2, hT2, hd2, hr2, harr⟩ := rfCall_sim (b := b) (k := k) (cs := cs) (a := a) (w0 := w) (mark := [{ target := .collected w.heap.size, args := #[] }]) hm hrec hcall h (upd1_self _ _ _) hb (by rw [hrb]; trivial) (hT.mono hs1.1)
     ⟨⟨w.heap.size, 0, 0, upd1_self _ _ _, rfl⟩, hd.mono hs1.1⟩ hrel1 (hf.right hs1 (Nat.le_succ _)) (by rw [hrb]; simp [Instr.enterLoop]; rfl)
    exact ⟨ρ2, a2, w2, hs1.trans hs2 (Nat.le_succ _) n1, hT2, hd2, hr2, harr⟩
   | some l =>
    obtain ⟨st, pend, fn', tm', ps', a', b', d', hg, h1⟩ := atLoop_get (show atLoop m l _ = some _ from h)
    cases hrb : b.roundOf with
    | none => rw [hrb] at hro; exact hro.elim
    | some bl =>
     have hro0 := hro
     rw [hrb] at hro
     obtain ⟨s, c, hρ⟩ := hro
     obtain ⟨TT, db, hh, hTT, s2, c2, hdd⟩ := hrel.loop hg hρ
     exact rfCall_sim (b := b) (k := k) (cs := cs) (a := a) (w0 := w) (mark := []) hm hrec hcall h1 hdd hb hro0 hT hd hrel hf (by
      rw [hrb]
      unfold Instr.enterLoop Instr.getLoop
      simp only [Sem.run_bind, getObj_run hh (by simp), Result.andThen_ok, Sem.run_pure]
      rfl)
  | _ => cases h
 | call f as m =>
  cases o with
  | code e T' ms' m' => trivial
  | call v m' =>
  intro Pt ρ w as' cs has hrel hf
  obtain ⟨fn, hfn, h1⟩ := ob_eq.1 (show stCall P rec f as m = some _ from h)
  obtain ⟨T, hT, h2⟩ := ob_eq.1 h1
  obtain ⟨c, hc, h3⟩ := ob_eq.1 h2
  obtain ⟨e, T1, ms1, m1, h4, h5⟩ := outCode_eq.1 h3
  obtain ⟨fn', hg, hx3⟩ := ob_eq.1 hfn
  obtain ⟨_, hx4⟩ := guard'_eq.1 hx3
  obtain ⟨_, hx5⟩ := guard'_eq.1 hx4
  cases hx5
  have hend : callEnd P fn T1 ms1 m1 = some (.call v m') /\ (e = .norm ∨ e = .ret) := by
   cases e with
   | norm => exact ⟨h5, .inl rfl⟩
   | ret => exact ⟨h5, .inr rfl⟩
   | exit id => cases h5
  obtain ⟨hend, he⟩ := hend
  obtain ⟨m2, h6, h7⟩ := ob_eq.1 hend
  obtain ⟨vs, h8, h9⟩ := ob_eq.1 h7
  cases h9
  have hn : m'.next = m1.next := takeMarks_next _ _ _ h6
  let b : Frame := { fn := f, tmps := #[], todo := [], defers := [], mode := .run, kind := .normal, roundOf := none }
  have henter : Frame.enter P f as' .normal = b.atR { tmps := as' ++ Array.replicate (fn.ntmps - as'.size) undef, defers := [] } [.code c] := by
   simp [Frame.enter, Frame.atR, hg, hc, b]
  obtain ⟨ρ1, a1, w1, hs1, hT1, hd1, hr1, harr⟩ := hrec _ _ h4 Pt ρ b [] cs w { tmps := as' ++ Array.replicate (fn.ntmps - as'.size) undef, defers := [] } rfl trivial (ofList_sim hT has) trivial hrel (by rw [<- hn]; exact hf)
  have hret : ∃ k1, Steps P (lone (Frame.enter P f as' .normal) cs w) (lone { b.atR a1 k1 with mode := .returning } cs w1) := by
   rw [henter]
   rcases he with rfl | rfl
   ·exact ⟨[], Steps.trans harr (.one (stepR_end rfl))⟩
   ·obtain ⟨k1, harr⟩ := harr
    exact ⟨_, harr.trans (.one (stepR_ret rfl))⟩
  obtain ⟨k1, hst⟩ := hret
  obtain ⟨w2, hr2, hst2⟩ := takeMarks_sim (P := P) b rfl k1 cs ms1 a1.defers ρ1 m1 m' w1 a1.tmps h6 hd1 hr1
  obtain ⟨vs', hres, hvs⟩ := results_sim hT1 hr2 fn.results.toList vs h8
  refine ⟨ρ1, (if h : vs'.toArray.size = 1 then vs'.toArray[0] else .tuple vs'.toArray), w2, by rw [hn]; exact hs1, packed_sim (by simpa using hvs), hr2, _, hst.trans hst2, rfl, rfl, rfl, rfl, fn, hg, ?_⟩
  show (results fn a1.tmps).run P w2 = _
  unfold results
  rw [Sem.run_bind]
  have hF : (fun r => match r with
   | .tmp t => pure (a1.tmps.getD t undef)
   | .cell a t => do loadVar t (<- asAddr (a1.tmps.getD a undef)) : ResultVar -> Sem Value) = resF a1.tmps := by
   funext r; cases r <;> rfl
  have : (fn.results.mapM (resF a1.tmps)).run P w2 = .ok vs'.toArray w2 := by
   rw [Array.mapM_eq_mapM_toList, Sem.run_map, hres]; rfl
  rw [<- hF] at this
  refine (congrArg (fun x => Result.andThen x _) this).trans ?_
  rfl
 | round l as m =>
  cases o with
  | code e T' ms' m' => trivial
  | call v m' =>
  intro Pt ρ w as' bl s c fc cs hρ has hrel hf
  obtain ⟨st, pend, fn, tm, ps, assign, body, d, hg, h1⟩ := atLoop_get (show stRound rec l as m = some _ from h)
  obtain ⟨rfl, h2⟩ := ready_eq h1
  obtain ⟨T, hT, h3⟩ := ob_eq.1 h2
  obtain ⟨e, T1, ms1, m1, h4, h5⟩ := outCode_eq.1 h3
  obtain ⟨rfl, h6⟩ := isNorm_eq h5
  obtain ⟨st2, pend2, fn2, tm2, ps2, as2, bd2, d2, hg2, h7⟩ := atLoop_get h6
  obtain ⟨rfl, h8⟩ := ready_eq h7
  obtain ⟨e3, T3, ms3, m3, h9, h10⟩ := outCode_eq.1 h8
  obtain ⟨st4, pend4, fn4, tm4, ps4, as4, bd4, d4, hg4, h11⟩ := atLoop_get h10
  obtain ⟨TT, db, hh, hTT, hdd⟩ := hrel.loop hg hρ
  have hm'n : m'.next = m3.next := by
   cases e3 with
   | norm => cases h11; exact Mem.next_upd _ _ _
   | ret => cases h11; exact Mem.next_upd _ _ _
   | exit id => cases h11; exact Mem.next_upd _ _ _
  have n1 : m.next <= m1.next := hm _ _ h4
  have n2 : m1.next <= m3.next := by
   have : (m1.upd l (some (.loop .busy pend2 fn2 tm2 ps2 as2 bd2 d2))).next <= m3.next := hm _ _ h9
   rw [Mem.next_upd] at this; exact this
  rw [hm'n] at hf
  obtain ⟨tmps', hset, hT'⟩ := setParams_sim ps as tm T as'.toList TT hT has hTT
  let b : Frame := { fn := fn, tmps := #[], todo := [], defers := [], mode := .run, kind := .normal, roundOf := some bl }
  obtain ⟨ρ1, a1, w1, hs1, hT1, hd1, hr1, harr1⟩ := hrec _ _ h4 Pt ρ b [.beginRound, .code body] (fc :: cs) w { tmps := tmps', defers := [] } rfl ⟨s, c, hρ⟩ hT' trivial hrel (hf.left n2)
  have hρ1 := hs1.1 _ _ hρ
  obtain ⟨TT2, db2, hh2, hTT2, hdd2⟩ := hr1.loop hg2 hρ1
  have hbl1 : bl < w1.heap.size := (Array.getElem?_eq_some_iff.1 hh2).1
  have hr1' := hr1.turnLoop (st' := .busy) (pend' := pend2) hg2 hρ1 hTT2 hdd2 hbl1
  have hbegin : (Instr.beginRound bl).run P w1 = .ok () { w1 with heap := w1.heap.setIfInBounds bl (.loop { state := .busy, pending := pend2, fn := fn2, tmps := TT2, params := ps2.toArray, assign := as2, body := bd2, defers := db2 }) } := by
   unfold Instr.beginRound Instr.getLoop
   simp only [Sem.run_bind, getObj_run hh2 (by simp), Result.andThen_ok, Sem.run_pure, setObj_run hh2 (by simp)]
  obtain ⟨ρ3, a3, w3, hs3, hT3, hd3, hr3, harr3⟩ := hrec _ _ h9 Pt ρ1 b [] (fc :: cs) _ a1 rfl ⟨s, c, hρ1⟩ hT1 hd1 hr1' (by rw [Mem.next_upd]; exact hf.right hs1 n1)
  rw [Mem.next_upd] at hs3
  have hρ3 := hs3.1 _ _ hρ1
  obtain ⟨TT4, db4, hh4, hTT4, hdd4⟩ := hr3.loop hg4 hρ3
  have hbl3 : bl < w3.heap.size := (Array.getElem?_eq_some_iff.1 hh4).1
  have hendR : ∀ jump : Option Code, (Instr.endRound bl jump).run P w3 = .ok (.bool jump.isNone) { w3 with heap := w3.heap.setIfInBounds bl (.loop { state := if jump.isNone then .ready else .done, pending := jump, fn := fn4, tmps := TT4, params := ps4.toArray, assign := as4, body := bd4, defers := db4 }) } := by
   intro jump
   unfold Instr.endRound Instr.getLoop
   simp only [Sem.run_bind, getObj_run hh4 (by simp), Result.andThen_ok, Sem.run_pure, setObj_run hh4 (by simp)]
  have hyield : (Instr.yield bl as').run P w = .ok (.round bl fn tmps' assign body) w := by
   unfold Instr.yield Instr.getLoop
   simp only [Sem.run_bind, getObj_run hh (by simp), Result.andThen_ok, Sem.run_pure]
   have hl : as'.size = ps.toArray.size := by
    have := has.length
    have h2 := setParams_len ps as tm T hT
    simp at this ⊢; omega
   simp only [hl, ne_eq, not_true_eq_false, if_false, Sem.run_pure]
   rw [hset, <- Array.foldl_toList, Array.toList_zip]
  have hround : Frame.round bl fn tmps' assign body .normal = b.atR { tmps := tmps', defers := [] } [.code assign, .beginRound, .code body] := by
   simp [Frame.round, Frame.atR, b]
  have s12 : Steps P (lone (Frame.round bl fn tmps' assign body .normal) (fc :: cs) w) (lone (b.atR a1 [.code body]) (fc :: cs) { w1 with heap := w1.heap.setIfInBounds bl (.loop { state := .busy, pending := pend2, fn := fn2, tmps := TT2, params := ps2.toArray, assign := as2, body := bd2, defers := db2 }) }) := by
   rw [hround]
   exact Steps.trans harr1 (.one (stepR_beginRound rfl hbegin))
  have hs13 := hs1.trans hs3 n1 n2
  cases e3 with
  | norm =>
   cases h11
   refine ⟨ρ3, .bool true, _, by rw [Mem.next_upd]; exact hs13, .bool _, hr3.turnLoop (st' := .ready) (pend' := none) hg4 hρ3 hTT4 hdd4 hbl3, fn, tmps', assign, body, hyield, ?_⟩
   exact s12.trans (Steps.trans harr3 (.one (stepR_round_end rfl rfl (hendR none))))
  | ret =>
   cases h11
   obtain ⟨k1, harr3⟩ := harr3
   refine ⟨ρ3, .bool false, _, by rw [Mem.next_upd]; exact hs13, .bool _, hr3.turnLoop (st' := .done) (pend' := some .ret) hg4 hρ3 hTT4 hdd4 hbl3, fn, tmps', assign, body, hyield, ?_⟩
   exact s12.trans (Steps.trans harr3 (.one (stepR_round_ret rfl rfl (hendR (some .ret)))))
  | exit id =>
   cases h11
   obtain ⟨k1, hk, harr3⟩ := harr3
   refine ⟨ρ3, .bool false, _, by rw [Mem.next_upd]; exact hs13, .bool _, hr3.turnLoop (st' := .done) (pend' := some (.exit id)) hg4 hρ3 hTT4 hdd4 hbl3, fn, tmps', assign, body, hyield, ?_⟩
   exact s12.trans (Steps.trans harr3 (.one (stepR_round_exit rfl rfl (by rw [hk]; rfl) (hendR (some (.exit id))))))

end
end PvL
end
section
namespace PvL
open Go
variable {P : Program}

theorem fold_testBit {look : Nat -> Nat} {i : Nat} : ∀ (l : List Edge) (s : Nat), Nat.testBit (l.foldl (fun s e => if Region.binds .any e then s ||| 2 ^ e.on ||| look e.on else s) s) i = true ->
  Nat.testBit s i = true ∨ ∃ e ∈ l, Region.binds .any e = true /\ (i = e.on ∨ Nat.testBit (look e.on) i = true)
 | [], s, h => .inl h
 | e :: es, s, h => by
  rcases fold_testBit es _ (show Nat.testBit (List.foldl _ (if Region.binds .any e then s ||| 2 ^ e.on ||| look e.on else s) es) i = true from h) with h1 | ⟨e', he, hb, h1⟩
  ·by_cases hb : Region.binds .any e = true
   ·rw [if_pos hb, Nat.testBit_or, Nat.testBit_or, Bool.or_eq_true, Bool.or_eq_true] at h1
    rcases h1 with (h1 | h1) | h1
    ·exact .inl h1
    ·refine .inr ⟨e, List.mem_cons_self, hb, .inl ?_⟩
     rw [Nat.testBit_two_pow] at h1
     exact (of_decide_eq_true h1).symm
    ·exact .inr ⟨e, List.mem_cons_self, hb, .inr h1⟩
   ·rw [if_neg hb] at h1; exact .inl h1
  ·exact .inr ⟨e', List.mem_cons_of_mem _ he, hb, h1⟩

theorem fold_push {F : Array Nat -> Oper -> Nat} : ∀ (l : List Oper) (A : Array Nat), let R := l.foldl (fun acc o => acc.push (F acc o)) A
  (∀ i, i < A.size -> R.getD i 0 = A.getD i 0) /\ R.size = A.size + l.length /\ ∀ j o, l[j]? = some o -> ∃ B : Array Nat, B.size = A.size + j /\ (∀ i, i < B.size -> R.getD i 0 = B.getD i 0) /\ R.getD (A.size + j) 0 = F B o
 | [], A => ⟨fun _ _ => rfl, by simp, fun j o h => by cases h⟩
 | o :: os, A => by
  obtain ⟨h1, h2, h3⟩ := fold_push (F := F) os (A.push (F A o))
  refine ⟨fun i hi => ?_, by simp at h2 ⊢; omega, fun j o' hj => ?_⟩
  ·rw [List.foldl_cons, h1 i (by simp; omega)]
   simp [Array.getElem?_push, Nat.ne_of_lt hi]
  ·cases j with
   | zero =>
    cases hj
    refine ⟨A, by simp, fun i hi => ?_, ?_⟩
    ·rw [List.foldl_cons, h1 i (by simp; omega)]
     simp [Array.getElem?_push, Nat.ne_of_lt hi]
    ·rw [List.foldl_cons, h1 (A.size + 0) (by simp)]
     simp
   | succ j =>
    obtain ⟨B, b1, b2, b3⟩ := h3 j o' (by simpa using hj)
    refine ⟨B, by simp at b1; omega, fun i hi => by rw [List.foldl_cons]; exact b2 i hi, ?_⟩
    rw [List.foldl_cons, show A.size + (j + 1) = (A.push (F A o)).size + j by simp; omega]
    exact b3

theorem deps_spec {ops : Array Oper} {j : Nat} {o : Oper} (ho : ops[j]? = some o) {i : Nat} (h : Nat.testBit ((deps ops).getD j 0) i = true) :
  ∃ e ∈ o.after, Region.binds .any e = true /\ (i = e.on ∨ (e.on < j /\ Nat.testBit ((deps ops).getD e.on 0) i = true)) := by
 have hg : ∀ j, (deps ops).getD j 0 = (Region.before ops).getD j 0 := fun j => by
  unfold deps; simp [List.getD_eq_getElem?_getD, Array.getD_eq_getD_getElem?]
 have hb : Region.before ops = ops.toList.foldl (fun acc o => acc.push (o.after.foldl (init := 0) fun s e => if Region.binds .any e then s ||| 2 ^ e.on ||| acc.getD e.on 0 else s)) #[] := by
  unfold Region.before; rw [<- Array.foldl_toList]
 obtain ⟨_, _, h3⟩ := fold_push (F := fun acc o => o.after.foldl (init := 0) fun s e => if Region.binds .any e then s ||| 2 ^ e.on ||| acc.getD e.on 0 else s) ops.toList #[]
 obtain ⟨B, b1, b2, b3⟩ := h3 j o (by simpa using ho)
 rw [hg, hb] at h
 simp only [Array.size_empty, Nat.zero_add] at b1 b2 b3
 rw [b3, <- Array.foldl_toList] at h
 rcases fold_testBit (look := fun n => B.getD n 0) o.after.toList 0 h with h | ⟨e, he, hb', h⟩
 ·simp at h
 ·refine ⟨e, by simpa using he, hb', ?_⟩
  rcases h with h | h
  ·exact .inl h
  ·by_cases hl : e.on < B.size
   ·refine .inr ⟨by omega, ?_⟩
    rw [hg, hb, b2 _ hl]; exact h
   ·simp [Array.getElem?_eq_none (Nat.le_of_not_lt hl)] at h

theorem deps_closed {ops : Array Oper} {S : Nat -> Prop} (hS : ∀ j o, ops[j]? = some o -> S j -> ∀ e ∈ o.after, Region.binds .any e = true -> S e.on) :
  ∀ (n j : Nat), j < n -> ∀ o, ops[j]? = some o -> (∀ e ∈ o.after, Region.binds .any e = true -> S e.on) -> ∀ i, Nat.testBit ((deps ops).getD j 0) i = true -> S i
 | 0, j, hj, _, _, _, _, _ => absurd hj (Nat.not_lt_zero _)
 | n + 1, j, hj, o, ho, hr, i, hi => by
  obtain ⟨e, he, hb, h⟩ := deps_spec ho hi
  rcases h with rfl | ⟨hl, h⟩
  ·exact hr e he hb
  ·have hs := hr e he hb
   have hlt : e.on < ops.size := by
    have := (Array.getElem?_eq_some_iff.1 ho).1
    omega
   exact deps_closed hS n e.on (by omega) ops[e.on] (Array.getElem?_eq_getElem hlt) (hS e.on _ (Array.getElem?_eq_getElem hlt) hs) i h

theorem dstsOk_seen : ∀ (l : List Oper) (seen : List Tmp), dstsOk l seen = true -> ∀ (i : Nat) (o : Oper) (d : Tmp), l[i]? = some o -> o.dst = some d -> d ∉ seen
 | [], _, _, i, o, d, h, _ => by cases h
 | x :: xs, seen, h, i, o, d, hi, hd => by
  unfold dstsOk at h
  cases hx : x.dst with
  | none =>
   rw [hx] at h
   cases i with
   | zero => cases hi; rw [hx] at hd; cases hd
   | succ i => exact dstsOk_seen xs seen h i o d (by simpa using hi) hd
  | some d' =>
   rw [hx] at h
   simp only [Bool.and_eq_true, Bool.not_eq_true'] at h
   cases i with
   | zero => cases hi; rw [hx] at hd; cases hd; simpa using h.1
   | succ i => exact fun hm => dstsOk_seen xs (d' :: seen) h.2 i o d (by simpa using hi) hd (List.mem_cons_of_mem _ hm)
theorem dstsOk_uniq : ∀ (l : List Oper) (seen : List Tmp), dstsOk l seen = true -> ∀ (i j : Nat) (o o' : Oper) (d : Tmp), l[i]? = some o -> l[j]? = some o' -> o.dst = some d -> o'.dst = some d -> i = j
 | [], _, _, i, j, o, o', d, h, _, _, _ => by cases h
 | x :: xs, seen, h, i, j, o, o', d, hi, hj, hd, hd' => by
  unfold dstsOk at h
  have hs : ∀ d', x.dst = some d' -> dstsOk xs (d' :: seen) = true := fun d' hx => by rw [hx] at h; simp only [Bool.and_eq_true] at h; exact h.2
  have hn : x.dst = none -> dstsOk xs seen = true := fun hx => by rw [hx] at h; exact h
  cases i with
  | zero =>
   cases hi
   cases j with
   | zero => rfl
   | succ j => exact absurd List.mem_cons_self (dstsOk_seen xs _ (hs d hd) j o' d (by simpa using hj) hd')
  | succ i =>
   cases j with
   | zero => cases hj; exact absurd List.mem_cons_self (dstsOk_seen xs _ (hs d hd') i o d (by simpa using hi) hd)
   | succ j =>
    cases hx : x.dst with
    | none => rw [dstsOk_uniq xs seen (hn hx) i j o o' d (by simpa using hi) (by simpa using hj) hd hd']
    | some d' => rw [dstsOk_uniq xs _ (hs d' hx) i j o o' d (by simpa using hi) (by simpa using hj) hd hd']

theorem rowOk_spec {ds : List Nat} {i : Nat} {li : List Tmp} : ∀ (l : List Oper) (j0 : Nat), rowOk ds i li l j0 = true -> ∀ j o d, l[j]? = some o -> o.dst = some d -> d ∈ li ->
  i ≠ j0 + j /\ (j0 + j < i -> Nat.testBit (ds.getD i 0) (j0 + j) = true) /\ (i < j0 + j -> Nat.testBit (ds.getD (j0 + j) 0) i = true)
 | [], _, _, j, o, d, h, _, _ => by cases h
 | x :: xs, j0, h, j, o, d, hj, hd, hm => by
  obtain ⟨h1, h2⟩ := (Bool.and_eq_true _ _ ▸ h : pairOk ds li i j0 x = true /\ rowOk ds i li xs (j0 + 1) = true)
  cases j with
  | zero =>
   cases hj
   unfold pairOk at h1
   rw [hd] at h1
   simp only [Bool.or_eq_true, Bool.not_eq_true', List.contains_eq_mem, decide_eq_false_iff_not] at h1
   rcases h1 with h1 | h1
   ·exact absurd hm h1
   ·by_cases he : i = j0
    ·subst he; rw [show Nat.beq i i = true from Nat.beq_refl i] at h1; cases h1
    ·rw [show Nat.beq i j0 = false from by cases hb : Nat.beq i j0 with
      | false => rfl
      | true => exact absurd (Nat.eq_of_beq_eq_true hb) he] at h1
     refine ⟨by simpa using he, fun hl => ?_, fun hl => ?_⟩
     ·rw [show Nat.blt j0 i = true from by rw [Nat.blt_eq]; simpa using hl] at h1; exact h1
     ·rw [show Nat.blt j0 i = false from by
       cases hb : Nat.blt j0 i with
       | false => rfl
       | true => rw [Nat.blt_eq] at hb; simp at hl; omega] at h1; exact h1
  | succ j =>
   have := rowOk_spec xs (j0 + 1) h2 j o d (by simpa using hj) hd hm
   rw [show j0 + (j + 1) = j0 + 1 + j by omega]; exact this
theorem pairsOk_spec {ops : List Oper} {ds : List Nat} : ∀ (l : List Oper) (i0 : Nat), pairsOk ops ds l i0 = true -> ∀ i oi, l[i]? = some oi -> rowOk ds (i0 + i) (looks ops oi) ops 0 = true
 | [], _, _, i, oi, h => by cases h
 | x :: xs, i0, h, i, oi, hi => by
  obtain ⟨h1, h2⟩ := (Bool.and_eq_true _ _ ▸ h : rowOk ds i0 (looks ops x) ops 0 = true /\ pairsOk ops ds xs (i0 + 1) = true)
  cases i with
  | zero => cases hi; exact h1
  | succ i => rw [show i0 + (i + 1) = i0 + 1 + i by omega]; exact pairsOk_spec xs (i0 + 1) h2 i oi (by simpa using hi)
theorem anchorOk_spec {mask : Nat} : ∀ (l : List Oper) (i0 n : Nat), anchorOk P mask l i0 n = true -> ∀ i o, i < n -> l[i]? = some o -> (isAnchor P o.op || isNew P o.op) = true -> Nat.testBit mask (i0 + i) = true
 | [], _, _, _, i, o, _, h, _ => by cases h
 | x :: xs, i0, 0, _, i, o, hi, _, _ => absurd hi (Nat.not_lt_zero _)
 | x :: xs, i0, n + 1, h, i, o, hi, ho, hk => by
  obtain ⟨h1, h2⟩ := (Bool.and_eq_true _ _ ▸ h : ifb (isAnchor P x.op || isNew P x.op) (Nat.testBit mask i0) true = true /\ anchorOk P mask xs (i0 + 1) n = true)
  cases i with
  | zero => cases ho; rw [hk] at h1; exact h1
  | succ i => rw [show i0 + (i + 1) = i0 + 1 + i by omega]; exact anchorOk_spec xs (i0 + 1) n h2 i o (by omega) (by simpa using ho) hk
theorem anchorsOk_spec {ops : List Oper} {ds : List Nat} : ∀ (l : List Oper) (i0 : Nat), anchorsOk P ops ds l i0 = true -> ∀ i o, l[i]? = some o -> isAnchor P o.op = true -> anchorOk P (ds.getD (i0 + i) 0) ops 0 (i0 + i) = true
 | [], _, _, i, o, h, _ => by cases h
 | x :: xs, i0, h, i, o, hi, hk => by
  obtain ⟨h1, h2⟩ := (Bool.and_eq_true _ _ ▸ h : ifb (isAnchor P x.op) (anchorOk P (ds.getD i0 0) ops 0 i0) true = true /\ anchorsOk P ops ds xs (i0 + 1) = true)
  cases i with
  | zero => cases hi; rw [hk] at h1; exact h1
  | succ i => rw [show i0 + (i + 1) = i0 + 1 + i by omega]; exact anchorsOk_spec xs (i0 + 1) h2 i o (by simpa using hi) hk
theorem edgesOk_spec : ∀ (l : List Oper) (i0 : Nat), edgesOk l i0 = true -> ∀ i o, l[i]? = some o -> ∀ e ∈ o.after, Region.binds .any e = true -> e.on < i0 + i
 | [], _, _, i, o, h, _, _, _ => by cases h
 | x :: xs, i0, h, i, o, hi, e, he, hb => by
  obtain ⟨h1, h2⟩ := (Bool.and_eq_true _ _ ▸ h : x.after.toList.all (fun e => !Region.binds .any e || Nat.blt e.on i0) = true /\ edgesOk xs (i0 + 1) = true)
  cases i with
  | zero =>
   cases hi
   have := List.all_eq_true.1 h1 e (by simpa using he)
   rw [hb] at this
   simpa [Nat.blt_eq] using this
  | succ i =>
   have := edgesOk_spec xs (i0 + 1) h2 i o (by simpa using hi) e he hb
   omega

structure RegOk (P : Program) (ops : Array Oper) : Prop where
 uniq : ∀ (i j : Nat) (o o' : Oper) (d : Tmp), ops[i]? = some o -> ops[j]? = some o' -> o.dst = some d -> o'.dst = some d -> i = j
 pair : ∀ (i j : Nat) (oi oj : Oper) (d : Tmp), ops[i]? = some oi -> ops[j]? = some oj -> oj.dst = some d -> d ∈ looks ops.toList oi ->
  i ≠ j /\ (j < i -> Nat.testBit ((deps ops).getD i 0) j = true) /\ (i < j -> Nat.testBit ((deps ops).getD j 0) i = true)
 anch : ∀ (j : Nat) (oj : Oper), ops[j]? = some oj -> isAnchor P oj.op = true -> ∀ (i : Nat) (oi : Oper), i < j -> ops[i]? = some oi -> (isAnchor P oi.op || isNew P oi.op) = true -> Nat.testBit ((deps ops).getD j 0) i = true
 edge : ∀ (j : Nat) (oj : Oper), ops[j]? = some oj -> ∀ e ∈ oj.after, Region.binds .any e = true -> e.on < j
theorem regionOk_spec {ops : Array Oper} (h : regionOk P ops = true) : RegOk P ops := by
 unfold regionOk at h
 simp only [Bool.and_eq_true] at h
 obtain ⟨h1, h2, h3, h4⟩ := h
 refine ⟨fun i j o o' d hi hj hd hd' => dstsOk_uniq _ _ h1 i j o o' d (by simpa using hi) (by simpa using hj) hd hd', fun i j oi oj d hi hj hd hm => ?_, fun j oj hj hk i oi hl hi hk' => ?_, fun j oj hj e he hb => ?_⟩
 ·have := rowOk_spec _ 0 (pairsOk_spec _ 0 h2 i oi (by simpa using hi)) j oj d (by simpa using hj) hd hm
  simpa using this
 ·have := anchorOk_spec _ 0 _ (anchorsOk_spec _ 0 h3 j oj (by simpa using hj) hk) i oi (by omega) (by simpa using hi) hk'
  simpa using this
 ·have := edgesOk_spec _ 0 h4 j oj (by simpa using hj) e he hb
  omega

noncomputable def acnt (P : Program) (p : Nat -> Bool) : List Oper -> Nat -> Nat
 | [], _ => 0
 | o :: os, i => (ifb (isAnchor P o.op && p i) 1 0) + acnt P p os (i + 1)
theorem anchorsIn_eq {mask : Nat} : ∀ (l : List Oper) (i : Nat), anchorsIn P mask l i = acnt P (Nat.testBit mask) l i
 | [], _ => rfl
 | o :: os, i => by show _ + anchorsIn P mask os (i + 1) = _; rw [anchorsIn_eq os (i + 1)]; rfl
theorem anchorsFree_eq {m : Nat} {ds : List Nat} : ∀ (l : List Oper) (i : Nat), ds.length = i + l.length -> anchorsFree P m l (ds.drop i) = acnt P (fun j => !(Nat.testBit (ds.getD j 0) m)) l i
 | [], i, h => by rw [show ds.drop i = [] from by simp at h; simp [h]]; rfl
 | o :: os, i, h => by
  have hl : i < ds.length := by simp at h; omega
  rw [List.drop_eq_getElem_cons hl]
  show (ifb (isAnchor P o.op && !(Nat.testBit ds[i] m)) 1 0) + anchorsFree P m os (ds.drop (i + 1)) = _
  rw [anchorsFree_eq os (i + 1) (by simp at h; omega)]
  show _ = (ifb (isAnchor P o.op && !(Nat.testBit (ds.getD i 0) m)) 1 0) + _
  rw [show ds.getD i 0 = ds[i] from by simp [hl]]
theorem acnt_mono {p q : Nat -> Bool} : ∀ (l : List Oper) (i : Nat), (∀ j o, l[j]? = some o -> isAnchor P o.op = true -> p (i + j) = true -> q (i + j) = true) -> acnt P p l i <= acnt P q l i
 | [], _, _ => Nat.le_refl _
 | o :: os, i, h => by
  have h1 := acnt_mono os (i + 1) fun j o hj => by rw [show i + 1 + j = i + (j + 1) by omega]; exact h (j + 1) o (by simpa using hj)
  have h2 : ifb (isAnchor P o.op && p i) 1 0 <= ifb (isAnchor P o.op && q i) 1 0 := by
   have h0 := h 0 o rfl
   cases ha : isAnchor P o.op with
   | false => exact Nat.le_refl _
   | true =>
    cases hp : p i with
    | false => exact Nat.zero_le _
    | true => rw [show q i = true from h0 ha hp]; exact Nat.le_refl _
  exact Nat.add_le_add h2 h1
theorem acnt_congr {p q : Nat -> Bool} (l : List Oper) (i : Nat) (h : ∀ j o, l[j]? = some o -> isAnchor P o.op = true -> p (i + j) = q (i + j)) : acnt P p l i = acnt P q l i :=
 Nat.le_antisymm (acnt_mono l i fun j o hj ha hp => by rw [<- h j o hj ha]; exact hp) (acnt_mono l i fun j o hj ha hp => by rw [h j o hj ha]; exact hp)
theorem acnt_false : ∀ (l : List Oper) (i : Nat), acnt P (fun _ => false) l i = 0
 | [], _ => rfl
 | o :: os, i => by show ifb (isAnchor P o.op && false) 1 0 + acnt P _ os (i + 1) = 0; rw [acnt_false os, Bool.and_false]; rfl
theorem acnt_succ (n : Nat) : ∀ (l : List Oper) (i j : Nat) (o : Oper), n = i + j -> l[j]? = some o -> acnt P (fun x => Nat.blt x (n + 1)) l i = acnt P (fun x => Nat.blt x n) l i + ifb (isAnchor P o.op) 1 0
 | [], _, _, _, _, h => by cases h
 | x :: xs, i, 0, o, hn, h => by
  cases h
  have e1 : Nat.blt i (n + 1) = true := by rw [Nat.blt_eq]; omega
  have e2 : Nat.blt i n = false := by
   cases hb : Nat.blt i n with
   | false => rfl
   | true => rw [Nat.blt_eq] at hb; omega
  show ifb (isAnchor P x.op && Nat.blt i (n + 1)) 1 0 + acnt P _ xs (i + 1) = ifb (isAnchor P x.op && Nat.blt i n) 1 0 + acnt P _ xs (i + 1) + _
  rw [e1, e2, acnt_congr (q := fun _ => false) xs (i + 1), acnt_congr (p := fun x => Nat.blt x n) (q := fun _ => false) xs (i + 1), acnt_false]
  ·simp [ifb]
  ·intro j o _ _
   cases hb : Nat.blt (i + 1 + j) n with
   | false => rfl
   | true => rw [Nat.blt_eq] at hb; omega
  ·intro j o _ _
   cases hb : Nat.blt (i + 1 + j) (n + 1) with
   | false => rfl
   | true => rw [Nat.blt_eq] at hb; omega
 | x :: xs, i, j + 1, o, hn, h => by
  have e1 : Nat.blt i (n + 1) = true := by rw [Nat.blt_eq]; omega
  have e2 : Nat.blt i n = true := by rw [Nat.blt_eq]; omega
  show ifb (isAnchor P x.op && Nat.blt i (n + 1)) 1 0 + acnt P _ xs (i + 1) = ifb (isAnchor P x.op && Nat.blt i n) 1 0 + acnt P _ xs (i + 1) + _
  rw [e1, e2, acnt_succ n xs (i + 1) j o (by omega) (by simpa using h)]
  omega
end PvL
end
section
namespace PvL
open Go

section congr
variable {P : Program} {T U : Tm}
theorem ev_congr {x : Operand} (h : ∀ t, x = .tmp t -> T.get t = U.get t) : ev T x = ev U x := by
 cases x with
 | tmp t => show evT T t = evT U t; rw [evT_eq, evT_eq, h t rfl]
 | _ => rfl
theorem evs_congr : ∀ {l : List Operand}, (∀ x ∈ l, ev T x = ev U x) -> evs T l = evs U l
 | [], _ => rfl
 | x :: xs, h => by
  show ob (ev T x) _ = ob (ev U x) _
  rw [h x List.mem_cons_self, evs_congr fun y hy => h y (List.mem_cons_of_mem _ hy)]
theorem evParts_congr : ∀ {l : List (Nat × Operand)}, (∀ x ∈ l, ev T x.2 = ev U x.2) -> evParts T l = evParts U l
 | [], _ => rfl
 |(i, x) :: xs, h => by
  show ob (ev T x) _ = ob (ev U x) _
  rw [h (i, x) List.mem_cons_self, evParts_congr fun y hy => h y (List.mem_cons_of_mem _ hy)]
theorem evOpt_congr {x : Option Operand} (h : ∀ y, x = some y -> ev T y = ev U y) : evOpt T x = evOpt U x := by
 cases x with
 | none => rfl
 | some y => show ob (ev T y) _ = ob (ev U y) _; rw [h y rfl]

theorem op1_congr (o : Op) (m : Mem) (h0 : ∀ t, Operand.tmp t ∈ o.operands -> T.get t = U.get t) : op1 P o T m = op1 P o U m := by
 have h : ∀ x ∈ o.operands, ev T x = ev U x := fun x hx => ev_congr fun t e => h0 t (e ▸ hx)
 clear h0
 cases o <;> simp only [Op.operands] at h
 case move x => show oMove x T m = oMove x U m; unfold oMove; rw [h x (by simp)]
 case assign x => show oMove x T m = oMove x U m; unfold oMove; rw [h x (by simp)]
 case pick c a b => show oPick c a b T m = oPick c a b U m; unfold oPick; rw [h c (by simp), h a (by simp), h b (by simp)]
 case alloc t => rfl
 case box t x => show oBox t x T m = oBox t x U m; unfold oBox; rw [h x (by simp)]
 case build t ps => show oBuild P t ps T m = oBuild P t ps U m; unfold oBuild; rw [evParts_congr (fun x hx => h x.2 (by simp; exact ⟨x.1, by simpa using hx⟩))]
 case buildSlice t n ps => show oBuildSlice P t n ps T m = oBuildSlice P t n ps U m; unfold oBuildSlice; rw [evParts_congr (fun x hx => h x.2 (by simp; exact ⟨x.1, by simpa using hx⟩))]
 case load t a => show oLoad P t a T m = oLoad P t a U m; unfold oLoad; rw [h a (by simp)]
 case store t a x => show oStore P t a x T m = oStore P t a x U m; unfold oStore; rw [h a (by simp), h x (by simp)]
 case nilCheck x => show oNilCheck x T m = oNilCheck x U m; unfold oNilCheck; rw [h x (by simp)]
 case binOp op t x y u => show oBin P op t x y u T m = oBin P op t x y u U m; unfold oBin; rw [h x (by simp), h y (by simp)]
 case unOp op t x => show oUn op t x T m = oUn op t x U m; unfold oUn; rw [h x (by simp)]
 case convert s d x => show oConv P s d x T m = oConv P s d x U m; unfold oConv; rw [h x (by simp)]
 case makeFunc fn a b => show oMakeFunc fn a b T m = oMakeFunc fn a b U m; unfold oMakeFunc; rw [evs_congr (l := a.toList) fun x hx => h x (by simp at hx ⊢; exact .inl hx), evs_congr (l := b.toList) fun x hx => h x (by simp at hx ⊢; exact .inr hx)]
 case makeMap t r => rfl
 case makeSlice t l c => show oMakeSlice P t l c T m = oMakeSlice P t l c U m; unfold oMakeSlice; rw [h l (by simp), h c (by simp)]
 case slice t x lo hi mx =>
  show oSlice P t x lo hi mx T m = oSlice P t x lo hi mx U m
  unfold oSlice
  rw [h x (by simp), evOpt_congr (x := lo) fun y e => h y (by simp [e]), evOpt_congr (x := hi) fun y e => h y (by simp [e]), evOpt_congr (x := mx) fun y e => h y (by simp [e])]
 case fieldAddr t x f => show oFieldAddr P t x f T m = oFieldAddr P t x f U m; unfold oFieldAddr; rw [h x (by simp)]
 case field t x f => show oField P t x f T m = oField P t x f U m; unfold oField; rw [h x (by simp)]
 case indexAddr t x i => show oIndexAddr P t x i T m = oIndexAddr P t x i U m; unfold oIndexAddr; rw [h x (by simp), h i (by simp)]
 case index t x i => show oIndex P t x i T m = oIndex P t x i U m; unfold oIndex; rw [h x (by simp), h i (by simp)]
 case lookup t x i ok => show oLookup P t x i ok T m = oLookup P t x i ok U m; unfold oLookup; rw [h x (by simp), h i (by simp)]
 case mapUpdate t x k v => show oMapUpdate P t x k v T m = oMapUpdate P t x k v U m; unfold oMapUpdate; rw [h x (by simp), h k (by simp), h v (by simp)]
 case extract x i => show oExtract x i T m = oExtract x i U m; unfold oExtract; rw [h x (by simp)]
 case call c =>
  show oCall P c T m = oCall P c U m
  obtain ⟨callee, args, ats⟩ := c
  have ha : evs T args.toList = evs U args.toList := evs_congr fun x hx => h x (by simp at hx; simp [Call.operands, hx])
  unfold oCall
  show ob (evs T args.toList) _ = ob (evs U args.toList) _
  rw [ha]
  congr 1
  funext as
  cases callee with
  | value f => show ob (ev T f) _ = ob (ev U f) _; rw [h f (by simp [Call.operands])]
  | invoke r n => rfl
  | builtin b => rfl
 all_goals rfl
end congr

section kinds
variable {P : Program} {T : Tm} {m : Mem}
theorem ob_assoc {α β γ : Type} {x : Option α} {f : α -> Option β} {g : β -> Option γ} : ob (ob x f) g = ob x (fun a => ob (f a) g) := by cases x <;> rfl

theorem cls_mover {o : Op} (h : cls P o = .mover) : cls0 o = .mover := by
 cases o <;> first | exact h | (exfalso; cases h; done) | skip
 case call c =>
  obtain ⟨callee, args, ats⟩ := c
  cases callee with
  | value f =>
   have h : oe (calleeFn ⟨.value f, args, ats⟩) Cls.anchor (fun f => ifb (pureFn P 3 f) Cls.calm Cls.anchor) = .mover := h
   cases hf : calleeFn ⟨.value f, args, ats⟩ with
   | none => rw [hf] at h; cases h
   | some g =>
    rw [hf] at h
    have h : ifb (pureFn P 3 g) Cls.calm Cls.anchor = .mover := h
    cases hp : pureFn P 3 g <;> rw [hp] at h <;> cases h
  | invoke r n => exact h
  | builtin b => cases b <;> exact h
theorem cls_new {o : Op} (h : cls P o = .new) : cls0 o = .new := by
 cases o <;> first | exact h | (exfalso; cases h; done) | skip
 case call c =>
  obtain ⟨callee, args, ats⟩ := c
  cases callee with
  | value f =>
   have h : oe (calleeFn ⟨.value f, args, ats⟩) Cls.anchor (fun f => ifb (pureFn P 3 f) Cls.calm Cls.anchor) = .new := h
   cases hf : calleeFn ⟨.value f, args, ats⟩ with
   | none => rw [hf] at h; cases h
   | some g =>
    rw [hf] at h
    have h : ifb (pureFn P 3 g) Cls.calm Cls.anchor = .new := h
    cases hp : pureFn P 3 g <;> rw [hp] at h <;> cases h
  | invoke r n => exact h
  | builtin b => cases b <;> exact h
theorem cls_calm {o : Op} (h : cls P o = .calm) : ∃ f args ats, o = .call ⟨.value (.func f), args, ats⟩ /\ pureFn P 3 f = true := by
 cases o <;> first | (exfalso; cases h; done) | skip
 case call c =>
  obtain ⟨callee, args, ats⟩ := c
  cases callee with
  | value f =>
   have h : oe (calleeFn ⟨.value f, args, ats⟩) Cls.anchor (fun f => ifb (pureFn P 3 f) Cls.calm Cls.anchor) = .calm := h
   cases f with
   | func g =>
    have h : ifb (pureFn P 3 g) Cls.calm Cls.anchor = .calm := h
    refine ⟨g, args, ats, rfl, ?_⟩
    cases hp : pureFn P 3 g with
    | true => rfl
    | false => rw [hp] at h; cases h
   | _ => cases h
  | invoke r n => cases h
  | builtin b => cases b <;> cases h

def Mv (P : Program) (T : Tm) (o : Op) : Prop := ∃ X : Mem -> Option LV, (∀ m, op1 P o T m = ob (X m) (rv m)) /\ (readsMem o = false -> ∀ m m', X m = X m')
theorem mv_none {o : Op} (h : ∀ m, op1 P o T m = none) : Mv P T o := ⟨fun _ => none, h, fun _ _ _ => rfl⟩
theorem mv_pure {o : Op} (X : Option LV) (h : ∀ m, op1 P o T m = ob X (rv m)) : Mv P T o := ⟨fun _ => X, h, fun _ _ _ => rfl⟩
theorem mv_reads {o : Op} (hr : readsMem o = true) (X : Mem -> Option LV) (h : ∀ m, op1 P o T m = ob (X m) (rv m)) : Mv P T o := ⟨X, h, fun e => by rw [hr] at e; cases e⟩
theorem op1_mv (o : Op) (hc : cls0 o = .mover) : Mv P T o := by
 cases o <;> first | (cases hc; done) | skip
 case move x => exact mv_pure (ev T x) fun m => rfl
 case assign x => exact mv_pure (ev T x) fun m => rfl
 case pick c a b =>
  refine mv_pure (ob (ev T c) fun c => asBool c fun c => ifb c (ev T a) (ev T b)) fun m => ?_
  rw [ob_assoc]
  show ob (ev T c) _ = _
  congr 1
  funext v
  cases v <;> try rfl
  rename_i b; cases b <;> rfl
 case build t ps => exact mv_pure (ob (evParts T ps.toList) fun ps => buildL P t ps) fun m => by rw [ob_assoc]; rfl
 case load t a => exact mv_reads rfl (fun m => ob (ev T a) fun a => loadT P t m a) fun m => by rw [ob_assoc]; rfl
 case nilCheck x => exact mv_pure (ob (ev T x) fun v => nilCheckL v) fun m => by rw [ob_assoc]; rfl
 case binOp op t x y u => exact mv_pure (ob (ev T x) fun a => ob (ev T y) fun b => binL P op t a b) fun m => by simp only [ob_assoc]; rfl
 case unOp op t x => exact mv_pure (ob (ev T x) fun a => unL op a) fun m => by simp only [ob_assoc]; rfl
 case convert s d x => exact mv_pure (ob (ev T x) fun a => convL P s d a) fun m => by simp only [ob_assoc]; rfl
 case makeFunc fn a b =>
  refine mv_pure (fnFunc fn fun g => ob (evs T a.toList) fun a => ob (evs T b.toList) fun b => some (.func (.func g) a b)) fun m => ?_
  cases fn <;> first | rfl | skip
  show ob (evs T a.toList) _ = ob (ob (evs T a.toList) _) _
  simp only [ob_assoc]
  rfl
 case slice t x lo hi mx => exact mv_pure (ob (ev T x) fun x => ob (evOpt T lo) fun lo => ob (evOpt T hi) fun hi => ob (evOpt T mx) fun mx => sliceL P t x lo hi mx) fun m => by simp only [ob_assoc]; rfl
 case fieldAddr t x f => exact mv_pure (ob (ev T x) fun v => fieldAddrL P t v f) fun m => by simp only [ob_assoc]; rfl
 case field t x f => exact mv_pure (ob (ev T x) fun v => fieldL P t v f) fun m => by simp only [ob_assoc]; rfl
 case indexAddr t x i => exact mv_pure (ob (ev T x) fun v => ob (ev T i) fun i => indexAddrL P t v i) fun m => by simp only [ob_assoc]; rfl
 case index t x i => exact mv_pure (ob (ev T x) fun v => ob (ev T i) fun i => indexL P t v i) fun m => by simp only [ob_assoc]; rfl
 case lookup t x i ok => exact mv_reads rfl (fun m => ob (ev T x) fun v => ob (ev T i) fun i => lookupL P t v i ok m) fun m => by simp only [ob_assoc]; rfl
 case extract x i =>
  refine mv_pure (ob (ev T x) fun v => asTup v fun vs => nth vs i) fun m => ?_
  rw [ob_assoc]
  show ob (ev T x) _ = _
  congr 1
  funext v
  cases v <;> rfl
 case call c =>
  obtain ⟨callee, args, ats⟩ := c
  cases callee with
  | value f => cases hc
  | invoke r n => cases hc
  | builtin b =>
   cases b <;> first | (cases hc; done) | skip
   ·refine mv_reads rfl (fun m => ob (evs T args.toList) fun as => lE ats.toList none fun t _ => lE as none fun x _ => lenL P t x m) fun m => ?_
    rw [ob_assoc]
    show ob (evs T args.toList) _ = _
    congr 1
    funext as
    cases ats.toList <;> cases as <;> rfl
   all_goals (
    first
    |(refine mv_reads rfl (fun m => ob (evs T args.toList) fun as => lE as none fun x xs => foldL max2L xs x) fun m => ?_
      rw [ob_assoc]
      show ob (evs T args.toList) _ = _
      congr 1
      funext as
      cases as <;> rfl)
    |(refine mv_reads rfl (fun m => ob (evs T args.toList) fun as => lE as none fun x xs => foldL min2L xs x) fun m => ?_
      rw [ob_assoc]
      show ob (evs T args.toList) _ = _
      congr 1
      funext as
      cases as <;> rfl))
 all_goals exact mv_none fun m => rfl

theorem op1_new (o : Op) (hc : cls0 o = .new) {r : R1} (h : op1 P o T m = some r) : ∃ v lb, r = .val v (m.push lb) /\ isRo lb = false /\ ∀ M : Mem, M.next = m.next -> op1 P o T M = some (.val v (M.push lb)) := by
 cases o <;> first | (cases hc; done) | skip
 case alloc t =>
  obtain ⟨z, hz, h1⟩ := ob_eq.1 (show ob (zeroL P t) _ = some r from h)
  obtain ⟨hf, h2⟩ := guard'_eq.1 h1
  unfold newPtr at h2
  rw [Mem.new_eq] at h2
  cases h2
  refine ⟨_, _, rfl, rfl, fun M hM => ?_⟩
  show ob (zeroL P t) _ = _
  rw [hz]
  show guard' _ _ = _
  rw [hf]
  show newPtr t z M = _
  unfold newPtr
  rw [Mem.new_eq, hM]
 case box t x =>
  obtain ⟨z, hz, h1⟩ := ob_eq.1 (show ob (ev T x) _ = some r from h)
  obtain ⟨hf, h2⟩ := guard'_eq.1 h1
  unfold newPtr at h2
  rw [Mem.new_eq] at h2
  cases h2
  refine ⟨_, _, rfl, rfl, fun M hM => ?_⟩
  show ob (ev T x) _ = _
  rw [hz]
  show guard' _ _ = _
  rw [hf]
  show newPtr t z M = _
  unfold newPtr
  rw [Mem.new_eq, hM]
 case buildSlice t n ps =>
  obtain ⟨parts, hp, h1⟩ := ob_eq.1 (show ob (evParts T ps.toList) _ = some r from h)
  obtain ⟨e, he, h2⟩ := ob_eq.1 (show ob (sliceElem P t) _ = some r from h1)
  obtain ⟨sz, hsz, h3⟩ := ob_eq.1 h2
  obtain ⟨z, hz, h4⟩ := ob_eq.1 h3
  obtain ⟨hg, h5⟩ := guard'_eq.1 h4
  obtain ⟨c, hcc, h6⟩ := ob_eq.1 h5
  rw [Mem.new_eq] at h6
  cases h6
  refine ⟨_, _, rfl, rfl, fun M hM => ?_⟩
  show ob (evParts T ps.toList) _ = _
  rw [hp]
  show buildSliceL P t n parts M rvm = _
  unfold buildSliceL
  rw [he]
  show ob (szOf P e) _ = _
  rw [hsz]
  show ob (zeroL P e) _ = _
  rw [hz]
  show guard' _ _ = _
  rw [hg]
  show ob (fillL _ _ _) _ = _
  rw [hcc]
  show Mem.new M _ _ = _
  rw [Mem.new_eq, hM]
  rfl
 case makeMap t rv0 =>
  obtain ⟨hg, h1⟩ := guard'_eq.1 (show guard' rv0.isNone (m.new (.map []) fun id m => some (R1.val (.map (some id)) m)) = some r from h)
  rw [Mem.new_eq] at h1
  cases h1
  refine ⟨_, _, rfl, rfl, fun M hM => ?_⟩
  show guard' rv0.isNone (M.new (.map []) fun id m => some (R1.val (.map (some id)) m)) = _
  rw [hg, Mem.new_eq, hM]; rfl
 case makeSlice t l c =>
  obtain ⟨lv, hl, h1⟩ := ob_eq.1 (show ob (ev T l) _ = some r from h)
  obtain ⟨cv, hcv, h2⟩ := ob_eq.1 h1
  obtain ⟨e, he, h3⟩ := ob_eq.1 (show ob (sliceElem P t) _ = some r from h2)
  obtain ⟨k1, n1, rfl, h4⟩ := asInt_eq.1 h3
  obtain ⟨k2, n2, rfl, h5⟩ := asInt_eq.1 h4
  cases n1 with
  | negSucc q => cases h5
  | ofNat n1 =>
  cases n2 with
  | negSucc q => cases h5
  | ofNat n2 =>
  obtain ⟨sz, hsz, h6⟩ := ob_eq.1 (show ob (szOf P e) _ = some r from h5)
  obtain ⟨z, hz, h7⟩ := ob_eq.1 h6
  obtain ⟨by', hb, h8⟩ := ob_eq.1 h7
  obtain ⟨hg, h9⟩ := guard'_eq.1 h8
  rw [Mem.new_eq] at h9
  cases h9
  refine ⟨_, _, rfl, rfl, fun M hM => ?_⟩
  show ob (ev T l) _ = _
  rw [hl, ob_some, hcv, ob_some]
  show ob (sliceElem P t) _ = _
  rw [he]
  show ob (szOf P e) _ = _
  rw [hsz]
  show ob (zeroL P e) _ = _
  rw [hz]
  show ob (bytesOfT P e) _ = _
  rw [hb]
  show guard' _ _ = _
  rw [hg]
  show Mem.new M _ _ = _
  rw [Mem.new_eq, hM]
  rfl
 case call c =>
  obtain ⟨callee, args, ats⟩ := c
  cases callee with
  | builtin b => cases b <;> cases hc
  | _ => cases hc
end kinds
end PvL
end
section
namespace PvL
open Go

section prot
variable {Pt : Prot} {ρ : Rho} {m : Mem} {w : World}
def Prot.hide (Pt : Prot) (b : Nat) (o : Obj) : Prot := ⟨fun x => if x = b then some o else Pt x, Pt.ro, fun x hx => by
 by_cases e : x = b
 ·simp [e]
 ·simp only [e, if_false]; exact Pt.sub x hx, Pt.base, Pt.os, Pt.out⟩
def Prot.free (Pt : Prot) (b : Nat) (hb : ¬Pt.ro b) : Prot := ⟨fun x => if x = b then none else Pt x, Pt.ro, fun x hx => by
 by_cases e : x = b
 ·subst e; exact absurd hx hb
 ·simp only [e, if_false]; exact Pt.sub x hx, Pt.base, Pt.os, Pt.out⟩
def Prot.Le (A B : Prot) : Prop := (∀ x o, A x = some o -> B x = some o) /\ A.ro = B.ro /\ A.base = B.base /\ A.os = B.os /\ A.out = B.out

theorem Rel.weaken {Pt' : Prot} (hle : Pt.Le Pt') (h : Rel Pt' ρ m w) : Rel Pt ρ m w := by
 refine ⟨fun r o hr => h.keep r o (hle.1 r o hr), fun i lb hi => ?_, h.inj, by rw [hle.2.2.1, hle.2.2.2.1, hle.2.2.2.2]; exact h.still⟩
 obtain ⟨hl, b, s, c, o, e, h1, h2, h3⟩ := h.live i lb hi
 refine ⟨hl, b, s, c, o, e, h1, h2, ?_⟩
 cases hr : isRo lb with
 | true =>
  rw [hr] at h3
  have h3 : Pt' b = some o /\ Pt'.ro b := h3
  rw [<- hle.2.1] at h3
  refine ⟨?_, h3.2⟩
  cases hp : Pt b with
  | none => exact absurd hp (Pt.sub b h3.2)
  | some o' => rw [hle.1 b o' hp] at h3; exact h3.1
 | false =>
  rw [hr] at h3
  have h3 : Pt' b = none := h3
  show Pt b = none
  cases hp : Pt b with
  | none => rfl
  | some o' => rw [hle.1 b o' hp] at h3; cases h3

theorem Rel.bump {n : Nat} (h : Rel Pt ρ m w) (hn : m.next <= n) : Rel Pt ρ ⟨n, m.tr⟩ w :=
 ⟨h.keep, fun i lb hi => by
  obtain ⟨hl, r⟩ := h.live i lb hi
  exact ⟨Nat.lt_of_lt_of_le hl hn, r⟩, h.inj, h.still⟩

theorem Rel.out {M : Mem} {lb : LB} {n : Nat} (hn : n <= M.next) (hlt : ∀ i lb, M.get i = some lb -> i < n) (h : Rel Pt ρ (M.push lb) w) (hro : isRo lb = false) :
  ∃ b s c o, ρ M.next = some (b, s, c) /\ BR ρ lb o s c /\ Pt b = none /\ Rel (Pt.hide b o) ρ ⟨n, M.tr⟩ w := by
 have hg : (M.push lb).get M.next = some lb := by rw [Mem.get_push, if_pos rfl]
 have hold : ∀ i l, M.get i = some l -> (M.push lb).get i = some l /\ i ≠ M.next := fun i l hi => by
  have hne : i ≠ M.next := fun e => by have := hlt i l hi; omega
  rw [Mem.get_push, if_neg hne]; exact ⟨hi, hne⟩
 obtain ⟨_, b, s, c, o, e, h1, h2, h3⟩ := h.live _ _ hg
 rw [hro] at h3
 have h3 : Pt b = none := h3
 refine ⟨b, s, c, o, e, h1, h3, fun r o' hr => ?_, fun i l hi => ?_, fun i j l l' x y hi hj => ?_, h.still⟩
 ·by_cases hb : r = b
  ·have hr : (if r = b then some o else Pt r) = some o' := hr
   rw [if_pos hb] at hr; cases hr; rw [hb]; exact h2
  ·have hr : (if r = b then some o else Pt r) = some o' := hr
   rw [if_neg hb] at hr; exact h.keep r o' hr
 ·obtain ⟨g1, g2⟩ := hold i l hi
  obtain ⟨_, b', s', c', o', e', k1, k2, k3⟩ := h.live i l g1
  refine ⟨hlt i l hi, b', s', c', o', e', k1, k2, ?_⟩
  cases hr : isRo l with
  | true =>
   rw [hr] at k3
   have k3 : Pt b' = some o' /\ Pt.ro b' := k3
   refine ⟨?_, k3.2⟩
   show (if b' = b then some o else Pt b') = some o'
   rw [if_neg (fun e => by rw [e, h3] at k3; cases k3.1)]; exact k3.1
  | false =>
   rw [hr] at k3
   have k3 : Pt b' = none := k3
   show (if b' = b then some o else Pt b') = none
   rw [if_neg (fun eb => g2 (h.inj i M.next l lb _ _ g1 hg hr hro e' e eb))]; exact k3
 ·exact h.inj i j l l' x y (hold i l hi).1 (hold j l' hj).1

theorem Rel.back (h : Rel Pt ρ m w) {lb : LB} {b s c : Nat} {o : Obj} (hρ : ρ m.next = some (b, s, c)) (hb : BR ρ lb o s c) (hp : Pt b = some o) (hro : isRo lb = false) (hnr : ¬Pt.ro b) :
  Rel (Pt.free b hnr) ρ (m.push lb) w := by
 refine ⟨fun r o' hr => ?_, fun i l hi => ?_, fun i j l l' x y hi hj h1 h2 hx hy he => ?_, h.still⟩
 ·have hr : (if r = b then none else Pt r) = some o' := hr
  by_cases e : r = b
  ·rw [if_pos e] at hr; cases hr
  ·rw [if_neg e] at hr; exact h.keep r o' hr
 ·rw [Mem.get_push] at hi
  by_cases e : i = m.next
  ·rw [if_pos e] at hi; cases hi
   refine ⟨by show i < m.next + 1; omega, b, s, c, o, by rw [e]; exact hρ, hb, h.keep b o hp, ?_⟩
   rw [hro]
   show (if b = b then none else Pt b) = none
   rw [if_pos rfl]
  ·rw [if_neg e] at hi
   obtain ⟨hl, b', s', c', o', e', k1, k2, k3⟩ := h.live i l hi
   refine ⟨Nat.lt_succ_of_lt hl, b', s', c', o', e', k1, k2, ?_⟩
   cases hr : isRo l with
   | true =>
    rw [hr] at k3
    have k3 : Pt b' = some o' /\ Pt.ro b' := k3
    refine ⟨?_, k3.2⟩
    show (if b' = b then none else Pt b') = some o'
    have hne : b' ≠ b := fun e => hnr (e ▸ k3.2)
    rw [if_neg hne]; exact k3.1
   | false =>
    rw [hr] at k3
    have k3 : Pt b' = none := k3
    show (if b' = b then none else Pt b') = none
    by_cases e : b' = b
    ·rw [if_pos e]
    ·rw [if_neg e]; exact k3
 ·rw [Mem.get_push] at hi hj
  have key : ∀ k lk z, m.get k = some lk -> isRo lk = false -> ρ k = some z -> z.1 ≠ b := fun k lk z hk hr hz e => by
   obtain ⟨_, b', s', c', o', e', _, _, k3⟩ := h.live k lk hk
   rw [hr] at k3
   have k3 : Pt b' = none := k3
   rw [hz] at e'; cases e'
   have e : b' = b := e
   rw [e, hp] at k3; cases k3
  by_cases e : i = m.next
  ·by_cases e2 : j = m.next
   ·rw [e, e2]
   ·rw [if_neg e2] at hj
    rw [e, hρ] at hx; cases hx
    exact absurd he.symm (key j l' y hj h2 hy)
  ·rw [if_neg e] at hi
   by_cases e2 : j = m.next
   ·rw [e2, hρ] at hy; cases hy
    exact absurd he (key i l x hi h1 hx)
   ·rw [if_neg e2] at hj
    exact h.inj i j l l' x y hi hj h1 h2 hx hy he
end prot

section puts
theorem Tm.put_eq {T T' : Tm} {d : Option Tmp} {v : LV} (h : T.put d v = some T') : T'.size = T.size /\ (∀ t, d = some t -> T'.get t = v) /\ ∀ t, d ≠ some t -> T'.get t = T.get t := by
 cases d with
 | none => 
  cases h
  refine ⟨rfl, ?_, ?_⟩
  ·intro t e; cases e
  ·intro t _; rfl
 | some d =>
  have h : T.set d v = some T' := h
  refine ⟨by obtain ⟨_, rfl⟩ := Tm.set_eq.1 h; rfl, fun t e => ?_, fun t e => ?_⟩
  ·cases e; rw [Tm.get_set h, if_pos rfl]
  ·rw [Tm.get_set h, if_neg (fun e' => e (by rw [e']))]
theorem Tm.put_other {T T' U : Tm} {d : Option Tmp} {v : LV} (h : T.put d v = some T') (hs : U.size = T.size) (v' : LV) : ∃ U', U.put d v' = some U' := by
 cases d with
 | none => exact ⟨U, rfl⟩
 | some d => 
  obtain ⟨hl, _⟩ := Tm.set_eq.1 (show T.set d v = some T' from h)
  exact ⟨_, Tm.set_eq.2 ⟨by rw [hs]; exact hl, rfl⟩⟩

variable {P : Program} {rec : Task -> Option Out}
def Puts (T T' : Tm) (d : Option Tmp) : Prop := T'.size = T.size /\ ∀ t, d ≠ some t -> T'.get t = T.get t
theorem OpStep.puts {T T' : Tm} {m m' : Mem} {op : Op} {d : Option Tmp} (h : OpStep P rec T m op d T' m') : Puts T T' d := by
 cases h with
 | val _ hp => have := Tm.put_eq hp; exact ⟨this.1, this.2.2⟩
 | skip _ hp => have := Tm.put_eq hp; exact ⟨this.1, this.2.2⟩
 | enter _ _ hp => have := Tm.put_eq hp; exact ⟨this.1, this.2.2⟩
 | round _ _ hp => have := Tm.put_eq hp; exact ⟨this.1, this.2.2⟩
theorem OpStep.congr {T T' U : Tm} {m m' : Mem} {op : Op} {d : Option Tmp} (h : OpStep P rec T m op d T' m') (hop : op1 P op T m = op1 P op U m) (hs : U.size = T.size) :
  ∃ U', OpStep P rec U m op d U' m' /\ Puts U U' d /\ ∀ t, d = some t -> U'.get t = T'.get t := by
 cases h with
 | val h hp =>
  rename_i v
  obtain ⟨U', hu⟩ := Tm.put_other hp hs v
  exact ⟨U', .val (hop ▸ h) hu, (OpStep.val (rec := rec) (hop ▸ h) hu).puts, fun t e => by rw [(Tm.put_eq hu).2.1 t e, (Tm.put_eq hp).2.1 t e]⟩
 | skip h hp =>
  obtain ⟨U', hu⟩ := Tm.put_other hp hs lundef
  exact ⟨U', .skip (hop ▸ h) hu, (OpStep.skip (rec := rec) (hop ▸ h) hu).puts, fun t e => by rw [(Tm.put_eq hu).2.1 t e, (Tm.put_eq hp).2.1 t e]⟩
 | enter h hr hp =>
  rename_i v
  obtain ⟨U', hu⟩ := Tm.put_other hp hs v
  exact ⟨U', .enter (hop ▸ h) hr hu, (OpStep.enter (hop ▸ h) hr hu).puts, fun t e => by rw [(Tm.put_eq hu).2.1 t e, (Tm.put_eq hp).2.1 t e]⟩
 | round h hr hp =>
  rename_i v
  obtain ⟨U', hu⟩ := Tm.put_other hp hs v
  exact ⟨U', .round (hop ▸ h) hr hu, (OpStep.round (hop ▸ h) hr hu).puts, fun t e => by rw [(Tm.put_eq hu).2.1 t e, (Tm.put_eq hp).2.1 t e]⟩
end puts

section trace
variable {P : Program} {rec : Task -> Option Out}
theorem drawRun_trace {all : List Oper} {ds : List Nat} : ∀ (os : List Oper) (i : Nat) (s q : DS), drawRun P rec all ds os i s = some q ->
  ∃ D : Nat -> DS, D i = s /\ D (i + os.length) = q /\ ∀ j o, os[j]? = some o -> DStep P rec all ds o (i + j) (D (i + j)) (D (i + j + 1))
 | [], i, s, q, h => by cases h; exact ⟨fun _ => s, rfl, rfl, fun j o h => by cases h⟩
 | o :: os, i, s, q, h => by
  obtain ⟨s', h1, h2⟩ := drawRun_cons h
  obtain ⟨D, d1, d2, d3⟩ := drawRun_trace os (i + 1) s' q h2
  refine ⟨fun k => if k = i then s else D k, by simp, ?_, fun j o' hj => ?_⟩
  ·show (if i + (os.length + 1) = i then s else D (i + (os.length + 1))) = q
   rw [if_neg (by omega), <- d2, show i + (os.length + 1) = i + 1 + os.length by omega]
  ·cases j with
   | zero =>
    cases hj
    show DStep P rec all ds o i (if i = i then s else D i) (if i + 1 = i then s else D (i + 1))
    rw [if_pos rfl, if_neg (by omega), d1]; exact h1
   | succ j =>
    show DStep P rec all ds o' (i + (j + 1)) (if i + (j + 1) = i then s else D (i + (j + 1))) (if i + (j + 1) + 1 = i then s else D (i + (j + 1) + 1))
    rw [if_neg (by omega), if_neg (by omega)]
    have := d3 j o' (by simpa using hj)
    rw [show i + 1 + j = i + (j + 1) by omega] at this
    exact this

theorem pendAt_spec {p : Pend} : ∀ (pre : List Mem) (m0 : Mem) (rest : List Mem) (K : Nat), pendAt P p (pre ++ m0 :: rest) K = true -> pre.length <= K -> p.lo <= K - pre.length -> K - pre.length <= p.hi -> pendHere P p m0 = true
 | [], m0, rest, K, h, _, h1, h2 => by
  obtain ⟨h3, _⟩ := (Bool.and_eq_true _ _ ▸ h : ifb (Nat.ble p.lo K && Nat.ble K p.hi) (pendHere P p m0) true = true /\ pendAt P p rest (K - 1) = true)
  rw [show Nat.ble p.lo K = true from by rw [Nat.ble_eq]; simpa using h1, show Nat.ble K p.hi = true from by rw [Nat.ble_eq]; simpa using h2] at h3
  exact h3
 | x :: pre, m0, rest, K, h, hl, h1, h2 => by
  obtain ⟨_, h3⟩ := (Bool.and_eq_true _ _ ▸ h : ifb (Nat.ble p.lo K && Nat.ble K p.hi) (pendHere P p x) true = true /\ pendAt P p (pre ++ m0 :: rest) (K - 1) = true)
  simp only [List.length_cons] at hl h1 h2
  exact pendAt_spec pre m0 rest (K - 1) h3 (by omega) (by rw [show K - 1 - pre.length = K - (pre.length + 1) by omega]; exact h1) (by rw [show K - 1 - pre.length = K - (pre.length + 1) by omega]; exact h2)
theorem pendAll_spec {st : List Mem} {k : Nat} : ∀ (ps : List Pend), pendAll P st k ps = true -> ∀ p ∈ ps, pendAt P p st k = true
 | [], _, p, h => by cases h
 | x :: xs, h, p, hp => by
  obtain ⟨h1, h2⟩ := (Bool.and_eq_true _ _ ▸ h : pendAt P x st k = true /\ pendAll P st k xs = true)
  rcases List.mem_cons.1 hp with rfl | hp
  ·exact h1
  ·exact pendAll_spec xs h2 p hp

theorem DStep.facts {all : List Oper} {ds : List Nat} {o : Oper} {i : Nat} {s s' : DS} (h : DStep P rec all ds o i s s') :
  Puts s.T s'.T o.dst /\ s'.k = s.k + ifb (isAnchor P o.op) 1 0 /\ (if isAnchor P o.op then s'.st = s'.m :: s.st else s'.st = s.st) /\ (∃ ps, s'.ps = ps ++ s.ps) := by
 cases h with
 | mover hw h hc =>
  refine ⟨h.puts, by simp [isAnchor, hc, ifb], by simp [isAnchor, hc], ?_⟩
  cases hr : readsMem o.op with
  | true => exact ⟨[_], rfl⟩
  | false => exact ⟨[], rfl⟩
 | calm hw h hc => exact ⟨h.puts, by simp [isAnchor, hc, ifb], by simp [isAnchor, hc], [], rfl⟩
 | new hw h hc => exact ⟨h.puts, by simp [isAnchor, hc, ifb], by simp [isAnchor, hc], [], rfl⟩
 | anchor hw h hc => exact ⟨h.puts, by simp [isAnchor, hc, ifb], by simp [isAnchor, hc], [], rfl⟩
 | offA hw h hc => exact ⟨⟨(Tm.put_eq h).1, (Tm.put_eq h).2.2⟩, by simp [isAnchor, hc, ifb], by simp [isAnchor, hc], [], rfl⟩
 | off hw h hc =>
  have : isAnchor P o.op = false := by
   unfold isAnchor
   cases hk : cls P o.op <;> first | rfl | exact absurd hk hc
  exact ⟨⟨(Tm.put_eq h).1, (Tm.put_eq h).2.2⟩, by simp [this, ifb], by simp [this], [], rfl⟩
end trace
end PvL
end
section
namespace PvL
open Go

section pure
variable {P : Program} {rec : Task -> Option Out} {call : FuncId -> Bool}
def PureCalls (rec : Task -> Option Out) (call : FuncId -> Bool) : Prop :=
 ∀ f, call f = true -> ∀ args m v m', rec (.call f args m) = some (.call v m') -> m' = m /\ ∀ M, rec (.call f args M) = some (.call v M)
def PCode (rec : Task -> Option Out) (call : FuncId -> Bool) : Prop := ∀ c, pureCode call c = true -> ∀ fn ro T ms m o, rec (.code fn ro c T ms m) = some o ->
 ∃ e T', o = .code e T' ms m /\ ∀ ms' M, rec (.code fn ro c T ms' M) = some (.code e T' ms' M)
def RecPure (P : Program) (rec : Task -> Option Out) : Prop := ∀ d, d <= 3 -> PureCalls rec (pureFn P d) /\ PCode rec (pureFn P d)
theorem ifb_and {a b : Bool} (h : ifb a b false = true) : a = true /\ b = true := by
 cases a with
 | true => exact ⟨rfl, h⟩
 | false => cases h
theorem pureOp_eq {o : Op} {T : Tm} (h : pureOp call o = true) : (∃ X : Option LV, ∀ m, op1 P o T m = ob X (rv m)) ∨ ∃ f, call f = true /\ ∃ A : Option (List LV), ∀ m, op1 P o T m = ob A fun as => some (.enter f as m) := by
 have gen : ∀ (o : Op), (match cls0 o with | .mover => !(readsMem o) | _ => false) = true -> ∃ X : Option LV, ∀ m, op1 P o T m = ob X (rv m) := fun o h => by
  cases hc : cls0 o with
  | mover =>
   rw [hc] at h
   obtain ⟨X, hX, hp⟩ := op1_mv (P := P) (T := T) o hc
   have hr : readsMem o = false := by simpa using h
   exact ⟨X ⟨0, .nil⟩, fun m => by rw [hX, hp hr m ⟨0, .nil⟩]⟩
  | _ => rw [hc] at h; cases h
 cases o
 case call c =>
  obtain ⟨callee, args, ats⟩ := c
  cases callee with
  | value f =>
   cases f with
   | func g =>
    have h : call g = true := h
    refine .inr ⟨g, h, ob (evs T args.toList) fun as => some ([] ++ as ++ []), fun m => ?_⟩
    rw [ob_assoc]; rfl
   | _ => cases h
  | invoke r n => cases h
  | builtin b =>
   cases b <;> first | (cases h; done) | skip
   all_goals (
    first
    |(refine .inl ⟨ob (evs T args.toList) fun as => lE as none fun x xs => foldL max2L xs x, fun m => ?_⟩
      rw [ob_assoc]
      show ob (evs T args.toList) _ = _
      congr 1
      funext as
      cases as <;> rfl)
    |(refine .inl ⟨ob (evs T args.toList) fun as => lE as none fun x xs => foldL min2L xs x, fun m => ?_⟩
      rw [ob_assoc]
      show ob (evs T args.toList) _ = _
      congr 1
      funext as
      cases as <;> rfl))
 all_goals exact .inl (gen _ h)

theorem pureOps_run (hc : PureCalls rec call) {all : List Oper} : ∀ (os : List Oper) (T : Tm) (m : Mem) (q : Tm × Mem), pureOps call os = true -> opsRun P rec all os T m = some q ->
  q.2 = m /\ ∀ M, opsRun P rec all os T M = some (q.1, M)
 | [], T, m, q, _, h => by cases h; exact ⟨rfl, fun _ => rfl⟩
 | o :: os, T, m, q, hp, h => by
  obtain ⟨hp1, hp2⟩ := ifb_and (show ifb (pureOp call o.op) (pureOps call os) false = true from hp)
  obtain ⟨dst, op, a1, a2, a3, g⟩ := o
  have hp1 : pureOp call op = true := hp1
  obtain ⟨wt, hw, h⟩ := ob_eq.1 (show ob (wanted all T g) (fun wt => ifb wt (opFull P rec T m op dst fun T m => opsRun P rec all os T m) (ob (T.put dst lundef) fun T => opsRun P rec all os T m)) = some q from h)
  have hgo : ∀ M y, ifb wt (opFull P rec T M op dst fun T m => opsRun P rec all os T m) (ob (T.put dst lundef) fun T => opsRun P rec all os T M) = some y -> opsRun P rec all (⟨dst, op, a1, a2, a3, g⟩ :: os) T M = some y := fun M y hy => by
   show ob (wanted all T g) _ = _
   rw [hw]; exact hy
  cases wt with
  | false =>
   obtain ⟨T1, h1, h2⟩ := ob_eq.1 (show ob (T.put dst lundef) (fun T => opsRun P rec all os T m) = some q from h)
   obtain ⟨e, hall⟩ := pureOps_run hc os T1 m q hp2 h2
   refine ⟨e, fun M => hgo M _ ?_⟩
   show ob (T.put dst lundef) _ = _
   rw [h1]; exact hall M
  | true =>
   have h : ob (op1 P op T m) (fun r => opFin rec T dst r fun T m => opsRun P rec all os T m) = some q := h
   rcases pureOp_eq (P := P) (T := T) hp1 with ⟨X, hX⟩ | ⟨f, hf, A, hA⟩
   ·rw [hX] at h
    obtain ⟨r, hr, h⟩ := ob_eq.1 h
    obtain ⟨v, hv, hr⟩ := ob_eq.1 hr
    cases hr
    obtain ⟨T1, h1, h2⟩ := ob_eq.1 (show ob (T.put dst v) (fun T => opsRun P rec all os T m) = some q from h)
    obtain ⟨e, hall⟩ := pureOps_run hc os T1 m q hp2 h2
    refine ⟨e, fun M => hgo M _ ?_⟩
    show ob (op1 P op T M) _ = _
    rw [hX, hv]
    show ob (T.put dst v) _ = _
    rw [h1]; exact hall M
   ·rw [hA] at h
    obtain ⟨r, hr, h⟩ := ob_eq.1 h
    obtain ⟨as, hv, hr⟩ := ob_eq.1 hr
    cases hr
    obtain ⟨o1, h1, h9⟩ := ob_eq.1 (show ob (rec (.call f as m)) (fun r => outE r (fun _ _ _ _ => none) fun v m => ob (T.put dst v) fun T => opsRun P rec all os T m) = some q from h)
    cases o1 with
    | code e T ms m => cases h9
    | call v m1 =>
     obtain ⟨rfl, hM⟩ := hc f hf _ _ _ _ h1
     obtain ⟨T1, h2, h3⟩ := ob_eq.1 (show ob (T.put dst v) (fun T => opsRun P rec all os T m1) = some q from h9)
     obtain ⟨e, hall⟩ := pureOps_run hc os T1 m1 q hp2 h3
     refine ⟨e, fun M => hgo M _ ?_⟩
     show ob (op1 P op T M) _ = _
     rw [hA, hv]
     show outCall (rec (.call f as M)) _ = _
     rw [hM M]
     show ob (T.put dst v) _ = _
     rw [h2]; exact hall M

theorem pureCode_step (hc : PureCalls rec call) (hd : PCode rec call) : ∀ c, pureCode call c = true -> ∀ fn ro T ms m o, stCode P rec fn ro c T ms m = some o ->
  ∃ e T', o = .code e T' ms m /\ ∀ ms' M, stCode P rec fn ro c T ms' M = some (.code e T' ms' M) := by
 intro c hp fn ro T ms m o h
 cases c with
 | skip => cases h; exact ⟨_, _, rfl, fun _ _ => rfl⟩
 | label l => cases h; exact ⟨_, _, rfl, fun _ _ => rfl⟩
 | ret => cases h; exact ⟨_, _, rfl, fun _ _ => rfl⟩
 | exit id => cases h; exact ⟨_, _, rfl, fun _ _ => rfl⟩
 | seq a b =>
  obtain ⟨ha, hb⟩ := ifb_and (show ifb (pureCode call a) (pureCode call b) false = true from hp)
  obtain ⟨o1, h1, h⟩ := ob_eq.1 (show ob (rec (.code fn ro a T ms m)) _ = some o from h)
  obtain ⟨e1, T1, rfl, hall⟩ := hd a ha _ _ _ _ _ _ h1
  cases e1 with
  | norm =>
   obtain ⟨e2, T2, rfl, hall2⟩ := hd b hb _ _ _ _ _ _ (show rec (.code fn ro b T1 ms m) = some o from h)
   refine ⟨e2, T2, rfl, fun ms' M => ?_⟩
   show ob (rec (.code fn ro a T ms' M)) _ = _
   rw [hall]; exact hall2 ms' M
  | ret =>
   cases h
   refine ⟨_, T1, rfl, fun ms' M => ?_⟩
   show ob (rec (.code fn ro a T ms' M)) _ = _
   rw [hall]; rfl
  | exit id =>
   cases h
   refine ⟨_, T1, rfl, fun ms' M => ?_⟩
   show ob (rec (.code fn ro a T ms' M)) _ = _
   rw [hall]; rfl
 | cond x a b =>
  obtain ⟨ha, hb⟩ := ifb_and (show ifb (pureCode call a) (pureCode call b) false = true from hp)
  obtain ⟨v, h1, h⟩ := ob_eq.1 (show ob (ev T x) _ = some o from h)
  cases v <;> first | (cases h; done) | skip
  case bool c =>
   cases c with
   | true =>
    obtain ⟨e1, T1, rfl, hall⟩ := hd a ha _ _ _ _ _ _ (show rec (.code fn ro a T ms m) = some o from h)
    refine ⟨e1, T1, rfl, fun ms' M => ?_⟩
    show ob (ev T x) _ = _
    rw [h1]; exact hall ms' M
   | false =>
    obtain ⟨e1, T1, rfl, hall⟩ := hd b hb _ _ _ _ _ _ (show rec (.code fn ro b T ms m) = some o from h)
    refine ⟨e1, T1, rfl, fun ms' M => ?_⟩
    show ob (ev T x) _ = _
    rw [h1]; exact hall ms' M
 | block id b =>
  have hb : pureCode call b = true := hp
  obtain ⟨o1, h1, h⟩ := ob_eq.1 (show ob (rec (.code fn ro b T ms m)) _ = some o from h)
  obtain ⟨e1, T1, rfl, hall⟩ := hd b hb _ _ _ _ _ _ h1
  have hgo : ∀ ms' M, stCode P rec fn ro (.block id b) T ms' M = exE e1 (some (.code .norm T1 ms' M)) (some (.code .ret T1 ms' M)) (fun id' => ifb (Nat.beq id' id) (some (.code .norm T1 ms' M)) (some (.code (.exit id') T1 ms' M))) := fun ms' M => by
   show ob (rec (.code fn ro b T ms' M)) _ = _
   rw [hall]; rfl
  cases e1 with
  | norm => cases h; exact ⟨_, _, rfl, hgo⟩
  | ret => cases h; exact ⟨_, _, rfl, hgo⟩
  | exit id' =>
   have h : ifb (Nat.beq id' id) (some (Out.code .norm T1 ms m)) (some (.code (.exit id') T1 ms m)) = some o := h
   have hgo : ∀ ms' M, stCode P rec fn ro (.block id b) T ms' M = ifb (Nat.beq id' id) (some (.code .norm T1 ms' M)) (some (.code (.exit id') T1 ms' M)) := hgo
   cases hx : Nat.beq id' id with
   | true => rw [hx] at h hgo; cases h; exact ⟨_, _, rfl, hgo⟩
   | false => rw [hx] at h hgo; cases h; exact ⟨_, _, rfl, hgo⟩
 | loop b =>
  have hb : pureCode call b = true := hp
  obtain ⟨o1, h1, h⟩ := ob_eq.1 (show ob (rec (.code fn ro b T ms m)) _ = some o from h)
  obtain ⟨e1, T1, rfl, hall⟩ := hd b hb _ _ _ _ _ _ h1
  cases e1 with
  | norm =>
   obtain ⟨e2, T2, rfl, hall2⟩ := hd (.loop b) hp _ _ _ _ _ _ (show rec (.code fn ro (.loop b) T1 ms m) = some o from h)
   refine ⟨e2, T2, rfl, fun ms' M => ?_⟩
   show ob (rec (.code fn ro b T ms' M)) _ = _
   rw [hall]; exact hall2 ms' M
  | ret =>
   cases h
   refine ⟨_, T1, rfl, fun ms' M => ?_⟩
   show ob (rec (.code fn ro b T ms' M)) _ = _
   rw [hall]; rfl
  | exit id =>
   cases h
   refine ⟨_, T1, rfl, fun ms' M => ?_⟩
   show ob (rec (.code fn ro b T ms' M)) _ = _
   rw [hall]; rfl
 | scope b =>
  have hb : pureCode call b = true := hp
  exact hd b hb _ _ _ _ _ _ h
 | region id ops dr =>
  cases dr with
  | true => cases hp
  | false =>
   have hb : pureOps call ops.toList = true := hp
   obtain ⟨q, h1, h2⟩ := ob_eq.1 (show ob (opsRun P rec ops.toList ops.toList T m) _ = some o from h)
   obtain ⟨e, hall⟩ := pureOps_run hc _ _ _ _ hb h1
   obtain ⟨T1, m1⟩ := q
   obtain rfl : m1 = m := e
   cases h2
   refine ⟨_, T1, rfl, fun ms' M => ?_⟩
   show ob (opsRun P rec ops.toList ops.toList T M) _ = _
   rw [hall]; rfl
 | _ => cases hp

theorem pureRes_eq {T : Tm} : ∀ (rs : List ResultVar), pureRes rs = true -> ∀ m M, resultsOf P T m rs = resultsOf P T M rs
 | [], _, _, _ => rfl
 | .tmp t :: rs, h, m, M => by
  show ob (evT T t) _ = ob (evT T t) _
  rw [show resultsOf P T m rs = resultsOf P T M rs from pureRes_eq rs h m M]
 | .cell x t :: rs, h, _, _ => by cases h

theorem pure_step (hP : RecPure P rec) : RecPure P (stepT P rec) := fun d hd => by
  refine ⟨fun f hf args m v m' h => ?_, fun c hp fn ro T ms m o h => pureCode_step (hP d hd).1 (hP d hd).2 c hp fn ro T ms m o h⟩
  cases d with
  | zero => cases hf
  | succ d =>
   have h : ob (fnOf P f) (fun fn => ob (Tm.ofList fn.ntmps args) fun T => ob fn.body fun c => outCode (rec (.code f none c T [] m)) fun e T ms m => exE e (callEnd P fn T ms m) (callEnd P fn T ms m) (fun _ => none)) = some (.call v m') := h
   have hf : oe (fnOf P f) false (fun fn => oe fn.body false fun c => ifb (pureCode (pureFn P d) c) (pureRes fn.results.toList) false) = true := hf
   obtain ⟨fn, h1, h⟩ := ob_eq.1 h
   rw [h1] at hf
   have hf : oe fn.body false (fun c => ifb (pureCode (pureFn P d) c) (pureRes fn.results.toList) false) = true := hf
   obtain ⟨T, h2, h⟩ := ob_eq.1 h
   obtain ⟨c, h3, h⟩ := ob_eq.1 h
   rw [h3] at hf
   obtain ⟨hp, hr⟩ := ifb_and (show ifb (pureCode (pureFn P d) c) (pureRes fn.results.toList) false = true from hf)
   obtain ⟨o1, h4, h⟩ := ob_eq.1 (show ob (rec (.code f none c T [] m)) _ = some (Out.call v m') from h)
   obtain ⟨e, T1, rfl, hall⟩ := (hP d (by omega)).2 c hp _ _ _ _ _ _ h4
   have hgo : ∀ M, stepT P rec (.call f args M) = exE e (callEnd P fn T1 [] M) (callEnd P fn T1 [] M) (fun _ => none) := fun M => by
    show ob (fnOf P f) (fun fn => ob (Tm.ofList fn.ntmps args) fun T => ob fn.body fun c => outCode (rec (.code f none c T [] M)) fun e T ms m => exE e (callEnd P fn T ms m) (callEnd P fn T ms m) (fun _ => none)) = _
    rw [h1]
    show ob (Tm.ofList fn.ntmps args) _ = _
    rw [h2]
    show ob fn.body _ = _
    rw [h3]
    show ob (rec (.code f none c T [] M)) _ = _
    rw [hall]; rfl
   have hend : callEnd P fn T1 [] m = some (.call v m') -> m' = m /\ ∀ M, callEnd P fn T1 [] M = some (.call v M) := fun h => by
    have hx : ∀ M, callEnd P fn T1 [] M = ob (resultsOf P T1 M fn.results.toList) fun vs => some (.call (packed vs) M) := fun _ => rfl
    rw [hx] at h
    obtain ⟨vs, h5, h⟩ := ob_eq.1 h
    cases h
    exact ⟨rfl, fun M => by rw [hx, pureRes_eq _ hr M _, h5]; rfl⟩
   cases e with
   | norm =>
    obtain ⟨e1, h6⟩ := hend h
    exact ⟨e1, fun M => by rw [hgo]; exact h6 M⟩
   | ret =>
    obtain ⟨e1, h6⟩ := hend h
    exact ⟨e1, fun M => by rw [hgo]; exact h6 M⟩
   | exit id => cases h
theorem run_pure : ∀ n, RecPure P (run P n)
 | 0 => fun d _ => ⟨fun f _ args m v m' h => by (cases h), fun c _ fn ro T ms m o h => by (cases h)⟩
 | n + 1 => pure_step (run_pure n)
end pure

section
variable {P : Program} {rec : Task -> Option Out} {ops : Array Oper} {D : Nat -> DS}

theorem mv_step {T T' : Tm} {m m' : Mem} {op : Op} {d : Option Tmp} (hc : cls P op = .mover) (h : OpStep P rec T m op d T' m') :
  ∃ v, op1 P op T m = some (.val v m) /\ T.put d v = some T' /\ m' = m := by
 obtain ⟨X, hX, _⟩ := op1_mv (P := P) (T := T) op (cls_mover hc)
 have key : ∀ r, op1 P op T m = some r -> ∃ v, r = .val v m := fun r hr => by
  rw [hX m] at hr
  obtain ⟨v, _, hv⟩ := ob_eq.1 hr
  exact ⟨v, (Option.some.inj hv).symm⟩
 cases h with
 | val h hp => obtain ⟨v, e⟩ := key _ h; cases e; exact ⟨_, h, hp, rfl⟩
 | skip h hp => obtain ⟨v, e⟩ := key _ h; cases e
 | enter h hr hp => obtain ⟨v, e⟩ := key _ h; cases e
 | round h hr hp => obtain ⟨v, e⟩ := key _ h; cases e
theorem new_step {T T' : Tm} {m m' : Mem} {op : Op} {d : Option Tmp} (hc : cls P op = .new) (h : OpStep P rec T m op d T' m') :
  ∃ v lb, T.put d v = some T' /\ m' = m.push lb /\ isRo lb = false /\ ∀ M : Mem, M.next = m.next -> op1 P op T M = some (.val v (M.push lb)) := by
 cases h with
 | val h hp => obtain ⟨v, lb, e, h1, h2⟩ := op1_new op (cls_new hc) h; cases e; exact ⟨_, lb, hp, rfl, h1, h2⟩
 | skip h hp => obtain ⟨v, lb, e, _⟩ := op1_new op (cls_new hc) h; cases e
 | enter h hr hp => obtain ⟨v, lb, e, _⟩ := op1_new op (cls_new hc) h; cases e
 | round h hr hp => obtain ⟨v, lb, e, _⟩ := op1_new op (cls_new hc) h; cases e

theorem calm_step (hp : RecPure P rec) {T T' : Tm} {m m' : Mem} {op : Op} {d : Option Tmp} (hc : cls P op = .calm) (h : OpStep P rec T m op d T' m') :
  m' = m /\ ∀ M, OpStep P rec T M op d T' M := by
 obtain ⟨f, args, ats, rfl, hf⟩ := cls_calm hc
 have key : ∀ (m : Mem) (r : R1), op1 P (.call ⟨.value (.func f), args, ats⟩) T m = some r -> ∃ as, r = .enter f as m /\ ∀ M, op1 P (.call ⟨.value (.func f), args, ats⟩) T M = some (.enter f as M) := fun m r hr => by
  obtain ⟨as, h1, h2⟩ := ob_eq.1 (show ob (evs T args.toList) (fun as => callV (.func (.func f) [] []) as m) = some r from hr)
  refine ⟨[] ++ as ++ [], (Option.some.inj h2).symm, fun M => ?_⟩
  show ob (evs T args.toList) (fun as => callV (.func (.func f) [] []) as M) = _
  rw [h1]; rfl
 cases h with
 | val h hp => obtain ⟨as, e, _⟩ := key _ _ h; cases e
 | skip h hp => obtain ⟨as, e, _⟩ := key _ _ h; cases e
 | round h hr hp => obtain ⟨as, e, _⟩ := key _ _ h; cases e
 | enter h hr hput =>
  obtain ⟨as, e, hM⟩ := key _ _ h
  cases e
  obtain ⟨rfl, hall⟩ := (hp 3 (Nat.le_refl _)).1 f hf _ _ _ _ hr
  exact ⟨rfl, fun M => .enter (hM M) (hall M) hput⟩

theorem DStep.mem (hpu : RecPure P rec) {all : List Oper} {ds : List Nat} {o : Oper} {i : Nat} {s s' : DS} (h : DStep P rec all ds o i s s') (ha : isAnchor P o.op = false) :
  s'.m = s.m ∨ (isNew P o.op = true /\ ∃ lb, isRo lb = false /\ s'.m = s.m.push lb) := by
 cases h with
 | mover hw h hc => obtain ⟨_, _, _, e⟩ := mv_step hc h; exact .inl e
 | new hw h hc => obtain ⟨v, lb, _, e, hr, _⟩ := new_step hc h; exact .inr ⟨by simp [isNew, hc], lb, hr, e⟩
 | anchor hw h hc => simp [isAnchor, hc] at ha
 | calm hw h hc => exact .inl (calm_step hpu hc h).1
 | offA hw h hc => simp [isAnchor, hc] at ha
 | off hw h hc => exact .inl rfl
structure Tr (P : Program) (rec : Task -> Option Out) (ops : Array Oper) (D : Nat -> DS) : Prop where
 ok : RegOk P ops
 mono : RecMono rec
 pure : RecPure P rec
 step : ∀ j o, ops[j]? = some o -> DStep P rec ops.toList (deps ops) o j (D j) (D (j + 1))
 st0 : (D 0).st = [(D 0).m]
 k0 : (D 0).k = 0
 pend : pendAll P (D ops.size).st (D ops.size).k (D ops.size).ps = true

theorem Tr.at_ (h : Tr P rec ops D) {j : Nat} (hj : j < ops.size) : ∃ o, ops[j]? = some o /\ DStep P rec ops.toList (deps ops) o j (D j) (D (j + 1)) :=
 ⟨ops[j], Array.getElem?_eq_getElem hj, h.step j _ (Array.getElem?_eq_getElem hj)⟩
theorem lt_of_at {j : Nat} {o : Oper} (h : ops[j]? = some o) : j < ops.size := (Array.getElem?_eq_some_iff.1 h).1

theorem Tr.size (h : Tr P rec ops D) : ∀ j, j <= ops.size -> (D j).T.size = (D 0).T.size
 | 0, _ => rfl
 | j + 1, hj => by
  obtain ⟨o, _, hs⟩ := h.at_ (j := j) (by omega)
  rw [hs.facts.1.1, h.size j (by omega)]
theorem Tr.before (h : Tr P rec ops D) {t : Tmp} : ∀ j, j <= ops.size -> (∀ i o, i < j -> ops[i]? = some o -> o.dst ≠ some t) -> (D j).T.get t = (D 0).T.get t
 | 0, _, _ => rfl
 | j + 1, hj, hn => by
  obtain ⟨o, ho, hs⟩ := h.at_ (j := j) (by omega)
  rw [hs.facts.1.2 t (hn j o (by omega) ho), h.before j (by omega) fun i o hi => hn i o (by omega)]
theorem Tr.after (h : Tr P rec ops D) {t : Tmp} : ∀ (d j : Nat), j + d = ops.size -> (∀ i o, j <= i -> ops[i]? = some o -> o.dst ≠ some t) -> (D ops.size).T.get t = (D j).T.get t
 | 0, j, e, _ => by rw [<- e]; rfl
 | d + 1, j, e, hn => by
  obtain ⟨o, ho, hs⟩ := h.at_ (j := j) (by omega)
  rw [h.after d (j + 1) (by omega) fun i o hi => hn i o (by omega), hs.facts.1.2 t (hn j o (by omega) ho)]
theorem Tr.next (h : Tr P rec ops D) : ∀ (d i : Nat), i + d <= ops.size -> (D i).m.next <= (D (i + d)).m.next
 | 0, _, _ => Nat.le_refl _
 | d + 1, i, hj => by
  obtain ⟨o, _, hs⟩ := h.at_ (j := i + d) (by omega)
  exact Nat.le_trans (h.next d i (by omega)) (hs.next h.mono)
theorem Tr.cnt (h : Tr P rec ops D) : ∀ j, j <= ops.size -> (D j).k = acnt P (fun x => Nat.blt x j) ops.toList 0
 | 0, _ => by
  rw [h.k0, acnt_congr (q := fun _ => false), acnt_false]
  intro j o _ _
  cases hb : Nat.blt (0 + j) 0 with
  | false => rfl
  | true => rw [Nat.blt_eq] at hb; omega
 | j + 1, hj => by
  obtain ⟨o, ho, hs⟩ := h.at_ (j := j) (by omega)
  rw [hs.facts.2.1, h.cnt j (by omega), acnt_succ j ops.toList 0 j o (by omega) (by simpa using ho)]
theorem Tr.stk (h : Tr P rec ops D) : ∀ (d j : Nat), j + d = ops.size -> ∃ pre, (D ops.size).st = pre ++ (D j).st /\ pre.length + (D j).k = (D ops.size).k
 | 0, j, e => by rw [<- e]; exact ⟨[], rfl, by simp⟩
 | d + 1, j, e => by
  obtain ⟨o, ho, hs⟩ := h.at_ (j := j) (by omega)
  obtain ⟨pre, h1, h2⟩ := h.stk d (j + 1) (by omega)
  obtain ⟨_, h3, h4, _⟩ := hs.facts
  cases ha : isAnchor P o.op with
  | true =>
   rw [ha] at h4 h3
   have h4 : (D (j + 1)).st = (D (j + 1)).m :: (D j).st := h4
   have h3 : (D (j + 1)).k = (D j).k + 1 := h3
   exact ⟨pre ++ [(D (j + 1)).m], by rw [h1, h4]; simp, by simp; omega⟩
  | false =>
   rw [ha] at h4 h3
   have h4 : (D (j + 1)).st = (D j).st := h4
   have h3 : (D (j + 1)).k = (D j).k + 0 := h3
   exact ⟨pre, by rw [h1, h4], by omega⟩
theorem Tr.pss (h : Tr P rec ops D) : ∀ (d j : Nat), j + d = ops.size -> ∃ pre, (D ops.size).ps = pre ++ (D j).ps
 | 0, j, e => by rw [<- e]; exact ⟨[], rfl⟩
 | d + 1, j, e => by
  obtain ⟨o, ho, hs⟩ := h.at_ (j := j) (by omega)
  obtain ⟨pre, h1⟩ := h.pss d (j + 1) (by omega)
  obtain ⟨_, _, _, p2, h4⟩ := hs.facts
  exact ⟨pre ++ p2, by rw [h1, h4]; simp⟩
def AtEnd (P : Program) (ops : Array Oper) (q : Nat) : Prop := q = 0 ∨ ∃ o, ops[q - 1]? = some o /\ isAnchor P o.op = true /\ 0 < q
theorem Tr.head (h : Tr P rec ops D) {q : Nat} (hq : AtEnd P ops q) : ∃ l, (D q).st = (D q).m :: l := by
 rcases hq with rfl | ⟨o, ho, ha, hp⟩
 ·exact ⟨[], h.st0⟩
 ·have hs := (h.step (q - 1) o ho).facts.2.2.1
  rw [ha, show q - 1 + 1 = q by omega] at hs
  exact ⟨_, hs⟩

theorem Tr.looked (h : Tr P rec ops D) {q j : Nat} (hq : AtEnd P ops q) (hqn : q <= ops.size) (hj : j < ops.size) {p : Pend} (hp : p ∈ (D (j + 1)).ps)
  (hlo : p.lo <= (D q).k) (hhi : (D q).k <= p.hi) : pendHere P p (D q).m = true := by
 obtain ⟨l, hl⟩ := h.head hq
 obtain ⟨pre, h1, h2⟩ := h.stk (ops.size - q) q (by omega)
 obtain ⟨pp, h3⟩ := h.pss (ops.size - (j + 1)) (j + 1) (by omega)
 have := pendAll_spec _ h.pend p (by rw [h3]; exact List.mem_append_right _ hp)
 rw [h1, hl] at this
 exact pendAt_spec pre _ l _ this (by omega) (by omega) (by omega)

variable {Pt : Prot} {ρ0 : Rho}
def News (P : Program) (ops : Array Oper) (D : Nat -> DS) (L : Array Bool) (q : Nat) (Pt Pt' : Prot) (ρ : Rho) : Prop :=
 ∀ i o lb, ops[i]? = some o -> L.getD i false = true -> q <= i -> isNew P o.op = true -> (D (i + 1)).m = (D i).m.push lb ->
  ∃ b s c ob, ρ (D i).m.next = some (b, s, c) /\ BR ρ lb ob s c /\ Pt' b = some ob /\ Pt b = none
def Dist (P : Program) (ops : Array Oper) (D : Nat -> DS) (L : Array Bool) (q : Nat) (ρ : Rho) : Prop :=
 ∀ i i' o o' lb lb' x x', ops[i]? = some o -> ops[i']? = some o' -> L.getD i false = true -> L.getD i' false = true -> q <= i -> q <= i' -> isNew P o.op = true -> isNew P o'.op = true ->
  (D (i + 1)).m = (D i).m.push lb -> (D (i' + 1)).m = (D i').m.push lb' -> i ≠ i' -> ρ (D i).m.next = some x -> ρ (D i').m.next = some x' -> x.1 ≠ x'.1

structure Inv (P : Program) (ops : Array Oper) (D : Nat -> DS) (Pt : Prot) (ρ0 : Rho) (df : List Deferred) (L : Array Bool) (q : Nat) (U : Tm) (Pt' : Prot) (ρ : Rho) (w : World) (a : Act) : Prop where
 sizeL : L.size = ops.size
 qn : q <= ops.size
 hq : AtEnd P ops q
 anch : ∀ i o, ops[i]? = some o -> isAnchor P o.op = true -> (L.getD i false = true ↔ i < q)
 down : ∀ j o, ops[j]? = some o -> L.getD j false = true -> ∀ e ∈ o.after, Region.binds .any e = true -> L.getD e.on false = true
 sz : U.size = (D 0).T.size
 tmp : ∀ (i : Nat) (o : Oper) (d : Tmp), ops[i]? = some o -> o.dst = some d -> U.get d = if L.getD i false = true then (D ops.size).T.get d else (D 0).T.get d
 tmp0 : ∀ (d : Tmp), (∀ (i : Nat) (o : Oper), ops[i]? = some o -> o.dst ≠ some d) -> U.get d = (D 0).T.get d
 hT : TR ρ U a.tmps
 hd : a.defers = df
 rel : Rel Pt' ρ (D q).m w
 le : Pt.Le Pt'
 news : News P ops D L q Pt Pt' ρ
 dist : Dist P ops D L q ρ
 fresh : ∀ i, i < ops.size -> L.getD i false = false -> Fresh ρ (D i).m.next (D (i + 1)).m.next
 same : Same ρ0 ρ (D 0).m.next (D ops.size).m.next

theorem Inv.adopt (h : Tr P rec ops D) {df : List Deferred} {L : Array Bool} {q : Nat} {U : Tm} {Pt' : Prot} {ρ : Rho} {w : World} {a : Act} (hi : Inv P ops D Pt ρ0 df L q U Pt' ρ w a) :
  ∀ (d : Nat), q + d <= ops.size -> (∀ i o, q <= i -> i < q + d -> ops[i]? = some o -> (isNew P o.op = true -> L.getD i false = true) /\ isAnchor P o.op = false) ->
   ∃ Pt'', Rel Pt'' ρ (D (q + d)).m w /\ Pt.Le Pt'' /\ News P ops D L (q + d) Pt Pt'' ρ
 | 0, _, _ => ⟨Pt', hi.rel, hi.le, hi.news⟩
 | d + 1, hn, hc => by
  obtain ⟨P1, h1, h2, h3⟩ := hi.adopt h d (by omega) fun i o a b => hc i o a (by omega)
  obtain ⟨o, ho, hs⟩ := h.at_ (j := q + d) (by omega)
  obtain ⟨hnew, hna⟩ := hc (q + d) o (by omega) (by omega) ho
  rcases hs.mem h.pure hna with e | ⟨hk, lb, hro, e⟩
  ·refine ⟨P1, ?_, h2, fun i o lb g1 g2 g3 => h3 i o lb g1 g2 (by omega)⟩
   show Rel P1 ρ (D (q + d + 1)).m w
   rw [e]; exact h1
  ·obtain ⟨b, s, c, ob, k1, k2, k3, k4⟩ := h3 (q + d) o lb ho (hnew hk) (Nat.le_refl _) hk e
   have hnr : ¬P1.ro b := fun hr => by rw [<- h2.2.1] at hr; exact Pt.sub b hr k4
   refine ⟨P1.free b hnr, ?_, ⟨fun x o' hx => ?_, h2.2⟩, fun i o' lb' g1 g2 g3 g4 g5 => ?_⟩
   ·show Rel _ ρ (D (q + d + 1)).m w
    rw [e]; exact h1.back k1 k2 k3 hro hnr
   ·show (if x = b then none else P1 x) = some o'
    have hne : x ≠ b := fun eb => by rw [eb, k4] at hx; cases hx
    rw [if_neg hne]; exact h2.1 x o' hx
   ·obtain ⟨b', s', c', ob', l1, l2, l3, l4⟩ := h3 i o' lb' g1 g2 (by omega) g4 g5
    have hne : b' ≠ b := hi.dist i (q + d) o' o lb' lb _ _ g1 ho g2 (hnew hk) (by omega) (by omega) g4 hk g5 e (by omega) l1 k1
    refine ⟨b', s', c', ob', l1, l2, ?_, l4⟩
    show (if b' = b then none else P1 b') = some ob'
    rw [if_neg hne]; exact l3
end
end PvL
end
section
namespace PvL
open Go

section
variable {P : Program} {rec : Task -> Option Out} {ops : Array Oper} {D : Nat -> DS} {Pt Pt' : Prot} {ρ0 ρ : Rho} {df : List Deferred} {L : Array Bool} {q : Nat} {U : Tm} {w : World} {a : Act}
 {j : Nat} {o : Oper}

theorem getD_set {L : Array Bool} {j : Nat} (hj : j < L.size) (i : Nat) : (L.setIfInBounds j true).getD i false = if i = j then true else L.getD i false := by
 by_cases e : i = j
 ·subst e; simp [hj]
 ·rw [if_neg e, getD_set_ne false (Ne.symm e)]

theorem Inv.deps (hi : Inv P ops D Pt ρ0 df L q U Pt' ρ w a) (ho : ops[j]? = some o) (hr : ∀ e ∈ o.after, Region.binds .any e = true -> L.getD e.on false = true) {i : Nat}
  (hb : Nat.testBit ((deps ops).getD j 0) i = true) : L.getD i false = true :=
 deps_closed (S := fun i => L.getD i false = true) hi.down (j + 1) j (Nat.lt_succ_self _) o ho hr i hb

theorem Inv.look (h : Tr P rec ops D) (hi : Inv P ops D Pt ρ0 df L q U Pt' ρ w a) (ho : ops[j]? = some o) (hj : L.getD j false = false) (hr : ∀ e ∈ o.after, Region.binds .any e = true -> L.getD e.on false = true)
  {t : Tmp} (ht : t ∈ looks ops.toList o) : (D j).T.get t = U.get t := by
 have hjn := lt_of_at ho
 by_cases hx : ∃ (i : Nat) (oi : Oper), ops[i]? = some oi /\ oi.dst = some t
 ·obtain ⟨i, oi, hoi, hdi⟩ := hx
  obtain ⟨hne, h1, h2⟩ := h.ok.pair j i o oi t ho hoi hdi ht
  rw [hi.tmp i oi t hoi hdi]
  by_cases hl : i < j
  ·rw [if_pos (hi.deps ho hr (h1 hl))]
   exact (h.after (ops.size - j) j (by omega) fun i' o' hi' ho' e => by
    have := h.ok.uniq i i' oi o' t hoi ho' hdi e
    omega).symm
  ·have hji : j < i := by omega
   rw [if_neg (fun hs => ?_)]
   ·exact h.before j (by omega) fun i' o' hi' ho' e => by
     have := h.ok.uniq i i' oi o' t hoi ho' hdi e
     omega
   ·have := hi.deps hoi (hi.down i oi hoi hs) (h2 hji)
    rw [hj] at this; cases this
 ·have hno : ∀ (i : Nat) (oi : Oper), ops[i]? = some oi -> oi.dst ≠ some t := fun i oi hoi hd => hx ⟨i, oi, hoi, hd⟩
  rw [hi.tmp0 t hno]
  exact h.before j (by omega) fun i' o' _ ho' => hno i' o' ho'

theorem wanted_congr {all : List Oper} {T U : Tm} {o : Oper} (h : ∀ t ∈ looks all o, T.get t = U.get t) : wanted all T o.guard = wanted all U o.guard := by
 cases hg : o.guard with
 | none => rfl
 | some p =>
  obtain ⟨j, want⟩ := p
  show oe ((all[j]?).bind (·.dst)) _ _ = oe ((all[j]?).bind (·.dst)) _ _
  cases hd : (all[j]?).bind (·.dst) with
  | none => rfl
  | some d =>
   have : d ∈ looks all o := by
    unfold looks
    rw [hg]
    simp only [hd]
    simp
   show ob (evT T d) _ = ob (evT U d) _
   rw [evT_eq, evT_eq, h d this]
theorem op_congr {all : List Oper} {T U : Tm} {o : Oper} (m : Mem) (h : ∀ t ∈ looks all o, T.get t = U.get t) : op1 P o.op T m = op1 P o.op U m :=
 op1_congr o.op m fun t ht => h t (List.mem_append_left _ (List.mem_filterMap.2 ⟨.tmp t, by simpa using ht, rfl⟩))

theorem Same.any {ρ ρ' : Rho} {n : Nat} (h : Same ρ ρ' n n) (x y : Nat) : Same ρ ρ' x y := ⟨h.1, fun i _ => h.2 i (by omega)⟩

theorem Inv.fin (h : Tr P rec ops D) (hi : Inv P ops D Pt ρ0 df L q U Pt' ρ w a) (ho : ops[j]? = some o) (hr : ∀ e ∈ o.after, Region.binds .any e = true -> L.getD e.on false = true)
  {q' : Nat} {U' : Tm} {Pt'' : Prot} {ρ' : Rho} {w' : World} {a' : Act} (hp : Puts U U' o.dst) (hv : ∀ t, o.dst = some t -> U'.get t = (D (j + 1)).T.get t)
  (hs : Same ρ ρ' (D j).m.next (D (j + 1)).m.next) (hqn : q' <= ops.size) (hq' : AtEnd P ops q') (hanch : ∀ i oi, ops[i]? = some oi -> isAnchor P oi.op = true -> ((i = j ∨ L.getD i false = true) ↔ i < q'))
  (hT' : TR ρ' U' a'.tmps) (hd' : a'.defers = df) (hrel : Rel Pt'' ρ' (D q').m w') (hle : Pt.Le Pt'') (hnews : News P ops D (L.setIfInBounds j true) q' Pt Pt'' ρ') (hdist : Dist P ops D (L.setIfInBounds j true) q' ρ') :
  Inv P ops D Pt ρ0 df (L.setIfInBounds j true) q' U' Pt'' ρ' w' a' := by
 have hjn := lt_of_at ho
 have hset := getD_set (L := L) (j := j) (by rw [hi.sizeL]; exact hjn)
 refine ⟨by simp [hi.sizeL], hqn, hq', fun i oi hoi ha => ?_, fun i oi hoi hl e he hb => ?_, by rw [hp.1, hi.sz], fun i oi d hoi hd => ?_, fun d hn => ?_, hT', hd', hrel, hle, hnews, hdist, fun i hin hl => ?_, ?_⟩
 ·rw [hset, <- hanch i oi hoi ha]
  by_cases e : i = j
  ·simp [e]
  ·simp [e]
 ·rw [hset] at hl
  by_cases ei : i = j
  ·subst ei
   rw [ho] at hoi; cases hoi
   exact getD_set_true (hr e he hb)
  ·rw [if_neg ei] at hl
   exact getD_set_true (hi.down i oi hoi hl e he hb)
 ·rw [hset]
  by_cases ei : i = j
  ·subst ei
   rw [ho] at hoi; cases hoi
   rw [if_pos rfl, if_pos rfl, hv d hd]
   exact (h.after (ops.size - (i + 1)) (i + 1) (by omega) fun i' o' hi' ho' e => by
    have := h.ok.uniq i i' o o' d ho ho' hd e
    omega).symm
  ·rw [if_neg ei, hp.2 d (fun e => ei (h.ok.uniq i j oi o d hoi ho hd e)), hi.tmp i oi d hoi hd]
 ·rw [hp.2 d (hn j o ho), hi.tmp0 d hn]
 ·rw [hset] at hl
  by_cases ei : i = j
  ·rw [if_pos ei] at hl; cases hl
  ·rw [if_neg ei] at hl
   have := hi.fresh i hin hl
   intro x hx1 hx2
   rw [hs.2 x ?_]
   ·exact this x hx1 hx2
   ·by_cases hl : i < j
    ·have := h.next (j - (i + 1)) (i + 1) (by omega)
     rw [show i + 1 + (j - (i + 1)) = j by omega] at this
     exact .inl (by omega)
    ·have := h.next (i - (j + 1)) (j + 1) (by omega)
     rw [show j + 1 + (i - (j + 1)) = i by omega] at this
     exact .inr (by omega)
 ·refine ⟨hi.same.1.trans hs.1, fun i hx => ?_⟩
  have h1 := h.next j 0 (by omega)
  have h2 := h.next (ops.size - (j + 1)) (j + 1) (by omega)
  rw [show 0 + j = j by omega] at h1
  rw [show j + 1 + (ops.size - (j + 1)) = ops.size by omega] at h2
  rw [hs.2 i (by omega), hi.same.2 i hx]

theorem News.keep {q' : Nat} {ρ' : Rho} {Pt'' : Prot} (hjn : j < L.size) (ho : ops[j]? = some o) (hn : News P ops D L q' Pt Pt'' ρ) (hle : RLe ρ ρ') (hno : ∀ lb, isNew P o.op = true -> q' <= j -> (D (j + 1)).m ≠ (D j).m.push lb) :
  News P ops D (L.setIfInBounds j true) q' Pt Pt'' ρ' := fun i oi lb hoi hl hqi hk e => by
 rw [getD_set hjn] at hl
 by_cases ei : i = j
 ·subst ei
  rw [ho] at hoi; cases hoi
  exact absurd e (hno lb hk hqi)
 ·rw [if_neg ei] at hl
  obtain ⟨b, s, c, ob, k1, k2, k3, k4⟩ := hn i oi lb hoi hl hqi hk e
  exact ⟨b, s, c, ob, hle _ _ k1, k2.mono hle, k3, k4⟩
theorem Dist.keep {q' : Nat} {ρ' : Rho} {Pt'' : Prot} (hjn : j < L.size) (ho : ops[j]? = some o) (hn : News P ops D L q' Pt Pt'' ρ) (hd : Dist P ops D L q ρ) (hqq : q <= q') (hle : RLe ρ ρ') (hno : ∀ lb, isNew P o.op = true -> q' <= j -> (D (j + 1)).m ≠ (D j).m.push lb) :
  Dist P ops D (L.setIfInBounds j true) q' ρ' := fun i i' oi oi' lb lb' x x' hoi hoi' hl hl' hqi hqi' hk hk' e e' hne hx hx' => by
 rw [getD_set hjn] at hl hl'
 have h1 : i ≠ j := fun ei => by
  subst ei
  rw [ho] at hoi; cases hoi
  exact absurd e (hno lb hk hqi)
 have h2 : i' ≠ j := fun ei => by
  subst ei
  rw [ho] at hoi'; cases hoi'
  exact absurd e' (hno lb' hk' hqi')
 rw [if_neg h1] at hl
 rw [if_neg h2] at hl'
 obtain ⟨b, s, c, ob, k1, _⟩ := hn i oi lb hoi hl hqi hk e
 obtain ⟨b', s', c', ob', k1', _⟩ := hn i' oi' lb' hoi' hl' hqi' hk' e'
 rw [hle _ _ k1] at hx
 rw [hle _ _ k1'] at hx'
 cases hx; cases hx'
 exact hd i i' oi oi' lb lb' _ _ hoi hoi' hl hl' (by omega) (by omega) hk hk' e e' hne k1 k1'
end
end PvL
end
section
namespace PvL
open Go

section
variable {P : Program} {rec : Task -> Option Out} {ops : Array Oper} {D : Nat -> DS} {Pt Pt' : Prot} {ρ0 ρ : Rho} {df : List Deferred} {L : Array Bool} {q : Nat} {U : Tm} {w : World} {a : Act}
 {j : Nat} {o : Oper}

theorem Inv.behind (h : Tr P rec ops D) (hi : Inv P ops D Pt ρ0 df L q U Pt' ρ w a) (ho : ops[j]? = some o) (hj : L.getD j false = false) (hk : (isAnchor P o.op || isNew P o.op) = true) : q <= j := by
 rcases Nat.lt_or_ge j q with hl | hl
 ·rcases hi.hq with e | ⟨o1, ho1, ha1, hp⟩
  ·omega
  ·have hs : L.getD (q - 1) false = true := (hi.anch (q - 1) o1 ho1 ha1).2 (by omega)
   by_cases e : j = q - 1
   ·subst e; rw [hj] at hs; cases hs
   ·have := hi.deps ho1 (hi.down _ _ ho1 hs) (h.ok.anch (q - 1) o1 ho1 ha1 j o (by omega) ho hk)
    rw [hj] at this; cases this
 ·exact hl
theorem Inv.turnA (h : Tr P rec ops D) (hi : Inv P ops D Pt ρ0 df L q U Pt' ρ w a) (ho : ops[j]? = some o) (hj : L.getD j false = false) (hr : ∀ e ∈ o.after, Region.binds .any e = true -> L.getD e.on false = true) (ha : isAnchor P o.op = true) :
  q <= j /\ (∀ i oi, ops[i]? = some oi -> isAnchor P oi.op = true -> ((i = j ∨ L.getD i false = true) ↔ i < j + 1)) /\ ∃ Pt'', Rel Pt'' ρ (D j).m w /\ Pt.Le Pt'' /\ News P ops D L j Pt Pt'' ρ := by
 have hjn := lt_of_at ho
 have hqj := hi.behind h ho hj (by rw [ha]; rfl)
 have hall : ∀ i oi, i < j -> ops[i]? = some oi -> (isAnchor P oi.op || isNew P oi.op) = true -> L.getD i false = true := fun i oi hl hoi hk => hi.deps ho hr (h.ok.anch j o ho ha i oi hl hoi hk)
 refine ⟨hqj, fun i oi hoi hai => ⟨fun hor => ?_, fun hl => ?_⟩, ?_⟩
 ·rcases hor with e | hs
  ·omega
  ·have := (hi.anch i oi hoi hai).1 hs; omega
 ·by_cases e : i = j
  ·exact .inl e
  ·exact .inr (hall i oi (by omega) hoi (by rw [hai]; rfl))
 ·have := hi.adopt h (j - q) (by omega) fun i oi h1 h2 hoi => ⟨fun hk => hall i oi (by omega) hoi (by rw [hk, Bool.or_true]), by
   cases hai : isAnchor P oi.op with
   | false => rfl
   | true =>
    have := (hi.anch i oi hoi hai).1 (hall i oi (by omega) hoi (by rw [hai]; rfl))
    omega⟩
  rw [show q + (j - q) = j by omega] at this
  exact this

theorem Mem.eta (m : Mem) : (⟨m.next, m.tr⟩ : Mem) = m := by cases m; rfl
theorem push_inj {m : Mem} {lb lb' : LB} (h : m.push lb = m.push lb') : lb = lb' := by
 have h1 : (m.push lb).get m.next = some lb := by rw [Mem.get_push, if_pos rfl]
 rw [h, Mem.get_push, if_pos rfl] at h1
 exact (Option.some.inj h1).symm

theorem Inv.step (hrec : RecSim P rec) (hcall : ∀ f as m1 v m2, rec (.call f as m1) = some (.call v m2) -> ∃ fn, fnOf P f = some fn) (h : Tr P rec ops D) (hi : Inv P ops D Pt ρ0 df L q U Pt' ρ w a)
  (ho : ops[j]? = some o) (hj : L.getD j false = false) (hr : ∀ e ∈ o.after, Region.binds .any e = true -> L.getD e.on false = true) (b : Frame) (rest : List Nat) (k : List Item) (cs : List Frame) :
  ∃ q' U' Pt'' ρ' w' a', Inv P ops D Pt ρ0 df (L.setIfInBounds j true) q' U' Pt'' ρ' w' a' /\
   Steps P (lone (b.atR a (.inRegion ops (j :: rest) :: k)) cs w) (lone (b.atR a' (.inRegion ops rest :: k)) cs w') := by
 have hjn := lt_of_at ho
 have hjL : j < L.size := by rw [hi.sizeL]; exact hjn
 have hlook : ∀ t ∈ looks ops.toList o, (D j).T.get t = U.get t := fun t ht => hi.look h ho hj hr ht
 have hsz : U.size = (D j).T.size := by rw [hi.sz, h.size j (by omega)]
 have hwant : ∀ x, wanted ops.toList (D j).T o.guard = some x -> Region.wanted o (yielded ops a.tmps) = x := fun x hx => wanted_sim (by rw [<- wanted_congr hlook]; exact hx) hi.hT
 have hanch0 : isAnchor P o.op = false -> ∀ i oi, ops[i]? = some oi -> isAnchor P oi.op = true -> ((i = j ∨ L.getD i false = true) ↔ i < q) := fun hna i oi hoi hai => by
  rw [<- hi.anch i oi hoi hai]
  constructor
  ·rintro (e | hs)
   ·subst e; rw [ho] at hoi; cases hoi; rw [hna] at hai; cases hai
   ·exact hs
  ·exact .inr
 have hoff : ∀ {T' : Tm}, (D j).T.put o.dst lundef = some T' -> ∃ U', U.put o.dst lundef = some U' /\ Puts U U' o.dst /\ ∀ t, o.dst = some t -> U'.get t = T'.get t := fun hp => by
  obtain ⟨U', hu⟩ := Tm.put_other hp hsz lundef
  exact ⟨U', hu, ⟨(Tm.put_eq hu).1, (Tm.put_eq hu).2.2⟩, fun t e => by rw [(Tm.put_eq hu).2.1 t e, (Tm.put_eq hp).2.1 t e]⟩
 have hskip : Region.wanted o (yielded ops a.tmps) = false -> Steps P (lone (b.atR a (.inRegion ops (j :: rest) :: k)) cs w) (lone (b.atR (a.put o.dst undef) (.inRegion ops rest :: k)) cs w) := fun hw => by
  have := stepR_op_skip (P := P) (b := b) (a := a) (k := k) (cs := cs) (w := w) (ops := ops) (i := j) (rest := rest) (by rw [ho]; exact hw)
  rw [ho] at this
  exact .one this
 have hfr := hi.fresh j hjn hj
 have hst := h.step j o ho
 generalize hD' : D (j + 1) = s' at hst
 cases hst with
 | mover hw hop hc =>
  rename_i T' m'
  have hna : isAnchor P o.op = false := by simp [isAnchor, hc]
  have hnn : isNew P o.op = false := by simp [isNew, hc]
  obtain ⟨v, h1, hp, rfl⟩ := mv_step hc hop
  have key : ∃ v', op1 P o.op (D j).T (D q).m = some (.val v' (D q).m) /\ ∀ t, o.dst = some t -> v' = T'.get t := by
   obtain ⟨X, hX, hpure⟩ := op1_mv (P := P) (T := (D j).T) o.op (cls_mover hc)
   have hXj : X (D j).m = some v := by
    rw [hX] at h1
    obtain ⟨v2, e, h2⟩ := ob_eq.1 h1
    cases h2; exact e
   cases hrd : readsMem o.op with
   | false =>
    refine ⟨v, ?_, fun t e => ((Tm.put_eq hp).2.1 t e).symm⟩
    rw [hX, hpure hrd _ (D j).m, hXj]; rfl
   | true =>
    have hmem : ({ op := o.op, T := (D j).T, v := dstV T' o.dst, lo := anchorsIn P ((PvL.deps ops).getD j 0) ops.toList 0, hi := anchorsFree P j ops.toList (PvL.deps ops) } : Pend) ∈ (D (j + 1)).ps := by
     rw [hD', hrd]; exact List.mem_cons_self
    have hd0 : (PvL.deps ops).length = 0 + ops.toList.length := by
     unfold PvL.deps
     obtain ⟨_, h2, _⟩ := fold_push (F := fun acc o => o.after.foldl (init := 0) fun s e => if Region.binds .any e then s ||| 2 ^ e.on ||| acc.getD e.on 0 else s) ops.toList #[]
     unfold Region.before
     rw [<- Array.foldl_toList]
     simpa using h2
    have hph := h.looked hi.hq hi.qn hjn hmem (by
     rw [h.cnt q hi.qn]
     show anchorsIn P _ _ _ <= _
     rw [anchorsIn_eq]
     refine acnt_mono _ _ fun i oi hoi hai hb => ?_
     rw [Nat.zero_add] at hb ⊢
     rw [Nat.blt_eq]
     exact (hi.anch i oi (by simpa using hoi) hai).1 (hi.deps ho hr hb)) (by
     rw [h.cnt q hi.qn]
     show _ <= anchorsFree P j ops.toList (PvL.deps ops)
     have := anchorsFree_eq (P := P) (m := j) (ds := PvL.deps ops) ops.toList 0 hd0
     rw [List.drop_zero] at this
     rw [this]
     refine acnt_mono _ _ fun i oi hoi hai hb => ?_
     rw [Nat.zero_add] at hb ⊢
     rw [Nat.blt_eq] at hb
     have hoi : ops[i]? = some oi := by simpa using hoi
     have hs := (hi.anch i oi hoi hai).2 hb
     cases ht : Nat.testBit ((PvL.deps ops).getD i 0) j with
     | false => rfl
     | true =>
      have := hi.deps hoi (hi.down i oi hoi hs) ht
      rw [hj] at this; cases this)
    unfold pendHere at hph
    have hph : (match op1 P o.op (D j).T (D q).m with | some (.val v _) => lvEq v (dstV T' o.dst) | _ => false) = true := hph
    rw [hX] at hph ⊢
    cases hx : X (D q).m with
    | none => rw [hx] at hph; cases hph
    | some v' =>
     rw [hx] at hph
     have hph : lvEq v' (dstV T' o.dst) = true := hph
     refine ⟨v', rfl, fun t e => ?_⟩
     rw [lvEq_sound.1 _ _ hph, e]; rfl
  obtain ⟨v', hop', hv'⟩ := key
  rw [op_congr _ hlook] at hop'
  obtain ⟨U', hu⟩ := Tm.put_other hp hsz v'
  obtain ⟨ρ', v'', w', hs, hT', hrel', hsteps⟩ := opStep_sim h.mono hrec ho (.val hop' hu) hcall (b := b) rest k cs (hwant true hw) hi.hT hi.rel (fun i h1 h2 => by omega)
  refine ⟨q, U', Pt', ρ', w', _, ?_, hsteps⟩
  refine hi.fin h ho hr ⟨(Tm.put_eq hu).1, (Tm.put_eq hu).2.2⟩ (fun t e => ?_) (Same.any hs _ _) hi.qn hi.hq (hanch0 hna) hT' (by rw [put_defers]; exact hi.hd) hrel' hi.le
   (News.keep hjL ho hi.news hs.1 fun lb hk => by rw [hnn] at hk; cases hk) (Dist.keep hjL ho hi.news hi.dist (Nat.le_refl _) hs.1 fun lb hk => by rw [hnn] at hk; cases hk)
  rw [(Tm.put_eq hu).2.1 t e, hD']; exact hv' t e
 | new hw hop hc =>
  rename_i T' m'
  have hna : isAnchor P o.op = false := by simp [isAnchor, hc]
  have hnn : isNew P o.op = true := by simp [isNew, hc]
  have hqj := hi.behind h ho hj (by rw [hnn, Bool.or_true])
  obtain ⟨v, lb, hp, rfl, hro, hM⟩ := new_step hc hop
  have hnx : (D q).m.next <= (D j).m.next := by
   have := h.next (j - q) q (by omega)
   rw [show q + (j - q) = j by omega] at this; exact this
  have hop' := hM ⟨(D j).m.next, (D q).m.tr⟩ rfl
  rw [op_congr _ hlook] at hop'
  obtain ⟨U', hu⟩ := Tm.put_other hp hsz v
  have hfr' : Fresh ρ (D j).m.next ((D j).m.next + 1) := by rw [hD'] at hfr; exact hfr
  obtain ⟨ρ', v'', w', hs, hT', hrel', hsteps⟩ := opStep_sim h.mono hrec ho (.val hop' hu) hcall (b := b) rest k cs (hwant true hw) hi.hT (hi.rel.bump hnx) hfr'
  obtain ⟨bb, s, c, ob, k1, k2, k3, k4⟩ := Rel.out (M := ⟨(D j).m.next, (D q).m.tr⟩) (n := (D q).m.next) hnx (fun i lb hg => (hi.rel.live i lb hg).1) hrel' hro
  rw [Mem.eta] at k4
  have k1 : ρ' (D j).m.next = some (bb, s, c) := k1
  have hbb : Pt bb = none := by
   cases hp : Pt bb with
   | none => rfl
   | some o' => rw [hi.le.1 bb o' hp] at k3; cases k3
  refine ⟨q, U', Pt'.hide bb ob, ρ', w', _, ?_, hsteps⟩
  have hle' : Pt.Le (Pt'.hide bb ob) := ⟨fun x o' hx => by
   show (if x = bb then some ob else Pt' x) = some o'
   have hne : x ≠ bb := fun e => by rw [e, hbb] at hx; cases hx
   rw [if_neg hne]; exact hi.le.1 x o' hx, hi.le.2⟩
  have hold : ∀ i oi lb', ops[i]? = some oi -> (L.setIfInBounds j true).getD i false = true -> i ≠ j -> q <= i -> isNew P oi.op = true -> (D (i + 1)).m = (D i).m.push lb' ->
    ∃ b' s' c' ob', ρ' (D i).m.next = some (b', s', c') /\ BR ρ' lb' ob' s' c' /\ Pt' b' = some ob' /\ Pt b' = none /\ b' ≠ bb := fun i oi lb' hoi hl hne hqi hk e => by
   rw [getD_set hjL, if_neg hne] at hl
   obtain ⟨b', s', c', ob', l1, l2, l3, l4⟩ := hi.news i oi lb' hoi hl hqi hk e
   exact ⟨b', s', c', ob', hs.1 _ _ l1, l2.mono hs.1, l3, l4, fun e => by rw [e, k3] at l3; cases l3⟩
  refine hi.fin h ho hr ⟨(Tm.put_eq hu).1, (Tm.put_eq hu).2.2⟩ (fun t e => ?_) (by rw [hD']; exact hs) hi.qn hi.hq (hanch0 hna) hT' (by rw [put_defers]; exact hi.hd) k4 hle' ?_ ?_
  ·rw [(Tm.put_eq hu).2.1 t e, hD']; exact ((Tm.put_eq hp).2.1 t e).symm
  ·intro i oi lb' hoi hl hqi hk e
   by_cases ei : i = j
   ·subst ei
    rw [hD'] at e
    have e : (D i).m.push lb = (D i).m.push lb' := e
    cases push_inj e
    refine ⟨bb, s, c, ob, k1, k2, ?_, hbb⟩
    show (if bb = bb then some ob else Pt' bb) = some ob
    rw [if_pos rfl]
   ·obtain ⟨b', s', c', ob', l1, l2, l3, l4, l5⟩ := hold i oi lb' hoi hl ei hqi hk e
    refine ⟨b', s', c', ob', l1, l2, ?_, l4⟩
    show (if b' = bb then some ob else Pt' b') = some ob'
    rw [if_neg l5]; exact l3
  ·intro i i' oi oi' lb1 lb2 x x' hoi hoi' hl hl' hqi hqi' hk hk' e e' hne hx hx'
   by_cases ei : i = j
   ·by_cases ei' : i' = j
    ·omega
    ·obtain ⟨b', s', c', ob', l1, _, _, _, l5⟩ := hold i' oi' lb2 hoi' hl' ei' hqi' hk' e'
     rw [ei, k1] at hx; cases hx
     rw [l1] at hx'; cases hx'
     exact fun e => l5 e.symm
   ·obtain ⟨b', s', c', ob', l1, _, _, _, l5⟩ := hold i oi lb1 hoi hl ei hqi hk e
    by_cases ei' : i' = j
    ·rw [ei', k1] at hx'; cases hx'
     rw [l1] at hx; cases hx
     exact l5
    ·rw [getD_set hjL, if_neg ei] at hl
     rw [getD_set hjL, if_neg ei'] at hl'
     obtain ⟨b1, s1, c1, ob1, m1, _⟩ := hi.news i oi lb1 hoi hl hqi hk e
     obtain ⟨b2, s2, c2, ob2, m2, _⟩ := hi.news i' oi' lb2 hoi' hl' hqi' hk' e'
     rw [hs.1 _ _ m1] at hx
     rw [hs.1 _ _ m2] at hx'
     cases hx; cases hx'
     exact hi.dist i i' oi oi' lb1 lb2 _ _ hoi hoi' hl hl' hqi hqi' hk hk' e e' hne m1 m2
 | anchor hw hop hc =>
  rename_i T' m'
  have ha : isAnchor P o.op = true := by simp [isAnchor, hc]
  have hnn : isNew P o.op = false := by simp [isNew, hc]
  obtain ⟨hqj, hanch, Pt2, hr2, hle2, hnews2⟩ := hi.turnA h ho hj hr ha
  obtain ⟨U', hstep, hputs, hval⟩ := hop.congr (op_congr _ hlook) hsz
  rw [hD'] at hfr
  obtain ⟨ρ', v'', w', hs, hT', hrel', hsteps⟩ := opStep_sim h.mono hrec ho hstep hcall (b := b) rest k cs (hwant true hw) hi.hT hr2 hfr
  have hnews3 : News P ops D L (j + 1) Pt Pt2 ρ := fun i oi lb g1 g2 g3 => hnews2 i oi lb g1 g2 (by omega)
  refine ⟨j + 1, U', Pt2, ρ', w', _, ?_, hsteps⟩
  exact hi.fin h ho hr hputs (fun t e => by rw [hval t e, hD']) (by rw [hD']; exact hs) (by omega) (.inr ⟨o, ho, ha, by omega⟩) hanch hT' (by rw [put_defers]; exact hi.hd) (by rw [hD']; exact hrel') hle2
   (News.keep hjL ho hnews3 hs.1 fun lb hk => by rw [hnn] at hk; cases hk) (Dist.keep hjL ho hnews3 hi.dist (by omega) hs.1 fun lb hk => by rw [hnn] at hk; cases hk)
 | calm hw hop hc =>
  rename_i T' m'
  have hna : isAnchor P o.op = false := by simp [isAnchor, hc]
  have hnn : isNew P o.op = false := by simp [isNew, hc]
  obtain ⟨rfl, hall⟩ := calm_step h.pure hc hop
  obtain ⟨U', hstep, hputs, hval⟩ := (hall (D q).m).congr (op_congr _ hlook) hsz
  obtain ⟨ρ', v'', w', hs, hT', hrel', hsteps⟩ := opStep_sim h.mono hrec ho hstep hcall (b := b) rest k cs (hwant true hw) hi.hT hi.rel (fun i h1 h2 => by omega)
  refine ⟨q, U', Pt', ρ', w', _, ?_, hsteps⟩
  exact hi.fin h ho hr hputs (fun t e => by rw [hval t e, hD']) (Same.any hs _ _) hi.qn hi.hq (hanch0 hna) hT' (by rw [put_defers]; exact hi.hd) hrel' hi.le
   (News.keep hjL ho hi.news hs.1 fun lb hk => by rw [hnn] at hk; cases hk) (Dist.keep hjL ho hi.news hi.dist (Nat.le_refl _) hs.1 fun lb hk => by rw [hnn] at hk; cases hk)
 | offA hw hop hc =>
  rename_i T'
  have ha : isAnchor P o.op = true := by simp [isAnchor, hc]
  have hnn : isNew P o.op = false := by simp [isNew, hc]
  obtain ⟨hqj, hanch, Pt2, hr2, hle2, hnews2⟩ := hi.turnA h ho hj hr ha
  obtain ⟨U', hu, hputs, hval⟩ := hoff hop
  have hnews3 : News P ops D L (j + 1) Pt Pt2 ρ := fun i oi lb g1 g2 g3 => hnews2 i oi lb g1 g2 (by omega)
  refine ⟨j + 1, U', Pt2, ρ, w, _, ?_, hskip (hwant false hw)⟩
  exact hi.fin h ho hr hputs (fun t e => by rw [hval t e, hD']) (Same.refl _ _ _) (by omega) (.inr ⟨o, ho, ha, by omega⟩) hanch (hi.hT.put hu (.tup .nil)) (by rw [put_defers]; exact hi.hd) (by rw [hD']; exact hr2) hle2
   (News.keep hjL ho hnews3 (RLe.refl _) fun lb hk => by rw [hnn] at hk; cases hk) (Dist.keep hjL ho hnews3 hi.dist (by omega) (RLe.refl _) fun lb hk => by rw [hnn] at hk; cases hk)
 | off hw hop hc =>
  rename_i T'
  have hna : isAnchor P o.op = false := by
   unfold isAnchor
   cases hk : cls P o.op <;> first | rfl | exact absurd hk hc
  obtain ⟨U', hu, hputs, hval⟩ := hoff hop
  have hno : ∀ lb, isNew P o.op = true -> q <= j -> (D (j + 1)).m ≠ (D j).m.push lb := fun lb _ _ e => by
   rw [hD'] at e
   have : (D j).m.next = (D j).m.next + 1 := congrArg Mem.next (show (D j).m = (D j).m.push lb from e)
   omega
  refine ⟨q, U', Pt', ρ, w, _, ?_, hskip (hwant false hw)⟩
  exact hi.fin h ho hr hputs (fun t e => by rw [hval t e, hD']) (Same.refl _ _ _) hi.qn hi.hq (hanch0 hna) (hi.hT.put hu (.tup .nil)) (by rw [put_defers]; exact hi.hd) hi.rel hi.le
   (News.keep hjL ho hi.news (RLe.refl _) hno) (Dist.keep hjL ho hi.news hi.dist (Nat.le_refl _) (RLe.refl _) hno)
end
end PvL
end
section
namespace PvL
open Go

section
variable {P : Program} {rec : Task -> Option Out} {ops : Array Oper} {D : Nat -> DS} {Pt : Prot} {ρ0 : Rho} {df : List Deferred}

def unl (L : Array Bool) : Nat -> Nat
 | 0 => 0
 | i + 1 => unl L i + (if L.getD i false then 0 else 1)
theorem unl_le (L : Array Bool) : ∀ n, unl L n <= n
 | 0 => Nat.le_refl _
 | n + 1 => by
  have := unl_le L n
  show unl L n + (if L.getD n false = true then 0 else 1) <= n + 1
  split <;> omega
theorem unl_zero {L : Array Bool} : ∀ n, unl L n = 0 -> ∀ i, i < n -> L.getD i false = true
 | 0, _, i, hi => absurd hi (Nat.not_lt_zero _)
 | n + 1, h, i, hi => by
  have h : unl L n + (if L.getD n false = true then 0 else 1) = 0 := h
  by_cases e : i = n
  ·subst e
   by_cases hl : L.getD i false = true
   ·exact hl
   ·rw [if_neg hl] at h; omega
  ·exact unl_zero n (by omega) i (by omega)
theorem unl_set {L : Array Bool} {j : Nat} (hj : j < L.size) (hl : L.getD j false = false) : ∀ n, (n <= j -> unl (L.setIfInBounds j true) n = unl L n) /\ (j < n -> unl (L.setIfInBounds j true) n + 1 = unl L n)
 | 0 => ⟨fun _ => rfl, fun h => absurd h (Nat.not_lt_zero _)⟩
 | n + 1 => by
  obtain ⟨h1, h2⟩ := unl_set hj hl n
  show (_ -> unl _ n + (if (L.setIfInBounds j true).getD n false = true then 0 else 1) = unl L n + (if L.getD n false = true then 0 else 1)) /\ (_ -> unl _ n + (if (L.setIfInBounds j true).getD n false = true then 0 else 1) + 1 = unl L n + (if L.getD n false = true then 0 else 1))
  rw [getD_set hj]
  refine ⟨fun h => ?_, fun h => ?_⟩
  ·rw [if_neg (show ¬(n = j) by omega), h1 (by omega)]
  ·by_cases e : n = j
   ·subst e
    rw [if_pos rfl, hl, h1 (Nat.le_refl _)]
    simp
   ·rw [if_neg e]
    have := h2 (by omega)
    omega

theorem Inv.ends (h : Tr P rec ops D) {L : Array Bool} {q : Nat} {U : Tm} {Pt' : Prot} {ρ : Rho} {w : World} {a : Act} (hi : Inv P ops D Pt ρ0 df L q U Pt' ρ w a) (hall : ∀ i, i < ops.size -> L.getD i false = true) :
  Same ρ0 ρ (D 0).m.next (D ops.size).m.next /\ TR ρ (D ops.size).T a.tmps /\ a.defers = df /\ Rel Pt ρ (D ops.size).m w := by
 refine ⟨hi.same, ⟨by rw [hi.hT.1, hi.sz, h.size ops.size (Nat.le_refl _)], fun t => ?_⟩, hi.hd, ?_⟩
 ·have ht := hi.hT.2 t
  have : U.get t = (D ops.size).T.get t := by
   by_cases hx : ∃ (i : Nat) (oi : Oper), ops[i]? = some oi /\ oi.dst = some t
   ·obtain ⟨i, oi, hoi, hd⟩ := hx
    rw [hi.tmp i oi t hoi hd, if_pos (hall i (lt_of_at hoi))]
   ·have hno : ∀ (i : Nat) (oi : Oper), ops[i]? = some oi -> oi.dst ≠ some t := fun i oi h1 h2 => hx ⟨i, oi, h1, h2⟩
    rw [hi.tmp0 t hno, h.before ops.size (Nat.le_refl _) fun i o _ ho => hno i o ho]
  rw [<- this]; exact ht
 ·obtain ⟨P2, h1, h2, _⟩ := hi.adopt h (ops.size - q) (by have := hi.qn; omega) fun i oi h1 h2 hoi => ⟨fun _ => hall i (lt_of_at hoi), by
   cases hai : isAnchor P oi.op with
   | false => rfl
   | true =>
    have := (hi.anch i oi hoi hai).1 (hall i (lt_of_at hoi))
    omega⟩
  rw [show q + (ops.size - q) = ops.size by have := hi.qn; omega] at h1
  exact h1.weaken h2

theorem Inv.none_ready (h : Tr P rec ops D) {L : Array Bool} {q : Nat} {U : Tm} {Pt' : Prot} {ρ : Rho} {w : World} {a : Act} (hi : Inv P ops D Pt ρ0 df L q U Pt' ρ w a) (hr : Region.ready .any ops L = []) :
  ∀ n i, i < n -> i < ops.size -> L.getD i false = true
 | 0, i, hl, _ => absurd hl (Nat.not_lt_zero _)
 | n + 1, i, hl, hin => by
  have ho : ops[i]? = some ops[i] := Array.getElem?_eq_getElem hin
  cases hx : L.getD i false with
  | true => rfl
  | false =>
   have hmem : i ∈ Region.ready .any ops L := by
    rw [mem_ready]
    refine ⟨?_, ops[i], ho, fun e he hb => ?_⟩
    ·have hs : i < L.size := by rw [hi.sizeL]; exact hin
     simp [hs] at hx ⊢; exact hx
    ·have := h.ok.edge i _ ho e he hb
     exact hi.none_ready h hr n e.on (by omega) (by omega)
   rw [hr] at hmem; cases hmem

theorem draw_go (hrec : RecSim P rec) (hcall : ∀ f as m1 v m2, rec (.call f as m1) = some (.call v m2) -> ∃ fn, fnOf P f = some fn) (h : Tr P rec ops D) (b : Frame) (k : List Item) (cs : List Frame) :
  ∀ (fuel t : Nat) (L : Array Bool) (q : Nat) (U : Tm) (Pt' : Prot) (ρ : Rho) (w : World) (a : Act), Inv P ops D Pt ρ0 df L q U Pt' ρ w a -> unl L ops.size <= fuel ->
   ∃ ρ' a' w', Same ρ0 ρ' (D 0).m.next (D ops.size).m.next /\ TR ρ' (D ops.size).T a'.tmps /\ a'.defers = df /\ Rel Pt ρ' (D ops.size).m w' /\
    Steps P (lone (b.atR a (.inRegion ops (Region.linearise.go .any ops fuel t L []) :: k)) cs w) (lone (b.atR a' k) cs w')
 | 0, t, L, q, U, Pt', ρ, w, a, hi, hu => by
  obtain ⟨h1, h2, h3, h4⟩ := hi.ends h (unl_zero _ (by omega))
  exact ⟨ρ, a, w, h1, h2, h3, h4, .one stepR_region_end⟩
 | fuel + 1, t, L, q, U, Pt', ρ, w, a, hi, hu => by
  have e : Region.linearise.go .any ops (fuel + 1) t L [] = match (Region.ready .any ops L)[t % (Region.ready .any ops L).length]? with
   | some i => Region.linearise.go .any ops fuel (t / (Region.ready .any ops L).length) (L.setIfInBounds i true) [i]
   | none => [].reverse := rfl
  rw [e]
  cases hx : (Region.ready .any ops L)[t % (Region.ready .any ops L).length]? with
  | none =>
   have hnil : Region.ready .any ops L = [] := by
    cases hr : Region.ready .any ops L with
    | nil => rfl
    | cons x xs =>
     rw [hr] at hx
     have hlt : t % (x :: xs).length < (x :: xs).length := Nat.mod_lt _ (by simp)
     simp at hx
     simp at hlt
     omega
   obtain ⟨h1, h2, h3, h4⟩ := hi.ends h (fun i hin => hi.none_ready h hnil (i + 1) i (by omega) hin)
   exact ⟨ρ, a, w, h1, h2, h3, h4, .one stepR_region_end⟩
  | some i =>
   obtain ⟨hl, o, ho, hr⟩ := mem_ready.1 (List.mem_of_getElem? hx)
   have hin := lt_of_at ho
   have hs : i < L.size := by rw [hi.sizeL]; exact hin
   have hl : L.getD i false = false := by simp [hs] at hl ⊢; exact hl
   obtain ⟨q', U', Pt'', ρ', w', a', hi', hst⟩ := hi.step hrec hcall h ho hl hr b (Region.linearise.go .any ops fuel (t / (Region.ready .any ops L).length) (L.setIfInBounds i true) []) k cs
   have hu' := (unl_set hs hl ops.size).2 hin
   obtain ⟨ρ2, a2, w2, g1, g2, g3, g4, g5⟩ := draw_go hrec hcall h b k cs fuel (t / (Region.ready .any ops L).length) _ q' U' Pt'' ρ' w' a' hi' (by omega)
   refine ⟨ρ2, a2, w2, g1, g2, g3, g4, ?_⟩
   show Steps P (lone (b.atR a (.inRegion ops (Region.linearise.go .any ops fuel _ (L.setIfInBounds i true) [i]) :: k)) cs w) _
   rw [linearise_go_acc, List.reverse_singleton, List.singleton_append]
   exact hst.trans g5

theorem draw_sim (hmix : P.follows .mixedOrders = true) (hm : RecMono rec) (hpure : RecPure P rec) (hrec : RecSim P rec) (hcall : ∀ f as m1 v m2, rec (.call f as m1) = some (.call v m2) -> ∃ fn, fnOf P f = some fn) : DrawSim P rec := by
 intro ops T T' m m' st kk ps hok hrun hpend Pt ρ b id k cs w a hT hrel hf
 obtain ⟨D, d0, dn, hstep⟩ := drawRun_trace _ _ _ _ hrun
 rw [Nat.zero_add, Array.length_toList] at dn
 have h : Tr P rec ops D := ⟨regionOk_spec hok, hm, hpure, fun j o ho => by
  have := hstep j o (by simpa using ho)
  rw [Nat.zero_add] at this; exact this, by rw [d0], by rw [d0], by rw [dn]; exact hpend⟩
 have hrep : ∀ i, (Array.replicate ops.size false).getD i false = false := fun i => by
  by_cases hi : i < ops.size
  ·simp [hi]
  ·simp [Array.getElem?_eq_none (show (Array.replicate ops.size false).size <= i by simp; omega)]
 have hi : Inv P ops D Pt ρ a.defers (Array.replicate ops.size false) 0 T Pt ρ { w with drawn := w.drawn + 1 } a :=
  {sizeL := by simp
   qn := Nat.zero_le _
   hq := .inl rfl
   anch := fun i o _ _ => by rw [hrep]; simp
   down := fun j o _ hl => by rw [hrep] at hl; cases hl
   sz := by rw [d0]
   tmp := fun i o d _ _ => by rw [hrep, d0]; simp
   tmp0 := fun d _ => by rw [d0]
   hT := hT
   hd := rfl
   rel := by rw [d0]; exact hrel.of_heap rfl
   le := ⟨fun _ _ h => h, rfl, rfl, rfl, rfl⟩
   news := fun i o lb _ hl => by rw [hrep] at hl; cases hl
   dist := fun i i' o o' lb lb' x x' _ _ hl => by rw [hrep] at hl; cases hl
   fresh := fun i hin _ x h1 h2 => by
    have n1 := h.next i 0 (by omega)
    have n2 := h.next (ops.size - (i + 1)) (i + 1) (by omega)
    rw [show 0 + i = i by omega, d0] at n1
    rw [show i + 1 + (ops.size - (i + 1)) = ops.size by omega, dn] at n2
    have n1 : m.next <= (D i).m.next := n1
    have n2 : (D (i + 1)).m.next <= m'.next := n2
    exact hf x (by omega) (by omega)
   same := Same.refl _ _ _ }
 obtain ⟨ρ', a', w', h1, h2, h3, h4, h5⟩ := draw_go hrec hcall h b k cs ops.size (w.tape w.drawn (.order b.fn id)) _ 0 T Pt ρ _ a hi (unl_le _ _)
 rw [d0, dn] at h1
 rw [dn] at h2 h4
 refine ⟨ρ', a', w', h1, h2, h3, h4, .head stepR_region_draw ?_⟩
 rw [show Region.schedule (P.follows .mixedOrders) ops (w.tape w.drawn (.order b.fn id)) = Region.linearise.go .any ops ops.size (w.tape w.drawn (.order b.fn id)) (Array.replicate ops.size false) [] by
  simp only [Region.schedule, hmix, Bool.true_or, if_true]; rfl]
 exact h5

def Prot.old (w : World) : Prot := ⟨fun b => w.heap[b]?, fun b => w.heap[b]? ≠ none, fun _ h => h, w.heap.size, w.os, w.output⟩

theorem Rel.empty (w : World) (ρ : Rho) : Rel (.old w) ρ ⟨0, .nil⟩ w :=
 ⟨fun _ _ h => h, fun i lb h => (by rw [Mem.get_mk, PT.get_nil] at h; cases h), fun i j lb lb' x y h => (by rw [Mem.get_mk, PT.get_nil] at h; cases h), ⟨rfl, rfl⟩, fun b c t fr hb e => by
  rw [Array.getElem?_eq_none hb] at e; cases e⟩

end
end PvL
end
section
namespace PvL
open Go

structure Entry where
 f : FuncId
 args : List LV
 k0 : Nat
 pre : List (Nat × List LV × TypeId)
 v : LV
 next : Nat
 post : List (Nat × List LV × TypeId)

noncomputable def cellsAre (b : Option LB) (cs : List LV) (ty : TypeId) : Bool := match b with | some (.cells _ cs' ty') => Nat.beq ty' ty && lvEqs cs' cs | _ => false
noncomputable def ownCellsAre (b : Option LB) (cs : List LV) (ty : TypeId) : Bool := match b with | some (.cells true cs' ty') => Nat.beq ty' ty && lvEqs cs' cs | _ => false
noncomputable def preOk (m : Mem) : List (Nat × List LV × TypeId) -> Bool
 | [] => true
 | x :: xs => cellsAre (m.get x.1) x.2.1 x.2.2 && preOk m xs
noncomputable def postOk (k : Nat) (m : Mem) : List (Nat × List LV × TypeId) -> Bool
 | [] => true
 | x :: xs => Nat.ble k x.1 && (ownCellsAre (m.get x.1) x.2.1 x.2.2 && postOk k m xs)
noncomputable def laid (own : Bool) : List (Nat × List LV × TypeId) -> Mem -> Mem
 | [], m => m
 | x :: xs, m => laid own xs (m.upd x.1 (some (.cells own x.2.1 x.2.2)))
noncomputable def Entry.start (e : Entry) : Mem := laid false e.pre ⟨e.k0, .nil⟩
noncomputable def Entry.apply (e : Entry) (m : Mem) : Mem := laid true e.post ⟨e.next, m.tr⟩
noncomputable def lookE (e : Entry) (f : FuncId) (args : List LV) (m : Mem) : Option Out :=
 ifb (Nat.beq f e.f && (Nat.beq m.next e.k0 && (lvEqs args e.args && preOk m e.pre))) (some (.call e.v (e.apply m))) none
noncomputable def lookAll (f : FuncId) (args : List LV) (m : Mem) : List Entry -> Option Out
 | [] => none
 | e :: es => oe (lookE e f args m) (lookAll f args m es) some

section
variable (P : Program) (tbl : List Entry)
noncomputable def stepTT (rec : Task -> Option Out) (t : Task) : Option Out :=
 taskE t (fun f r c T ms m => stepT P rec (.code f r c T ms m)) (fun f as m => oe (lookAll f as m tbl) (stepT P rec (.call f as m)) some) (fun l as m => stepT P rec (.round l as m))
noncomputable def runT (n : Nat) : Task -> Option Out :=
 @Nat.rec (fun _ => Task -> Option Out) (fun _ => none) (fun _ ih t => stepTT P tbl ih t) n
noncomputable def chk (n : Nat) (e : Entry) : Bool :=
 match runT P tbl n (.call e.f e.args e.start) with
 | some (.call v m1) => (!(pureFn P 1 e.f) && (!(pureFn P 2 e.f) && !(pureFn P 3 e.f))) && (lvEq v e.v && (Nat.beq m1.next e.next && (Nat.ble e.k0 e.next && postOk e.k0 m1 e.post)))
 | _ => false
end

section
variable {P : Program} {tbl : List Entry}
structure Entry.Ok (P : Program) (e : Entry) : Prop where
 le : e.k0 <= e.next
 fn : ∃ fn, fnOf P e.f = some fn
 imp : ∀ d, d <= 3 -> pureFn P d e.f = false
 sim : ∀ m, m.next = e.k0 -> preOk m e.pre = true -> Sim P (.call e.f e.args m) (.call e.v (e.apply m))

theorem laid_next {own : Bool} : ∀ (l : List (Nat × List LV × TypeId)) (m : Mem), (laid own l m).next = m.next
 | [], _ => rfl
 | x :: xs, m => by show (laid own xs _).next = _; rw [laid_next xs, Mem.next_upd]
theorem lookAll_some {f : FuncId} {args : List LV} {m : Mem} {o : Out} : ∀ (tbl : List Entry), lookAll f args m tbl = some o -> ∃ e ∈ tbl, f = e.f /\ args = e.args /\ m.next = e.k0 /\ preOk m e.pre = true /\ o = .call e.v (e.apply m)
 | [], h => by cases h
 | e :: es, h => by
  have h : oe (lookE e f args m) (lookAll f args m es) some = some o := h
  cases hl : lookE e f args m with
  | none =>
   rw [hl] at h
   obtain ⟨e', he, h'⟩ := lookAll_some es h
   exact ⟨e', List.mem_cons_of_mem _ he, h'⟩
  | some o' =>
   rw [hl] at h
   cases h
   unfold lookE at hl
   cases hc : (Nat.beq f e.f && (Nat.beq m.next e.k0 && (lvEqs args e.args && preOk m e.pre))) with
   | false => rw [hc] at hl; cases hl
   | true =>
    rw [hc] at hl
    cases hl
    simp only [Bool.and_eq_true] at hc
    exact ⟨e, List.mem_cons_self, Nat.eq_of_beq_eq_true hc.1, lvEq_sound.2 _ _ hc.2.2.1, Nat.eq_of_beq_eq_true hc.2.1, hc.2.2.2, rfl⟩

structure Good (P : Program) (rec : Task -> Option Out) : Prop where
 mono : RecMono rec
 sim : RecSim P rec
 fn : ∀ f as m1 v m2, rec (.call f as m1) = some (.call v m2) -> ∃ fn, fnOf P f = some fn
 pure : RecPure P rec

theorem runT_good (hmix : P.follows .mixedOrders = true) (ht : ∀ e ∈ tbl, e.Ok P) : ∀ n, Good P (runT P tbl n)
 | 0 => ⟨fun t o h => (by cases h), fun t o h => (by cases h), fun _ _ _ _ _ h => (by cases h), fun d _ => ⟨fun f _ args m v m' h => (by cases h), fun c _ fn ro T ms m o h => (by cases h)⟩⟩
 | n + 1 => by
  have ih := runT_good hmix ht n
  have hs := stepT_sim ih.mono ih.sim ih.fn (draw_sim hmix ih.mono ih.pure ih.sim ih.fn)
  have hn := stepT_next (P := P) ih.mono
  have key : ∀ f as m o, runT P tbl (n + 1) (.call f as m) = some o -> (∃ e ∈ tbl, f = e.f /\ as = e.args /\ m.next = e.k0 /\ preOk m e.pre = true /\ o = .call e.v (e.apply m)) ∨ stepT P (runT P tbl n) (.call f as m) = some o := by
   intro f as m o h
   have h : oe (lookAll f as m tbl) (stepT P (runT P tbl n) (.call f as m)) some = some o := h
   cases hl : lookAll f as m tbl with
   | none => rw [hl] at h; exact .inr h
   | some o' => rw [hl] at h; cases h; exact .inl (lookAll_some tbl hl)
  refine ⟨fun t o h => ?_, fun t o h => ?_, fun f as m1 v m2 h => ?_, fun d hd => ⟨fun f hf as m v m' h => ?_, fun c hp fn ro T ms m o h => (pure_step ih.pure d hd).2 c hp fn ro T ms m o h⟩⟩
  ·cases t with
   | code f r c T ms m => exact hn _ _ h
   | round l as m => exact hn _ _ h
   | call f as m =>
    rcases key f as m o h with ⟨e, he, rfl, rfl, hk, _, rfl⟩ | h
    ·show m.next <= (e.apply m).next
     unfold Entry.apply
     rw [laid_next, hk]; exact (ht e he).le
    ·exact hn _ _ h
  ·cases t with
   | code f r c T ms m => exact hs _ _ h
   | round l as m => exact hs _ _ h
   | call f as m =>
    rcases key f as m o h with ⟨e, he, rfl, rfl, hk, hp, rfl⟩ | h
    ·exact (ht e he).sim m hk hp
    ·exact hs _ _ h
  ·rcases key f as m1 _ h with ⟨e, he, rfl, _⟩ | h
   ·exact (ht e he).fn
   ·obtain ⟨fn, hfn, _⟩ := ob_eq.1 (show stCall P (runT P tbl n) f as m1 = some _ from h)
    exact ⟨fn, hfn⟩
  ·have hno : ∀ M, lookAll f as M tbl = none := fun M => by
    cases hl : lookAll f as M tbl with
    | none => rfl
    | some o =>
     obtain ⟨e, he, rfl, _⟩ := lookAll_some tbl hl
     rw [(ht e he).imp d hd] at hf; cases hf
   have hst : ∀ M, runT P tbl (n + 1) (.call f as M) = stepT P (runT P tbl n) (.call f as M) := fun M => by
    show oe (lookAll f as M tbl) (stepT P (runT P tbl n) (.call f as M)) some = _
    rw [hno M]; rfl
   rw [hst] at h
   obtain ⟨h1, h2⟩ := (pure_step ih.pure d hd).1 f hf as m v m' h
   exact ⟨h1, fun M => by rw [hst]; exact h2 M⟩

theorem laid_get {own : Bool} : ∀ (l : List (Nat × List LV × TypeId)) (m : Mem) (i : Nat) (lb : LB), (laid own l m).get i = some lb -> m.get i = some lb ∨ ∃ x ∈ l, i = x.1 /\ lb = .cells own x.2.1 x.2.2
 | [], m, i, lb, h => .inl h
 | x :: xs, m, i, lb, h => by
  rcases laid_get xs _ i lb h with h | ⟨y, hy, h⟩
  ·rw [Mem.get_upd] at h
   by_cases e : i = x.1
   ·rw [if_pos e] at h; cases h; exact .inr ⟨x, List.mem_cons_self, e, rfl⟩
   ·rw [if_neg e] at h; exact .inl h
  ·exact .inr ⟨y, List.mem_cons_of_mem _ hy, h⟩
theorem preOk_mem {m : Mem} : ∀ (l : List (Nat × List LV × TypeId)), preOk m l = true -> ∀ x ∈ l, ∃ own, m.get x.1 = some (.cells own x.2.1 x.2.2)
 | [], _, x, hx => by cases hx
 | y :: ys, h, x, hx => by
  obtain ⟨h1, h2⟩ := (Bool.and_eq_true _ _ ▸ h : cellsAre (m.get y.1) y.2.1 y.2.2 = true /\ preOk m ys = true)
  rcases List.mem_cons.1 hx with rfl | hx
  ·unfold cellsAre at h1
   split at h1
   ·rename_i own cs ty e
    simp only [Bool.and_eq_true] at h1
    rw [Nat.eq_of_beq_eq_true h1.1, lvEq_sound.2 _ _ h1.2] at e
    exact ⟨own, e⟩
   ·cases h1
  ·exact preOk_mem ys h2 x hx
theorem postOk_mem {k : Nat} {m : Mem} : ∀ (l : List (Nat × List LV × TypeId)), postOk k m l = true -> ∀ x ∈ l, k <= x.1 /\ m.get x.1 = some (.cells true x.2.1 x.2.2)
 | [], _, x, hx => by cases hx
 | y :: ys, h, x, hx => by
  obtain ⟨h0, h1, h2⟩ := (by simpa only [Bool.and_eq_true] using (show (Nat.ble k y.1 && (ownCellsAre (m.get y.1) y.2.1 y.2.2 && postOk k m ys)) = true from h) : Nat.ble k y.1 = true /\ ownCellsAre (m.get y.1) y.2.1 y.2.2 = true /\ postOk k m ys = true)
  rcases List.mem_cons.1 hx with rfl | hx
  ·unfold ownCellsAre at h1
   split at h1
   ·rename_i cs ty e
    simp only [Bool.and_eq_true] at h1
    rw [Nat.eq_of_beq_eq_true h1.1, lvEq_sound.2 _ _ h1.2] at e
    exact ⟨by rw [Nat.ble_eq] at h0; exact h0, e⟩
   ·cases h1
  ·exact postOk_mem ys h2 x hx

def Prot.all (Pt : Prot) (w : World) : Prot := ⟨fun b => w.heap[b]?, fun b => w.heap[b]? ≠ none, fun _ h => h, Pt.base, Pt.os, Pt.out⟩

theorem entry_ok (hmix : P.follows .mixedOrders = true) (ht : ∀ e ∈ tbl, e.Ok P) {n : Nat} {e : Entry} (h : chk P tbl n e = true) : e.Ok P := by
 unfold chk at h
 have hg := runT_good hmix ht n
 split at h
 ·rename_i v m1 hrun
  simp only [Bool.and_eq_true] at h
  obtain ⟨h0, h1, h2, h3, h4⟩ := h
  have h1 := lvEq_sound.1 _ _ h1
  have h2 := Nat.eq_of_beq_eq_true h2
  have h3 : e.k0 <= e.next := by rw [Nat.ble_eq] at h3; exact h3
  subst h1
  have himp : ∀ d, d <= 3 -> pureFn P d e.f = false := fun d hd => by
   simp only [Bool.not_eq_true'] at h0
   match d, hd with
   | 0, _ => rfl
   | 1, _ => exact h0.1
   | 2, _ => exact h0.2.1
   | 3, _ => exact h0.2.2
  refine ⟨h3, hg.fn _ _ _ _ _ hrun, himp, fun m hm hpre Pt ρ w as' cs has hrel hf => ?_⟩
  have hpre' := preOk_mem _ hpre
  have hpost := postOk_mem _ h4
  have hstart : Rel (Pt.all w) ρ e.start w := by
   refine ⟨fun r o hr => hr, fun i lb hi => ?_, fun i j lb lb' x y hi hj hro => ?_, hrel.still⟩
   ·rcases laid_get _ _ _ _ hi with hi | ⟨x, hx, rfl, rfl⟩
    ·rw [Mem.get_mk, PT.get_nil] at hi; cases hi
    ·obtain ⟨own, hx'⟩ := hpre' x hx
     obtain ⟨hl, b, s, c, o, k1, ⟨C, e', fr, k2, k3, k4, k5⟩, k6, k7⟩ := hrel.live _ _ hx'
     have hfr : false = true -> fr = (0, 0) := fun hh => nomatch hh
     refine ⟨by unfold Entry.start; rw [laid_next]; show x.1 < e.k0; omega, b, s, c, o, k1, ⟨C, e', fr, k2, hfr, k4, k5⟩, k6, ?_⟩
     exact ⟨k6, fun hh => by rw [k6] at hh; cases hh⟩
   ·rcases laid_get _ _ _ _ hi with hi | ⟨x, hx, rfl, rfl⟩
    ·rw [Mem.get_mk, PT.get_nil] at hi; cases hi
    ·cases hro
  have hnx : (e.apply m).next = m1.next := by unfold Entry.apply; rw [laid_next]; exact h2.symm
  have hst : e.start.next = m.next := by unfold Entry.start; rw [laid_next]; exact hm.symm
  rw [hnx] at hf ⊢
  obtain ⟨ρ', v', w', hs, hv, hrel', hsteps⟩ := hg.sim _ _ hrun (Pt.all w) ρ w as' cs has hstart (by rw [hst]; exact hf)
  rw [hst] at hs
  refine ⟨ρ', v', w', hs, hv, ?_, hsteps⟩
  have hkeep : ∀ b o, w.heap[b]? = some o -> w'.heap[b]? = some o := fun b o hb => hrel'.keep b o hb
  have hget : ∀ i lb, (e.apply m).get i = some lb -> m.get i = some lb ∨ (m.next <= i /\ isRo lb = false /\ m1.get i = some lb) := fun i lb hi => by
   rcases laid_get _ _ _ _ hi with hi | ⟨x, hx, rfl, rfl⟩
   ·exact .inl hi
   ·obtain ⟨k1, k2⟩ := hpost x hx
    exact .inr ⟨by omega, rfl, k2⟩
  have hold : ∀ i lb, m.get i = some lb -> ∃ b s c o, ρ i = some (b, s, c) /\ ρ' i = some (b, s, c) /\ BR ρ' lb o s c /\ w.heap[b]? = some o /\ (if isRo lb then Pt b = some o /\ Pt.ro b else Pt b = none) := fun i lb hi => by
   obtain ⟨_, b, s, c, o, k1, k2, k3, k4⟩ := hrel.live i lb hi
   exact ⟨b, s, c, o, k1, hs.1 _ _ k1, k2.mono hs.1, k3, k4⟩
  have hnew : ∀ i lb, isRo lb = false -> m1.get i = some lb -> ∃ b s c o, ρ' i = some (b, s, c) /\ BR ρ' lb o s c /\ w'.heap[b]? = some o /\ w.heap[b]? = none := fun i lb hro hi => by
   obtain ⟨_, b, s, c, o, k1, k2, k3, k4⟩ := hrel'.live i lb hi
   rw [hro] at k4
   exact ⟨b, s, c, o, k1, k2, k3, k4⟩
  refine ⟨fun r o hr => hkeep r o (hrel.keep r o hr), fun i lb hi => ?_, fun i j lb lb' x y hi hj hro hro' hx hy he => ?_, hrel'.still⟩
  ·rcases hget i lb hi with hi | ⟨_, hro, hi⟩
   ·obtain ⟨b, s, c, o, _, k1, k2, k3, k4⟩ := hold i lb hi
    have := (hrel.live i lb hi).1
    exact ⟨by rw [hnx]; omega, b, s, c, o, k1, k2, hkeep _ _ k3, k4⟩
   ·obtain ⟨b, s, c, o, k1, k2, k3, k4⟩ := hnew i lb hro hi
    refine ⟨by rw [hnx]; exact (hrel'.live i lb hi).1, b, s, c, o, k1, k2, k3, ?_⟩
    rw [hro]
    show Pt b = none
    cases hp : Pt b with
    | none => rfl
    | some o' => rw [hrel.keep b o' hp] at k4; cases k4
  ·rcases hget i lb hi with hi | ⟨_, _, hi⟩
   ·obtain ⟨b, s, c, o, k0, k1, _, k3, _⟩ := hold i lb hi
    rcases hget j lb' hj with hj | ⟨_, _, hj⟩
    ·obtain ⟨b', s', c', o', l0, l1, _⟩ := hold j lb' hj
     rw [k1] at hx; rw [l1] at hy; cases hx; cases hy
     exact hrel.inj i j lb lb' _ _ hi hj hro hro' k0 l0 he
    ·obtain ⟨b', s', c', o', l1, _, _, l4⟩ := hnew j lb' hro' hj
     rw [k1] at hx; rw [l1] at hy; cases hx; cases hy
     have he : b = b' := he
     rw [he, l4] at k3; cases k3
   ·obtain ⟨b, s, c, o, k1, _, _, k4⟩ := hnew i lb hro hi
    rcases hget j lb' hj with hj | ⟨_, _, hj⟩
    ·obtain ⟨b', s', c', o', l0, l1, _, l3, _⟩ := hold j lb' hj
     rw [k1] at hx; rw [l1] at hy; cases hx; cases hy
     have he : b = b' := he
     rw [<- he, k4] at l3; cases l3
    ·exact hrel'.inj i j lb lb' x y hi hj hro hro' hx hy he
 ·cases h

theorem grown_of_rel {w w' : World} {ρ : Rho} {m : Mem} (h : Rel (.old w) ρ m w') : RowKit.Grown w w' := by
 have hk : ∀ b o, w.heap[b]? = some o -> w'.heap[b]? = some o := fun b o hb => h.keep b o hb
 refine ⟨⟨h.still.1.1, h.still.1.2, fun i hi => ?_⟩, fun a => ?_, ?_⟩
 ·have e : w.heap[i]? = some w.heap[i] := Array.getElem?_eq_getElem hi
  rw [hk i _ e, e]
  cases w.heap[i] <;> simp
 ·unfold World.frozen?
  by_cases hb : a.block < w.heap.size
  ·have e : w.heap[a.block]? = some w.heap[a.block] := Array.getElem?_eq_getElem hb
   rw [hk _ _ e, e]
  ·rw [Array.getElem?_eq_none (Nat.le_of_not_lt hb)]
   cases hx : w'.heap[a.block]? with
   | none => rfl
   | some o =>
    cases o with
    | cells c t fr =>
     have := h.still.2 a.block c t fr (Nat.le_of_not_lt hb) hx
     subst this
     simp
    | _ => rfl
 ·rcases Nat.eq_zero_or_pos w.heap.size with h0 | h0
  ·omega
  ·have e : w.heap[w.heap.size - 1]? = some w.heap[w.heap.size - 1] := Array.getElem?_eq_getElem (by omega)
   have := (Array.getElem?_eq_some_iff.1 (hk _ _ e)).1
   omega

end
end PvL
end
