/-
  Part of the proof that what the interpreter of YtkkcpebemcbomaaGreatPvL yields, the model's machine comes to. No condition.
-/
import Derived.Test.YtkkcpebemcbomaaGreatPvR2
namespace PvL
open Go

/-! ### Names only grow -/
def Mono (n : Nat) (x : Option R1) : Prop := ∀ r, x = some r → n ≤ (match r with | .val _ m | .skip m | .enter _ _ m | .round _ _ m => m.next)
section
variable {α β : Type} {n : Nat}
theorem Mono.none : Mono n none := fun _ h => (by cases h)
theorem Mono.ob {x : Option α} {f : α → Option R1} (h : ∀ a, Mono n (f a)) : Mono n (ob x f) := fun r hr => by
  obtain ⟨a, _, h1⟩ := ob_eq.1 hr; exact h a r h1
theorem Mono.guard {b : Bool} {x : Option R1} (h : Mono n x) : Mono n (guard' b x) := fun r hr => h r (guard'_eq.1 hr).2
theorem Mono.ifb {b : Bool} {x y : Option R1} (h : Mono n x) (h' : Mono n y) : Mono n (ifb b x y) := by cases b <;> assumption
theorem Mono.oe {x : Option α} {z : Option R1} {f : α → Option R1} (h : Mono n z) (h' : ∀ a, Mono n (f a)) : Mono n (oe x z f) := by cases x with
  | none => exact h
  | some a => exact h' a
theorem Mono.pr {x : α × β} {f : α → β → Option R1} (h : ∀ a b, Mono n (f a b)) : Mono n (pr x f) := by cases x; exact h _ _
theorem Mono.asInt {v : LV} {k : IntKind → Int → Option R1} (h : ∀ a b, Mono n (k a b)) : Mono n (asInt v k) := fun r hr => by
  obtain ⟨a, b, _, h1⟩ := asInt_eq.1 hr; exact h a b r h1
theorem Mono.asBool {v : LV} {k : Bool → Option R1} (h : ∀ a, Mono n (k a)) : Mono n (asBool v k) := fun r hr => by
  obtain ⟨a, _, h1⟩ := asBool_eq.1 hr; exact h a r h1
theorem Mono.asTup {v : LV} {k : List LV → Option R1} (h : ∀ a, Mono n (k a)) : Mono n (asTup v k) := fun r hr => by
  obtain ⟨a, _, h1⟩ := asTup_eq.1 hr; exact h a r h1
theorem Mono.asSlice {v : LV} {k : Option (Nat × Nat) → Nat → Bool → Nat → Option R1} (h : ∀ a b c d, Mono n (k a b c d)) : Mono n (asSlice v k) := fun r hr => by
  obtain ⟨a, b, c, d, _, h1⟩ := asSlice_eq.1 hr; exact h a b c d r h1
theorem Mono.nat {z : Int} {k : Nat → Option R1} (h : ∀ a, Mono n (k a)) : Mono n (nat? z k) := by
  cases z with
  | ofNat a => exact h a
  | negSucc a => exact Mono.none
theorem Mono.fN {k : Nat → Option R1} {a : Nat} (h : Mono n (k a)) : Mono n (fN a k) := by rw [fN_eq]; exact h
theorem Mono.val {v : LV} {m : Mem} (h : n ≤ m.next) : Mono n (some (.val v m)) := fun r hr => by cases hr; exact h
theorem Mono.skip {m : Mem} (h : n ≤ m.next) : Mono n (some (.skip m)) := fun r hr => by cases hr; exact h
theorem Mono.enter {f : FuncId} {as : List LV} {m : Mem} (h : n ≤ m.next) : Mono n (some (.enter f as m)) := fun r hr => by cases hr; exact h
theorem Mono.round {f : Nat} {as : List LV} {m : Mem} (h : n ≤ m.next) : Mono n (some (.round f as m)) := fun r hr => by cases hr; exact h
theorem Mono.new {m : Mem} {b : LB} {k : Nat → Mem → Option R1} (h : ∀ i m', m'.next = m.next + 1 → Mono n (k i m')) : Mono n (m.new b k) := by
  rw [Mem.new_eq]; exact h _ _ rfl
theorem Mono.atCells {m : Mem} {i : Nat} {k : Bool → List LV → TypeId → Option R1} (h : ∀ a b c, Mono n (k a b c)) : Mono n (atCells m i k) := by
  unfold PvL.atCells
  refine Mono.ob fun b => ?_
  cases b with
  | cells a b c => exact h _ _ _
  | _ => exact Mono.none
theorem Mono.arg0 {l : List α} {k : α → List α → Option R1} (h : ∀ a as, Mono n (k a as)) : Mono n (arg0 l k) := by
  cases l with
  | nil => exact Mono.none
  | cons a as => exact h a as
end

section
variable {P : Program} {T : Tm} {m : Mem}
theorem storeCs_next {i off : Nat} {vs : List LV} {m' : Mem} (h : storeCs m i off vs = some m') : m'.next = m.next := by
  unfold storeCs at h
  unfold PvL.atCells at h
  obtain ⟨b, _, h⟩ := ob_eq.1 h
  cases b with
  | cells a b c =>
    obtain ⟨_, h⟩ := guard'_eq.1 (show guard' _ _ = some m' from h)
    obtain ⟨_, _, h⟩ := ob_eq.1 h
    cases h
    exact Mem.next_upd _ _ _
  | _ => cases h
theorem storeT_next {t : TypeId} {x v : LV} {m' : Mem} (h : storeT P t m x v = some m') : m'.next = m.next := by
  obtain ⟨_, _, _, h⟩ := asPtr_eq.1 h
  obtain ⟨_, _, h⟩ := ob_eq.1 h
  obtain ⟨_, h⟩ := guard'_eq.1 h
  obtain ⟨_, h⟩ := guard'_eq.1 h
  exact storeCs_next h
theorem mapUpdateL_next {t : TypeId} {x k v : LV} {m' : Mem} (h : mapUpdateL P t x k v m = some m') : m'.next = m.next := by
  obtain ⟨⟨_, _⟩, _, h⟩ := ob_eq.1 h
  obtain ⟨_, h⟩ := guard'_eq.1 (show guard' _ _ = some m' from h)
  obtain ⟨_, _, h⟩ := asMap_eq.1 h
  obtain ⟨_, _, h⟩ := ob_eq.1 h
  unfold PvL.atMap at h
  obtain ⟨b, _, h⟩ := ob_eq.1 h
  cases b with
  | map es =>
    obtain ⟨p, _, h⟩ := ob_eq.1 (show ob _ _ = some m' from h)
    cases p with
    | none => cases h; exact Mem.next_upd _ _ _
    | some q =>
      obtain ⟨_, _, _⟩ := q
      obtain ⟨_, h⟩ := guard'_eq.1 (show guard' _ _ = some m' from h)
      cases h; exact Mem.next_upd _ _ _
  | _ => cases h
theorem Mono.obSkip {x : Option Mem} (h : ∀ m', x = some m' → m'.next = m.next) : Mono m.next (PvL.ob x fun m => some (.skip m)) := fun r hr => by
  obtain ⟨m', h1, h2⟩ := ob_eq.1 hr
  cases h2
  exact Nat.le_of_eq (h m' h1).symm
theorem Mono.obRv {x : Option LV} : Mono m.next (PvL.ob x (rv m)) := Mono.ob fun _ => Mono.val (Nat.le_refl _)
theorem append_next {st xt : TypeId} {s x : LV} : Mono m.next (appendL P st xt s x m rvm) := by
  unfold appendL
  refine Mono.ob fun e => Mono.ob fun xd => Mono.ifb Mono.none (Mono.ob fun sz => Mono.ob fun by' => Mono.asSlice fun a len full es => Mono.ob fun n => Mono.ifb (Mono.val (Nat.le_refl _)) (Mono.ob fun z => Mono.guard (Mono.ob fun old => Mono.ob fun new => Mono.guard ?_)))
  unfold killed
  refine Mono.oe (Mono.new fun i m' e => Mono.fN (Mono.val (by omega))) fun p => Mono.pr fun id _ => Mono.ifb (Mono.new fun i m' e => Mono.fN (Mono.val (by omega))) (Mono.guard (Mono.atCells fun _ _ _ => Mono.guard (Mono.new fun i m' e => Mono.fN (Mono.val ?_))))
  rw [e, Mem.next_upd]; omega
theorem copy_next {dt : TypeId} {d x : LV} : Mono m.next (copyL P dt d x m rvm) := by
  unfold copyL
  refine Mono.ob fun e => Mono.ob fun sz => Mono.asSlice fun a dl _ _ => Mono.ob fun sl => Mono.fN (Mono.ob fun l => Mono.guard (Mono.oe (Mono.val (Nat.le_refl _)) fun p => Mono.pr fun id off => ?_))
  intro r hr
  obtain ⟨m', h1, h2⟩ := ob_eq.1 hr
  cases h2
  exact Nat.le_of_eq (storeCs_next h1).symm
theorem callV_next {f : LV} {as : List LV} : Mono m.next (callV f as m) := by
  unfold callV
  split
  · exact Mono.enter (Nat.le_refl _)
  · exact Mono.round (Nat.le_refl _)
  · exact Mono.none
theorem op1_next (o : Op) : Mono m.next (op1 P o T m) := by
  cases o with
  | move x => exact Mono.obRv
  | assign x => exact Mono.obRv
  | pick c a b => exact Mono.ob fun _ => Mono.asBool fun _ => Mono.ifb Mono.obRv Mono.obRv
  | alloc t => exact Mono.ob fun _ => Mono.guard (Mono.new fun _ _ e => Mono.val (by omega))
  | box t x => exact Mono.ob fun _ => Mono.guard (Mono.new fun _ _ e => Mono.val (by omega))
  | build t ps => exact Mono.ob fun _ => Mono.obRv
  | buildSlice t n ps => exact Mono.ob fun _ => Mono.ob fun _ => Mono.ob fun _ => Mono.ob fun _ => Mono.guard (Mono.ob fun _ => Mono.new fun _ _ e => Mono.val (by omega))
  | load t a => exact Mono.ob fun _ => Mono.obRv
  | store t a x => exact Mono.ob fun _ => Mono.ob fun _ => Mono.obSkip fun _ => storeT_next
  | nilCheck x => exact Mono.ob fun _ => Mono.obRv
  | binOp op t x y u => exact Mono.ob fun _ => Mono.ob fun _ => Mono.obRv
  | unOp op t x => exact Mono.ob fun _ => Mono.obRv
  | convert s d x => exact Mono.ob fun _ => Mono.obRv
  | makeFunc fn a b =>
    cases fn with
    | func g => exact Mono.ob fun _ => Mono.ob fun _ => Mono.val (Nat.le_refl _)
    | _ => exact Mono.none
  | makeMap t r => exact Mono.guard (Mono.new fun _ _ e => Mono.val (by omega))
  | makeSlice t l c => exact Mono.ob fun _ => Mono.ob fun _ => Mono.ob fun _ => Mono.asInt fun _ _ => Mono.asInt fun _ _ => Mono.nat fun _ => Mono.nat fun _ => Mono.ob fun _ => Mono.ob fun _ => Mono.ob fun _ => Mono.guard (Mono.new fun _ _ e => Mono.val (by omega))
  | slice t x lo hi mx => exact Mono.ob fun _ => Mono.ob fun _ => Mono.ob fun _ => Mono.ob fun _ => Mono.obRv
  | fieldAddr t x f => exact Mono.ob fun _ => Mono.obRv
  | field t x f => exact Mono.ob fun _ => Mono.obRv
  | indexAddr t x i => exact Mono.ob fun _ => Mono.ob fun _ => Mono.obRv
  | index t x i => exact Mono.ob fun _ => Mono.ob fun _ => Mono.obRv
  | lookup t x i ok => exact Mono.ob fun _ => Mono.ob fun _ => Mono.obRv
  | mapUpdate t x k v => exact Mono.ob fun _ => Mono.ob fun _ => Mono.ob fun _ => Mono.obSkip fun _ => mapUpdateL_next
  | extract x i => exact Mono.ob fun _ => Mono.asTup fun _ => Mono.obRv
  | call c =>
    obtain ⟨callee, args, ats⟩ := c
    refine Mono.ob fun as => ?_
    cases callee with
    | value f => exact Mono.ob fun _ => callV_next
    | invoke r n => exact Mono.none
    | builtin b =>
      show Mono m.next (callB P b ats.toList as m)
      cases b with
      | append => exact Mono.arg0 fun _ _ => Mono.arg0 fun _ _ => Mono.arg0 fun _ _ => Mono.arg0 fun _ _ => Mono.guard append_next
      | copy => exact Mono.arg0 fun _ _ => Mono.arg0 fun _ _ => Mono.arg0 fun _ _ => Mono.guard copy_next
      | len => exact Mono.arg0 fun _ _ => Mono.arg0 fun _ _ => Mono.obRv
      | max => exact Mono.arg0 fun _ _ => Mono.obRv
      | min => exact Mono.arg0 fun _ _ => Mono.obRv
      | _ => exact Mono.none
  | _ => exact Mono.none
end
end PvL
