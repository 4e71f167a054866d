/-
  Part of the proof that what the interpreter of YtkkcpebemcbomaaGreatPvL yields, the model's machine comes to. No condition.
-/
import Derived.Test.YtkkcpebemcbomaaGreatPvL
import Derived.Laws.Sem
import Derived.AtR
namespace PvL
open Go

/-! ### The small words -/
section
variable {α β γ : Type}
@[simp] theorem ob_none (f : α → Option β) : ob none f = none := rfl
@[simp] theorem ob_some (a : α) (f : α → Option β) : ob (some a) f = f a := rfl
theorem ob_eq {x : Option α} {f : α → Option β} {y : β} : ob x f = some y ↔ ∃ a, x = some a ∧ f a = some y := by
  cases x <;> simp [ob_none, ob_some]
@[simp] theorem oe_none (n : β) (f : α → β) : oe none n f = n := rfl
@[simp] theorem oe_some (a : α) (n : β) (f : α → β) : oe (some a) n f = f a := rfl
@[simp] theorem ifb_true (x y : α) : ifb true x y = x := rfl
@[simp] theorem ifb_false (x y : α) : ifb false x y = y := rfl
@[simp] theorem guard'_true (x : Option α) : guard' true x = x := rfl
@[simp] theorem guard'_false (x : Option α) : guard' false x = none := rfl
theorem guard'_eq {b : Bool} {x : Option α} {y : α} : guard' b x = some y ↔ b = true ∧ x = some y := by cases b <;> simp
@[simp] theorem nE_zero (z : α) (k : Nat → α) : nE 0 z k = z := rfl
@[simp] theorem nE_succ (m : Nat) (z : α) (k : Nat → α) : nE (m + 1) z k = k m := rfl
@[simp] theorem fN_eq (n : Nat) (k : Nat → α) : fN n k = k n := by cases n <;> rfl
@[simp] theorem iE_nat (n : Nat) (p q : Nat → α) : iE (.ofNat n) p q = p n := rfl
@[simp] theorem iE_neg (n : Nat) (p q : Nat → α) : iE (.negSucc n) p q = q n := rfl
@[simp] theorem fI_eq (z : Int) (k : Int → α) : fI z k = k z := by
  cases z with
  | ofNat n => exact fN_eq n fun n => k (.ofNat n)
  | negSucc n => exact fN_eq n fun n => k (.negSucc n)
@[simp] theorem pr_mk (a : α) (b : β) (k : α → β → γ) : pr (a, b) k = k a b := rfl
@[simp] theorem lE_nil (n : β) (c : α → List α → β) : lE [] n c = n := rfl
@[simp] theorem lE_cons (a : α) (l : List α) (n : β) (c : α → List α → β) : lE (a :: l) n c = c a l := rfl
end

/-! ### Tries -/
def Bits.val : Bits → Nat
  | .e => 0
  | .l b => 2 * b.val + 1
  | .r b => 2 * b.val + 2

theorem bitsF_val : ∀ (f n : Nat), n ≤ f → (bitsF f n).val = n
  | 0, n, h => by obtain rfl : n = 0 := by omega
                  rfl
  | f + 1, 0, _ => rfl
  | f + 1, m + 1, h => by
    have ih := bitsF_val f (Nat.div m 2) (by show m / 2 ≤ f; omega)
    show (ifb (Nat.beq (Nat.mod m 2) 0) (Bits.l (bitsF f (Nat.div m 2))) (Bits.r (bitsF f (Nat.div m 2)))).val = m + 1
    have hm : Nat.mod m 2 = m % 2 := rfl
    have hd : Nat.div m 2 = m / 2 := rfl
    rw [hm]
    rcases Nat.mod_two_eq_zero_or_one m with h2 | h2
    · rw [h2]; show 2 * (bitsF f (Nat.div m 2)).val + 1 = m + 1; rw [ih, hd]; omega
    · rw [h2]; show 2 * (bitsF f (Nat.div m 2)).val + 2 = m + 1; rw [ih, hd]; omega
theorem bits_val (n : Nat) : (bits n).val = n := bitsF_val n n (Nat.le_refl _)
theorem bits_inj {m n : Nat} (h : bits m = bits n) : m = n := by rw [← bits_val m, ← bits_val n, h]

namespace PT
variable {α : Type}
@[simp] theorem getB_nil (b : Bits) : getB b (.nil : PT α) = none := by
  cases b <;> rfl
theorem getB_l (b : Bits) (v : Option α) (l r : PT α) : getB (.l b) (.node v l r) = getB b l := rfl
theorem getB_r (b : Bits) (v : Option α) (l r : PT α) : getB (.r b) (.node v l r) = getB b r := rfl
theorem getB_setB (x : Option α) : ∀ (b b' : Bits) (t : PT α), getB b' (setB x b t) = if b' = b then x else getB b' t
  | .e, b', t => by
    cases t <;> cases b' <;> first
      | rfl
      | (show getB _ PT.nil = _; simp)
  | .l b, b', t => by
    cases t with
    | nil =>
      cases b' with
      | e => rfl
      | l b' => show getB b' (setB x b .nil) = _; rw [getB_setB x b b' .nil]; simp
      | r b' => show getB b' .nil = _; simp
    | node v l r =>
      cases b' with
      | e => rfl
      | l b' => show getB b' (setB x b l) = _; rw [getB_setB x b b' l, getB_l]; simp only [Bits.l.injEq]
      | r b' => show getB b' r = _; rw [getB_r]; simp
  | .r b, b', t => by
    cases t with
    | nil =>
      cases b' with
      | e => rfl
      | r b' => show getB b' (setB x b .nil) = _; rw [getB_setB x b b' .nil]; simp
      | l b' => show getB b' .nil = _; simp
    | node v l r =>
      cases b' with
      | e => rfl
      | r b' => show getB b' (setB x b r) = _; rw [getB_setB x b b' r, getB_r]; simp only [Bits.r.injEq]
      | l b' => show getB b' l = _; rw [getB_l]; simp
@[simp] theorem get_nil (n : Nat) : get (.nil : PT α) n = none := getB_nil _
theorem get_set (t : PT α) (n m : Nat) (x : Option α) : get (set t n x) m = if m = n then x else get t m := by
  unfold get set
  rw [getB_setB]
  by_cases h : m = n
  · simp [h]
  · have h' : bits m ≠ bits n := fun e => h (bits_inj e)
    simp [h, h']
@[simp] theorem get_set_same (t : PT α) (n : Nat) (x : Option α) : get (set t n x) n = x := by simp [get_set]
theorem get_set_ne (t : PT α) {n m : Nat} (x : Option α) (h : m ≠ n) : get (set t n x) m = get t m := by simp [get_set, h]
end PT

/-! ### Looking into values -/
section
variable {α : Type} {v : LV} {y : α}
theorem asInt_eq {k : IntKind → Int → Option α} : asInt v k = some y ↔ ∃ q n, v = .int q n ∧ k q n = some y :=
  ⟨fun h => (by cases v <;> first | exact ⟨_, _, rfl, h⟩ | cases h), fun ⟨x0, x1, e, h⟩ => by subst e; exact h⟩
theorem asBool_eq {k : Bool → Option α} : asBool v k = some y ↔ ∃ b, v = .bool b ∧ k b = some y :=
  ⟨fun h => (by cases v <;> first | exact ⟨_, rfl, h⟩ | cases h), fun ⟨x0, e, h⟩ => by subst e; exact h⟩
theorem asPtr_eq {k : Nat → Nat → Option α} : asPtr v k = some y ↔ ∃ i o, v = .ptr (some (i, o)) ∧ k i o = some y :=
  ⟨fun h => (by
    cases v with
    | ptr a =>
      cases a with
      | none => cases h
      | some p => exact ⟨p.1, p.2, rfl, h⟩
    | _ => cases h), fun ⟨i, o, e, h⟩ => by subst e; exact h⟩
theorem asAgg_eq {k : List LV → Option α} : asAgg v k = some y ↔ ∃ c, v = .agg c ∧ k c = some y :=
  ⟨fun h => (by cases v <;> first | exact ⟨_, rfl, h⟩ | cases h), fun ⟨x0, e, h⟩ => by subst e; exact h⟩
theorem asStr_eq {k : ByteArray → Option α} : asStr v k = some y ↔ ∃ c, v = .str c ∧ k c = some y :=
  ⟨fun h => (by cases v <;> first | exact ⟨_, rfl, h⟩ | cases h), fun ⟨x0, e, h⟩ => by subst e; exact h⟩
theorem asTup_eq {k : List LV → Option α} : asTup v k = some y ↔ ∃ c, v = .tup c ∧ k c = some y :=
  ⟨fun h => (by cases v <;> first | exact ⟨_, rfl, h⟩ | cases h), fun ⟨x0, e, h⟩ => by subst e; exact h⟩
theorem asSlice_eq {k : Option (Nat × Nat) → Nat → Bool → Nat → Option α} : asSlice v k = some y ↔ ∃ a n f e, v = .slice a n f e ∧ k a n f e = some y :=
  ⟨fun h => (by cases v <;> first | exact ⟨_, _, _, _, rfl, h⟩ | cases h), fun ⟨x0, x1, x2, x3, e, h⟩ => by subst e; exact h⟩
theorem asMap_eq {k : Option Nat → Option α} : asMap v k = some y ↔ ∃ r, v = .map r ∧ k r = some y :=
  ⟨fun h => (by cases v <;> first | exact ⟨_, rfl, h⟩ | cases h), fun ⟨x0, e, h⟩ => by subst e; exact h⟩
end
@[simp] theorem cells_agg (c : List LV) : (LV.agg c).cells = c := rfl
theorem cells_flat {v : LV} (h : ∀ c, v ≠ .agg c) : v.cells = [v] := by cases v <;> first | rfl | exact absurd rfl (h _)
