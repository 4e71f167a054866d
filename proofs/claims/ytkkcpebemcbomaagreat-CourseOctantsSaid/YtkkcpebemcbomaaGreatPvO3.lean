/-
  Part of the proof that what the interpreter of YtkkcpebemcbomaaGreatPvL yields, the model's machine comes to. No condition.
-/
import Derived.Test.YtkkcpebemcbomaaGreatPvO2
namespace PvL
open Go

section ops
variable {P : Program} {ρ : Rho} {w : World}

theorem eqL_nilIface (d : Nat) (t : TypeId) (y : LV) : eqL P d t .nilIface y = none := by
  cases d with
  | zero => rfl
  | succ d => unfold eqL; cases P.underlying t with
    | none => rfl
    | some D => cases D <;> rfl
theorem eqL_tup (d : Nat) (t : TypeId) (c : List LV) (y : LV) : eqL P d t (.tup c) y = none := by
  cases d with
  | zero => rfl
  | succ d => unfold eqL; cases P.underlying t with
    | none => rfl
    | some D => cases D <;> rfl

theorem eqL_unk (d : Nat) (t : TypeId) (y : LV) : eqL P d t .unk y = none := by
  cases d with
  | zero => rfl
  | succ d => unfold eqL; cases P.underlying t with
    | none => rfl
    | some D => cases D <;> rfl

theorem eqGuard_run {op : BinOp} {t : TypeId} {ox oy : Operand} {a b : Value} (h1 : a ≠ .nilIface) (h2 : ∀ xs ys, a = .agg xs → b = .agg ys → P.eqGuardType P.depth t = false) :
    (eqGuard op t ox oy a b).run P w = .ok () w := by
  have key : ∀ op, op = BinOp.eql ∨ op = BinOp.neq → (eqGuard op t ox oy a b).run P w = .ok () w := by
    intro op ho
    unfold eqGuard
    rcases ho with rfl | rfl <;> simp only [Bool.not_true, Bool.false_eq_true, if_false]
    all_goals
      cases a <;> first
        | exact absurd rfl h1
        | skip
      all_goals cases b <;> first
        | rfl
        | skip
      all_goals simp [h2 _ _ rfl rfl]
  cases op <;> first | exact key _ (.inl rfl) | exact key _ (.inr rfl) | rfl

theorem eqV_sim {t : TypeId} {x y : LV} {r : Bool} {x' y' : Value} (h : eqV P t x y = some r) (hx : VR ρ x x') (hy : VR ρ y y') :
    (Op.equal t x' y').run P w = .ok r w ∧ x' ≠ .nilIface ∧ ∀ xs ys, x' = .agg xs → y' = .agg ys → P.eqGuardType P.depth t = false := by
  have h' : ifb (ifb (isAggL x) (P.eqGuardType P.depth t) false) none (eqL P Op.maxDepth t x y) = some r := h
  cases hg : ifb (isAggL x) (P.eqGuardType P.depth t) false with
  | true => rw [hg] at h'; cases h'
  | false =>
    rw [hg] at h'
    have h'' : eqL P Op.maxDepth t x y = some r := h'
    refine ⟨eqL_sim _ _ _ _ _ _ _ h'' hx hy, fun e => ?_, fun xs ys e _ => ?_⟩
    · subst e
      cases hx with
      | nilIface => rw [eqL_nilIface] at h''; cases h''
      | unk => rw [eqL_unk] at h''; cases h''
    · subst e
      cases hx with
      | agg _ => exact hg
      | unk => rw [eqL_unk] at h''; cases h''

/-- what an operator comes to -/
def Bin (P : Program) (ρ : Rho) (w : World) (op : BinOp) (t : TypeId) (x' y' : Value) (v : LV) : Prop :=
  ∀ ox oy : Operand, ∃ v', (do eqGuard op t ox oy x' y'; binOp op t x' y' : Sem Value).run P w = .ok v' w ∧ VR ρ v v'

theorem bin_int {op : BinOp} {t : TypeId} {k : IntKind} {a b : Int} {v : LV} {v' : Value} (h : (binOp op t (.int k a) (.int k b)).run P w = .ok v' w) (hv : VR ρ v v') :
    Bin P ρ w op t (.int k a) (.int k b) v := fun ox oy => ⟨v', by
  rw [Sem.run_bind, eqGuard_run (by simp) (by simp)]; exact h, hv⟩

theorem arith_sim {op : BinOp} {t : TypeId} {f : IntKind → Int → Int → Option LV} {x y v : LV} {x' y' : Value} (h : arI f x y = some v) (hx : VR ρ x x') (hy : VR ρ y y')
    (hf : ∀ k a b v, f k a b = some v → ∃ v', (binOp op t (.int k a) (.int k b)).run P w = .ok v' w ∧ VR ρ v v') : Bin P ρ w op t x' y' v := by
  obtain ⟨k, a, b, rfl, rfl, h0⟩ := arI_eq h
  rw [hx.int_inv, hy.int_inv]
  obtain ⟨v', h1, h2⟩ := hf k a b v h0
  exact bin_int h1 h2
theorem cmp_sim {op : BinOp} {t : TypeId} {f : Int → Int → Bool} {x y v : LV} {x' y' : Value} (h : cmpI f x y = some v) (hx : VR ρ x x') (hy : VR ρ y y')
    (hf : ∀ k a b, (binOp op t (.int k a) (.int k b)).run P w = .ok (.bool (f a b)) w) : Bin P ρ w op t x' y' v := by
  obtain ⟨k, a, b, rfl, rfl, rfl⟩ := cmpI_eq h
  rw [hx.int_inv, hy.int_inv]
  exact bin_int (hf k a b) (.bool _)
theorem mkI_vr {k : IntKind} {z : Int} {v : LV} (h : mkI k z = some v) : VR ρ v (.int k z) := by rw [mkI_eq.1 h]; exact .int _ _

theorem eqOp_sim {t : TypeId} {x y v : LV} {x' y' : Value} (h : eqOp P t x y = some v) (hx : VR ρ x x') (hy : VR ρ y y') : Bin P ρ w .eql t x' y' v := by
  unfold eqOp at h
  cases hi : isIntL x with
  | true =>
    rw [hi] at h
    exact cmp_sim (show cmpI ieq x y = some v from h) hx hy fun k a b => by simp [binOp, Op.intCmp, ieq_eq]
  | false =>
    rw [hi] at h
    cases hs : isStrL x with
    | true =>
      rw [hs] at h
      obtain ⟨a, rfl, h1⟩ := asStr_eq.1 (show asStr x (fun a => asStr y fun b => mkB (a == b)) = some v from h)
      obtain ⟨b, rfl, h2⟩ := (asStr_eq (v := y)).1 h1
      rw [hx.str_inv, hy.str_inv, mkB_eq.1 h2]
      intro ox oy
      exact ⟨.bool (a == b), by rw [Sem.run_bind, eqGuard_run (by simp) (by simp)]; simp [binOp, Op.stringOp]; exact (beq_toListBytes a b).symm, .bool _⟩
    | false =>
      rw [hs] at h
      obtain ⟨r, hr, h1⟩ := ob_eq.1 (show ob (eqV P t x y) mkB = some v from h)
      rw [mkB_eq.1 h1]
      obtain ⟨g1, g2, g3⟩ := eqV_sim (w := w) hr hx hy
      intro ox oy
      refine ⟨.bool r, ?_, .bool _⟩
      rw [Sem.run_bind, eqGuard_run g2 g3, Result.andThen_ok]
      have key : ∀ z : Value, (∀ k n, z ≠ .int k n) → (∀ s, z ≠ .string s) → (∀ k b, z ≠ .float k b) → (∀ k a b, z ≠ .complex k a b) → (Op.equal t z y').run P w = .ok r w → (binOp .eql t z y').run P w = .ok (.bool r) w := by
        intro z a1 a2 a3 a4 hz
        cases z <;> first
          | exact absurd rfl (a1 _ _)
          | exact absurd rfl (a2 _)
          | exact absurd rfl (a3 _ _)
          | exact absurd rfl (a4 _ _ _)
          | (simp only [binOp]; simp [hz])
      have hnu : x ≠ .unk := fun e => by
        subst e
        rw [show eqV P t .unk y = none from by unfold eqV; rw [eqL_unk]; cases (ifb (isAggL LV.unk) (P.eqGuardType P.depth t) false) <;> rfl] at hr; cases hr
      have hnt : ∀ c, x ≠ .tup c := fun c e => by
        subst e
        rw [show eqV P t (.tup c) y = none from by unfold eqV; rw [eqL_tup]; cases (ifb (isAggL (LV.tup c)) (P.eqGuardType P.depth t) false) <;> rfl] at hr; cases hr
      cases hx <;> first
        | (cases hi; done)
        | (cases hs; done)
        | exact absurd rfl (hnt _)
        | exact absurd rfl hnu
        | (exact key _ (by intros; simp) (by intros; simp) (by intros; simp) (by intros; simp) g1)
theorem neOp_sim {t : TypeId} {x y v : LV} {x' y' : Value} (h : neOp P t x y = some v) (hx : VR ρ x x') (hy : VR ρ y y') : Bin P ρ w .neq t x' y' v := by
  unfold neOp at h
  cases hi : isIntL x with
  | true =>
    rw [hi] at h
    exact cmp_sim (show cmpI (fun a b => !(ieq a b)) x y = some v from h) hx hy fun k a b => by simp [binOp, Op.intCmp, ieq_eq, bne]
  | false =>
    rw [hi] at h
    cases hs : isStrL x with
    | true =>
      rw [hs] at h
      obtain ⟨a, rfl, h1⟩ := asStr_eq.1 (show asStr x (fun a => asStr y fun b => mkB (!(a == b))) = some v from h)
      obtain ⟨b, rfl, h2⟩ := (asStr_eq (v := y)).1 h1
      rw [hx.str_inv, hy.str_inv, mkB_eq.1 h2]
      intro ox oy
      exact ⟨.bool (!(a == b)), by rw [Sem.run_bind, eqGuard_run (by simp) (by simp)]; simp [binOp, Op.stringOp]; exact (beq_toListBytes a b).symm, .bool _⟩
    | false =>
      rw [hs] at h
      obtain ⟨r, hr, h1⟩ := ob_eq.1 (show ob (eqV P t x y) (fun b => mkB (!b)) = some v from h)
      rw [mkB_eq.1 h1]
      obtain ⟨g1, g2, g3⟩ := eqV_sim (w := w) hr hx hy
      intro ox oy
      refine ⟨.bool (!r), ?_, .bool _⟩
      rw [Sem.run_bind, eqGuard_run g2 g3, Result.andThen_ok]
      have key : ∀ z : Value, (∀ k n, z ≠ .int k n) → (∀ s, z ≠ .string s) → (∀ k b, z ≠ .float k b) → (∀ k a b, z ≠ .complex k a b) → (Op.equal t z y').run P w = .ok r w → (binOp .neq t z y').run P w = .ok (.bool (!r)) w := by
        intro z a1 a2 a3 a4 hz
        cases z <;> first
          | exact absurd rfl (a1 _ _)
          | exact absurd rfl (a2 _)
          | exact absurd rfl (a3 _ _)
          | exact absurd rfl (a4 _ _ _)
          | (simp only [binOp]; simp [hz])
      have hnu : x ≠ .unk := fun e => by
        subst e
        rw [show eqV P t .unk y = none from by unfold eqV; rw [eqL_unk]; cases (ifb (isAggL LV.unk) (P.eqGuardType P.depth t) false) <;> rfl] at hr; cases hr
      have hnt : ∀ c, x ≠ .tup c := fun c e => by
        subst e
        rw [show eqV P t (.tup c) y = none from by unfold eqV; rw [eqL_tup]; cases (ifb (isAggL (LV.tup c)) (P.eqGuardType P.depth t) false) <;> rfl] at hr; cases hr
      cases hx <;> first
        | (cases hi; done)
        | (cases hs; done)
        | exact absurd rfl (hnt _)
        | exact absurd rfl hnu
        | (exact key _ (by intros; simp) (by intros; simp) (by intros; simp) (by intros; simp) g1)

theorem shift_pow (n : Nat) : (((2 ^ n : Nat) : Int)) = (2 : Int) ^ n := by simp

theorem binL_sim {op : BinOp} {t : TypeId} {x y v : LV} {x' y' : Value} (h : binL P op t x y = some v) (hx : VR ρ x x') (hy : VR ρ y y') : Bin P ρ w op t x' y' v := by
  cases op with
  | add =>
    have h : addV x y = some v := h
    unfold addV at h
    cases hi : isIntL x with
    | true =>
      rw [hi] at h
      exact arith_sim (show arI (fun k a b => mkI k (wr k (a + b))) x y = some v from h) hx hy fun k a b v hv => ⟨_, by simp [binOp, Op.intArith]; rfl, by rw [wr_eq] at hv; exact mkI_vr hv⟩
    | false =>
      rw [hi] at h
      obtain ⟨a, rfl, h1⟩ := asStr_eq.1 (show asStr x (fun a => asStr y fun b => guard' (Nat.ble (a.size + b.size) 140737488355328) (some (.str (a ++ b)))) = some v from h)
      obtain ⟨b, rfl, h2⟩ := (asStr_eq (v := y)).1 h1
      obtain ⟨hsz, h3⟩ := guard'_eq.1 h2
      cases h3
      rw [Nat.ble_eq] at hsz
      rw [hx.str_inv, hy.str_inv]
      intro ox oy
      exact ⟨.string (a ++ b), by rw [Sem.run_bind, eqGuard_run (by simp) (by simp)]; simp [binOp, Op.stringOp]; omega, .str _⟩
  | sub => exact arith_sim (f := fun k a b => mkI k (wr k (a - b))) h hx hy fun k a b v hv => ⟨_, by simp [binOp, Op.intArith]; rfl, by rw [wr_eq] at hv; exact mkI_vr hv⟩
  | mul => exact arith_sim (f := fun k a b => mkI k (wr k (a * b))) h hx hy fun k a b v hv => ⟨_, by simp [binOp, Op.intArith]; rfl, by rw [wr_eq] at hv; exact mkI_vr hv⟩
  | quo =>
    refine arith_sim (f := fun k a b => ifb (izero b) none (mkI k (wr k (a.tdiv b)))) h hx hy fun k a b v hv => ?_
    cases hz : izero b with
    | true => rw [hz] at hv; cases hv
    | false =>
      rw [hz] at hv
      have hb : b ≠ 0 := fun e => by rw [izero_iff.2 e] at hz; cases hz
      exact ⟨_, by simp [binOp, Op.intDiv, hb]; rfl, by rw [wr_eq] at hv; exact mkI_vr hv⟩
  | rem =>
    refine arith_sim (f := fun k a b => ifb (izero b) none (mkI k (a.tmod b))) h hx hy fun k a b v hv => ?_
    cases hz : izero b with
    | true => rw [hz] at hv; cases hv
    | false =>
      rw [hz] at hv
      have hb : b ≠ 0 := fun e => by rw [izero_iff.2 e] at hz; cases hz
      exact ⟨_, by simp [binOp, Op.intDiv, hb], mkI_vr hv⟩
  | and => exact arith_sim (f := bAnd) h hx hy fun k a b v hv => ⟨_, by simp only [binOp, Op.intBits, ne_eq, not_true_eq_false, if_false]; rfl, by unfold bAnd at hv; rw [wr_eq] at hv; exact mkI_vr hv⟩
  | or => exact arith_sim (f := bOr) h hx hy fun k a b v hv => ⟨_, by simp only [binOp, Op.intBits, ne_eq, not_true_eq_false, if_false]; rfl, by unfold bOr at hv; rw [wr_eq] at hv; exact mkI_vr hv⟩
  | xor => exact arith_sim (f := bXor) h hx hy fun k a b v hv => ⟨_, by simp only [binOp, Op.intBits, ne_eq, not_true_eq_false, if_false]; rfl, by unfold bXor at hv; rw [wr_eq] at hv; exact mkI_vr hv⟩
  | andNot => exact arith_sim (f := bAndNot) h hx hy fun k a b v hv => ⟨_, by simp only [binOp, Op.intBits, ne_eq, not_true_eq_false, if_false]; rfl, by unfold bAndNot at hv; rw [wr_eq] at hv; exact mkI_vr hv⟩
  | shl =>
    obtain ⟨k, a, rfl, h1⟩ := asInt_eq.1 (show shlI x y = some v from h)
    obtain ⟨k', b, rfl, h2⟩ := (asInt_eq (v := y)).1 h1
    obtain ⟨n, rfl, h3⟩ := nat?_eq.1 h2
    rw [hx.int_inv, hy.int_inv]
    intro ox oy
    rw [wr_eq, shift_pow] at h3
    refine ⟨_, ?_, mkI_vr h3⟩
    rw [Sem.run_bind, eqGuard_run (by simp) (by simp)]
    rw [Result.andThen_ok]
    simp only [binOp, Op.shift]
    rw [if_neg (by omega)]
    rfl
  | shr =>
    obtain ⟨k, a, rfl, h1⟩ := asInt_eq.1 (show shrI x y = some v from h)
    obtain ⟨k', b, rfl, h2⟩ := (asInt_eq (v := y)).1 h1
    obtain ⟨n, rfl, h3⟩ := nat?_eq.1 h2
    rw [hx.int_inv, hy.int_inv]
    intro ox oy
    rw [shift_pow] at h3
    refine ⟨_, ?_, mkI_vr h3⟩
    rw [Sem.run_bind, eqGuard_run (by simp) (by simp)]
    rw [Result.andThen_ok]
    simp only [binOp, Op.shift]
    rw [if_neg (by omega)]
    rfl
  | eql => exact eqOp_sim h hx hy
  | neq => exact neOp_sim h hx hy
  | lss => exact cmp_sim (f := ilt) h hx hy fun k a b => by simp [binOp, Op.intCmp, ilt_eq]
  | leq =>
    exact cmp_sim (f := fun a b => !(ilt b a)) h hx hy fun k a b => by
      simp only [binOp, Op.intCmp, ilt_eq, ne_eq, not_true_eq_false, if_false]
      show Result.ok (Value.bool (decide (a ≤ b))) w = _
      congr 2; rw [Bool.eq_iff_iff]; simp
  | gtr => exact cmp_sim (f := fun a b => ilt b a) h hx hy fun k a b => by simp [binOp, Op.intCmp, ilt_eq]
  | geq =>
    exact cmp_sim (f := fun a b => !(ilt a b)) h hx hy fun k a b => by
      simp only [binOp, Op.intCmp, ilt_eq, ne_eq, not_true_eq_false, if_false]
      show Result.ok (Value.bool (decide (a ≥ b))) w = _
      congr 2; rw [Bool.eq_iff_iff]; simp

theorem unL_sim {op : UnOp} {x v : LV} {x' : Value} (h : unL op x = some v) (hx : VR ρ x x') : ∃ v', (Op.unary op x').run P w = .ok v' w ∧ VR ρ v v' := by
  cases op with
  | neg =>
    obtain ⟨k, a, rfl, h1⟩ := asInt_eq.1 (show asInt x (fun k n => mkI k (wr k (0 - n))) = some v from h)
    rw [hx.int_inv]
    rw [wr_eq] at h1
    exact ⟨_, by simp only [Op.unary, Op.intArith]; rfl, mkI_vr h1⟩
  | xor =>
    obtain ⟨k, a, rfl, h1⟩ := asInt_eq.1 (show asInt x (fun k n => bXor k (if k.signed then -1 else k.max) n) = some v from h)
    rw [hx.int_inv]
    unfold bXor at h1
    rw [wr_eq] at h1
    exact ⟨_, by simp only [Op.unary, Op.intBits]; rfl, mkI_vr h1⟩
  | not =>
    obtain ⟨b, rfl, h1⟩ := asBool_eq.1 (show asBool x (fun b => mkB (!b)) = some v from h)
    rw [hx.bool_inv, mkB_eq.1 h1]
    exact ⟨_, rfl, .bool _⟩
  | plus => cases h

theorem convL_sim {s d : TypeId} {x v : LV} {x' : Value} (h : convL P s d x = some v) (hx : VR ρ x x') : ∃ v', (convert s d x').run P w = .ok v' w ∧ VR ρ v v' := by
  unfold convL at h
  split at h
  · rename_i S k hs hd
    obtain ⟨q, n, rfl, h1⟩ := asInt_eq.1 h
    rw [hx.int_inv]
    rw [wr_eq] at h1
    refine ⟨_, ?_, mkI_vr h1⟩
    unfold convert
    simp only [Sem.run_bind, Go.run_underlying hs, Go.run_underlying hd, Result.andThen_ok]
    rfl
  · rename_i S hs hd
    obtain ⟨q, rfl, h1⟩ := asStr_eq.1 h
    cases h1
    rw [hx.str_inv]
    refine ⟨_, ?_, .str _⟩
    unfold convert
    simp only [Sem.run_bind, Go.run_underlying hs, Go.run_underlying hd, Result.andThen_ok]
    rfl
  · cases h
end ops
end PvL
