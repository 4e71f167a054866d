/-
  Part of the proof that what the interpreter of YtkkcpebemcbomaaGreatPvL yields, the model's machine comes to. No condition.
-/
import Derived.Test.YtkkcpebemcbomaaGreatPvR
namespace PvL
open Go

abbrev Rho := Nat → Option (Nat × Nat × Nat)
def RLe (ρ ρ' : Rho) : Prop := ∀ i x, ρ i = some x → ρ' i = some x
theorem RLe.refl (ρ : Rho) : RLe ρ ρ := fun _ _ h => h
theorem RLe.trans {a b c : Rho} (h : RLe a b) (h' : RLe b c) : RLe a c := fun i x e => h' i x (h i x e)

mutual
inductive VR (ρ : Rho) : LV → Value → Prop
  | int (k : IntKind) (n : Int) : VR ρ (.int k n) (.int k n)
  | bool (b : Bool) : VR ρ (.bool b) (.bool b)
  | str (s : ByteArray) : VR ρ (.str s) (.string s)
  | ptrNil : VR ρ (.ptr none) (.pointer none)
  | ptr {i o b s c : Nat} (h : ρ i = some (b, s, c)) : VR ρ (.ptr (some (i, o))) (.pointer (some ⟨b, s + o, none⟩))
  | sliceNil (f : Bool) (e : Nat) : VR ρ (.slice none 0 f e) (.slice none 0 0)
  | slice {i o b s c len cap e : Nat} {f : Bool} (h : ρ i = some (b, s, c)) (hl : len ≤ cap) (hf : f = true → cap = len) (hc : s + o + cap * e ≤ c) :
      VR ρ (.slice (some (i, o)) len f e) (.slice (some ⟨b, s + o, none⟩) len cap)
  | mapNil : VR ρ (.map none) (.map none)
  | map {i b s c : Nat} (h : ρ i = some (b, s, c)) : VR ρ (.map (some i)) (.map (some b))
  | func {g : FuncId} {fi ca : List LV} {fi' ca' : Array Value} (h1 : VRs ρ fi fi'.toList) (h2 : VRs ρ ca ca'.toList) : VR ρ (.func (.func g) fi ca) (.func (.func g) fi' ca')
  | yield {l b s c : Nat} (h : ρ l = some (b, s, c)) : VR ρ (.func (.yield l) [] []) (.func (.yield b) #[] #[])
  | nilFunc : VR ρ .nilFunc .nilFunc
  | nilIface : VR ρ .nilIface .nilIface
  | agg {cs : List LV} {cs' : Array Value} (h : VRs ρ cs cs'.toList) : VR ρ (.agg cs) (.agg cs')
  | tup {vs : List LV} {vs' : Array Value} (h : VRs ρ vs vs'.toList) : VR ρ (.tup vs) (.tuple vs')
  | unk (v : Value) : VR ρ .unk v
inductive VRs (ρ : Rho) : List LV → List Value → Prop
  | nil : VRs ρ [] []
  | cons {a : LV} {b : Value} {as : List LV} {bs : List Value} (h : VR ρ a b) (t : VRs ρ as bs) : VRs ρ (a :: as) (b :: bs)
end

mutual
theorem VR.mono {ρ ρ' : Rho} (hr : RLe ρ ρ') : ∀ {v : LV} {v' : Value}, VR ρ v v' → VR ρ' v v'
  | _, _, .int k n => .int k n
  | _, _, .bool b => .bool b
  | _, _, .str s => .str s
  | _, _, .ptrNil => .ptrNil
  | _, _, .ptr h => .ptr (hr _ _ h)
  | _, _, .sliceNil f e => .sliceNil f e
  | _, _, .slice h hl hf hc => .slice (hr _ _ h) hl hf hc
  | _, _, .mapNil => .mapNil
  | _, _, .map h => .map (hr _ _ h)
  | _, _, .func h1 h2 => .func (VRs.mono hr h1) (VRs.mono hr h2)
  | _, _, .yield h => .yield (hr _ _ h)
  | _, _, .nilFunc => .nilFunc
  | _, _, .nilIface => .nilIface
  | _, _, .agg h => .agg (VRs.mono hr h)
  | _, _, .tup h => .tup (VRs.mono hr h)
  | _, _, .unk v => .unk v
theorem VRs.mono {ρ ρ' : Rho} (hr : RLe ρ ρ') : ∀ {v : List LV} {v' : List Value}, VRs ρ v v' → VRs ρ' v v'
  | _, _, .nil => .nil
  | _, _, .cons h t => .cons (VR.mono hr h) (VRs.mono hr t)
end

section lists
variable {ρ : Rho}
theorem VRs.length {as : List LV} {bs : List Value} (h : VRs ρ as bs) : as.length = bs.length := by
  induction as generalizing bs with
  | nil => cases h; rfl
  | cons a as ih => cases h with | cons h t => simp [ih t]
theorem VRs.get {as : List LV} {bs : List Value} (h : VRs ρ as bs) {k : Nat} {v : LV} (hk : as[k]? = some v) : ∃ v', bs[k]? = some v' ∧ VR ρ v v' := by
  induction as generalizing bs k with
  | nil => simp at hk
  | cons a as ih =>
    cases h with
    | cons h t =>
      cases k with
      | zero => simp at hk; subst hk; exact ⟨_, rfl, h⟩
      | succ k => simpa using ih t (by simpa using hk)
theorem VRs.of_get {as : List LV} {bs : List Value} (hl : as.length = bs.length) (h : ∀ (k : Nat) (v : LV), as[k]? = some v → ∃ v', bs[k]? = some v' ∧ VR ρ v v') : VRs ρ as bs := by
  induction as generalizing bs with
  | nil => cases bs with | nil => exact .nil | cons b bs => simp at hl
  | cons a as ih =>
    cases bs with
    | nil => simp at hl
    | cons b bs =>
      refine .cons ?_ (ih (by simpa using hl) fun k v hk => by simpa using h (k + 1) v (by simpa using hk))
      obtain ⟨v', e, hv⟩ := h 0 a rfl
      simp at e; subst e; exact hv
theorem VRs.append {as as' : List LV} {bs bs' : List Value} (h : VRs ρ as bs) (h' : VRs ρ as' bs') : VRs ρ (as ++ as') (bs ++ bs') := by
  induction as generalizing bs with
  | nil => cases h; exact h'
  | cons a as ih => cases h with | cons h t => exact .cons h (ih t)
theorem nth_eq (l : List LV) (n : Nat) : nth l n = l[n]? := by
  induction l generalizing n with
  | nil => simp [nth]
  | cons a l ih => cases n with
    | zero => rfl
    | succ n => show nth l n = _; rw [ih]; simp
theorem drop'_eq (n : Nat) (l : List LV) : drop' n l = l.drop n := by
  induction n generalizing l with
  | zero => rfl
  | succ n ih => cases l with
    | nil => rfl
    | cons a l => show drop' n l = _; rw [ih]; rfl
theorem take'_eq {n : Nat} {l r : List LV} : take' n l = some r ↔ n ≤ l.length ∧ r = l.take n := by
  induction n generalizing l r with
  | zero => show some [] = some r ↔ _; simp [eq_comm]
  | succ n ih => cases l with
    | nil => show none = some r ↔ _; simp
    | cons a l =>
      show ob (take' n l) (fun l => some (a :: l)) = some r ↔ _
      rw [ob_eq]
      constructor
      · rintro ⟨q, hq, e⟩
        obtain ⟨h1, rfl⟩ := ih.1 hq
        cases e
        exact ⟨by simpa using h1, rfl⟩
      · rintro ⟨h1, rfl⟩
        exact ⟨_, ih.2 ⟨by simpa using h1, rfl⟩, rfl⟩
/-- setList: in bounds, and what lies where behind it -/
theorem setList_spec : ∀ (l : List LV) (n : Nat) (vs r : List LV), setList l n vs = some r →
    r.length = l.length ∧ (vs = [] ∨ n + vs.length ≤ l.length) ∧ ∀ k, r[k]? = if n ≤ k ∧ k < n + vs.length then vs[k - n]? else l[k]?
  | [], n, vs, r, h => by
    cases vs with
    | nil => cases h; simp
    | cons v vs => cases h
  | x :: xs, n, [], r, h => by cases h; simp; intro k h1 h2; omega
  | x :: xs, 0, v :: vs, r, h => by
    have h' : ob (setList xs 0 vs) (fun l => some (v :: l)) = some r := h
    obtain ⟨q, hq, e⟩ := ob_eq.1 h'
    cases e
    obtain ⟨h1, h2, h3⟩ := setList_spec xs 0 vs q hq
    refine ⟨by simp [h1], .inr ?_, fun k => ?_⟩
    · rcases h2 with rfl | h2
      · simp
      · simp at h2 ⊢; omega
    · cases k with
      | zero => simp
      | succ k =>
        have := h3 k
        simp at this ⊢
        rw [this]
  | x :: xs, n + 1, v :: vs, r, h => by
    have h' : ob (setList xs n (v :: vs)) (fun l => some (x :: l)) = some r := h
    obtain ⟨q, hq, e⟩ := ob_eq.1 h'
    cases e
    obtain ⟨h1, h2, h3⟩ := setList_spec xs n (v :: vs) q hq
    refine ⟨by simp [h1], .inr ?_, fun k => ?_⟩
    · rcases h2 with h2 | h2
      · cases h2
      · simp at h2 ⊢; omega
    · cases k with
      | zero => simp
      | succ k =>
        have := h3 k
        simp at this ⊢
        rw [this]
        by_cases hc : n ≤ k ∧ k < n + (vs.length + 1)
        · rw [if_pos hc, if_pos ⟨hc.1, by omega⟩]
        · rw [if_neg hc, if_neg (fun h => hc ⟨h.1, by omega⟩)]
end lists

/-! ### Temporaries -/
def TR (ρ : Rho) (T : Tm) (a : Array Value) : Prop := a.size = T.size ∧ ∀ i, VR ρ (T.get i) (a.getD i undef)
theorem TR.mono {ρ ρ' : Rho} (hr : RLe ρ ρ') {T : Tm} {a : Array Value} (h : TR ρ T a) : TR ρ' T a := ⟨h.1, fun i => (h.2 i).mono hr⟩
theorem tmE_mk {β : Type} (n : Nat) (t : PT LV) (k : Nat → PT LV → β) : tmE ⟨n, t⟩ k = k n t := rfl
theorem Tm.set_eq {T T' : Tm} {i : Nat} {v : LV} : T.set i v = some T' ↔ i < T.size ∧ T' = ⟨T.size, T.tr.set i (some v)⟩ := by
  cases T with
  | mk n t =>
    show guard' (Nat.ble (Nat.succ i) n) (some _) = some T' ↔ _
    rw [guard'_eq, Nat.ble_eq]
    simp only [Option.some.injEq]
    exact ⟨fun ⟨a, b⟩ => ⟨a, b.symm⟩, fun ⟨a, b⟩ => ⟨a, b.symm⟩⟩
theorem Tm.get_set {T T' : Tm} {i : Nat} {v : LV} (h : T.set i v = some T') (j : Nat) : T'.get j = if j = i then v else T.get j := by
  obtain ⟨_, rfl⟩ := Tm.set_eq.1 h
  unfold Tm.get
  simp only [PT.get_set]
  split <;> rfl
theorem evT_eq (T : Tm) (t : Tmp) : evT T t = some (T.get t) := by
  cases T with
  | mk n tr =>
    show oe (tr.get t) (some .unk) some = _
    unfold Tm.get
    cases tr.get t <;> rfl
theorem TR.set {ρ : Rho} {T T' : Tm} {a : Array Value} {i : Nat} {v : LV} {v' : Value} (h : TR ρ T a) (hs : T.set i v = some T') (hv : VR ρ v v') : TR ρ T' (a.setIfInBounds i v') := by
  obtain ⟨hi, e⟩ := Tm.set_eq.1 hs
  refine ⟨by rw [e]; simpa using h.1, fun j => ?_⟩
  rw [Tm.get_set hs]
  by_cases hj : j = i
  · subst hj
    rw [if_pos rfl, Array.getD_eq_getD_getElem?, Array.getElem?_setIfInBounds_self_of_lt (by rw [h.1]; exact hi)]
    exact hv
  · rw [if_neg hj, Array.getD_eq_getD_getElem?, Array.getElem?_setIfInBounds_ne (Ne.symm hj), ← Array.getD_eq_getD_getElem?]
    exact h.2 j
theorem TR.put {ρ : Rho} {T T' : Tm} {a : Act} {d : Option Tmp} {v : LV} {v' : Value} (h : TR ρ T a.tmps) (hs : T.put d v = some T') (hv : VR ρ v v') : TR ρ T' (a.put d v').tmps := by
  cases d with
  | none => cases hs; exact h
  | some d => exact h.set hs hv
theorem put_defers (a : Act) (d : Option Tmp) (v : Value) : (a.put d v).defers = a.defers := by cases d <;> rfl

/-! ### Constants and operands -/
theorem ofV0_sim {v : Value} {l : LV} (ρ : Rho) (h : ofV0 v = some l) : VR ρ l v := by
  unfold ofV0 at h
  split at h <;> first
    | (cases h; first | exact .int _ _ | exact .bool _ | exact .str _ | exact .ptrNil | exact .sliceNil _ _ | exact .mapNil | exact .nilFunc | exact .nilIface | exact .func .nil .nil)
    | cases h
theorem ofVs_sim {vs : List Value} {l : List LV} (ρ : Rho) (h : ofVs vs = some l) : VRs ρ l vs := by
  induction vs generalizing l with
  | nil => cases h; exact .nil
  | cons v vs ih =>
    obtain ⟨a, ha, h⟩ := ob_eq.1 h
    obtain ⟨b, hb, h⟩ := ob_eq.1 h
    cases h
    exact .cons (ofV0_sim ρ ha) (ih hb)
theorem ofV_sim {v : Value} {l : LV} (ρ : Rho) (h : ofV v = some l) : VR ρ l v := by
  unfold ofV at h
  split at h
  · obtain ⟨a, ha, h⟩ := ob_eq.1 h
    cases h
    exact .agg (ofVs_sim ρ ha)
  · cases h; exact .tup .nil
  · exact ofV0_sim ρ h
theorem ev_sim {ρ : Rho} {T : Tm} {a : Act} (h : TR ρ T a.tmps) {x : Operand} {v : LV} (hx : ev T x = some v) : VR ρ v (a.eval x) := by
  cases x with
  | tmp t => have hx : evT T t = some v := hx; rw [evT_eq] at hx; cases hx; exact h.2 t
  | const c => exact ofV_sim ρ hx
  | global g => cases hx
  | func f => cases hx; exact .func .nil .nil
theorem evs_sim {ρ : Rho} {T : Tm} {a : Act} (h : TR ρ T a.tmps) {xs : List Operand} {vs : List LV} (hx : evs T xs = some vs) : VRs ρ vs (xs.map a.eval) := by
  induction xs generalizing vs with
  | nil => cases hx; exact .nil
  | cons x xs ih =>
    obtain ⟨v, hv, hx⟩ := ob_eq.1 hx
    obtain ⟨vs, hvs, hx⟩ := ob_eq.1 hx
    cases hx
    exact .cons (ev_sim h hv) (ih hvs)

/-! ### Blocks and worlds -/
def CellsR (ρ : Rho) (cs : List LV) (C : Array Value) (s : Nat) : Prop := ∀ k v, cs[k]? = some v → ∃ v', C[s + k]? = some v' ∧ VR ρ v v'
def ER (ρ : Rho) : List (LV × LV) → List MapEntry → Prop
  | [], [] => True
  | x :: es, e :: E => VR ρ x.1 e.key ∧ VR ρ x.2 e.val ∧ ER ρ es E
  | _, _ => False
def BR (ρ : Rho) : LB → Obj → Nat → Nat → Prop
  | .cells own cs _, o, s, c => ∃ C e fr, o = .cells C e fr ∧ (own = true → fr = (0, 0)) ∧ C.size = c ∧ CellsR ρ cs C s
  | .map es, o, _, _ => ∃ E clk, o = .map E clk ∧ ER ρ es E.toList
  | .loop st pend fn tm ps as bd d, o, _, _ => ∃ T' db, o = .loop { state := st, pending := pend, fn, tmps := T', params := ps.toArray, assign := as, body := bd, defers := db } ∧ TR ρ tm T' ∧ ∃ s c, ρ d = some (db, s, c)
  | .defr, o, _, _ => o = .deferred (some [])
def isRo : LB → Bool | .cells false _ _ => true | _ => false

theorem CellsR.mono {ρ ρ' : Rho} (hr : RLe ρ ρ') {cs : List LV} {C : Array Value} {s : Nat} (h : CellsR ρ cs C s) : CellsR ρ' cs C s := fun k v hk => let ⟨v', e, hv⟩ := h k v hk; ⟨v', e, hv.mono hr⟩
theorem ER.mono {ρ ρ' : Rho} (hr : RLe ρ ρ') : ∀ {es : List (LV × LV)} {E : List MapEntry}, ER ρ es E → ER ρ' es E
  | [], [], _ => trivial
  | _ :: _, _ :: _, h => ⟨h.1.mono hr, h.2.1.mono hr, ER.mono hr h.2.2⟩
  | [], _ :: _, h => h.elim
  | _ :: _, [], h => h.elim
theorem BR.mono {ρ ρ' : Rho} (hr : RLe ρ ρ') {lb : LB} {o : Obj} {s c : Nat} (h : BR ρ lb o s c) : BR ρ' lb o s c := by
  cases lb with
  | cells own cs e => obtain ⟨C, e, fr, h1, h2, h3, h4⟩ := h; exact ⟨C, e, fr, h1, h2, h3, h4.mono hr⟩
  | map es => obtain ⟨E, clk, h1, h2⟩ := h; exact ⟨E, clk, h1, h2.mono hr⟩
  | loop st pend fn tm ps a b d => obtain ⟨T', db, h1, h2, s, c, h3⟩ := h; exact ⟨T', db, h1, h2.mono hr, s, c, hr _ _ h3⟩
  | defr => exact h

/-- what a call leaves alone: blocks and what lies in them; 'ro': those that its own memory may look into -/
structure Prot where
  f : Nat → Option Obj
  ro : Nat → Prop
  sub : ∀ b, ro b → f b ≠ none
  base : Nat
  os : Os
  out : Array (Nat × ByteArray)
instance : CoeFun Prot (fun _ => Nat → Option Obj) := ⟨Prot.f⟩

structure Rel (Pt : Prot) (ρ : Rho) (m : Mem) (w : World) : Prop where
  keep : ∀ r o, Pt r = some o → w.heap[r]? = some o
  live : ∀ i lb, m.get i = some lb → i < m.next ∧ ∃ b s c o, ρ i = some (b, s, c) ∧ BR ρ lb o s c ∧ w.heap[b]? = some o ∧ (if isRo lb then Pt b = some o ∧ Pt.ro b else Pt b = none)
  inj : ∀ i j lb lb' x y, m.get i = some lb → m.get j = some lb' → isRo lb = false → isRo lb' = false → ρ i = some x → ρ j = some y → x.1 = y.1 → i = j
  still : (w.os = Pt.os ∧ w.output = Pt.out) ∧ ∀ b c t fr, Pt.base ≤ b → w.heap[b]? = some (.cells c t fr) → fr = (0, 0)

theorem BR.thawed {ρ : Rho} {lb : LB} {o : Obj} {s c : Nat} (h : BR ρ lb o s c) (hro : isRo lb = false) : ∀ C t fr, o = .cells C t fr → fr = (0, 0) := by
  intro C t fr e
  cases lb with
  | cells own cs e' =>
    obtain ⟨C', e2, fr', h1, h2, _⟩ := h
    rw [e] at h1; cases h1
    cases own with
    | true => exact h2 rfl
    | false => cases hro
  | map es => obtain ⟨_, _, h1, _⟩ := h; rw [e] at h1; cases h1
  | loop => obtain ⟨_, _, h1, _⟩ := h; rw [e] at h1; cases h1
  | defr => have h : o = _ := h; rw [e] at h; cases h

theorem Mem.get_mk (n : Nat) (t : PT LB) (i : Nat) : (Mem.mk n t).get i = t.get i := rfl
theorem Mem.get_upd (m : Mem) (i j : Nat) (b : Option LB) : (m.upd i b).get j = if j = i then b else m.get j := by
  cases m with
  | mk n t => show (t.set i b).get j = _; rw [PT.get_set]; rfl
theorem Mem.next_upd (m : Mem) (i : Nat) (b : Option LB) : (m.upd i b).next = m.next := by cases m; rfl
/-- the memory behind a new block -/
noncomputable def Mem.push (m : Mem) (b : LB) : Mem := ⟨m.next + 1, m.tr.set m.next (some b)⟩
theorem Mem.new_eq {α : Type} (m : Mem) (b : LB) (k : Nat → Mem → α) : m.new b k = k m.next (m.push b) := by
  cases m with
  | mk n t => exact fN_eq n fun n => k n ⟨n + 1, t.set n (some b)⟩
theorem Mem.get_push (m : Mem) (b : LB) (j : Nat) : (m.push b).get j = if j = m.next then some b else m.get j := by
  cases m with
  | mk n t => show (t.set n (some b)).get j = _; rw [PT.get_set]; rfl

section rel
variable {Pt : Prot} {ρ : Rho} {m : Mem} {w : World}

theorem Rel.of_heap (h : Rel Pt ρ m w) {w' : World} (e : w'.heap = w.heap) (hs : w'.os = w.os ∧ w'.output = w.output := by exact ⟨rfl, rfl⟩) : Rel Pt ρ m w' :=
  ⟨fun r o hr => e ▸ h.keep r o hr, fun i lb hi => by rw [e]; exact h.live i lb hi, h.inj, by rw [e, hs.1, hs.2]; exact h.still⟩

def upd1 (ρ : Rho) (i : Nat) (x : Nat × Nat × Nat) : Rho := fun j => if j = i then some x else ρ j
theorem RLe.upd1 {i : Nat} {x : Nat × Nat × Nat} (h : ρ i = none) : RLe ρ (upd1 ρ i x) := fun j y e => by
  unfold PvL.upd1
  by_cases hj : j = i
  · subst hj; rw [h] at e; cases e
  · rw [if_neg hj]; exact e

theorem Rel.drop (h : Rel Pt ρ m w) (i : Nat) : Rel Pt ρ (m.upd i none) w := by
  refine ⟨h.keep, fun j lb hj => ?_, fun j k lb lb' x y hj hk => ?_, h.still⟩
  · rw [Mem.get_upd] at hj
    by_cases e : j = i
    · rw [if_pos e] at hj; cases hj
    · rw [if_neg e] at hj; rw [Mem.next_upd]; exact h.live j lb hj
  · rw [Mem.get_upd] at hj hk
    by_cases e : j = i
    · rw [if_pos e] at hj; cases hj
    · by_cases e' : k = i
      · rw [if_pos e'] at hk; cases hk
      · rw [if_neg e] at hj; rw [if_neg e'] at hk
        exact h.inj j k lb lb' x y hj hk

/-- one block of the call's own changes -/
theorem Rel.turn (h : Rel Pt ρ m w) {i : Nat} {lb lb' : LB} (hi : m.get i = some lb) (hro : isRo lb = false) (hro' : isRo lb' = false) {b s c : Nat} (hρ : ρ i = some (b, s, c))
    {w' : World} {o' : Obj} (hb : BR ρ lb' o' s c) (ho : w'.heap[b]? = some o') (hoth : ∀ r, r ≠ b → w'.heap[r]? = w.heap[r]?) (hs : w'.os = w.os ∧ w'.output = w.output := by exact ⟨rfl, rfl⟩) : Rel Pt ρ (m.upd i (some lb')) w' := by
  obtain ⟨hlt, b0, s0, c0, o0, e0, _, _, hp⟩ := h.live i lb hi
  rw [hρ] at e0; cases e0
  rw [hro] at hp
  have hp : Pt b = none := hp
  refine ⟨fun r o hr => ?_, fun j l hj => ?_, fun j k l l' x y hj hk => ?_, by rw [hs.1, hs.2]; exact h.still.1, fun r C t fr hr e => ?_⟩
  rotate_right
  · by_cases eb : r = b
    · rw [eb, ho] at e; exact hb.thawed hro' _ _ _ (Option.some.inj e)
    · rw [hoth r eb] at e; exact h.still.2 r C t fr hr e
  · have : r ≠ b := fun e => by subst e; rw [hp] at hr; cases hr
    rw [hoth r this]; exact h.keep r o hr
  · rw [Mem.get_upd] at hj
    by_cases e : j = i
    · rw [if_pos e] at hj; cases hj; subst e
      exact ⟨by rw [Mem.next_upd]; exact hlt, b, s, c, o', hρ, hb, ho, by rw [hro']; exact hp⟩
    · rw [if_neg e] at hj
      obtain ⟨hl, b1, s1, c1, o1, e1, h1, h2, h3⟩ := h.live j l hj
      have hne : b1 ≠ b := fun eb => by
        subst eb
        by_cases hr : isRo l = true
        · rw [if_pos hr, hp] at h3; cases h3.1
        · exact e (h.inj j i l lb _ _ hj hi (by simpa using hr) hro e1 hρ rfl)
      exact ⟨by rw [Mem.next_upd]; exact hl, b1, s1, c1, o1, e1, h1, by rw [hoth b1 hne]; exact h2, h3⟩
  · rw [Mem.get_upd] at hj hk
    intro h1 h2
    by_cases e : j = i
    · by_cases e' : k = i
      · intro _ _ _; rw [e, e']
      · rw [if_pos e] at hj; rw [if_neg e'] at hk; subst e
        exact h.inj j k lb l' x y hi hk hro h2
    · by_cases e' : k = i
      · rw [if_neg e] at hj; subst e'
        exact h.inj j k l lb x y hj hi h1 hro
      · rw [if_neg e] at hj; rw [if_neg e'] at hk
        exact h.inj j k l l' x y hj hk h1 h2

theorem heap_push_old {o : Obj} {r : Nat} (hr : r < w.heap.size) : ({ w with heap := w.heap.push o } : World).heap[r]? = w.heap[r]? := by
  simp [Array.getElem?_push, Nat.ne_of_lt hr]

theorem Rel.alloc (h : Rel Pt ρ m w) (hf : ρ m.next = none) {lb : LB} {o : Obj} {c : Nat} (hro : isRo lb = false) (hb : BR ρ lb o 0 c) :
    Rel Pt (upd1 ρ m.next (w.heap.size, 0, c)) (m.push lb) { w with heap := w.heap.push o } := by
  have hle := RLe.upd1 (ρ := ρ) (i := m.next) (x := (w.heap.size, 0, c)) hf
  have hnew : ∀ r o', w.heap[r]? = some o' → r < w.heap.size := fun r o' e => (Array.getElem?_eq_some_iff.1 e).1
  refine ⟨fun r o' hr => ?_, fun j l hj => ?_, fun j k l l' x y hj hk h1 h2 hx hy he => ?_, h.still.1, fun r C t fr hr e => ?_⟩
  rotate_right
  · have e : (w.heap.push o)[r]? = some (.cells C t fr) := e
    rw [Array.getElem?_push] at e
    by_cases eb : r = w.heap.size
    · rw [if_pos eb] at e; exact hb.thawed hro _ _ _ (Option.some.inj e)
    · rw [if_neg eb] at e; exact h.still.2 r C t fr hr e
  · have := h.keep r o' hr
    rw [heap_push_old (hnew r o' this)]; exact this
  · rw [Mem.get_push] at hj
    by_cases e : j = m.next
    · rw [if_pos e] at hj; cases hj
      refine ⟨by show j < m.next + 1; omega, w.heap.size, 0, c, o, by unfold upd1; rw [if_pos e], hb.mono hle, by simp, ?_⟩
      rw [hro]
      show Pt w.heap.size = none
      cases hp : Pt w.heap.size with
      | none => rfl
      | some o' => exact absurd (hnew _ _ (h.keep _ _ hp)) (Nat.lt_irrefl _)
    · rw [if_neg e] at hj
      obtain ⟨hl, b1, s1, c1, o1, e1, h1, h2, h3⟩ := h.live j l hj
      exact ⟨Nat.lt_succ_of_lt hl, b1, s1, c1, o1, hle _ _ e1, h1.mono hle, by rw [heap_push_old (hnew _ _ h2)]; exact h2, h3⟩
  · rw [Mem.get_push] at hj hk
    by_cases e : j = m.next
    · by_cases e' : k = m.next
      · rw [e, e']
      · rw [if_neg e'] at hk
        obtain ⟨hl, b1, s1, c1, o1, e1, _, g2, _⟩ := h.live k l' hk
        rw [hle _ _ e1] at hy; cases hy
        unfold upd1 at hx; rw [if_pos e] at hx; cases hx
        exact absurd (hnew _ _ g2) (by simp at he; omega)
    · rw [if_neg e] at hj
      obtain ⟨hl, b1, s1, c1, o1, e1, _, g2, _⟩ := h.live j l hj
      rw [hle _ _ e1] at hx; cases hx
      by_cases e' : k = m.next
      · unfold upd1 at hy; rw [if_pos e'] at hy; cases hy
        exact absurd (hnew _ _ g2) (by simp at he; omega)
      · rw [if_neg e'] at hk
        obtain ⟨_, b2, s2, c2, o2, e2, _, _, _⟩ := h.live k l' hk
        rw [hle _ _ e2] at hy; cases hy
        exact h.inj j k l l' _ _ hj hk h1 h2 e1 e2 he
end rel
end PvL
