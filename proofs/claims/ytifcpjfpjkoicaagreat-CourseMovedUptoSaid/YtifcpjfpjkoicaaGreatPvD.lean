/-
 Rules by which a function's code is walked, symbol by symbol. No condition.
-/
import Derived.Test.YtifcpjfpjkoicaaGreatPvB
import Derived.Test.YtifcpjfpjkoicaaGreatPvA
import Derived.Test.YtifcpjfpjkoicaaGreatPvC
section
namespace PvL
open Go

section
variable {P : Program}

structure Cn (R : Nat -> Task -> Option Out) (L : Task -> Option Out) {α : Type} (F : (Task -> Option Out) -> Option α) : Prop where
 up : ∀ o, F L = some o -> ∃ n, ∀ k, n <= k -> F (R k) = some o

section
variable {R : Nat -> Task -> Option Out} {L : Task -> Option Out} {α β : Type}
theorem Cn.const (x : Option α) : Cn R L (fun _ => x) := ⟨fun _ h => ⟨0, fun _ _ => h⟩⟩
theorem Cn.bind {F : (Task -> Option Out) -> Option α} {G : α -> (Task -> Option Out) -> Option β} (hF : Cn R L F) (hG : ∀ a, Cn R L (G a)) :
  Cn R L (fun r => ob (F r) fun a => G a r) := ⟨fun o h => by
 obtain ⟨a, h1, h2⟩ := ob_eq.1 h
 obtain ⟨n, hn⟩ := hF.up _ h1
 obtain ⟨m, hm⟩ := (hG a).up _ h2
 exact ⟨max n m, fun k hk => by show ob (F (R k)) _ = _; rw [hn k (by omega)]; exact hm k (by omega)⟩⟩
theorem Cn.code {F : (Task -> Option Out) -> Option Out} {G : Ex -> Tm -> List Nat -> Mem -> (Task -> Option Out) -> Option β} (hF : Cn R L F) (hG : ∀ e T ms m, Cn R L (G e T ms m)) :
  Cn R L (fun r => outCode (F r) fun e T ms m => G e T ms m r) := by
 refine Cn.bind (G := fun o r => outE o (fun e T ms m => G e T ms m r) (fun _ _ => none)) hF fun o => ?_
 cases o with
 | code e T ms m => exact hG e T ms m
 | call v m => exact Cn.const none
theorem Cn.call {F : (Task -> Option Out) -> Option Out} {G : LV -> Mem -> (Task -> Option Out) -> Option β} (hF : Cn R L F) (hG : ∀ v m, Cn R L (G v m)) :
  Cn R L (fun r => outCall (F r) fun v m => G v m r) := by
 refine Cn.bind (G := fun o r => outE o (fun _ _ _ _ => none) (fun v m => G v m r)) hF fun o => ?_
 cases o with
 | code e T ms m => exact Cn.const none
 | call v m => exact hG v m
theorem Cn.ex {e : Ex} {A B : (Task -> Option Out) -> Option α} {C : Nat -> (Task -> Option Out) -> Option α} (hA : Cn R L A) (hB : Cn R L B) (hC : ∀ i, Cn R L (C i)) :
  Cn R L (fun r => exE e (A r) (B r) (fun i => C i r)) := by
 cases e with
 | norm => exact hA
 | ret => exact hB
 | exit i => exact hC i
theorem Cn.ifb {b : Bool} {A B : (Task -> Option Out) -> Option α} (hA : Cn R L A) (hB : Cn R L B) : Cn R L (fun r => ifb b (A r) (B r)) := by
 cases b
 ·exact hB
 ·exact hA
theorem Cn.ob {x : Option α} {G : α -> (Task -> Option Out) -> Option β} (h : ∀ a, Cn R L (G a)) : Cn R L (fun r => ob x fun a => G a r) := Cn.bind (Cn.const x) h
theorem Cn.guard {b : Bool} {A : (Task -> Option Out) -> Option α} (hA : Cn R L A) : Cn R L (fun r => guard' b (A r)) := by
 cases b
 ·exact Cn.const none
 ·exact hA
theorem Cn.asBool {v : LV} {G : Bool -> (Task -> Option Out) -> Option β} (h : ∀ a, Cn R L (G a)) : Cn R L (fun r => asBool v fun b => G b r) := by
 cases v with
 | bool b => exact h b
 | _ => exact Cn.const none
end

set_option linter.unusedSectionVars false
section step
variable {R : Nat -> Task -> Option Out} {L : Task -> Option Out} (hr : ∀ t, Cn R L (fun r => r t))
include hr
theorem opFin_cn {α : Type} (T : Tm) (dst : Option Tmp) (x : R1) (k : Tm -> Mem -> (Task -> Option Out) -> Option α) (hk : ∀ T m, Cn R L (k T m)) :
  Cn R L (fun r => opFin r T dst x fun T m => k T m r) := by
 cases x with
 | val v m => exact Cn.ob fun T => hk T m
 | skip m => exact Cn.ob fun T => hk T m
 | enter f args m => exact Cn.call (hr _) fun v m => Cn.ob fun T => hk T m
 | round l args m => exact Cn.call (hr _) fun v m => Cn.ob fun T => hk T m
theorem opFull_cn {α : Type} (T : Tm) (m : Mem) (op : Op) (dst : Option Tmp) (k : Tm -> Mem -> (Task -> Option Out) -> Option α) (hk : ∀ T m, Cn R L (k T m)) :
  Cn R L (fun r => opFull P r T m op dst fun T m => k T m r) := Cn.ob fun x => opFin_cn hr T dst x k hk
theorem opsRun_cn (all : List Oper) : ∀ (os : List Oper) (T : Tm) (m : Mem), Cn R L (fun r => opsRun P r all os T m)
 | [], T, m => Cn.const _
 | ⟨dst, op, a1, a2, a3, g⟩ :: os, T, m => by
  refine Cn.ob fun wt => Cn.ifb ?_ ?_
  ·exact opFull_cn hr T m op dst _ fun T m => opsRun_cn all os T m
  ·exact Cn.ob fun T => opsRun_cn all os T m
theorem drawRun_cn (all : List Oper) (ds : List Nat) : ∀ (os : List Oper) (i : Nat) (s : DS), Cn R L (fun r => drawRun P r all ds os i s)
 | [], i, s => Cn.const _
 | o :: os, i, ⟨T, m, st, k, ps⟩ => by
  unfold drawRun
  refine Cn.ob fun wt => Cn.ifb ?_ ?_
  ·refine opFull_cn hr T m o.op o.dst _ fun T m => ?_
   cases cls P o.op <;> exact drawRun_cn all ds os _ _
  ·refine Cn.ob fun T => ?_
   cases cls P o.op <;> exact drawRun_cn all ds os _ _
theorem atLoop_cn {α : Type} (m : Mem) (i : Nat) (k : LoopState -> Option Code -> FuncId -> Tm -> List Tmp -> Code -> Code -> Nat -> (Task -> Option Out) -> Option α) (hk : ∀ a b c d e f g h, Cn R L (k a b c d e f g h)) : Cn R L (fun r => atLoop m i fun a b c d e f g h => k a b c d e f g h r) := by
 refine Cn.ob (G := fun b r => lbE b (fun _ _ _ => none) (fun _ => none) (fun a b c d e f g h => k a b c d e f g h r) none) fun b => ?_
 cases b <;> first | exact hk _ _ _ _ _ _ _ _ | exact Cn.const none
theorem asFn_cn {α : Type} (v : LV) (k : FuncId -> List LV -> List LV -> (Task -> Option Out) -> Option α) (hk : ∀ a b c, Cn R L (k a b c)) : Cn R L (fun r => asFn v fun a b c => k a b c r) := by
 cases v with
 | func fn a b => cases fn <;> first | exact hk _ _ _ | exact Cn.const none
 | _ => exact Cn.const none
theorem rfEnd_cn (fn : FuncId) (ro : Option Nat) (l : Nat) (T : Tm) (ms : List Nat) (m : Mem) : Cn R L (fun r => rfEnd r fn ro l T ms m) := by
 refine atLoop_cn hr m l _ fun st pend fn' tm' ps' a' b' d' => ?_
 cases st with
 | busy => exact Cn.const none
 | _ =>
  cases pend with
  | none => exact Cn.const _
  | some c => exact hr _
theorem rfCall_cn (fn : FuncId) (ro : Option Nat) (f : Operand) (ps : Array Tmp) (a b : Code) (d : Nat) (T : Tm) (ms : List Nat) (m : Mem) : Cn R L (fun r => rfCall r fn ro f ps a b d T ms m) := by
 unfold rfCall
 simp only [Mem.new_eq]
 refine Cn.ob fun f => asFn_cn hr f _ fun g fi ca => Cn.call (hr _) fun _ m => rfEnd_cn hr fn ro _ T ms m
theorem stCode_cn (fn : FuncId) (ro : Option Nat) (c : Code) (T : Tm) (ms : List Nat) (m : Mem) : Cn R L (fun r => stCode P r fn ro c T ms m) := by
 cases c with
 | seq a b => exact Cn.code (hr _) fun e T ms m => Cn.ex (hr _) (Cn.const _) fun i => Cn.const _
 | cond x a b => exact Cn.ob fun c => Cn.asBool fun c => Cn.ifb (hr _) (hr _)
 | block id b => exact Cn.code (hr _) fun e T ms m => Cn.ex (Cn.const _) (Cn.const _) fun i => Cn.ifb (Cn.const _) (Cn.const _)
 | scope b => exact hr _
 | loop b => exact Cn.code (hr _) fun e T ms m => Cn.ex (hr _) (Cn.const _) fun i => Cn.const _
 | region _ ops dr =>
  show Cn R L (fun r => (ifb dr (cDraw P r ops) (cRegion P r ops)) T ms m)
  cases dr with
  | false => exact Cn.bind (opsRun_cn hr _ _ T m) fun q => by obtain ⟨T, m⟩ := q; exact Cn.const _
  | true => exact Cn.guard (Cn.bind (drawRun_cn hr _ _ _ _ _) fun d => by obtain ⟨T, m, st, k, ps⟩ := d; exact Cn.const _)
 | rangeFunc f ps a b =>
  show Cn R L (fun r => cRangeFunc r fn ro f ps a b T ms m)
  unfold cRangeFunc
  cases ro with
  | none =>
   simp only [oe_none, Mem.new_eq]
   exact rfCall_cn hr _ _ _ _ _ _ _ _ _ _
  | some l => exact atLoop_cn hr m l _ fun _ _ _ _ _ _ _ d => rfCall_cn hr _ _ _ _ _ _ _ _ _ _
 | _ => exact Cn.const _
theorem stepT_cn (t : Task) : Cn R L (fun r => stepT P r t) := by
 cases t with
 | code fn ro c T ms m => exact stCode_cn hr fn ro c T ms m
 | call f args m =>
  exact Cn.ob fun fn => Cn.ob fun T => Cn.ob fun c => Cn.code (hr _) fun e T ms m => Cn.ex (Cn.const _) (Cn.const _) fun _ => Cn.const _
 | round l args m =>
  refine atLoop_cn hr m l _ fun st _ fn tm ps assign body _ => ?_
  cases st with
  | ready =>
   refine Cn.ob fun T => Cn.code (hr _) fun e T ms m => ?_
   cases e with
   | norm =>
    refine atLoop_cn hr m l _ fun st pend fn' tm' ps' a' b' d' => ?_
    cases st with
    | ready => exact Cn.code (hr _) fun e _ _ m => Cn.const _
    | _ => exact Cn.const none
   | _ => exact Cn.const none
  | _ => exact Cn.const none
end step

class Orc (P : Program) where
 ask : FuncId -> List LV -> Option LV
variable [Orc P]
noncomputable def stepO (P : Program) [Orc P] (rec : Task -> Option Out) (t : Task) : Option Out :=
 match t with
 | .call f as m => match Orc.ask P f as with | some v => some (.call v m) | none => stepT P rec (.call f as m)
 | .code f r c T ms m => stepT P rec (.code f r c T ms m)
 | .round l as m => stepT P rec (.round l as m)
theorem stepO_cn {R : Nat -> Task -> Option Out} {L : Task -> Option Out} (hr : ∀ t, Cn R L (fun r => r t)) (t : Task) : Cn R L (fun r => stepO P r t) := by
 cases t with
 | call f as m =>
  cases h : Orc.ask P f as with
  | some v =>
   have e : (fun r => stepO P r (.call f as m)) = fun _ => some (.call v m) := by
    funext r; show (match Orc.ask P f as with | some v => some (Out.call v m) | none => stepT P r (.call f as m)) = _; rw [h]
   rw [e]; exact Cn.const _
  | none =>
   have e : (fun r => stepO P r (.call f as m)) = fun r => stepT P r (.call f as m) := by
    funext r; show (match Orc.ask P f as with | some v => some (Out.call v m) | none => stepT P r (.call f as m)) = _; rw [h]
   rw [e]; exact stepT_cn hr _
 | code f r c T ms m => exact stepT_cn hr _
 | round l as m => exact stepT_cn hr _
noncomputable def runO (P : Program) [Orc P] : Nat -> Task -> Option Out
 | 0 => fun _ => none
 | n + 1 => fun t => stepO P (runO P n) t
theorem run_up : ∀ (n : Nat) (t : Task) (o : Out), runO P n t = some o -> ∀ k, n <= k -> runO P k t = some o
 | 0, _, _, h, _, _ => by cases h
 | n + 1, t, o, h, k, hk => by
  obtain ⟨k, rfl⟩ : ∃ j, k = j + 1 := ⟨k - 1, by omega⟩
  have hk : n <= k := by omega
  obtain ⟨N, hN⟩ := (stepO_cn (P := P) (R := fun j => if j = 0 then runO P n else runO P k) (L := runO P n)
   (fun t => ⟨fun o ho => ⟨1, fun j hj => by show (if j = 0 then runO P n else runO P k) t = _; rw [if_neg (by omega)]; exact run_up n t o ho k hk⟩⟩) t).up o h
  have := hN (max N 1) (by omega)
  rw [if_neg (by omega)] at this
  exact this

open Classical in
noncomputable def om (P : Program) [Orc P] (t : Task) : Option Out := if h : ∃ o n, runO P n t = some o then some h.choose else none
theorem om_iff {t : Task} {o : Out} : om P t = some o ↔ ∃ n, runO P n t = some o := by
 unfold om
 constructor
 ·intro h
  split at h
  ·rename_i hh
   cases h
   exact hh.choose_spec
  ·cases h
 ·rintro ⟨n, hn⟩
  have hh : ∃ o n, runO P n t = some o := ⟨o, n, hn⟩
  rw [dif_pos hh]
  obtain ⟨m, hm⟩ := hh.choose_spec
  have h1 := run_up n t o hn (max n m) (by omega)
  have h2 := run_up m t _ hm (max n m) (by omega)
  rw [h1] at h2
  exact h2.symm
theorem om_of_step {t : Task} {o : Out} (h : stepO P (om P) t = some o) : om P t = some o := by
 obtain ⟨n, hn⟩ := (stepO_cn (P := P) (R := runO P) (L := om P) (fun t => ⟨fun o ho => by
  obtain ⟨n, hn⟩ := om_iff.1 ho
  exact ⟨n, fun k hk => run_up n t o hn k hk⟩⟩) t).up o h
 exact om_iff.2 ⟨n + 1, hn n (Nat.le_refl _)⟩
theorem om_eqO (t : Task) : om P t = stepO P (om P) t := by
 cases h : stepO P (om P) t with
 | some o => exact om_of_step h
 | none =>
  cases h' : om P t with
  | none => rfl
  | some o =>
   obtain ⟨n, hn⟩ := om_iff.1 h'
   cases n with
   | zero => cases hn
   | succ n =>
    obtain ⟨N, hN⟩ := (stepO_cn (P := P) (R := fun _ => om P) (L := runO P n) (fun t => ⟨fun o ho => ⟨0, fun _ _ => om_iff.2 ⟨n, ho⟩⟩⟩) t).up o hn
    rw [hN N (Nat.le_refl _)] at h
    cases h
theorem om_code (f : FuncId) (r : Option Nat) (c : Code) (T : Tm) (ms : List Nat) (m : Mem) : om P (.code f r c T ms m) = stepT P (om P) (.code f r c T ms m) := om_eqO _
theorem om_round (l : Nat) (as : List LV) (m : Mem) : om P (.round l as m) = stepT P (om P) (.round l as m) := om_eqO _
theorem om_call {f : FuncId} {as : List LV} (h : Orc.ask P f as = none) (m : Mem) : om P (.call f as m) = stepT P (om P) (.call f as m) := by
 rw [om_eqO]; show (match Orc.ask P f as with | some v => some (Out.call v m) | none => stepT P (om P) (.call f as m)) = _; rw [h]
theorem om_ask {f : FuncId} {as : List LV} {v : LV} (h : Orc.ask P f as = some v) (m : Mem) : om P (.call f as m) = some (.call v m) := by
 rw [om_eqO]; show (match Orc.ask P f as with | some v => some (Out.call v m) | none => stepT P (om P) (.call f as m)) = _; rw [h]
end
end PvL
end
section
namespace PvL
open Go

inductive XO where
 | t (n : Nat)
 | c (v : LV)

inductive XI where
 | mv (x : XO)
 | pick (c a b : XO)
 | new (ty : TypeId) (z : List LV)
 | box (ty : TypeId) (x : XO)
 | build (z : List LV) (ps : List (Nat × Nat × XO))
 | bsl (ty : TypeId) (n len : Nat) (z : List LV) (ps : List (Nat × Nat × XO))
 | ld1 (a : XO)
 | ldN (n : Nat) (a : XO)
 | st (n : Nat) (a x : XO)
 | nilc (x : XO)
 | bin (op : BinOp) (x y : XO)
 | eqs (neg : Bool) (n : Nat) (sh : List Nat) (x y : XO)
 | eqg (neg : Bool) (t : TypeId) (x y : XO)
 | un (op : UnOp) (x : XO)
 | conv (k : IntKind) (x : XO)
 | convS (x : XO)
 | mkf (g : FuncId) (a b : List XO)
 | mkmap
 | mksl (ty : TypeId) (n by' : Nat) (z : List LV) (l c : XO)
 | slc (n : Nat) (x : XO) (lo hi mx : Option XO)
 | slS (x : XO) (lo hi mx : Option XO)
 | fad (off : Nat) (x : XO)
 | fld (off n : Nat) (ag : Bool) (x : XO)
 | iad (len : Option Nat) (n : Nat) (x i : XO)
 | idx (len n : Nat) (ag : Bool) (x i : XO)
 | idxS (x i : XO)
 | lkp (kt : TypeId) (z : LV) (ok : Bool) (x k : XO)
 | mset (kt : TypeId) (m k v : XO)
 | ext (i : Nat) (x : XO)
 | call (f : XO) (args : List XO)
 | len (k : LenK) (x : XO)
 | max (xs : List XO)
 | min (xs : List XO)
 | app (e : TypeId) (sz by' : Nat) (z : List LV) (s x : XO)
 | cpy (sz : Nat) (d x : XO)

structure XG where
 d : Option Nat
 i : XI
 g : Option (Nat × Bool)

inductive XK where
 | calm | new | anchor
 | reads (lo hi : Nat)

inductive XC where
 | skip | ret
 | exit (id : Nat)
 | ops (l : List XG)
 | draw (l : List (XG × XK))
 | seq (a b : XC)
 | cond (x : XO) (a b : XC)
 | block (id : Nat) (b : XC)
 | loop (b : XC)
 | scope (b : XC)
 | rfun (f : XO) (ps : List Tmp) (a b : XC)

inductive XR where
 | tmp (t : Nat)
 | cell1 (t : Nat)
 | cellN (t : Nat) (n : Nat)

structure XF where
 ntmps : Nat
 body : XC
 res : List XR

noncomputable section
variable (P : Program)
def cX : Operand -> Option XO
 | .tmp t => some (.t t)
 | .const v => match ofV v with | some v => some (.c v) | none => none
 | .func f => some (.c (.func (.func f) [] []))
 | .global _ => none
def cXs : List Operand -> Option (List XO)
 | [] => some []
 | x :: xs => match cX x, cXs xs with | some a, some l => some (a :: l) | _, _ => none
def cXo : Option Operand -> Option (Option XO)
 | none => some none
 | some x => match cX x with | some a => some (some a) | none => none
def cParts (pl : Nat -> Option (Nat × Nat)) : List (Nat × Operand) -> Option (List (Nat × Nat × XO))
 | [] => some []
 |(i, x) :: l => match pl i, cX x, cParts pl l with | some (o, n), some a, some r => some ((o, n, a) :: r) | _, _, _ => none
def cField (t i : Nat) : Option (Nat × Nat × Bool) := fieldPl P t i
def cZero (t : Nat) : Option (List LV) := match zeroL P t with | some z => some z.cells | none => none
def isIntT (t : TypeId) : Bool := match P.underlying t with | some (.int _) => true | _ => false
def shFields (N : Nat) (rec : TypeId -> Option (List Nat)) : List Field -> Option (List Nat)
 | [] => some []
 | f :: fs => if f.name == "_" then none else match aggSz P f.type, shFields N rec fs with
  | some none, some r => if isIntT P f.type then some (f.offset :: r) else none
  | some (some n), some r => (match rec f.type with
   | some l => if Nat.ble (f.offset + n) N && l.all (fun o => Nat.ble (o + 1) n) then some (l.map (· + f.offset) ++ r) else none
   | none => none)
  | _, _ => none
def shape : Nat -> TypeId -> Option (List Nat)
 | 0, _ => none
 | d + 1, t => match P.underlying t with
  | some (.struct fs) => if P.stoodInHeld t then none else (match szOf P t with | some N => shFields P N (shape d) fs.toList | none => none)
  | _ => none
def isStrT (t : TypeId) : Bool := match P.underlying t with | some .string => true | _ => false
def isBoolT (t : TypeId) : Bool := match P.underlying t with | some .bool => true | _ => false
def cEq (neg : Bool) (t : TypeId) (x y : XO) : Option XI :=
 match shape P 6 t, szOf P t, P.eqGuardType P.depth t with
 | some sh, some n, false => some (.eqs neg n sh x y)
 | _, _, _ => some (.eqg neg t x y)
def cBin (op : BinOp) (t : TypeId) (x y : XO) : Option XI :=
 match op with
 | .eql => if isIntT P t || isStrT P t then some (.bin op x y) else cEq P false t x y
 | .neq => if isIntT P t || isStrT P t then some (.bin op x y) else cEq P true t x y
 | _ => some (.bin op x y)
def cCall (c : Call) : Option XI :=
 match cXs c.args.toList with
 | none => none
 | some as => match c.callee with
  | .value f => match cX f with | some f => some (.call f as) | none => none
  | .invoke _ _ => none
  | .builtin .len => match as, c.argTypes.toList with
   | [x], t :: _ => match lenK P t with | some k => some (.len k x) | none => none
   | _, _ => none
  | .builtin .max => some (.max as)
  | .builtin .min => some (.min as)
  | .builtin .append => match as, c.argTypes.toList with
   | [s, x], st :: xt :: _ => match sliceElem P st, P.underlying xt with
    | some e, some xd => if isIntD xd then none else match szOf P e, bytesOfT P e, cZero P e with | some sz, some b, some z => some (.app e sz b z s x) | _, _, _ => none
    | _, _ => none
   | _, _ => none
  | .builtin .copy => match as, c.argTypes.toList with
   | [s, x], st :: _ => (match sliceElem P st with | some e => (match szOf P e with | some sz => some (.cpy sz s x) | none => none) | none => none)
   | _, _ => none
  | _ => none
def cOp (o : Op) : Option XI :=
 match o with
 | .move x | .assign x => match cX x with | some x => some (.mv x) | none => none
 | .pick c a b => match cX c, cX a, cX b with | some c, some a, some b => some (.pick c a b) | _, _, _ => none
 | .alloc t => match cZero P t with | some z => some (.new t z) | none => none
 | .box t x => match cX x with | some x => some (.box t x) | none => none
 | .build t ps => match cZero P t, partPl P t with
  | some z, some pl => match cParts pl ps.toList with | some l => some (.build z l) | none => none
  | _, _ => none
 | .buildSlice t len ps => match sliceElem P t with
  | some e => match szOf P e, cZero P e with
   | some n, some z => match cParts (fun i => some (i * n, n)) ps.toList with
    | some l => if Nat.ble (len * n) 16777216 && (Nat.ble 1 n && Nat.beq z.length n) then some (.bsl e n len z l) else none
    | none => none
   | _, _ => none
  | none => none
 | .load t a => match cX a, aggSz P t with
  | some a, some none => some (.ld1 a)
  | some a, some (some n) => some (.ldN n a)
  | _, _ => none
 | .store t a x => match cX a, cX x, szOf P t with | some a, some x, some n => some (.st n a x) | _, _, _ => none
 | .nilCheck x => match cX x with | some x => some (.nilc x) | none => none
 | .binOp op t x y _ => match cX x, cX y with | some x, some y => cBin P op t x y | _, _ => none
 | .unOp op _ x => match cX x with | some x => some (.un op x) | none => none
 | .convert s d x => match cX x, P.underlying s, P.underlying d with
  | some x, some _, some (.int k) => some (.conv k x)
  | some x, some _, some .string => some (.convS x)
  | _, _, _ => none
 | .makeFunc (.func g) a b => match cXs a.toList, cXs b.toList with | some a, some b => some (.mkf g a b) | _, _ => none
 | .makeMap _ none => some .mkmap
 | .makeSlice t l c => match cX l, cX c, sliceElem P t with
  | some l, some c, some e => match szOf P e, cZero P e, bytesOfT P e with
   | some n, some z, some b => if Nat.ble 1 n && Nat.beq z.length n then some (.mksl e n b z l c) else none
   | _, _, _ => none
  | _, _, _ => none
 | .slice t x lo hi mx => match cX x, cXo lo, cXo hi, cXo mx with
  | some x, some lo, some hi, some mx => match P.underlying t with
   | some (.slice e) => match szOf P e with | some n => some (.slc n x lo hi mx) | none => none
   | some .string => some (.slS x lo hi mx)
   | _ => none
  | _, _, _, _ => none
 | .fieldAddr t x f => match cX x, fieldPl P t f with
  | some x, some (off, n, _) => if Nat.ble 1 n then some (.fad off x) else none
  | _, _ => none
 | .field t x f => match cX x, fieldPl P t f with
  | some x, some (off, n, ag) => some (.fld off n ag x)
  | _, _ => none
 | .indexAddr t x i => match cX x, cX i, ixK P t with
  | some x, some i, some (len, n) => some (.iad len n x i)
  | _, _, _ => none
 | .index t x i => match cX x, cX i, P.underlying t with
  | some x, some i, some (.array len e) => match szOf P e, isAggT P e with | some n, some ag => some (.idx len n ag x i) | _, _ => none
  | some x, some i, some .string => some (.idxS x i)
  | _, _, _ => none
 | .lookup t x i ok => match cX x, cX i, mapTypes P t with
  | some x, some i, some (kt, et) => match zeroL P et with | some z => some (.lkp kt z ok x i) | none => none
  | _, _, _ => none
 | .mapUpdate t m k v => match cX m, cX k, cX v, mapTypes P t with
  | some m, some k, some v, some (kt, _) => some (.mset kt m k v)
  | _, _, _, _ => none
 | .extract x i => match cX x with | some x => some (.ext i x) | none => none
 | .call c => cCall P c
 | _ => none
def dstIn (sz : Nat) : Option Nat -> Bool | none => true | some d => Nat.ble (d + 1) sz
def cGuard (all : List Oper) : Option (Nat × Bool) -> Option (Option (Nat × Bool))
 | none => some none
 | some (j, want) => match (all[j]?).bind (·.dst) with | some d => some (some (d, want)) | none => none
def cOper (sz : Nat) (all : List Oper) (o : Oper) : Option XG :=
 match cOp P o.op, cGuard all o.guard, dstIn sz o.dst with
 | some i, some g, true => some ⟨o.dst, i, g⟩
 | _, _, _ => none
def cOps (sz : Nat) (all : List Oper) : List Oper -> Option (List XG)
 | [] => some []
 | o :: os => match cOper P sz all o, cOps sz all os with | some g, some l => some (g :: l) | _, _ => none
def xCalm : XI -> Bool
 | .max _ | .min _ => true
 | .len .map _ => false
 | .len _ _ => true
 | _ => false
def cKind (all : List Oper) (ds : List Nat) (i : Nat) (o : Oper) (x : XI) : XK :=
 match cls P o.op with
 | .new | .calm => .new
 | .anchor => .anchor
 | .mover => if readsMem o.op && !xCalm x then .reads (anchorsIn P (ds.getD i 0) all 0) (anchorsFree P i all ds) else .calm
def cDrawn (sz : Nat) (all : List Oper) (ds : List Nat) : List Oper -> Nat -> Option (List (XG × XK))
 | [], _ => some []
 | o :: os, i => match cOper P sz all o, cDrawn sz all ds os (i + 1) with | some g, some l => some ((g, cKind P all ds i o g.i) :: l) | _, _ => none
def cCode (sz : Nat) : Code -> Option XC
 | .skip | .label _ => some .skip
 | .ret => some .ret
 | .exit id => some (.exit id)
 | .region _ ops false => match cOps P sz ops.toList ops.toList with | some l => some (.ops l) | none => none
 | .region _ ops true => if regionOk P ops then match cDrawn P sz ops.toList (deps ops) ops.toList 0 with | some l => some (.draw l) | none => none else none
 | .seq a b => match cCode sz a, cCode sz b with | some a, some b => some (.seq a b) | _, _ => none
 | .cond x a b => match cX x, cCode sz a, cCode sz b with | some x, some a, some b => some (.cond x a b) | _, _, _ => none
 | .block id b => match cCode sz b with | some b => some (.block id b) | none => none
 | .loop b => match cCode sz b with | some b => some (.loop b) | none => none
 | .scope b => match cCode sz b with | some b => some (.scope b) | none => none
 | .rangeFunc f ps a b => match cX f, cCode sz a, cCode sz b, ps.toList.all (fun t => Nat.ble (t + 1) sz) with | some f, some a, some b, true => some (.rfun f ps.toList a b) | _, _, _, _ => none
 | _ => none
def cRes : List ResultVar -> Option (List XR)
 | [] => some []
 | .tmp t :: rs => match cRes rs with | some l => some (.tmp t :: l) | none => none
 | .cell a t :: rs => match aggSz P t, cRes rs with
  | some none, some l => some (.cell1 a :: l)
  | some (some n), some l => some (.cellN a n :: l)
  | _, _ => none
def cFn (f : FuncId) : Option XF :=
 match fnOf P f with
 | none => none
 | some fn => match fn.body with
  | none => none
  | some c => match cCode P fn.ntmps c, cRes P fn.results.toList with
   | some c, some r => some ⟨fn.ntmps, c, r⟩
   | _, _ => none
end
end PvL
end
section
namespace PvL
open Go

abbrev Env := List (Nat × LV)
def look : Env -> Nat -> Option LV
 | [], _ => none
 |(d, v) :: E, t => match Nat.beq d t with | true => some v | false => look E t
def xval (E : Env) : XO -> Option LV
 | .t n => look E n
 | .c v => some v
noncomputable def xvals (E : Env) : List XO -> Option (List LV)
 | [] => some []
 | x :: xs => ob (xval E x) fun v => ob (xvals E xs) fun vs => some (v :: vs)
noncomputable def xvalo (E : Env) : Option XO -> Option (Option LV)
 | none => some none
 | some x => ob (xval E x) fun v => some (some v)
noncomputable def xParts (E : Env) : List (Nat × Nat × XO) -> Option (List (Nat × Nat × LV))
 | [] => some []
 |(o, n, x) :: l => ob (xval E x) fun v => ob (xParts E l) fun r => some ((o, n, v) :: r)
noncomputable def fillX : List (Nat × Nat × LV) -> List LV -> Option (List LV)
 | [], cs => some cs
 |(o, n, v) :: l, cs => guard' (Nat.beq v.cells.length n && Nat.ble 1 n) (guard' (allFlat v.cells) (ob (setList cs o v.cells) fun c => fillX l c))

structure EnvRel (sz : Nat) (E : Env) (T : Tm) : Prop where
 size : T.size = sz
 look : ∀ d v, look E d = some v -> evT T d = some v

def putE (E : Env) : Option Nat -> LV -> Env
 | none, _ => E
 | some d, v => (d, v) :: E

section
variable {sz : Nat} {E : Env} {T : Tm}
theorem EnvRel.cons (h : EnvRel sz E T) {d : Nat} (hd : d < sz) (v : LV) : ∃ T', T.set d v = some T' /\ EnvRel sz ((d, v) :: E) T' := by
 have hs : T.set d v = some ⟨T.size, T.tr.set d (some v)⟩ := Tm.set_eq.2 ⟨(by rw [h.size]; exact hd), rfl⟩
 refine ⟨_, hs, h.size, fun t u hu => ?_⟩
 have hu : (match Nat.beq d t with | true => some v | false => PvL.look E t) = some u := hu
 rw [evT_eq, Tm.get_set hs t]
 cases hb : Nat.beq d t with
 | true =>
  rw [hb] at hu
  obtain rfl := Nat.eq_of_beq_eq_true hb
  cases hu
  rw [if_pos rfl]
 | false =>
  rw [hb] at hu
  have := h.look t u hu
  rw [evT_eq] at this
  rw [if_neg (fun e => by subst e; rw [Nat.beq_refl] at hb; cases hb)]
  exact this
theorem EnvRel.put (h : EnvRel sz E T) {d : Option Nat} (hd : dstIn sz d = true) (v : LV) : ∃ T', T.put d v = some T' /\ EnvRel sz (putE E d v) T' := by
 cases d with
 | none => exact ⟨T, rfl, h⟩
 | some d => exact h.cons (by have : Nat.ble (d + 1) sz = true := hd; rw [Nat.ble_eq] at this; exact this) v
theorem EnvRel.sub {E' : Env} (h : EnvRel sz E T) (hs : ∀ d v, PvL.look E' d = some v -> PvL.look E d = some v) : EnvRel sz E' T := ⟨h.size, fun d v e => h.look d v (hs d v e)⟩
theorem EnvRel.nil (T : Tm) : EnvRel T.size [] T := ⟨rfl, fun _ _ h => nomatch h⟩

theorem cX_ev (h : EnvRel sz E T) {x : Operand} {a : XO} (hc : cX x = some a) {v : LV} (hv : xval E a = some v) : ev T x = some v := by
 cases x with
 | tmp t => cases hc; exact h.look _ _ hv
 | const c =>
  have hc : (match ofV c with | some v => some (XO.c v) | none => none) = some a := hc
  cases ho : ofV c with
  | none => rw [ho] at hc; cases hc
  | some u => rw [ho] at hc; cases hc; cases hv; exact ho
 | global g => cases hc
 | func f => cases hc; cases hv; rfl
theorem cXs_ev (h : EnvRel sz E T) : ∀ {xs : List Operand} {as : List XO}, cXs xs = some as -> ∀ {vs : List LV}, xvals E as = some vs -> evs T xs = some vs
 | [], as, hc, vs, hv => by cases hc; cases hv; rfl
 | x :: xs, as, hc, vs, hv => by
  unfold cXs at hc
  cases h1 : cX x with
  | none => rw [h1] at hc; cases hc
  | some a =>
   cases h2 : cXs xs with
   | none => rw [h1, h2] at hc; cases hc
   | some l =>
    rw [h1, h2] at hc
    cases hc
    obtain ⟨v, hv1, hv2⟩ := ob_eq.1 hv
    obtain ⟨vs', hv3, hv4⟩ := ob_eq.1 hv2
    cases hv4
    show ob (ev T x) _ = _
    rw [cX_ev h h1 hv1, ob_some, cXs_ev h h2 hv3]; rfl
theorem cXo_ev (h : EnvRel sz E T) {x : Option Operand} {a : Option XO} (hc : cXo x = some a) {v : Option LV} (hv : xvalo E a = some v) : evOpt T x = some v := by
 cases x with
 | none => cases hc; cases hv; rfl
 | some x =>
  have hc : (match cX x with | some a => some (some a) | none => none) = some a := hc
  cases h1 : cX x with
  | none => rw [h1] at hc; cases hc
  | some y =>
   rw [h1] at hc; cases hc
   obtain ⟨u, hu, e⟩ := ob_eq.1 (show ob (xval E y) (fun v => some (some v)) = some v from hv)
   cases e
   show ob (ev T x) _ = _
   rw [cX_ev h h1 hu]; rfl
theorem cParts_ev (h : EnvRel sz E T) {pl : Nat -> Option (Nat × Nat)} : ∀ {ps : List (Nat × Operand)} {as : List (Nat × Nat × XO)}, cParts pl ps = some as -> ∀ {vs : List (Nat × Nat × LV)}, xParts E as = some vs ->
  ∃ ws, evParts T ps = some ws /\ ∀ cs, fillL pl ws cs = fillX vs cs
 | [], as, hc, vs, hv => by cases hc; cases hv; exact ⟨[], rfl, fun _ => rfl⟩
 |(i, x) :: ps, as, hc, vs, hv => by
  unfold cParts at hc
  cases h0 : pl i with
  | none => rw [h0] at hc; cases hc
  | some q =>
   obtain ⟨o, n⟩ := q
   cases h1 : cX x with
   | none => rw [h0, h1] at hc; cases hc
   | some a =>
    cases h2 : cParts pl ps with
    | none => rw [h0, h1, h2] at hc; cases hc
    | some l =>
     rw [h0, h1, h2] at hc
     cases hc
     obtain ⟨v, hv1, hv2⟩ := ob_eq.1 hv
     obtain ⟨vs', hv3, hv4⟩ := ob_eq.1 hv2
     cases hv4
     obtain ⟨ws, hw1, hw2⟩ := cParts_ev h h2 hv3
     refine ⟨(i, v) :: ws, ?_, fun cs => ?_⟩
     ·show ob (ev T x) _ = _
      rw [cX_ev h h1 hv1, ob_some, hw1]; rfl
     ·show ob (pl i) _ = _
      rw [h0]
      show guard' _ (guard' _ (ob _ _)) = guard' _ (guard' _ (ob _ _))
      simp only [hw2]
end

noncomputable def eqGd (op : BinOp) (a : LV) : Bool := match op with | .eql | .neq => isIntL a || isStrL a | _ => true
section
variable (P : Program)
noncomputable def xstep (i : XI) (E : Env) (M : Mem) : Option R1 :=
 match i with
 | .mv x => ob (xval E x) (rv M)
 | .pick c a b => ob (xval E c) fun c => asBool c fun c => ifb c (ob (xval E a) (rv M)) (ob (xval E b) (rv M))
 | .new t z => guard' (allFlat z) (some (.val (.ptr (some (M.next, 0))) (M.push (.cells true z t))))
 | .box t x => ob (xval E x) fun v => guard' (allFlat v.cells) (some (.val (.ptr (some (M.next, 0))) (M.push (.cells true v.cells t))))
 | .build z ps => ob (xParts E ps) fun l => ob (fillX l z) fun c => some (.val (.agg c) M)
 | .bsl t n len z ps => ob (xParts E ps) fun l => ob (fillX l (rep len z)) fun c => some (.val (.slice (some (M.next, 0)) len true n) (M.push (.cells true c t)))
 | .ld1 a => ob (xval E a) fun a => asPtr a fun i o => ob (load1 M i o) (rv M)
 | .ldN n a => ob (xval E a) fun a => asPtr a fun i o => ob (loadN M i o n) fun l => some (.val (.agg l) M)
 | .st n a x => ob (xval E a) fun a => ob (xval E x) fun v => asPtr a fun i o => guard' (Nat.beq v.cells.length n) (guard' (allFlat v.cells) (ob (storeCs M i o v.cells) fun m => some (.skip m)))
 | .nilc x => ob (xval E x) fun v => ob (nilCheckL v) (rv M)
 | .bin op x y => ob (xval E x) fun a => ob (xval E y) fun b => guard' (eqGd op a) (ob (binL P op 0 a b) (rv M))
 | .eqs neg n sh x y => ob (xval E x) fun a => ob (xval E y) fun b => asAgg a fun xs => asAgg b fun ys => guard' (Nat.beq xs.length n && Nat.beq ys.length n) (ob (eqSh xs ys sh) fun r => some (.val (.bool (bEq r (!neg))) M))
 | .eqg neg t x y => ob (xval E x) fun a => ob (xval E y) fun b => guard' (!(isIntL a) && !(isStrL a)) (ob (eqV P t a b) fun r => some (.val (.bool (bEq r (!neg))) M))
 | .un op x => ob (xval E x) fun a => ob (unL op a) (rv M)
 | .conv k x => ob (xval E x) fun a => asInt a fun _ n => some (.val (.int k (wr k n)) M)
 | .convS x => ob (xval E x) fun a => asStr a fun s => some (.val (.str s) M)
 | .mkf g a b => ob (xvals E a) fun a => ob (xvals E b) fun b => some (.val (.func (.func g) a b) M)
 | .mkmap => some (.val (.map (some M.next)) (M.push (.map [])))
 | .mksl t n by' z l c => ob (xval E l) fun l => ob (xval E c) fun c => asInt l fun _ l => asInt c fun _ c => nat? l fun l => nat? c fun c =>
   guard' (Nat.ble l c && (Nat.ble (by' * c) 140737488355328 && Nat.ble c 4294967296)) (some (.val (.slice (some (M.next, 0)) l (Nat.beq l c) n) (M.push (.cells true (rep l z) t))))
 | .slc n x lo hi mx => ob (xval E x) fun x => ob (xvalo E lo) fun lo => ob (xvalo E hi) fun hi => ob (xvalo E mx) fun mx => asSlice x fun a len full es => ob (sliceSl n a len full es lo hi mx) (rv M)
 | .slS x lo hi mx => ob (xval E x) fun x => ob (xvalo E lo) fun lo => ob (xvalo E hi) fun hi => ob (xvalo E mx) fun mx => asStr x fun s => guard' mx.isNone (optBound hi s.size s.size fun h => optBound lo h 0 fun l => some (.val (.str (s.extract l h)) M))
 | .fad off x => ob (xval E x) fun v => asPtr v fun i o => some (.val (.ptr (some (i, o + off))) M)
 | .fld off n ag x => ob (xval E x) fun v => asAgg v fun cs => ob (partL ag n off cs) (rv M)
 | .iad len n x i => ob (xval E x) fun x => ob (xval E i) fun i => asInt i fun _ i => nat? i fun i =>
   ob (oe len (asSlice x fun a len _ _ => ob a fun p => pr p fun id off => idxAt id off i n len) fun len => asPtr x fun id off => idxAt id off i n len) (rv M)
 | .idx len n ag x i => ob (xval E x) fun x => ob (xval E i) fun i => asAgg x fun cs => asInt i fun _ i => nat? i fun i => guard' (Nat.ble (i + 1) len) (ob (partL ag n (i * n) cs) (rv M))
 | .idxS x i => ob (xval E x) fun x => ob (xval E i) fun i => asStr x fun s => asInt i fun _ i => nat? i fun i => ob s[i]? fun b => some (.val (.int .u8 b.toNat) M)
 | .lkp kt z ok x k => ob (xval E x) fun x => ob (xval E k) fun k => guard' (keyOk P 10000 kt k) (entriesOf M x fun es => ob (findL P kt k es 0) fun r => oe r
   (some (.val (ifb ok (.tup [z, .bool false]) z) M)) (fun p => pr p fun _ q => pr q fun _ v => some (.val (ifb ok (.tup [v, .bool true]) v) M)))
 | .mset kt m k v => ob (xval E m) fun x => ob (xval E k) fun k => ob (xval E v) fun v => guard' (keyOk P 10000 kt k) (asMap x fun r => ob r fun r => atMap M r fun es =>
   ob (findL P kt k es 0) fun p => oe p
    (some (.skip (M.upd r (some (.map (es ++ [(k, v)]))))))
    (fun p => pr p fun i q => pr q fun k' _ => guard' (lvEq k k') (some (.skip (M.upd r (some (.map (setVal es i k v))))))))
 | .ext i x => ob (xval E x) fun v => asTup v fun vs => ob (nth vs i) (rv M)
 | .call f as => ob (xvals E as) fun as => ob (xval E f) fun f => callV f as M
 | .len k x => ob (xval E x) fun x => ob (lenKE k (asStr x fun s => mkN s.size) (asSlice x fun _ n _ _ => mkN n) mkN (entriesOf M x fun es => mkN es.length)) (rv M)
 | .max xs => ob (xvals E xs) fun l => lE l none fun x xs => ob (foldL max2L xs x) (rv M)
 | .min xs => ob (xvals E xs) fun l => lE l none fun x xs => ob (foldL min2L xs x) (rv M)
 | .app e sz by' z s x => ob (xval E s) fun s => ob (xval E x) fun x => asSlice s fun a len full es => ob (lenOfL x) fun n =>
   ifb (Nat.beq n 0) (some (.val s M))
    (guard' (Nat.ble ((2 * (len + n) + 2048) * by') 140737488355328 && (Nat.ble 1 sz && (Nat.ble 1 by' && Nat.beq z.length sz)))
     (ob (firstL sz len s M) fun old => ob (firstL sz n x M) fun new => guard' (allFlat new) (
      killed a full (Nat.beq es sz) M fun m => some (.val (.slice (some (m.next, 0)) (len + n) false sz) (m.push (.cells true (old ++ new) e))))))
 | .cpy sz d x => ob (xval E d) fun d => ob (xval E x) fun x => asSlice d fun a dl _ _ => ob (lenOfL x) fun sl =>
   ifb (Nat.beq (Nat.min sl dl) 0) (some (.val (.int .i64 (.ofNat (Nat.min sl dl))) M)) (ob (firstL sz (Nat.min sl dl) x M) fun l => guard' (allFlat l) (
    oe a (some (.val (.int .i64 (.ofNat (Nat.min sl dl))) M)) fun p => pr p fun id off => ob (storeCs M id off l) fun m => some (.val (.int .i64 (.ofNat (Nat.min sl dl))) m)))
where
 eqSh (xs ys : List LV) : List Nat -> Option Bool
  | [] => some true
  | o :: os => ob (nth xs o) fun a => ob (nth ys o) fun b => asInt a fun k x => asInt b fun k' y => guard' (kEq k k') (ob (eqSh xs ys os) fun r => some (decide (x = y) && r))

theorem mkI_some (k : IntKind) (z : Int) : mkI k z = some (.int k z) := by unfold mkI; rw [fI_eq]
theorem mkB_some (b : Bool) : mkB b = some (.bool b) := by cases b <;> rfl
theorem mkN_some (n : Nat) : mkN n = some (.int .i64 n) := by unfold mkN; rw [fN_eq]; rfl
theorem bEq_not (r neg : Bool) : bEq r (!neg) = if neg then !r else r := by cases r <;> cases neg <;> rfl

variable {P}
variable {sz : Nat} {E : Env} {T : Tm} {M : Mem} {r : R1}
theorem cBin_sound (h : EnvRel sz E T) {op : BinOp} {t u : TypeId} {x y : Operand} {a b : XO} (hx : cX x = some a) (hy : cX y = some b)
  {i : XI} (hi : some (XI.bin op a b) = some i) (hop : ∀ v w, eqGd op v = true -> binL P op 0 v w = binL P op t v w) (hs : xstep P i E M = some r) : op1 P (.binOp op t x y u) T M = some r := by
 cases hi
 obtain ⟨v, h1, h2⟩ := ob_eq.1 hs
 obtain ⟨w, h3, h4⟩ := ob_eq.1 h2
 obtain ⟨h5, h6⟩ := guard'_eq.1 h4
 show oBin P op t x y u T M = _
 unfold oBin
 rw [cX_ev h hx h1, ob_some, cX_ev h hy h3, ob_some, <- hop v w h5]
 exact h6

noncomputable abbrev eqSh := xstep.eqSh
theorem eqSh_append {xs ys : List LV} : ∀ {l l' : List Nat} {r : Bool}, eqSh xs ys (l ++ l') = some r -> ∃ a b, eqSh xs ys l = some a /\ eqSh xs ys l' = some b /\ r = (a && b)
 | [], l', r, h => ⟨true, r, rfl, h, rfl⟩
 | o :: os, l', r, h => by
  obtain ⟨x, h1, h2⟩ := ob_eq.1 (show ob (nth xs o) _ = some r from h)
  obtain ⟨y, h3, h4⟩ := ob_eq.1 h2
  obtain ⟨k, m, rfl, h5⟩ := asInt_eq.1 h4
  obtain ⟨k', n, rfl, h6⟩ := asInt_eq.1 h5
  obtain ⟨h7, h8⟩ := guard'_eq.1 h6
  obtain ⟨q, h9, h10⟩ := ob_eq.1 h8
  cases h10
  obtain ⟨a, b, e1, e2, rfl⟩ := eqSh_append h9
  refine ⟨decide (m = n) && a, b, ?_, e2, by rw [Bool.and_assoc]⟩
  show ob (nth xs o) _ = _
  rw [h1, ob_some, h3]
  show guard' (kEq k k') (ob (eqSh xs ys os) _) = _
  rw [h7, e1]; rfl
theorem eqSh_part {xs ys : List LV} {off n : Nat} : ∀ {l : List Nat} {r : Bool}, (∀ o ∈ l, o < n) -> eqSh xs ys (l.map (· + off)) = some r -> eqSh (xs.drop off |>.take n) (ys.drop off |>.take n) l = some r
 | [], r, _, h => h
 | o :: os, r, hl, h => by
  obtain ⟨x, h1, h2⟩ := ob_eq.1 (show ob (nth xs (o + off)) _ = some r from h)
  obtain ⟨y, h3, h4⟩ := ob_eq.1 h2
  obtain ⟨k, m, rfl, h5⟩ := asInt_eq.1 h4
  obtain ⟨k', m', rfl, h6⟩ := asInt_eq.1 h5
  obtain ⟨h7, h8⟩ := guard'_eq.1 h6
  obtain ⟨q, h9, h10⟩ := ob_eq.1 h8
  have ho := hl o List.mem_cons_self
  rw [nth_eq] at h1 h3
  have e1 : nth (xs.drop off |>.take n) o = some (.int k m) := by rw [nth_eq, List.getElem?_take_of_lt ho, List.getElem?_drop, Nat.add_comm]; exact h1
  have e2 : nth (ys.drop off |>.take n) o = some (.int k' m') := by rw [nth_eq, List.getElem?_take_of_lt ho, List.getElem?_drop, Nat.add_comm]; exact h3
  show ob (nth _ o) _ = _
  rw [e1, ob_some, e2]
  show guard' (kEq k k') (ob (eqSh _ _ os) _) = _
  rw [h7, eqSh_part (fun o h => hl o (List.mem_cons_of_mem _ h)) h9]
  exact h10
theorem isIntT_eq {P : Program} {t : TypeId} (h : isIntT P t = true) : ∃ k, P.underlying t = some (.int k) := by
 unfold isIntT at h
 split at h
 ·rename_i k e; exact ⟨k, e⟩
 ·cases h
def ShOk (P : Program) (rec : TypeId -> LV -> LV -> Option Bool) (t : TypeId) (sh : List Nat) : Prop :=
 ∀ (xs ys : List LV) (r : Bool), (∀ N, szOf P t = some N -> N <= xs.length /\ N <= ys.length) -> eqSh xs ys sh = some r -> rec t (.agg xs) (.agg ys) = some r
theorem shFields_ok {rec : TypeId -> LV -> LV -> Option Bool} {srec : TypeId -> Option (List Nat)} {N : Nat} (hrec : ∀ t sh, srec t = some sh -> ShOk P rec t sh)
  (hint : ∀ t k a b, isIntT P t = true -> rec t (.int k a) (.int k b) = some (decide (a = b))) : ∀ (fs : List Field) (sh : List Nat), shFields P N srec fs = some sh ->
  ∀ (xs ys : List LV) (r : Bool), N <= xs.length -> N <= ys.length -> eqSh xs ys sh = some r -> fieldsEq P rec xs ys fs = some r
 | [], sh, h, xs, ys, r, _, _, he => by cases h; cases he; rfl
 | f :: fs, sh, h, xs, ys, r, hx, hy, he => by
  unfold shFields at h
  show ifb (f.name == "_") _ _ = _
  by_cases hn : (f.name == "_") = true
  ·rw [if_pos hn] at h; cases h
  ·rw [if_neg hn] at h
   rw [show (f.name == "_") = false by simpa using hn, ifb_false]
   unfold eqPart
   cases hag : aggSz P f.type with
   | none => rw [hag] at h; cases h
   | some q =>
    cases hfs : shFields P N srec fs with
    | none => rw [hag, hfs] at h; cases q <;> cases h
    | some l' =>
     have ih := shFields_ok hrec hint fs l' hfs xs ys
     cases q with
     | none =>
      rw [hag, hfs] at h
      simp only at h
      split at h
      ·rename_i hi
       cases h
       obtain ⟨x, h1, h2⟩ := ob_eq.1 (show ob (nth xs f.offset) _ = some r from he)
       obtain ⟨y, h3, h4⟩ := ob_eq.1 h2
       obtain ⟨k, m, rfl, h5⟩ := asInt_eq.1 h4
       obtain ⟨k', m', rfl, h6⟩ := asInt_eq.1 h5
       obtain ⟨h7, h8⟩ := guard'_eq.1 h6
       obtain ⟨q, h9, h10⟩ := ob_eq.1 h8
       cases h10
       obtain rfl := kEq_iff.1 h7
       rw [ob_some, oe_none, h1, ob_some, h3, ob_some, hint _ _ _ _ hi]
       unfold andO
       rw [ob_some, ih q hx hy h9]
       cases decide (m = m') <;> rfl
      ·cases h
     | some n =>
      rw [hag, hfs] at h
      simp only at h
      cases hr : srec f.type with
      | none => rw [hr] at h; cases h
      | some l =>
       rw [hr] at h
       simp only at h
       split at h
       ·rename_i hall
        cases h
        obtain ⟨a, b, e1, e2, rfl⟩ := eqSh_append he
        simp only [Bool.and_eq_true, List.all_eq_true, Nat.ble_eq] at hall
        obtain ⟨hN, hall⟩ := hall
        have hp := eqSh_part (n := n) (fun o ho => by have := hall o ho; omega) e1
        have t1 : take' n (drop' f.offset xs) = some (xs.drop f.offset |>.take n) := take'_eq.2 ⟨by rw [drop'_eq, List.length_drop]; omega, by rw [drop'_eq]⟩
        have t2 : take' n (drop' f.offset ys) = some (ys.drop f.offset |>.take n) := take'_eq.2 ⟨by rw [drop'_eq, List.length_drop]; omega, by rw [drop'_eq]⟩
        rw [ob_some, oe_some, t1, ob_some, t2, ob_some, hrec _ _ hr _ _ a (fun N' hN' => ?_) hp]
        ·unfold andO
         rw [ob_some, ih b hx hy e2]
         cases a <;> rfl
        ·have hsz : szOf P f.type = some n := by
          unfold aggSz at hag
          obtain ⟨q, hq1, hq2⟩ := ob_eq.1 hag
          cases q with
          | true =>
           obtain ⟨n', hn1, hn2⟩ := ob_eq.1 (show ob (szOf P f.type) _ = _ from hq2)
           cases hn2; exact hn1
          | false => cases hq2
         rw [hsz] at hN'
         cases hN'
         simp only [List.length_take, List.length_drop]
         omega
       ·cases h
theorem shape_ok : ∀ (d D : Nat) (t : TypeId) (sh : List Nat), d < D -> shape P d t = some sh -> ShOk P (eqL P D) t sh
 | 0, _, _, _, _, h => nomatch h
 | d + 1, 0, _, _, hd, _ => nomatch hd
 | d + 1, D + 1, t, sh, hd, h => fun xs ys r hl he => by
  unfold shape at h
  unfold eqL
  split at h
  ·rename_i fs hu
   rw [hu]
   by_cases hst : P.stoodInHeld t = true
   ·rw [if_pos hst] at h; cases h
   ·rw [if_neg hst] at h
    have hst : P.stoodInHeld t = false := by simpa using hst
    show ifb (P.stoodInHeld t) none _ = _
    rw [hst, ifb_false]
    cases hz : szOf P t with
    | none => rw [hz] at h; cases h
    | some N =>
     rw [hz] at h
     obtain ⟨h1, h2⟩ := hl N hz
     refine shFields_ok (fun t sh h => shape_ok d D t sh (by omega) h) (fun t k a b hi => ?_) fs.toList sh h xs ys r h1 h2 he
     obtain ⟨k', hk'⟩ := isIntT_eq hi
     obtain ⟨D', rfl⟩ : ∃ D', D = D' + 1 := ⟨D - 1, by omega⟩
     unfold eqL
     rw [hk']
     show guard' (kEq k k) _ = _
     rw [kEq_iff.2 rfl, guard'_true, ieq_eq]
     rfl
  ·cases h
end
end PvL
end
section
namespace PvL
open Go
section
variable {P : Program} {sz : Nat} {E : Env} {T : Tm} {M : Mem} {r : R1}
theorem cZero_eq {t : Nat} {z : List LV} (h : cZero P t = some z) : ∃ v, zeroL P t = some v /\ v.cells = z /\ allFlat v.cells = true := by
 unfold cZero at h
 cases h0 : zeroL P t with
 | none => rw [h0] at h; cases h
 | some v =>
  rw [h0] at h; cases h
  obtain ⟨i, _, h2⟩ := ob_eq.1 (show ob (P.info? t) _ = some v from h0)
  obtain ⟨w, _, h3⟩ := ob_eq.1 h2
  obtain ⟨u, _, h4⟩ := ob_eq.1 h3
  obtain ⟨h5, h6⟩ := guard'_eq.1 h4
  cases h6
  exact ⟨v, rfl, rfl, h5⟩
theorem binL_any {op : BinOp} {t : TypeId} {v w : LV} (h : op ≠ .eql) (h' : op ≠ .neq) : binL P op 0 v w = binL P op t v w := by
 cases op <;> first | rfl | exact absurd rfl h | exact absurd rfl h'
theorem cEq_sound (h : EnvRel sz E T) {neg : Bool} {t u : TypeId} {x y : Operand} {a b : XO} (hx : cX x = some a) (hy : cX y = some b) {i : XI}
  (hi : cEq P neg t a b = some i) (hs : xstep P i E M = some r) : op1 P (.binOp (if neg then .neq else .eql) t x y u) T M = some r := by
 have key : ∀ v w q, ev T x = some v -> ev T y = some w -> isIntL v = false -> isStrL v = false -> eqV P t v w = some q -> op1 P (.binOp (if neg then .neq else .eql) t x y u) T M = some (.val (.bool (bEq q (!neg))) M) := by
  intro v w q h1 h2 h3 h4 h5
  show oBin P _ t x y u T M = _
  unfold oBin
  rw [h1, ob_some, h2, ob_some]
  cases neg with
  | true =>
   show ob (neOp P t v w) _ = _
   unfold neOp
   rw [h3, h4, ifb_false, ifb_false, h5, ob_some, mkB_some]
   cases q <;> rfl
  | false =>
   show ob (eqOp P t v w) _ = _
   unfold eqOp
   rw [h3, h4, ifb_false, ifb_false, h5, ob_some, mkB_some]
   cases q <;> rfl
 unfold cEq at hi
 split at hi
 ·rename_i sh n hsh hn hg
  cases hi
  obtain ⟨v, h1, h2⟩ := ob_eq.1 hs
  obtain ⟨w, h3, h4⟩ := ob_eq.1 h2
  obtain ⟨xs, rfl, h5⟩ := asAgg_eq.1 h4
  obtain ⟨ys, rfl, h6⟩ := asAgg_eq.1 h5
  obtain ⟨h7, h8⟩ := guard'_eq.1 h6
  obtain ⟨q, h9, h10⟩ := ob_eq.1 h8
  cases h10
  simp only [Bool.and_eq_true] at h7
  have e1 := Nat.eq_of_beq_eq_true h7.1
  have e2 := Nat.eq_of_beq_eq_true h7.2
  refine key _ _ q (cX_ev h hx h1) (cX_ev h hy h3) rfl rfl ?_
  unfold eqV
  rw [hg]
  show eqL P Op.maxDepth t _ _ = _
  exact shape_ok 6 Op.maxDepth t sh (by decide) hsh xs ys q (fun N hN => by rw [hn] at hN; cases hN; omega) h9
 ·cases hi
  obtain ⟨v, h1, h2⟩ := ob_eq.1 hs
  obtain ⟨w, h3, h4⟩ := ob_eq.1 h2
  obtain ⟨h5, h6⟩ := guard'_eq.1 h4
  obtain ⟨q, h7, h8⟩ := ob_eq.1 h6
  cases h8
  simp only [Bool.and_eq_true, Bool.not_eq_true'] at h5
  exact key v w q (cX_ev h hx h1) (cX_ev h hy h3) h5.1 h5.2 h7
theorem cBinAll_sound (h : EnvRel sz E T) {op : BinOp} {t u : TypeId} {x y : Operand} {a b : XO} (hx : cX x = some a) (hy : cX y = some b) {i : XI}
  (hi : cBin P op t a b = some i) (hs : xstep P i E M = some r) : op1 P (.binOp op t x y u) T M = some r := by
 have heq : ∀ v w, (isIntL v || isStrL v) = true -> binL P .eql 0 v w = binL P .eql t v w := fun v w hv => by
  show eqOp P 0 v w = eqOp P t v w
  unfold eqOp
  cases h1 : isIntL v with
  | true => rfl
  | false =>
   cases h2 : isStrL v with
   | true => rfl
   | false => rw [h1, h2] at hv; cases hv
 have hne : ∀ v w, (isIntL v || isStrL v) = true -> binL P .neq 0 v w = binL P .neq t v w := fun v w hv => by
  show neOp P 0 v w = neOp P t v w
  unfold neOp
  cases h1 : isIntL v with
  | true => rfl
  | false =>
   cases h2 : isStrL v with
   | true => rfl
   | false => rw [h1, h2] at hv; cases hv
 cases op with
 | eql =>
  simp only [cBin] at hi
  split at hi
  ·exact cBin_sound h hx hy hi heq hs
  ·exact cEq_sound (neg := false) h hx hy hi hs
 | neq =>
  simp only [cBin] at hi
  split at hi
  ·exact cBin_sound h hx hy hi hne hs
  ·exact cEq_sound (neg := true) h hx hy hi hs
 | _ => exact cBin_sound h hx hy hi (fun v w _ => binL_any (by decide) (by decide)) hs

theorem entriesOf_none {α : Type} (M : Mem) (k : List (LV × LV) -> Option α) : entriesOf M (.map none) k = k [] := rfl
theorem cCall_sound (h : EnvRel sz E T) {c : Call} {i : XI} (hi : cCall P c = some i) (hs : xstep P i E M = some r) : op1 P (.call c) T M = some r := by
 obtain ⟨callee, args, ats⟩ := c
 show ob (evs T args.toList) _ = _
 unfold cCall at hi
 cases hc : cXs args.toList with
 | none => simp only [hc] at hi; cases hi
 | some as =>
  simp only [hc] at hi
  cases callee with
  | value f =>
   simp only at hi
   cases hf : cX f with
   | none => rw [hf] at hi; cases hi
   | some g =>
    rw [hf] at hi; cases hi
    obtain ⟨vs, h1, h2⟩ := ob_eq.1 hs
    obtain ⟨v, h3, h4⟩ := ob_eq.1 h2
    rw [cXs_ev h hc h1, ob_some]
    show ob (ev T f) _ = _
    rw [cX_ev h hf h3]; exact h4
  | invoke a b => cases hi
  | builtin b =>
   have hargs : ∀ vs, xvals E as = some vs -> evs T args.toList = some vs := fun vs hv => cXs_ev h hc hv
   cases b with
   | len =>
    simp only at hi
    split at hi
    ·rename_i x t ts hat
     split at hi
     ·rename_i k hk
      cases hi
      obtain ⟨v, h1, h2⟩ := ob_eq.1 hs
      rw [hargs [v] (by show ob (xval E x) _ = _; rw [h1]; rfl), ob_some]
      show callB P .len ats.toList [v] M = _
      rw [hat]
      show ob (lenL P t v M) (rv M) = _
      unfold lenL
      rw [hk, ob_some]; exact h2
     ·cases hi
    ·cases hi
   | max =>
    cases hi
    obtain ⟨vs, h1, h2⟩ := ob_eq.1 hs
    rw [hargs vs h1]; exact h2
   | min =>
    cases hi
    obtain ⟨vs, h1, h2⟩ := ob_eq.1 hs
    rw [hargs vs h1]; exact h2
   | append =>
    simp only at hi
    split at hi
    ·rename_i s x st xt ts hat
     split at hi
     ·rename_i e xd he hxd
      split at hi
      ·cases hi
      ·rename_i hint
       split at hi
       ·rename_i n b z hn hb hz
        cases hi
        obtain ⟨v, h1, h2⟩ := ob_eq.1 hs
        obtain ⟨w, h3, h4⟩ := ob_eq.1 h2
        rw [hargs [v, w] (by show ob (xval E s) _ = _; rw [h1, ob_some]; show ob (ob (xval E x) _) _ = _; rw [h3]; rfl), ob_some]
        show callB P .append ats.toList [v, w] M = _
        rw [hat]
        show guard' true (appendL P st xt v w M rvm) = _
        rw [guard'_true]
        unfold appendL
        obtain ⟨zv, hz1, hz2, hz3⟩ := cZero_eq hz
        rw [he, ob_some, hxd, ob_some, show isIntD xd = false by simpa using hint, ifb_false, hn, ob_some, hb, ob_some]
        obtain ⟨a, len, full, es, rfl, h5⟩ := asSlice_eq.1 h4
        obtain ⟨n', h6, h7⟩ := ob_eq.1 h5
        show ob (lenOfL w) _ = _
        rw [h6, ob_some]
        cases h8 : Nat.beq n' 0 with
        | true => rw [h8] at h7; exact h7
        | false =>
         rw [h8, ifb_false] at h7
         rw [ifb_false, hz1, ob_some, hz2]
         obtain ⟨h9, h10⟩ := guard'_eq.1 h7
         rw [h9, guard'_true]
         obtain ⟨old, h11, h12⟩ := ob_eq.1 h10
         obtain ⟨new, h13, h14⟩ := ob_eq.1 h12
         rw [h11, ob_some, h13, ob_some]
         rw [<- h14]
         congr 1
         congr 1
         funext m
         rw [Mem.new_eq, fN_eq]; rfl
       ·cases hi
     ·cases hi
    ·cases hi
   | copy =>
    simp only at hi
    split at hi
    ·rename_i s x st ts hat
     split at hi
     ·rename_i e he
      split at hi
      ·rename_i n hn
       cases hi
       obtain ⟨v, h1, h2⟩ := ob_eq.1 hs
       obtain ⟨w, h3, h4⟩ := ob_eq.1 h2
       rw [hargs [v, w] (by show ob (xval E s) _ = _; rw [h1, ob_some]; show ob (ob (xval E x) _) _ = _; rw [h3]; rfl), ob_some]
       show callB P .copy ats.toList [v, w] M = _
       rw [hat]
       show guard' true (copyL P st v w M rvm) = _
       rw [guard'_true]
       unfold copyL
       rw [he, ob_some, hn, ob_some, <- h4]
       simp only [fN_eq]; rfl
      ·cases hi
     ·cases hi
    ·cases hi
   | _ => cases hi

set_option maxHeartbeats 1000000 in
theorem cOp_sound (h : EnvRel sz E T) {o : Op} {i : XI} (hi : cOp P o = some i) (hs : xstep P i E M = some r) : op1 P o T M = some r := by
 cases o with
 | move x | assign x =>
  simp only [cOp] at hi
  split at hi
  ·rename_i a ha
   cases hi
   obtain ⟨v, h1, h2⟩ := ob_eq.1 hs
   show ob (ev T x) _ = _
   rw [cX_ev h ha h1]; exact h2
  ·cases hi
 | pick c a b =>
  simp only [cOp] at hi
  split at hi
  ·rename_i c' a' b' hc ha hb
   cases hi
   obtain ⟨v, h1, h2⟩ := ob_eq.1 hs
   obtain ⟨q, rfl, h3⟩ := asBool_eq.1 h2
   show ob (ev T c) _ = _
   rw [cX_ev h hc h1, ob_some]
   show ifb q _ _ = _
   cases q with
   | true => obtain ⟨w, h4, h5⟩ := ob_eq.1 (show ob (xval E a') _ = _ from h3); rw [ifb_true, cX_ev h ha h4]; exact h5
   | false => obtain ⟨w, h4, h5⟩ := ob_eq.1 (show ob (xval E b') _ = _ from h3); rw [ifb_false, cX_ev h hb h4]; exact h5
  ·cases hi
 | alloc t =>
  simp only [cOp] at hi
  split at hi
  ·rename_i z hz
   cases hi
   obtain ⟨zv, hz1, hz2, hz3⟩ := cZero_eq hz
   show ob (zeroL P t) _ = _
   rw [hz1, ob_some, hz3, guard'_true]
   obtain ⟨_, h2⟩ := guard'_eq.1 hs
   unfold newPtr
   rw [Mem.new_eq, hz2]; exact h2
  ·cases hi
 | box t x =>
  simp only [cOp] at hi
  split at hi
  ·rename_i a ha
   cases hi
   obtain ⟨v, h1, h2⟩ := ob_eq.1 hs
   show ob (ev T x) _ = _
   rw [cX_ev h ha h1, ob_some, <- h2]
   unfold newPtr
   rw [Mem.new_eq]
  ·cases hi
 | build t ps =>
  simp only [cOp] at hi
  split at hi
  ·rename_i z pl hz hpl
   split at hi
   ·rename_i l hl
    cases hi
    obtain ⟨vs, h1, h2⟩ := ob_eq.1 hs
    obtain ⟨c, h3, h4⟩ := ob_eq.1 h2
    obtain ⟨ws, h5, h6⟩ := cParts_ev h hl h1
    obtain ⟨zv, hz1, hz2, hz3⟩ := cZero_eq hz
    show ob (evParts T ps.toList) _ = _
    rw [h5, ob_some]
    unfold buildL
    rw [hz1, ob_some, hpl, ob_some, hz2, h6, h3]; exact h4
   ·cases hi
  ·cases hi
 | buildSlice t len ps =>
  simp only [cOp] at hi
  split at hi
  ·rename_i e he
   split at hi
   ·rename_i n z hn hz
    split at hi
    ·rename_i l hl
     split at hi
     ·rename_i hg
      cases hi
      obtain ⟨vs, h1, h2⟩ := ob_eq.1 hs
      obtain ⟨c, h3, h4⟩ := ob_eq.1 h2
      obtain ⟨ws, h5, h6⟩ := cParts_ev h hl h1
      obtain ⟨zv, hz1, hz2, hz3⟩ := cZero_eq hz
      show ob (evParts T ps.toList) _ = _
      rw [h5, ob_some]
      unfold buildSliceL
      rw [he, ob_some, hn, ob_some, hz1, ob_some, hz2, hg, guard'_true, h6, h3, ob_some, Mem.new_eq]; exact h4
     ·cases hi
    ·cases hi
   ·cases hi
  ·cases hi
 | load t a =>
  simp only [cOp] at hi
  split at hi
  ·rename_i a' ha hag
   cases hi
   obtain ⟨v, h1, h2⟩ := ob_eq.1 hs
   obtain ⟨id, o, rfl, h3⟩ := asPtr_eq.1 h2
   show ob (ev T a) _ = _
   rw [cX_ev h ha h1, ob_some]
   unfold loadT
   show ob (ob (aggSz P t) _) _ = _
   rw [hag]; exact h3
  ·rename_i a' n ha hag
   cases hi
   obtain ⟨v, h1, h2⟩ := ob_eq.1 hs
   obtain ⟨id, o, rfl, h3⟩ := asPtr_eq.1 h2
   obtain ⟨l, h4, h5⟩ := ob_eq.1 h3
   show ob (ev T a) _ = _
   rw [cX_ev h ha h1, ob_some]
   unfold loadT
   show ob (ob (aggSz P t) _) _ = _
   rw [hag, ob_some, oe_some, h4]; exact h5
  ·cases hi
 | store t a x =>
  simp only [cOp] at hi
  split at hi
  ·rename_i a' x' n ha hx hn
   cases hi
   obtain ⟨v, h1, h2⟩ := ob_eq.1 hs
   obtain ⟨w, h3, h4⟩ := ob_eq.1 h2
   obtain ⟨id, o, rfl, h5⟩ := asPtr_eq.1 h4
   show ob (ev T a) _ = _
   rw [cX_ev h ha h1, ob_some, cX_ev h hx h3, ob_some]
   unfold storeT
   show ob (ob (szOf P t) _) _ = _
   rw [hn, ob_some]
   obtain ⟨h6, h7⟩ := guard'_eq.1 h5
   obtain ⟨h8, h9⟩ := guard'_eq.1 h7
   rw [h6, h8]; exact h9
  ·cases hi
 | nilCheck x =>
  simp only [cOp] at hi
  split at hi
  ·rename_i a ha
   cases hi
   obtain ⟨v, h1, h2⟩ := ob_eq.1 hs
   show ob (ev T x) _ = _
   rw [cX_ev h ha h1]; exact h2
  ·cases hi
 | binOp op t x y u =>
  simp only [cOp] at hi
  split at hi
  ·rename_i a b ha hb
   exact cBinAll_sound h ha hb hi hs
  ·cases hi
 | unOp op t x =>
  simp only [cOp] at hi
  split at hi
  ·rename_i a ha
   cases hi
   obtain ⟨v, h1, h2⟩ := ob_eq.1 hs
   show ob (ev T x) _ = _
   rw [cX_ev h ha h1]; exact h2
  ·cases hi
 | convert s d x =>
  simp only [cOp] at hi
  split at hi
  ·rename_i a u k ha hs' hd
   cases hi
   obtain ⟨v, h1, h2⟩ := ob_eq.1 hs
   obtain ⟨q, n, rfl, h3⟩ := asInt_eq.1 h2
   cases h3
   show ob (ev T x) _ = _
   rw [cX_ev h ha h1, ob_some]
   unfold convL
   rw [hs', hd]
   show ob (mkI k (wr k n)) _ = _
   rw [mkI_some]; rfl
  ·rename_i a u ha hs' hd
   cases hi
   obtain ⟨v, h1, h2⟩ := ob_eq.1 hs
   obtain ⟨n, rfl, h3⟩ := asStr_eq.1 h2
   cases h3
   show ob (ev T x) _ = _
   rw [cX_ev h ha h1, ob_some]
   unfold convL
   rw [hs', hd]; rfl
  ·cases hi
 | makeFunc fn a b =>
  cases fn with
  | func g =>
   simp only [cOp] at hi
   split at hi
   ·rename_i a' b' ha hb
    cases hi
    obtain ⟨v, h1, h2⟩ := ob_eq.1 hs
    obtain ⟨w, h3, h4⟩ := ob_eq.1 h2
    show ob (evs T a.toList) _ = _
    rw [cXs_ev h ha h1, ob_some, cXs_ev h hb h3]; exact h4
   ·cases hi
  | _ => cases hi
 | makeMap t q =>
  cases q with
  | none =>
   cases hi
   show oMakeMap t none T M = _
   unfold oMakeMap
   rw [show (none : Option Operand).isNone = true from rfl, guard'_true, Mem.new_eq]; exact hs
  | some q => cases hi
 | makeSlice t l c =>
  simp only [cOp] at hi
  split at hi
  ·rename_i l' c' e hl hc he
   split at hi
   ·rename_i n z b hn hz hb
    split at hi
    ·rename_i hg
     cases hi
     obtain ⟨v, h1, h2⟩ := ob_eq.1 hs
     obtain ⟨w, h3, h4⟩ := ob_eq.1 h2
     obtain ⟨zv, hz1, hz2, hz3⟩ := cZero_eq hz
     show ob (ev T l) _ = _
     rw [cX_ev h hl h1, ob_some, cX_ev h hc h3, ob_some]
     obtain ⟨k, m, rfl, h5⟩ := asInt_eq.1 h4
     obtain ⟨k', m', rfl, h6⟩ := asInt_eq.1 h5
     obtain ⟨a, rfl, h7⟩ := nat?_eq.1 h6
     obtain ⟨a', rfl, h8⟩ := nat?_eq.1 h7
     obtain ⟨h9, h10⟩ := guard'_eq.1 h8
     unfold makeSliceL
     rw [he, ob_some]
     refine asInt_eq.2 ⟨_, _, rfl, asInt_eq.2 ⟨_, _, rfl, nat?_eq.2 ⟨a, rfl, nat?_eq.2 ⟨a', rfl, ?_⟩⟩⟩⟩
     rw [hn, ob_some, hz1, ob_some, hb, ob_some, hz2]
     simp only [Bool.and_eq_true] at h9 hg
     rw [h9.1, h9.2.1, h9.2.2, hg.1, hg.2]
     simp only [Bool.and_self, guard'_true]
     rw [Mem.new_eq]; exact h10
    ·cases hi
   ·cases hi
  ·cases hi
 | slice t x lo hi' mx =>
  simp only [cOp] at hi
  split at hi
  ·rename_i x' lo' hi'' mx' hx hlo hhi hmx
   split at hi
   ·rename_i e hu
    split at hi
    ·rename_i n hn
     cases hi
     obtain ⟨v, h1, h2⟩ := ob_eq.1 hs
     obtain ⟨v2, h3, h4⟩ := ob_eq.1 h2
     obtain ⟨v3, h5, h6⟩ := ob_eq.1 h4
     obtain ⟨v4, h7, h8⟩ := ob_eq.1 h6
     obtain ⟨a, len, full, es, rfl, h9⟩ := asSlice_eq.1 h8
     show ob (ev T x) _ = _
     rw [cX_ev h hx h1, ob_some, cXo_ev h hlo h3, ob_some, cXo_ev h hhi h5, ob_some, cXo_ev h hmx h7, ob_some]
     unfold sliceL
     rw [hu]
     show ob (ob (szOf P e) _) _ = _
     rw [hn]; exact h9
    ·cases hi
   ·rename_i hu
    cases hi
    obtain ⟨v, h1, h2⟩ := ob_eq.1 hs
    obtain ⟨v2, h3, h4⟩ := ob_eq.1 h2
    obtain ⟨v3, h5, h6⟩ := ob_eq.1 h4
    obtain ⟨v4, h7, h8⟩ := ob_eq.1 h6
    obtain ⟨s, rfl, h9⟩ := asStr_eq.1 h8
    show ob (ev T x) _ = _
    rw [cX_ev h hx h1, ob_some, cXo_ev h hlo h3, ob_some, cXo_ev h hhi h5, ob_some, cXo_ev h hmx h7, ob_some]
    unfold sliceL
    rw [hu]
    obtain ⟨h10, h11⟩ := guard'_eq.1 h9
    show ob (guard' v4.isNone _) _ = _
    rw [h10, guard'_true]
    have key : ∀ {α β : Type} (z : Option LV) (most d : Nat) (k : Nat -> Option α) (f : α -> Option β), ob (optBound z most d k) f = optBound z most d fun n => ob (k n) f := by
     intro α β z most d k f
     cases z with
     | none => rfl
     | some z =>
      show ob (asInt z fun _ i => nat? i fun n => guard' (Nat.ble n most) (k n)) f = asInt z fun _ i => nat? i fun n => guard' (Nat.ble n most) (ob (k n) f)
      cases z with
      | int q i =>
       show ob (nat? i fun n => guard' (Nat.ble n most) (k n)) f = nat? i fun n => guard' (Nat.ble n most) (ob (k n) f)
       cases i with
       | ofNat n => show ob (guard' (Nat.ble n most) (k n)) f = guard' (Nat.ble n most) (ob (k n) f); cases Nat.ble n most <;> rfl
       | negSucc n => rfl
      | _ => rfl
    rw [key, <- h11]
    congr 1
    funext n
    rw [key]
    rfl
   ·cases hi
  ·cases hi
 | fieldAddr t x f =>
  simp only [cOp] at hi
  split at hi
  ·rename_i a off n ag ha hf
   split at hi
   ·rename_i hg
    cases hi
    obtain ⟨v, h1, h2⟩ := ob_eq.1 hs
    obtain ⟨id, o, rfl, h3⟩ := asPtr_eq.1 h2
    show ob (ev T x) _ = _
    rw [cX_ev h ha h1, ob_some]
    unfold fieldAddrL
    rw [hf]
    show ob (guard' (Nat.ble 1 n) (fN (o + off) _)) _ = _
    rw [hg, guard'_true, fN_eq]; exact h3
   ·cases hi
  ·cases hi
 | field t x f =>
  simp only [cOp] at hi
  split at hi
  ·rename_i a off n ag ha hf
   cases hi
   obtain ⟨v, h1, h2⟩ := ob_eq.1 hs
   show ob (ev T x) _ = _
   rw [cX_ev h ha h1, ob_some]
   unfold fieldL
   rw [hf]
   obtain ⟨cs, rfl, h3⟩ := asAgg_eq.1 h2
   exact h3
  ·cases hi
 | indexAddr t x i' =>
  simp only [cOp] at hi
  split at hi
  ·rename_i a b len n ha hb hk
   cases hi
   obtain ⟨v, h1, h2⟩ := ob_eq.1 hs
   obtain ⟨w, h3, h4⟩ := ob_eq.1 h2
   obtain ⟨k, z, rfl, h5⟩ := asInt_eq.1 h4
   obtain ⟨j, rfl, h6⟩ := nat?_eq.1 h5
   show ob (ev T x) _ = _
   rw [cX_ev h ha h1, ob_some, cX_ev h hb h3, ob_some]
   unfold indexAddrL
   rw [hk]
   exact h6
  ·cases hi
 | index t x i' =>
  simp only [cOp] at hi
  split at hi
  ·rename_i a b len e ha hb hu
   split at hi
   ·rename_i n ag hn hag
    cases hi
    obtain ⟨v, h1, h2⟩ := ob_eq.1 hs
    obtain ⟨w, h3, h4⟩ := ob_eq.1 h2
    obtain ⟨cs, rfl, h4'⟩ := asAgg_eq.1 h4
    obtain ⟨k, z, rfl, h5⟩ := asInt_eq.1 h4'
    obtain ⟨j, rfl, h6⟩ := nat?_eq.1 h5
    obtain ⟨h7, h8⟩ := guard'_eq.1 h6
    show ob (ev T x) _ = _
    rw [cX_ev h ha h1, ob_some, cX_ev h hb h3, ob_some]
    unfold indexL
    rw [hu]
    show ob (ob (szOf P e) _) _ = _
    rw [hn, ob_some, hag, ob_some, h7, guard'_true]; exact h8
   ·cases hi
  ·rename_i a b ha hb hu
   cases hi
   obtain ⟨v, h1, h2⟩ := ob_eq.1 hs
   obtain ⟨w, h3, h4⟩ := ob_eq.1 h2
   obtain ⟨s, rfl, h4'⟩ := asStr_eq.1 h4
   obtain ⟨k, z, rfl, h5⟩ := asInt_eq.1 h4'
   obtain ⟨j, rfl, h6⟩ := nat?_eq.1 h5
   obtain ⟨b', h7, h8⟩ := ob_eq.1 h6
   cases h8
   show ob (ev T x) _ = _
   rw [cX_ev h ha h1, ob_some, cX_ev h hb h3, ob_some]
   unfold indexL
   rw [hu]
   show ob (ob s[j]? _) _ = _
   rw [h7]; rfl
  ·cases hi
 | lookup t x i' ok =>
  simp only [cOp] at hi
  split at hi
  ·rename_i a b kt et ha hb hm
   split at hi
   ·rename_i z hz
    cases hi
    obtain ⟨v, h1, h2⟩ := ob_eq.1 hs
    obtain ⟨w, h3, h4⟩ := ob_eq.1 h2
    obtain ⟨h5, h6⟩ := guard'_eq.1 h4
    show ob (ev T x) _ = _
    rw [cX_ev h ha h1, ob_some, cX_ev h hb h3, ob_some]
    unfold lookupL
    rw [hm, ob_some, pr_mk, h5, guard'_true]
    obtain ⟨q, rfl, h7⟩ := asMap_eq.1 h6
    cases q with
    | none =>
     rw [oe_none] at h7
     obtain ⟨p, h8, h9⟩ := ob_eq.1 h7
     rw [entriesOf_none, h8, ob_some]
     cases p with
     | none => cases h9; show ob (ob (zeroL P et) _) _ = _; rw [hz]; rfl
     | some p => obtain ⟨_, _, _⟩ := p; cases h9; rfl
    | some q =>
     have h7 : atMap M q _ = _ := h7
     unfold atMap at h7
     obtain ⟨lb, h8, h9⟩ := ob_eq.1 h7
     show ob (atMap M q _) _ = _
     unfold atMap
     rw [h8, ob_some]
     cases lb with
     | map es =>
      obtain ⟨p, h10, h11⟩ := ob_eq.1 (show ob (findL P kt w es 0) _ = _ from h9)
      show ob (ob (findL P kt w es 0) _) _ = _
      rw [h10, ob_some]
      cases p with
      | none => cases h11; show ob (ob (zeroL P et) _) _ = _; rw [hz]; rfl
      | some p => obtain ⟨_, _, _⟩ := p; cases h11; rfl
     | _ => cases h9
   ·cases hi
  ·cases hi
 | mapUpdate t m k v =>
  simp only [cOp] at hi
  split at hi
  ·rename_i a b c kt et ha hb hc hm
   cases hi
   obtain ⟨x, h1, h2⟩ := ob_eq.1 hs
   obtain ⟨y, h3, h4⟩ := ob_eq.1 h2
   obtain ⟨z, h5, h6⟩ := ob_eq.1 h4
   obtain ⟨h7, h8⟩ := guard'_eq.1 h6
   obtain ⟨q, rfl, h9⟩ := asMap_eq.1 h8
   obtain ⟨q, rfl, h10⟩ := ob_eq.1 h9
   show ob (ev T m) _ = _
   rw [cX_ev h ha h1, ob_some, cX_ev h hb h3, ob_some, cX_ev h hc h5, ob_some]
   unfold mapUpdateL
   rw [hm, ob_some, pr_mk, h7, guard'_true]
   show ob (atMap M q _) _ = _
   unfold atMap at h10 ⊢
   obtain ⟨lb, h11, h12⟩ := ob_eq.1 h10
   rw [h11, ob_some]
   cases lb with
   | map es =>
    obtain ⟨p, h13, h14⟩ := ob_eq.1 (show ob (findL P kt y es 0) _ = _ from h12)
    show ob (ob (findL P kt y es 0) _) _ = _
    rw [h13, ob_some]
    cases p with
    | none => cases h14; rfl
    | some p =>
     obtain ⟨i, k', v'⟩ := p
     obtain ⟨h15, h16⟩ := guard'_eq.1 (show guard' (lvEq y k') _ = _ from h14)
     cases h16
     show ob (guard' (lvEq y k') _) _ = _
     rw [h15]; rfl
   | _ => cases h12
  ·cases hi
 | extract x i' =>
  simp only [cOp] at hi
  split at hi
  ·rename_i a ha
   cases hi
   obtain ⟨v, h1, h2⟩ := ob_eq.1 hs
   show ob (ev T x) _ = _
   rw [cX_ev h ha h1]; exact h2
  ·cases hi
 | call c => exact cCall_sound h hi hs
 | _ => cases hi
end
end PvL
end
section
namespace PvL
open Go

def iMax (a b : Int) : Int := max a b
def iMin (a b : Int) : Int := min a b
noncomputable def maxX : List LV -> LV -> Option LV
 | [], x => some x
 | .int _ b :: ys, .int k a => maxX ys (.int k (iMax a b))
 | _, _ => none
noncomputable def minX : List LV -> LV -> Option LV
 | [], x => some x
 | .int _ b :: ys, .int k a => minX ys (.int k (iMin a b))
 | _, _ => none
noncomputable def binX (op : BinOp) (x y : LV) : Option LV :=
 match x, y with
 | .int k a, .int k' b => guard' (kEq k k') (match op with
  | .add => some (.int k (k.wrap (a + b)))
  | .sub => some (.int k (k.wrap (a - b)))
  | .mul => some (.int k (k.wrap (a * b)))
  | .lss => some (.bool (decide (a < b)))
  | .leq => some (.bool (decide (a <= b)))
  | .gtr => some (.bool (decide (b < a)))
  | .geq => some (.bool (decide (b <= a)))
  | .eql => some (.bool (decide (a = b)))
  | .neq => some (.bool (decide (a ≠ b)))
  | _ => none)
 | .str a, .str b => (match op with
  | .eql => some (.bool (a == b))
  | .neq => some (.bool (!(a == b)))
  | _ => none)
 | _, _ => none
noncomputable def xpure (i : XI) (E : Env) : Option LV :=
 match i with
 | .mv x => xval E x
 | .pick c a b => ob (xval E c) fun c => asBool c fun c => ifb c (xval E a) (xval E b)
 | .build z ps => ob (xParts E ps) fun l => ob (fillX l z) fun c => some (.agg c)
 | .nilc x => ob (xval E x) nilCheckL
 | .bin op x y => ob (xval E x) fun a => ob (xval E y) fun b => binX op a b
 | .eqs neg n sh x y => ob (xval E x) fun a => ob (xval E y) fun b => asAgg a fun xs => asAgg b fun ys => guard' (Nat.beq xs.length n && Nat.beq ys.length n) (ob (eqSh xs ys sh) fun r => some (.bool (ifb neg (!r) r)))
 | .un op x => ob (xval E x) fun a => (match op with
  | .neg => asInt a fun k n => some (.int k (k.wrap (0 - n)))
  | .not => asBool a fun b => some (.bool (!b))
  | _ => none)
 | .conv k x => ob (xval E x) fun a => asInt a fun _ n => some (.int k (k.wrap n))
 | .convS x => ob (xval E x) fun a => asStr a fun s => some (.str s)
 | .mkf g a b => ob (xvals E a) fun a => ob (xvals E b) fun b => some (.func (.func g) a b)
 | .fad off x => ob (xval E x) fun v => asPtr v fun i o => some (.ptr (some (i, o + off)))
 | .fld off n ag x => ob (xval E x) fun v => asAgg v fun cs => partL ag n off cs
 | .ext i x => ob (xval E x) fun v => asTup v fun vs => nth vs i
 | .len k x => ob (xval E x) fun x => (match k with
  | .str => asStr x fun s => some (.int .i64 s.size)
  | .sl => asSlice x fun _ n _ _ => some (.int .i64 n)
  | .arr n => some (.int .i64 n)
  | .map => none)
 | .max xs => ob (xvals E xs) fun l => lE l none fun x xs => maxX xs x
 | .min xs => ob (xvals E xs) fun l => lE l none fun x xs => minX xs x
 | _ => none

theorem max2_eq (a b : Int) : ifb (ilt a b) b a = max a b := by
 rw [ilt_eq]
 by_cases h : a < b
 ·rw [decide_eq_true h, ifb_true, Int.max_eq_right (by omega)]
 ·rw [decide_eq_false h, ifb_false, Int.max_eq_left (by omega)]
theorem min2_eq (a b : Int) : ifb (ilt b a) b a = min a b := by
 rw [ilt_eq]
 by_cases h : b < a
 ·rw [decide_eq_true h, ifb_true, Int.min_eq_right (by omega)]
 ·rw [decide_eq_false h, ifb_false, Int.min_eq_left (by omega)]
theorem maxX_sound : ∀ {xs : List LV} {x v : LV}, maxX xs x = some v -> foldL max2L xs x = some v
 | [], x, v, h => h
 | y :: ys, x, v, h => by
  cases y with
  | int k' b =>
   cases x with
   | int k a =>
    show ob (some (LV.int k (ifb (ilt a b) b a))) _ = _
    rw [max2_eq]
    exact maxX_sound (xs := ys) h
   | _ => cases h
  | _ => cases h
theorem minX_sound : ∀ {xs : List LV} {x v : LV}, minX xs x = some v -> foldL min2L xs x = some v
 | [], x, v, h => h
 | y :: ys, x, v, h => by
  cases y with
  | int k' b =>
   cases x with
   | int k a =>
    show ob (some (LV.int k (ifb (ilt b a) b a))) _ = _
    rw [min2_eq]
    exact minX_sound (xs := ys) h
   | _ => cases h
  | _ => cases h
section
variable {P : Program} {sz : Nat} {E : Env} {M : Mem}
theorem binX_sound {op : BinOp} {x y v : LV} (h : binX op x y = some v) : eqGd op x = true /\ binL P op 0 x y = some v := by
 unfold binX at h
 split at h
 ·rename_i k a k' b
  obtain ⟨hk, h⟩ := guard'_eq.1 h
  have hc : ∀ (f : Int -> Int -> Bool) (c : Bool), f a b = c -> cmpI f (.int k a) (.int k' b) = some (.bool c) := fun f c e => by
   show guard' (kEq k k') (mkB (f a b)) = _
   rw [hk, guard'_true, mkB_some, e]
  have ha : ∀ (f : IntKind -> Int -> Int -> Option LV) (c : LV), f k a b = some c -> arI f (.int k a) (.int k' b) = some c := fun f c e => by
   show guard' (kEq k k') (f k a b) = _
   rw [hk, guard'_true, e]
  cases op with
  | add => cases h; exact ⟨rfl, ha (fun k a b => mkI k (wr k (a + b))) _ (by show mkI k (wr k (a + b)) = _; rw [mkI_some, wr_eq])⟩
  | sub => cases h; exact ⟨rfl, ha _ _ (by rw [mkI_some, wr_eq])⟩
  | mul => cases h; exact ⟨rfl, ha _ _ (by rw [mkI_some, wr_eq])⟩
  | lss => cases h; exact ⟨rfl, hc _ _ (by simp [ilt_eq])⟩
  | leq => cases h; exact ⟨rfl, hc _ _ (by rw [Bool.eq_iff_iff]; simp [ilt_eq, Int.not_lt])⟩
  | gtr => cases h; exact ⟨rfl, hc _ _ (by simp [ilt_eq])⟩
  | geq => cases h; exact ⟨rfl, hc _ _ (by rw [Bool.eq_iff_iff]; simp [ilt_eq, Int.not_lt])⟩
  | eql => cases h; exact ⟨rfl, hc _ _ (by rw [Bool.eq_iff_iff]; simp [ieq_eq])⟩
  | neq => cases h; exact ⟨rfl, hc (fun a b => !(ieq a b)) (decide (a ≠ b)) (by rw [Bool.eq_iff_iff]; simp [ieq_eq])⟩
  | _ => cases h
 ·cases op <;> first
   |(cases h; done)
   |(cases h; refine ⟨rfl, ?_⟩; exact mkB_some _)
 ·cases h
theorem xpure_sound {i : XI} {v : LV} (h : xpure i E = some v) (M : Mem) : xstep P i E M = some (.val v M) := by
 cases i with
 | mv x => show ob (xval E x) _ = _; rw [show xval E x = some v from h]; rfl
 | pick c a b =>
  obtain ⟨w, h1, h2⟩ := ob_eq.1 h
  obtain ⟨q, rfl, h3⟩ := asBool_eq.1 h2
  show ob (xval E c) _ = _
  rw [h1]
  cases q with
  | true => show ob (xval E a) _ = _; rw [show xval E a = some v from h3]; rfl
  | false => show ob (xval E b) _ = _; rw [show xval E b = some v from h3]; rfl
 | build z ps =>
  obtain ⟨w, h1, h2⟩ := ob_eq.1 h
  obtain ⟨q, h3, h4⟩ := ob_eq.1 h2
  cases h4
  show ob (xParts E ps) _ = _
  rw [h1, ob_some, h3]; rfl
 | nilc x => obtain ⟨w, h1, h2⟩ := ob_eq.1 h; show ob (xval E x) _ = _; rw [h1, ob_some, h2]; rfl
 | bin op x y =>
  obtain ⟨a, h1, h2⟩ := ob_eq.1 h
  obtain ⟨b, h3, h4⟩ := ob_eq.1 h2
  obtain ⟨h5, h6⟩ := binX_sound (P := P) h4
  show ob (xval E x) _ = _
  rw [h1, ob_some, h3, ob_some]
  refine guard'_eq.2 ⟨h5, ?_⟩
  rw [h6]; rfl
 | eqs neg n sh x y =>
  obtain ⟨a, h1, h2⟩ := ob_eq.1 h
  obtain ⟨b, h3, h4⟩ := ob_eq.1 h2
  obtain ⟨xs, rfl, h5⟩ := asAgg_eq.1 h4
  obtain ⟨ys, rfl, h6⟩ := asAgg_eq.1 h5
  obtain ⟨h7, h8⟩ := guard'_eq.1 h6
  obtain ⟨r, h9, h10⟩ := ob_eq.1 h8
  cases h10
  show ob (xval E x) _ = _
  rw [h1, ob_some, h3, ob_some]
  show guard' _ (ob (eqSh xs ys sh) _) = _
  rw [h7, guard'_true, h9, ob_some, bEq_not]
  cases neg <;> rfl
 | un op x =>
  obtain ⟨a, h1, h2⟩ := ob_eq.1 h
  show ob (xval E x) _ = _
  rw [h1, ob_some]
  cases op with
  | neg => obtain ⟨k, n, rfl, h3⟩ := asInt_eq.1 h2; cases h3; show ob (mkI k (wr k (0 - n))) _ = _; rw [mkI_some, wr_eq]; rfl
  | not => obtain ⟨k, rfl, h3⟩ := asBool_eq.1 h2; cases h3; show ob (mkB (!k)) _ = _; rw [mkB_some]; rfl
  | _ => cases h2
 | conv k x =>
  obtain ⟨a, h1, h2⟩ := ob_eq.1 h
  obtain ⟨q, n, rfl, h3⟩ := asInt_eq.1 h2
  cases h3
  show ob (xval E x) _ = _
  rw [h1, ob_some]
  show some (R1.val (.int k (wr k n)) M) = _
  rw [wr_eq]
 | convS x =>
  obtain ⟨a, h1, h2⟩ := ob_eq.1 h
  obtain ⟨q, rfl, h3⟩ := asStr_eq.1 h2
  cases h3
  show ob (xval E x) _ = _
  rw [h1]; rfl
 | mkf g a b =>
  obtain ⟨a', h1, h2⟩ := ob_eq.1 h
  obtain ⟨b', h3, h4⟩ := ob_eq.1 h2
  cases h4
  show ob (xvals E a) _ = _
  rw [h1, ob_some, h3]; rfl
 | fad off x =>
  obtain ⟨a, h1, h2⟩ := ob_eq.1 h
  obtain ⟨i, o, rfl, h3⟩ := asPtr_eq.1 h2
  cases h3
  show ob (xval E x) _ = _
  rw [h1]; rfl
 | fld off n ag x =>
  obtain ⟨a, h1, h2⟩ := ob_eq.1 h
  obtain ⟨cs, rfl, h3⟩ := asAgg_eq.1 h2
  show ob (xval E x) _ = _
  rw [h1, ob_some]
  show ob (partL ag n off cs) _ = _
  rw [h3]; rfl
 | ext i x =>
  obtain ⟨a, h1, h2⟩ := ob_eq.1 h
  obtain ⟨cs, rfl, h3⟩ := asTup_eq.1 h2
  show ob (xval E x) _ = _
  rw [h1, ob_some]
  show ob (nth cs i) _ = _
  rw [h3]; rfl
 | len k x =>
  obtain ⟨a, h1, h2⟩ := ob_eq.1 h
  show ob (xval E x) _ = _
  rw [h1, ob_some]
  cases k with
  | str => obtain ⟨s, rfl, h3⟩ := asStr_eq.1 h2; cases h3; show ob (mkN s.size) _ = _; rw [mkN_some]; rfl
  | sl => obtain ⟨s, n, f, e, rfl, h3⟩ := asSlice_eq.1 h2; cases h3; show ob (mkN n) _ = _; rw [mkN_some]; rfl
  | arr n => cases h2; show ob (mkN n) _ = _; rw [mkN_some]; rfl
  | map => cases h2
 | max xs =>
  obtain ⟨a, h1, h2⟩ := ob_eq.1 h
  show ob (xvals E xs) _ = _
  rw [h1, ob_some]
  cases a with
  | nil => cases h2
  | cons a as => show ob (foldL max2L as a) _ = _; rw [maxX_sound h2]; rfl
 | min xs =>
  obtain ⟨a, h1, h2⟩ := ob_eq.1 h
  show ob (xvals E xs) _ = _
  rw [h1, ob_some]
  cases a with
  | nil => cases h2
  | cons a as => show ob (foldL min2L as a) _ = _; rw [minX_sound h2]; rfl
 | _ => cases h

def I64 (n : Int) : Prop := -9223372036854775808 <= n /\ n <= 9223372036854775807
theorem wrap_in {n : Int} (h : I64 n) : IntKind.wrap .i64 n = n := by
 unfold I64 at h
 have := wr_eq .i64 n
 rw [<- this]
 unfold wr isI64 inI64
 cases n with
 | ofNat m =>
  show ifb (Nat.ble m 9223372036854775807) _ _ = _
  have : Nat.ble m 9223372036854775807 = true := by rw [Nat.ble_eq]; have : (m : Int) <= _ := h.2; omega
  rw [this]; rfl
 | negSucc m =>
  show ifb (Nat.ble m 9223372036854775807) _ _ = _
  have : Nat.ble m 9223372036854775807 = true := by rw [Nat.ble_eq]; have := h.1; omega
  rw [this]; rfl
variable {x y : XO} {a b : Int}
theorem xs_add (hx : xval E x = some (.int .i64 a)) (hy : xval E y = some (.int .i64 b)) (h : -9223372036854775808 <= a + b /\ a + b <= 9223372036854775807) : xstep P (.bin .add x y) E M = some (.val (.int .i64 (a + b)) M) := by
 refine xpure_sound ?_ M
 show ob (xval E x) _ = _
 rw [hx, ob_some, hy]
 show some (LV.int .i64 (IntKind.wrap .i64 (a + b))) = _
 rw [wrap_in h]
theorem xs_sub (hx : xval E x = some (.int .i64 a)) (hy : xval E y = some (.int .i64 b)) (h : -9223372036854775808 <= a - b /\ a - b <= 9223372036854775807) : xstep P (.bin .sub x y) E M = some (.val (.int .i64 (a - b)) M) := by
 refine xpure_sound ?_ M
 show ob (xval E x) _ = _
 rw [hx, ob_some, hy]
 show some (LV.int .i64 (IntKind.wrap .i64 (a - b))) = _
 rw [wrap_in h]
theorem xs_mul (hx : xval E x = some (.int .i64 a)) (hy : xval E y = some (.int .i64 b)) (h : -9223372036854775808 <= a * b /\ a * b <= 9223372036854775807) : xstep P (.bin .mul x y) E M = some (.val (.int .i64 (a * b)) M) := by
 refine xpure_sound ?_ M
 show ob (xval E x) _ = _
 rw [hx, ob_some, hy]
 show some (LV.int .i64 (IntKind.wrap .i64 (a * b))) = _
 rw [wrap_in h]
theorem xs_neg (hx : xval E x = some (.int .i64 a)) (h : -9223372036854775808 <= -a /\ -a <= 9223372036854775807) : xstep P (.un .neg x) E M = some (.val (.int .i64 (-a)) M) := by
 refine xpure_sound ?_ M
 show ob (xval E x) _ = _
 rw [hx]
 show some (LV.int .i64 (IntKind.wrap .i64 (0 - a))) = _
 rw [Int.zero_sub, wrap_in h]
theorem xs_conv (hx : xval E x = some (.int .i64 a)) (h : -9223372036854775808 <= a /\ a <= 9223372036854775807) : xstep P (.conv .i64 x) E M = some (.val (.int .i64 a) M) := by
 refine xpure_sound ?_ M
 show ob (xval E x) _ = _
 rw [hx]
 show some (LV.int .i64 (IntKind.wrap .i64 a)) = _
 rw [wrap_in h]
theorem izero_ne {b : Int} (h : b ≠ 0) : izero b = false := by unfold izero; rw [ieq_eq]; simpa using h
theorem xs_tquo (hx : xval E x = some (.int .i64 a)) (hy : xval E y = some (.int .i64 b)) (hb : b ≠ 0) (h : -9223372036854775808 <= a.tdiv b /\ a.tdiv b <= 9223372036854775807) : xstep P (.bin .quo x y) E M = some (.val (.int .i64 (a.tdiv b)) M) := by
 show ob (xval E x) _ = _
 rw [hx, ob_some, hy, ob_some]
 show guard' true (ob (guard' true (ifb (izero b) none (mkI .i64 (wr .i64 (a.tdiv b))))) _) = _
 rw [guard'_true, guard'_true, izero_ne hb, ifb_false, mkI_some, wr_eq, wrap_in h]; rfl
theorem xs_trem (hx : xval E x = some (.int .i64 a)) (hy : xval E y = some (.int .i64 b)) (hb : b ≠ 0) : xstep P (.bin .rem x y) E M = some (.val (.int .i64 (a.tmod b)) M) := by
 show ob (xval E x) _ = _
 rw [hx, ob_some, hy, ob_some]
 show guard' true (ob (guard' true (ifb (izero b) none (mkI .i64 (a.tmod b)))) _) = _
 rw [guard'_true, guard'_true, izero_ne hb, ifb_false, mkI_some]; rfl
theorem xs_quo (hx : xval E x = some (.int .i64 a)) (hy : xval E y = some (.int .i64 b)) (ha : 0 <= a /\ a <= 9223372036854775807) (hb : 0 < b) : xstep P (.bin .quo x y) E M = some (.val (.int .i64 (a / b)) M) := by
 have e : a.tdiv b = a / b := Int.tdiv_eq_ediv_of_nonneg ha.1
 have h1 : 0 <= a / b := Int.ediv_nonneg ha.1 (by omega)
 have h2 : a / b <= a := Int.ediv_le_self b ha.1
 rw [<- e]
 exact xs_tquo hx hy (by omega) (by rw [e]; omega)
theorem xs_rem (hx : xval E x = some (.int .i64 a)) (hy : xval E y = some (.int .i64 b)) (ha : 0 <= a) (hb : b ≠ 0) : xstep P (.bin .rem x y) E M = some (.val (.int .i64 (a % b)) M) := by
 rw [<- Int.tmod_eq_emod_of_nonneg ha]
 exact xs_trem hx hy hb
end
end PvL
end
section
namespace PvL
set_option linter.unusedSectionVars false
open Go

def CallOk (P : Program) [Orc P] (f : FuncId) (args : List LV) (M : Mem) (Q : LV -> Mem -> Prop) : Prop := ∃ v M', om P (.call f args M) = some (.call v M') /\ Q v M'
def RoundOk (P : Program) [Orc P] (l : Nat) (args : List LV) (M : Mem) (Q : LV -> Mem -> Prop) : Prop := ∃ v M', om P (.round l args M) = some (.call v M') /\ Q v M'
def AppOk (P : Program) [Orc P] (f : LV) (args : List LV) (M : Mem) (Q : LV -> Mem -> Prop) : Prop :=
 match f with
 | .func (.func g) fi ca => CallOk P g (fi ++ args ++ ca) M Q
 | .func (.yield l) [] [] => RoundOk P l args M Q
 | _ => False
section
variable {P : Program} [Orc P]
theorem CallOk.mono {f : FuncId} {args : List LV} {M : Mem} {Q Q' : LV -> Mem -> Prop} (h : CallOk P f args M Q) (hq : ∀ v M', Q v M' -> Q' v M') : CallOk P f args M Q' :=
 let ⟨v, M', h1, h2⟩ := h; ⟨v, M', h1, hq _ _ h2⟩
theorem AppOk.mono {f : LV} {args : List LV} {M : Mem} {Q Q' : LV -> Mem -> Prop} (h : AppOk P f args M Q) (hq : ∀ v M', Q v M' -> Q' v M') : AppOk P f args M Q' := by
 unfold AppOk at h ⊢
 split at h
 ·exact h.mono hq
 ·exact let ⟨v, M', h1, h2⟩ := h; ⟨v, M', h1, hq _ _ h2⟩
 ·exact h.elim
theorem AppOk.opFin {f : LV} {args : List LV} {M : Mem} {Q : LV -> Mem -> Prop} (h : AppOk P f args M Q) : ∃ r v M', callV f args M = some r /\ Q v M' /\
  ∀ {α : Type} (T : Tm) (d : Option Nat) (k : Tm -> Mem -> Option α), opFin (om P) T d r k = ob (T.put d v) fun T => k T M' := by
 unfold AppOk at h
 split at h
 ·obtain ⟨v, M', h1, h2⟩ := h
  exact ⟨_, v, M', rfl, h2, fun T d k => by show outCall (om P _) _ = _; rw [h1]; rfl⟩
 ·obtain ⟨v, M', h1, h2⟩ := h
  exact ⟨_, v, M', rfl, h2, fun T d k => by show outCall (om P _) _ = _; rw [h1]; rfl⟩
 ·exact h.elim

variable {sz : Nat}
def XW (P : Program) [Orc P] (sz : Nat) (l : List XG) (E : Env) (M : Mem) (K : Env -> Mem -> Prop) : Prop :=
 ∀ (all os : List Oper) (T : Tm), cOps P sz all os = some l -> EnvRel sz E T -> ∃ T' M', opsRun P (om P) all os T M = some (T', M') /\ ∃ E', EnvRel sz E' T' /\ K E' M'
def GOn (E : Env) : Option (Nat × Bool) -> Prop | none => True | some (d, w) => look E d = some (.bool w)
def GOff (E : Env) : Option (Nat × Bool) -> Prop | none => False | some (d, w) => look E d = some (.bool (!w)) ∨ look E d = some lundef

theorem cOps_cons {all os : List Oper} {g : XG} {l : List XG} (h : cOps P sz all os = some (g :: l)) : ∃ o os', os = o :: os' /\ cOper P sz all o = some g /\ cOps P sz all os' = some l := by
 cases os with
 | nil => cases h
 | cons o os =>
  simp only [cOps] at h
  split at h
  ·rename_i g' l' h1 h2; cases h; exact ⟨o, os, rfl, h1, h2⟩
  ·cases h
theorem cOper_eq {all : List Oper} {o : Oper} {d : Option Nat} {i : XI} {g : Option (Nat × Bool)} (h : cOper P sz all o = some ⟨d, i, g⟩) : o.dst = d /\ cOp P o.op = some i /\ cGuard all o.guard = some g /\ dstIn sz d = true := by
 unfold cOper at h
 split at h
 ·rename_i i' g' h1 h2 h3; cases h; exact ⟨rfl, h1, h2, h3⟩
 ·cases h
theorem wanted_on {all : List Oper} {g : Option (Nat × Bool)} {g' : Option (Nat × Bool)} (hg : cGuard all g = some g') {E : Env} {T : Tm} (h : EnvRel sz E T) (ho : GOn E g') : wanted all T g = some true := by
 cases g with
 | none => rfl
 | some p =>
  obtain ⟨j, w⟩ := p
  unfold cGuard at hg
  simp only at hg
  split at hg
  ·rename_i d hd
   cases hg
   show oe ((all[j]?).bind (·.dst)) _ _ = _
   rw [hd, oe_some, h.look _ _ ho]
   show some (bEq w w) = _
   cases w <;> rfl
  ·cases hg
theorem wanted_off {all : List Oper} {g : Option (Nat × Bool)} {g' : Option (Nat × Bool)} (hg : cGuard all g = some g') {E : Env} {T : Tm} (h : EnvRel sz E T) (ho : GOff E g') : wanted all T g = some false := by
 cases g with
 | none => cases hg; exact ho.elim
 | some p =>
  obtain ⟨j, w⟩ := p
  unfold cGuard at hg
  simp only at hg
  split at hg
  ·rename_i d hd
   cases hg
   show oe ((all[j]?).bind (·.dst)) _ _ = _
   rw [hd, oe_some]
   rcases ho with ho | ho
   ·rw [h.look _ _ ho]
    show some (bEq (!w) w) = _
    cases w <;> rfl
   ·rw [h.look _ _ ho]; rfl
  ·cases hg

section ops
variable {E : Env} {M : Mem} {K : Env -> Mem -> Prop} {l : List XG} {d : Option Nat} {i : XI} {g : Option (Nat × Bool)}
theorem xw_nil (h : K E M) : XW P sz [] E M K := fun all os T hc he => by
 cases os with
 | nil => exact ⟨T, M, rfl, E, he, h⟩
 | cons o os =>
  simp only [cOps] at hc
  split at hc <;> cases hc
theorem xw_gen (hg : GOn E g) {r : R1} (hs : xstep P i E M = some r) {v : LV} {M' : Mem}
  (hf : ∀ {α : Type} (T : Tm) (k : Tm -> Mem -> Option α), opFin (om P) T d r k = ob (T.put d v) fun T => k T M') (hk : XW P sz l (putE E d v) M' K) : XW P sz (⟨d, i, g⟩ :: l) E M K := fun all os T hc he => by
 obtain ⟨o, os', rfl, h1, h2⟩ := cOps_cons hc
 obtain ⟨h3, h4, h5, h6⟩ := cOper_eq h1
 have h7 := cOp_sound he h4 hs
 obtain ⟨T1, hT1, he1⟩ := he.put h6 v
 obtain ⟨T', M2, h8, h9⟩ := hk all os' T1 h2 he1
 refine ⟨T', M2, ?_, h9⟩
 obtain ⟨dst, op, a1, a2, a3, gd⟩ := o
 cases h3
 show ob (wanted all T gd) _ = _
 rw [wanted_on h5 he hg, ob_some, ifb_true]
 show ob (op1 P op T M) _ = _
 rw [h7, ob_some, hf, hT1]; exact h8
theorem xw_val (hg : GOn E g) {v : LV} {M' : Mem} (hs : xstep P i E M = some (.val v M')) (hk : XW P sz l (putE E d v) M' K) : XW P sz (⟨d, i, g⟩ :: l) E M K :=
 xw_gen hg hs (fun _ _ => rfl) hk
theorem xw_skip (hg : GOn E g) {M' : Mem} (hs : xstep P i E M = some (.skip M')) (hk : XW P sz l (putE E d lundef) M' K) : XW P sz (⟨d, i, g⟩ :: l) E M K :=
 xw_gen hg hs (fun _ _ => rfl) hk
theorem xw_off (hg : GOff E g) (hk : XW P sz l (putE E d lundef) M K) : XW P sz (⟨d, i, g⟩ :: l) E M K := fun all os T hc he => by
 obtain ⟨o, os', rfl, h1, h2⟩ := cOps_cons hc
 obtain ⟨h3, h4, h5, h6⟩ := cOper_eq h1
 obtain ⟨T1, hT1, he1⟩ := he.put h6 lundef
 obtain ⟨T', M2, h8, h9⟩ := hk all os' T1 h2 he1
 refine ⟨T', M2, ?_, h9⟩
 obtain ⟨dst, op, a1, a2, a3, gd⟩ := o
 cases h3
 show ob (wanted all T gd) _ = _
 rw [wanted_off h5 he hg, ob_some, ifb_false, hT1]; exact h8
theorem xw_call (hg : GOn E g) {f : XO} {as : List XO} {fv : LV} {vs : List LV} (hf : xval E f = some fv) (has : xvals E as = some vs) {Q : LV -> Mem -> Prop} (h : AppOk P fv vs M Q)
  (hk : ∀ v M', Q v M' -> XW P sz l (putE E d v) M' K) : XW P sz (⟨d, .call f as, g⟩ :: l) E M K := by
 obtain ⟨r, v, M', h1, h2, h3⟩ := h.opFin
 refine xw_gen hg (r := r) (v := v) (M' := M') ?_ (fun T k => h3 T d k) (hk v M' h2)
 show ob (xvals E as) _ = _
 rw [has, ob_some, hf]; exact h1
theorem xw_sub {E' : Env} (hs : ∀ t v, look E' t = some v -> look E t = some v) (h : XW P sz l E' M K) : XW P sz l E M K := fun all os T hc he => h all os T hc (he.sub hs)
theorem xw_know {t : Nat} {v v' : LV} (ht : look E t = some v) (hv : v = v') (h : XW P sz l ((t, v') :: E) M K) : XW P sz l E M K := by
 subst hv
 refine xw_sub (fun u w hu => ?_) h
 have hu : (match Nat.beq t u with | true => some v | false => look E u) = some w := hu
 cases hb : Nat.beq t u with
 | true => rw [hb] at hu; obtain rfl := Nat.eq_of_beq_eq_true hb; rw [ht]; exact hu
 | false => rw [hb] at hu; exact hu
theorem xw_split {t : Nat} {b : Bool} (ht : look E t = some (.bool b)) (h1 : b = true -> XW P sz l ((t, .bool true) :: E) M K) (h0 : b = false -> XW P sz l ((t, .bool false) :: E) M K) : XW P sz l E M K := by
 cases hb : b with
 | true => exact xw_know ht (by rw [hb]) (h1 hb)
 | false => exact xw_know ht (by rw [hb]) (h0 hb)
end ops

def ObAt (lo hi : Nat) (q : Mem -> Prop) : List Mem -> Nat -> Prop
 | [], _ => True
 | m :: ms, k => ((Nat.ble lo k && Nat.ble k hi) = true -> q m) /\ ObAt lo hi q ms (k - 1)
def ObAll (st : List Mem) (k : Nat) : List (Nat × Nat × (Mem -> Prop)) -> Prop
 | [] => True
 |(lo, hi, q) :: ps => ObAt lo hi q st k /\ ObAll st k ps
theorem ob_at_nil {lo hi k : Nat} {q : Mem -> Prop} : ObAt lo hi q [] k := trivial
theorem ob_at_in {lo hi k : Nat} {q : Mem -> Prop} {m : Mem} {ms : List Mem} (h : q m) (h' : ObAt lo hi q ms (k - 1)) : ObAt lo hi q (m :: ms) k := ⟨fun _ => h, h'⟩
theorem ob_at_out {lo hi k : Nat} {q : Mem -> Prop} {m : Mem} {ms : List Mem} (h : (Nat.ble lo k && Nat.ble k hi) = false) (h' : ObAt lo hi q ms (k - 1)) : ObAt lo hi q (m :: ms) k := ⟨fun h2 => (by rw [h] at h2; cases h2), h'⟩
theorem ob_nil {st : List Mem} {k : Nat} : ObAll st k [] := trivial
theorem ob_cons {st : List Mem} {k lo hi : Nat} {q : Mem -> Prop} {ps : List (Nat × Nat × (Mem -> Prop))} (h : ObAt lo hi q st k) (h' : ObAll st k ps) : ObAll st k ((lo, hi, q) :: ps) := ⟨h, h'⟩

theorem bytes_refl (s : ByteArray) : (s == s) = true := by
 show (s.data == s.data) = true
 simp
mutual
theorem lvEq_refl : ∀ v : LV, lvEq v v = true
 | .int k n => by unfold lvEq; simp [kEq_iff, ieq_eq]
 | .bool b => by unfold lvEq; cases b <;> rfl
 | .str s => by unfold lvEq; exact bytes_refl s
 | .ptr none => by unfold lvEq; rfl
 | .ptr (some (a, b)) => by unfold lvEq; simp
 | .slice none n f e => by unfold lvEq; cases f <;> simp [bEq]
 | .slice (some (a, b)) n f e => by unfold lvEq; cases f <;> simp [bEq]
 | .map none => by unfold lvEq; rfl
 | .map (some a) => by unfold lvEq; simp
 | .func f a b => by unfold lvEq; simp [lvEqs_refl a, lvEqs_refl b]
 | .nilFunc => by unfold lvEq; rfl
 | .nilIface => by unfold lvEq; rfl
 | .agg a => by unfold lvEq; exact lvEqs_refl a
 | .tup a => by unfold lvEq; exact lvEqs_refl a
 | .unk => by unfold lvEq; rfl
theorem lvEqs_refl : ∀ v : List LV, lvEqs v v = true
 | [] => by unfold lvEqs; rfl
 | a :: as => by unfold lvEqs; rw [lvEq_refl a, lvEqs_refl as]; rfl
end
def Cov (P : Program) [Orc P] (ps : List Pend) (xs : List (Nat × Nat × (Mem -> Prop))) : Prop := ∀ st k, ObAll st k xs -> pendAll P st k ps = true
def XD (P : Program) [Orc P] (sz : Nat) (l : List (XG × XK)) (E : Env) (M : Mem) (st : List Mem) (k : Nat) (xs : List (Nat × Nat × (Mem -> Prop))) (K : Env -> Mem -> Prop) : Prop :=
 ∀ (all : List Oper) (ds : List Nat) (os : List Oper) (n : Nat) (T : Tm) (ps : List Pend), cDrawn P sz all ds os n = some l -> EnvRel sz E T -> Cov P ps xs ->
  ∃ s, drawRun P (om P) all ds os n ⟨T, M, st, k, ps⟩ = some s /\ pendAll P s.st s.k s.ps = true /\ ∃ E', EnvRel sz E' s.T /\ K E' s.m
theorem cDrawn_cons {all os : List Oper} {ds : List Nat} {n : Nat} {g : XG} {kd : XK} {l : List (XG × XK)} (h : cDrawn P sz all ds os n = some ((g, kd) :: l)) :
  ∃ o os', os = o :: os' /\ cOper P sz all o = some g /\ kd = cKind P all ds n o g.i /\ cDrawn P sz all ds os' (n + 1) = some l := by
 cases os with
 | nil => cases h
 | cons o os =>
  simp only [cDrawn] at h
  split at h
  ·rename_i g' l' h1 h2; cases h; exact ⟨o, os, rfl, h1, rfl, h2⟩
  ·cases h
theorem pendAt_of (p : Pend) (q : Mem -> Prop) (hq : ∀ m, q m -> pendHere P p m = true) : ∀ (st : List Mem) (k : Nat), ObAt p.lo p.hi q st k -> pendAt P p st k = true
 | [], _, _ => rfl
 | m :: ms, k, h => by
  show (ifb (Nat.ble p.lo k && Nat.ble k p.hi) (pendHere P p m) true && pendAt P p ms (k - 1)) = true
  rw [pendAt_of p q hq ms (k - 1) h.2, Bool.and_true]
  cases hb : (Nat.ble p.lo k && Nat.ble k p.hi) with
  | true => exact hq m (h.1 hb)
  | false => rfl
theorem pendAt_all (p : Pend) (hq : ∀ m, pendHere P p m = true) (st : List Mem) (k : Nat) : pendAt P p st k = true :=
 pendAt_of p (fun _ => True) (fun m _ => hq m) st k (by
  induction st generalizing k with
  | nil => trivial
  | cons m ms ih => exact ⟨fun _ => trivial, ih _⟩)
theorem xCalm_same {i : XI} (h : xCalm i = true) {E : Env} {M M1 : Mem} {v : LV} (hs : xstep P i E M = some (.val v M1)) (M' : Mem) : xstep P i E M' = some (.val v M') := by
 cases i with
 | max xs =>
  obtain ⟨a, h1, h2⟩ := ob_eq.1 (show ob (xvals E xs) _ = _ from hs)
  cases a with
  | nil => cases h2
  | cons a as =>
   obtain ⟨b, h3, h4⟩ := ob_eq.1 (show ob (foldL max2L as a) _ = _ from h2)
   cases h4
   show ob (xvals E xs) _ = _
   rw [h1, ob_some]; show ob (foldL max2L as a) _ = _; rw [h3]; rfl
 | min xs =>
  obtain ⟨a, h1, h2⟩ := ob_eq.1 (show ob (xvals E xs) _ = _ from hs)
  cases a with
  | nil => cases h2
  | cons a as =>
   obtain ⟨b, h3, h4⟩ := ob_eq.1 (show ob (foldL min2L as a) _ = _ from h2)
   cases h4
   show ob (xvals E xs) _ = _
   rw [h1, ob_some]; show ob (foldL min2L as a) _ = _; rw [h3]; rfl
 | len k x =>
  obtain ⟨a, h1, h2⟩ := ob_eq.1 (show ob (xval E x) _ = _ from hs)
  show ob (xval E x) _ = _
  rw [h1, ob_some]
  cases k with
  | map => cases h
  | str => obtain ⟨b, h3, h4⟩ := ob_eq.1 (show ob (asStr a fun s => mkN s.size) _ = _ from h2); cases h4; show ob (asStr a fun s => mkN s.size) _ = _; rw [h3]; rfl
  | sl => obtain ⟨b, h3, h4⟩ := ob_eq.1 (show ob (asSlice a fun _ n _ _ => mkN n) _ = _ from h2); cases h4; show ob (asSlice a fun _ n _ _ => mkN n) _ = _; rw [h3]; rfl
  | arr n => obtain ⟨b, h3, h4⟩ := ob_eq.1 (show ob (mkN n) _ = _ from h2); cases h4; show ob (mkN n) _ = _; rw [h3]; rfl
 | _ => cases h

def KdOk (P : Program) [Orc P] (kd : XK) (E : Env) (M : Mem) (i : XI) (d : Option Nat) (r : R1) (v : LV) (M' : Mem) (st : List Mem) (k : Nat) (xs : List (Nat × Nat × (Mem -> Prop))) (st' : List Mem) (k' : Nat) (xs' : List (Nat × Nat × (Mem -> Prop))) : Prop :=
 match kd with
 | .calm => st' = st /\ k' = k /\ xs' = xs /\ r = R1.val v M /\ M' = M /\ d.isSome = true
 | .new => st' = st /\ k' = k /\ xs' = xs
 | .anchor => st' = M' :: st /\ k' = k + 1 /\ xs' = xs
 | .reads lo hi => st' = st /\ k' = k /\ M' = M /\ ∃ q : Mem -> Prop, xs' = (lo, hi, q) :: xs /\ d.isSome = true /\ ∀ m, q m -> xstep P i E m = some (.val v m)
section drawn
variable {E : Env} {M : Mem} {K : Env -> Mem -> Prop} {l : List (XG × XK)} {d : Option Nat} {i : XI} {g : Option (Nat × Bool)} {st : List Mem} {k : Nat} {xs : List (Nat × Nat × (Mem -> Prop))}
theorem xd_nil (ho : ObAll st k xs) (h : K E M) : XD P sz [] E M st k xs K := fun all ds os n T ps hc he hcov => by
 cases os with
 | nil => exact ⟨_, rfl, hcov _ _ ho, E, he, h⟩
 | cons o os =>
  simp only [cDrawn] at hc
  split at hc <;> cases hc
theorem xd_gen {kd : XK} (hg : GOn E g) {r : R1} (hs : xstep P i E M = some r) {v : LV} {M' : Mem}
  (hf : ∀ {α : Type} (T : Tm) (k : Tm -> Mem -> Option α), opFin (om P) T d r k = ob (T.put d v) fun T => k T M')
  {st' : List Mem} {k' : Nat} {xs' : List (Nat × Nat × (Mem -> Prop))}
  (hkd : KdOk P kd E M i d r v M' st k xs st' k' xs')
  (hk : XD P sz l (putE E d v) M' st' k' xs' K) : XD P sz ((⟨d, i, g⟩, kd) :: l) E M st k xs K := fun all ds os n T ps hc he hcov => by
 obtain ⟨o, os', rfl, h1, h2, h2'⟩ := cDrawn_cons hc
 obtain ⟨h3, h4, h5, h6⟩ := cOper_eq h1
 have h7 := cOp_sound he h4 hs
 obtain ⟨T1, hT1, he1⟩ := he.put h6 v
 obtain ⟨dst, op, a1, a2, a3, gd⟩ := o
 have h3 : d = dst := h3.symm
 subst h3
 have hrun : ∀ (k : Tm -> Mem -> Option DS), opFull P (om P) T M op d k = k T1 M' := fun k => by
  show ob (op1 P op T M) _ = _
  rw [h7, ob_some, hf, hT1]; rfl
 have hpend : ∀ m, xstep P i E m = some (.val v m) -> d.isSome = true -> ∀ lo hi, pendHere P { op := op, T := T, v := dstV T1 d, lo := lo, hi := hi } m = true := fun m hm hd lo hi => by
  unfold pendHere
  have := cOp_sound he h4 hm
  have e : op1 P ({ op := op, T := T, v := dstV T1 d, lo := lo, hi := hi } : Pend).op ({ op := op, T := T, v := dstV T1 d, lo := lo, hi := hi } : Pend).T m = some (.val v m) := this
  rw [e]
  cases d with
  | none => cases hd
  | some d =>
   show lvEq v (T1.get d) = true
   rw [Tm.get_set hT1, if_pos rfl]; exact lvEq_refl v
 unfold drawRun
 simp only
 rw [wanted_on h5 he hg, ob_some, ifb_true, hrun]
 unfold cKind at h2
 simp only at h2
 cases hcl : cls P op with
 | mover =>
  rw [hcl] at h2
  simp only at h2 ⊢
  cases hr : (readsMem op && !(xCalm i)) with
  | true =>
   rw [hr] at h2
   simp only [Bool.and_eq_true] at hr
   rw [if_pos rfl] at h2
   subst h2
   obtain ⟨rfl, rfl, rfl, q, rfl, hd, hq⟩ := hkd
   rw [hr.1, ifb_true]
   refine hk all ds os' (n + 1) T1 _ h2' he1 fun st k ho => ?_
   show (pendAt P _ st k && pendAll P st k ps) = true
   rw [hcov st k ho.2, Bool.and_true]
   exact pendAt_of _ q (fun m hm => hpend m (hq m hm) hd _ _) st k ho.1
  | false =>
   rw [hr] at h2
   rw [if_neg (by decide)] at h2
   subst h2
   obtain ⟨rfl, rfl, rfl, rfl, rfl, hd⟩ := hkd
   cases hrm : readsMem op with
   | false =>
    rw [ifb_false]
    exact hk all ds os' (n + 1) T1 _ h2' he1 hcov
   | true =>
    rw [ifb_true]
    rw [hrm] at hr
    have hcalm : xCalm i = true := by simpa using hr
    refine hk all ds os' (n + 1) T1 _ h2' he1 fun st k ho => ?_
    show (pendAt P _ st k && pendAll P st k ps) = true
    rw [hcov st k ho, Bool.and_true]
    exact pendAt_all _ (fun m => hpend m (xCalm_same hcalm hs m) hd _ _) st k
 | new =>
  rw [hcl] at h2
  subst h2
  obtain ⟨rfl, rfl, rfl⟩ := hkd
  exact hk all ds os' (n + 1) T1 _ h2' he1 hcov
 | calm =>
  rw [hcl] at h2
  subst h2
  obtain ⟨rfl, rfl, rfl⟩ := hkd
  exact hk all ds os' (n + 1) T1 _ h2' he1 hcov
 | anchor =>
  rw [hcl] at h2
  subst h2
  obtain ⟨rfl, rfl, rfl⟩ := hkd
  exact hk all ds os' (n + 1) T1 _ h2' he1 hcov
end drawn
end
end PvL
end
section
namespace PvL
set_option linter.unusedSectionVars false
open Go
section
variable {P : Program} [Orc P] {sz : Nat}
section drawn
variable {E : Env} {M : Mem} {K : Env -> Mem -> Prop} {l : List (XG × XK)} {d : Nat} {od : Option Nat} {i : XI} {g : Option (Nat × Bool)} {st : List Mem} {k : Nat} {xs : List (Nat × Nat × (Mem -> Prop))}
theorem xd_val (hg : GOn E g) {v : LV} (hs : xstep P i E M = some (.val v M)) (hk : XD P sz l ((d, v) :: E) M st k xs K) : XD P sz ((⟨some d, i, g⟩, .calm) :: l) E M st k xs K :=
 xd_gen hg hs (fun _ _ => rfl) (by exact ⟨rfl, rfl, rfl, rfl, rfl, rfl⟩) hk
theorem xd_read {lo hi : Nat} (hg : GOn E g) {v : LV} (hs : xstep P i E M = some (.val v M)) (q : Mem -> Prop) (hq : ∀ m, q m -> xstep P i E m = some (.val v m)) (hk : XD P sz l ((d, v) :: E) M st k ((lo, hi, q) :: xs) K) :
  XD P sz ((⟨some d, i, g⟩, .reads lo hi) :: l) E M st k xs K :=
 xd_gen hg hs (fun _ _ => rfl) (by exact ⟨rfl, rfl, rfl, q, rfl, rfl, hq⟩) hk
theorem xd_new (hg : GOn E g) {v : LV} {M' : Mem} (hs : xstep P i E M = some (.val v M')) (hk : XD P sz l (putE E od v) M' st k xs K) : XD P sz ((⟨od, i, g⟩, .new) :: l) E M st k xs K :=
 xd_gen hg hs (fun _ _ => rfl) (by exact ⟨rfl, rfl, rfl⟩) hk
theorem xd_anchor (hg : GOn E g) {v : LV} {M' : Mem} (hs : xstep P i E M = some (.val v M')) (hk : XD P sz l (putE E od v) M' (M' :: st) (k + 1) xs K) : XD P sz ((⟨od, i, g⟩, .anchor) :: l) E M st k xs K :=
 xd_gen hg hs (fun _ _ => rfl) (by exact ⟨rfl, rfl, rfl⟩) hk
theorem xd_skip (hg : GOn E g) {M' : Mem} (hs : xstep P i E M = some (.skip M')) (hk : XD P sz l (putE E od lundef) M' (M' :: st) (k + 1) xs K) : XD P sz ((⟨od, i, g⟩, .anchor) :: l) E M st k xs K :=
 xd_gen hg hs (fun _ _ => rfl) (by exact ⟨rfl, rfl, rfl⟩) hk
theorem xd_call (hg : GOn E g) {f : XO} {as : List XO} {fv : LV} {vs : List LV} (hf : xval E f = some fv) (has : xvals E as = some vs) {Q : LV -> Mem -> Prop} (h : AppOk P fv vs M Q)
  (hk : ∀ v M', Q v M' -> XD P sz l (putE E od v) M' (M' :: st) (k + 1) xs K) : XD P sz ((⟨od, .call f as, g⟩, .anchor) :: l) E M st k xs K := by
 obtain ⟨r, v, M', h1, h2, h3⟩ := h.opFin
 refine xd_gen hg (r := r) (v := v) (M' := M') ?_ (fun T k => h3 T od k) (by exact ⟨rfl, rfl, rfl⟩) (hk v M' h2)
 show ob (xvals E as) _ = _
 rw [has, ob_some, hf]; exact h1
theorem xd_callp (hg : GOn E g) {f : XO} {as : List XO} {fv : LV} {vs : List LV} (hf : xval E f = some fv) (has : xvals E as = some vs) {Q : LV -> Mem -> Prop} (h : AppOk P fv vs M Q)
  (hk : ∀ v M', Q v M' -> XD P sz l (putE E od v) M' st k xs K) : XD P sz ((⟨od, .call f as, g⟩, .new) :: l) E M st k xs K := by
 obtain ⟨r, v, M', h1, h2, h3⟩ := h.opFin
 refine xd_gen hg (r := r) (v := v) (M' := M') ?_ (fun T k => h3 T od k) (by exact ⟨rfl, rfl, rfl⟩) (hk v M' h2)
 show ob (xvals E as) _ = _
 rw [has, ob_some, hf]; exact h1
theorem xd_off {kd : XK} (hg : GOff E g) {st' : List Mem} {k' : Nat} (hkd : match kd with | .anchor => st' = M :: st /\ k' = k + 1 | _ => st' = st /\ k' = k) (hk : XD P sz l (putE E od lundef) M st' k' xs K) :
  XD P sz ((⟨od, i, g⟩, kd) :: l) E M st k xs K := fun all ds os n T ps hc he hcov => by
 obtain ⟨o, os', rfl, h1, h2, h2'⟩ := cDrawn_cons hc
 obtain ⟨h3, h4, h5, h6⟩ := cOper_eq h1
 obtain ⟨T1, hT1, he1⟩ := he.put h6 lundef
 obtain ⟨dst, op, a1, a2, a3, gd⟩ := o
 have h3 : od = dst := h3.symm
 subst h3
 unfold drawRun
 simp only
 rw [wanted_off h5 he hg, ob_some, ifb_false, hT1, ob_some]
 unfold cKind at h2
 simp only at h2
 cases hcl : cls P op with
 | mover =>
  rw [hcl] at h2
  simp only at h2 ⊢
  cases hr : (readsMem op && !(xCalm i)) with
  | true =>
   rw [hr, if_pos rfl] at h2
   subst h2
   obtain ⟨rfl, rfl⟩ := hkd
   exact hk all ds os' (n + 1) T1 _ h2' he1 hcov
  | false =>
   rw [hr, if_neg (by decide)] at h2
   subst h2
   obtain ⟨rfl, rfl⟩ := hkd
   exact hk all ds os' (n + 1) T1 _ h2' he1 hcov
 | new =>
  rw [hcl] at h2
  subst h2
  obtain ⟨rfl, rfl⟩ := hkd
  exact hk all ds os' (n + 1) T1 _ h2' he1 hcov
 | calm =>
  rw [hcl] at h2
  subst h2
  obtain ⟨rfl, rfl⟩ := hkd
  exact hk all ds os' (n + 1) T1 _ h2' he1 hcov
 | anchor =>
  rw [hcl] at h2
  subst h2
  obtain ⟨rfl, rfl⟩ := hkd
  exact hk all ds os' (n + 1) T1 _ h2' he1 hcov
theorem xd_sub {E' : Env} (hs : ∀ t v, look E' t = some v -> look E t = some v) (h : XD P sz l E' M st k xs K) : XD P sz l E M st k xs K := fun all ds os n T ps hc he hcov => h all ds os n T ps hc (he.sub hs) hcov
theorem look_know {t : Nat} {v : LV} (ht : look E t = some v) : ∀ u w, look ((t, v) :: E) u = some w -> look E u = some w := fun u w hu => by
 have hu : (match Nat.beq t u with | true => some v | false => look E u) = some w := hu
 cases hb : Nat.beq t u with
 | true => rw [hb] at hu; obtain rfl := Nat.eq_of_beq_eq_true hb; rw [ht]; exact hu
 | false => rw [hb] at hu; exact hu
theorem xd_know {t : Nat} {v v' : LV} (ht : look E t = some v) (hv : v = v') (h : XD P sz l ((t, v') :: E) M st k xs K) : XD P sz l E M st k xs K := by
 subst hv
 exact xd_sub (look_know ht) h
theorem xd_split {t : Nat} {b : Bool} (ht : look E t = some (.bool b)) (h1 : b = true -> XD P sz l ((t, .bool true) :: E) M st k xs K) (h0 : b = false -> XD P sz l ((t, .bool false) :: E) M st k xs K) : XD P sz l E M st k xs K := by
 cases hb : b with
 | true => exact xd_know ht (by rw [hb]) (h1 hb)
 | false => exact xd_know ht (by rw [hb]) (h0 hb)
end drawn

def W (P : Program) [Orc P] (fn : FuncId) (ro : Option Nat) (sz : Nat) (c : XC) (E : Env) (ms : List Nat) (M : Mem) (K : Ex -> Env -> List Nat -> Mem -> Prop) : Prop :=
 ∀ (code : Code) (T : Tm), cCode P sz code = some c -> EnvRel sz E T -> ∃ e T' ms' M', om P (.code fn ro code T ms M) = some (.code e T' ms' M') /\ ∃ E', EnvRel sz E' T' /\ K e E' ms' M'
def KSeq (P : Program) [Orc P] (fn : FuncId) (ro : Option Nat) (sz : Nat) (b : XC) (K : Ex -> Env -> List Nat -> Mem -> Prop) (e : Ex) (E : Env) (ms : List Nat) (M : Mem) : Prop :=
 match e with | .norm => W P fn ro sz b E ms M K | .ret => K .ret E ms M | .exit id => K (.exit id) E ms M
def KBlock (id : Nat) (K : Ex -> Env -> List Nat -> Mem -> Prop) (e : Ex) (E : Env) (ms : List Nat) (M : Mem) : Prop :=
 match e with | .norm => K .norm E ms M | .ret => K .ret E ms M | .exit id' => if id' = id then K .norm E ms M else K (.exit id') E ms M
def KLoop (P : Program) [Orc P] (fn : FuncId) (ro : Option Nat) (sz : Nat) (b : XC) (K : Ex -> Env -> List Nat -> Mem -> Prop) (e : Ex) (E : Env) (ms : List Nat) (M : Mem) : Prop :=
 match e with | .norm => W P fn ro sz (.loop b) E ms M K | .ret => K .ret E ms M | .exit id => K (.exit id) E ms M
inductive ResX (E : Env) (M : Mem) : List XR -> List LV -> Prop
 | nil : ResX E M [] []
 | tmp {t : Nat} {v : LV} {rs : List XR} {vs : List LV} (h : look E t = some v) (hr : ResX E M rs vs) : ResX E M (.tmp t :: rs) (v :: vs)
 | cell1 {t i o : Nat} {v : LV} {rs : List XR} {vs : List LV} (h : look E t = some (.ptr (some (i, o)))) (hv : load1 M i o = some v) (hr : ResX E M rs vs) : ResX E M (.cell1 t :: rs) (v :: vs)
 | cellN {t n i o : Nat} {l : List LV} {rs : List XR} {vs : List LV} (h : look E t = some (.ptr (some (i, o)))) (hv : loadN M i o n = some l) (hr : ResX E M rs vs) : ResX E M (.cellN t n :: rs) (.agg l :: vs)
def Marks : List Nat -> Mem -> Mem -> Prop
 | [], M, M' => M' = M
 | d :: ds, M, M' => M.get d = some .defr /\ Marks ds (M.upd d none) M'
def KFun (res : List XR) (Q : LV -> Mem -> Prop) (e : Ex) (E : Env) (ms : List Nat) (M : Mem) : Prop :=
 match e with
 | .exit _ => False
 | _ => ∃ M', Marks ms M M' /\ ∃ vs, ResX E M' res vs /\ Q (packed vs) M'

section code
variable {fn : FuncId} {ro : Option Nat} {E : Env} {ms : List Nat} {M : Mem} {K : Ex -> Env -> List Nat -> Mem -> Prop}
theorem w_of {c : XC} (h : ∀ code T, cCode P sz code = some c -> EnvRel sz E T -> ∃ e T' ms' M', stCode P (om P) fn ro code T ms M = some (.code e T' ms' M') /\ ∃ E', EnvRel sz E' T' /\ K e E' ms' M') : W P fn ro sz c E ms M K := fun code T hc he => by
 obtain ⟨e, T', ms', M', h1, h2⟩ := h code T hc he
 refine ⟨e, T', ms', M', ?_, h2⟩
 rw [om_code]; exact h1
theorem w_skip (h : K .norm E ms M) : W P fn ro sz .skip E ms M K := w_of fun code T hc he => by
 cases code with
 | skip | label l => exact ⟨.norm, T, ms, M, rfl, E, he, h⟩
 | region _ _ d => cases d <;> simp only [cCode] at hc <;> (repeat' split at hc) <;> cases hc
 | ret | exit | goto | refuse => cases hc
 | _ => simp only [cCode] at hc; split at hc <;> cases hc
theorem w_ret (h : K .ret E ms M) : W P fn ro sz .ret E ms M K := w_of fun code T hc he => by
 cases code with
 | ret => exact ⟨.ret, T, ms, M, rfl, E, he, h⟩
 | region _ _ d => cases d <;> simp only [cCode] at hc <;> (repeat' split at hc) <;> cases hc
 | skip | label | exit | goto | refuse => cases hc
 | _ => simp only [cCode] at hc; split at hc <;> cases hc
theorem w_exit {id : Nat} (h : K (.exit id) E ms M) : W P fn ro sz (.exit id) E ms M K := w_of fun code T hc he => by
 cases code with
 | exit i => cases hc; exact ⟨.exit id, T, ms, M, rfl, E, he, h⟩
 | region _ _ d => cases d <;> simp only [cCode] at hc <;> (repeat' split at hc) <;> cases hc
 | skip | label | ret | goto | refuse => cases hc
 | _ => simp only [cCode] at hc; split at hc <;> cases hc
theorem w_ops {l : List XG} (h : XW P sz l E M fun E M => K .norm E ms M) : W P fn ro sz (.ops l) E ms M K := w_of fun code T hc he => by
 cases code with
 | region i ops d =>
  cases d with
  | false =>
   simp only [cCode] at hc
   split at hc
   ·rename_i l' hl
    cases hc
    obtain ⟨T', M', h1, h2⟩ := h _ _ T hl he
    refine ⟨.norm, T', ms, M', ?_, h2⟩
    show ob (opsRun P (om P) ops.toList ops.toList T M) _ = _
    rw [h1]; rfl
   ·cases hc
  | true => simp only [cCode] at hc; (repeat' split at hc) <;> cases hc
 | skip | label | ret | goto | refuse | exit => cases hc
 | _ => simp only [cCode] at hc; split at hc <;> cases hc
theorem w_draw {l : List (XG × XK)} (h : XD P sz l E M [M] 0 [] fun E M => K .norm E ms M) : W P fn ro sz (.draw l) E ms M K := w_of fun code T hc he => by
 cases code with
 | region i ops d =>
  cases d with
  | true =>
   simp only [cCode] at hc
   split at hc
   ·rename_i hok
    split at hc
    ·rename_i l' hl
     cases hc
     obtain ⟨s, h1, h2, h3⟩ := h _ _ _ 0 T [] hl he (fun st k _ => rfl)
     obtain ⟨T', M', st', k', ps'⟩ := s
     refine ⟨.norm, T', ms, M', ?_, h3⟩
     show guard' (regionOk P ops) (ob (drawRun P (om P) ops.toList (deps ops) ops.toList 0 ⟨T, M, [M], 0, []⟩) _) = _
     rw [hok, guard'_true, h1, ob_some]
     show guard' (pendAll P st' k' ps') _ = _
     rw [show pendAll P st' k' ps' = true from h2]; rfl
    ·cases hc
   ·cases hc
  | false => simp only [cCode] at hc; (repeat' split at hc) <;> cases hc
 | skip | label | ret | goto | refuse | exit => cases hc
 | _ => simp only [cCode] at hc; split at hc <;> cases hc
theorem w_seq {a b : XC} (h : W P fn ro sz a E ms M (KSeq P fn ro sz b K)) : W P fn ro sz (.seq a b) E ms M K := w_of fun code T hc he => by
 cases code with
 | seq a' b' =>
  simp only [cCode] at hc
  split at hc
  ·rename_i x y hx hy
   cases hc
   obtain ⟨e, T', ms', M', h1, E', h2, h3⟩ := h a' T hx he
   show ∃ e T' ms' M', outCode (om P _) _ = _ /\ _
   rw [h1]
   cases e with
   | norm => exact h3 b' T' hy h2
   | ret => exact ⟨.ret, T', ms', M', rfl, E', h2, h3⟩
   | exit i => exact ⟨.exit i, T', ms', M', rfl, E', h2, h3⟩
  ·cases hc
 | region _ _ d => cases d <;> simp only [cCode] at hc <;> (repeat' split at hc) <;> cases hc
 | skip | label | ret | goto | refuse | exit => cases hc
 | _ => simp only [cCode] at hc; split at hc <;> cases hc
theorem w_cond {x : XO} {a b : XC} {q : Bool} (hx : xval E x = some (.bool q)) (h1 : q = true -> W P fn ro sz a E ms M K) (h0 : q = false -> W P fn ro sz b E ms M K) : W P fn ro sz (.cond x a b) E ms M K := w_of fun code T hc he => by
 cases code with
 | cond x' a' b' =>
  simp only [cCode] at hc
  split at hc
  ·rename_i y z w hy hz hw
   cases hc
   show ∃ e T' ms' M', ob (ev T x') _ = _ /\ _
   rw [cX_ev he hy hx]
   cases q with
   | true => exact h1 rfl a' T hz he
   | false => exact h0 rfl b' T hw he
  ·cases hc
 | region _ _ d => cases d <;> simp only [cCode] at hc <;> (repeat' split at hc) <;> cases hc
 | skip | label | ret | goto | refuse | exit => cases hc
 | _ => simp only [cCode] at hc; split at hc <;> cases hc
theorem w_block {id : Nat} {b : XC} (h : W P fn ro sz b E ms M (KBlock id K)) : W P fn ro sz (.block id b) E ms M K := w_of fun code T hc he => by
 cases code with
 | block i b' =>
  simp only [cCode] at hc
  split at hc
  ·rename_i y hy
   cases hc
   obtain ⟨e, T', ms', M', h1, E', h2, h3⟩ := h b' T hy he
   show ∃ e T' ms' M', outCode (om P _) _ = _ /\ _
   rw [h1]
   cases e with
   | norm => exact ⟨.norm, T', ms', M', rfl, E', h2, h3⟩
   | ret => exact ⟨.ret, T', ms', M', rfl, E', h2, h3⟩
   | exit i =>
    have h3 : if i = id then K .norm E' ms' M' else K (.exit i) E' ms' M' := h3
    show ∃ e T'' ms'' M'', ifb (Nat.beq i id) (some (Out.code .norm T' ms' M')) (some (.code (.exit i) T' ms' M')) = _ /\ _
    by_cases hi : i = id
    ·rw [if_pos hi] at h3
     rw [show Nat.beq i id = true by simp [hi]]
     exact ⟨.norm, T', ms', M', rfl, E', h2, h3⟩
    ·rw [if_neg hi] at h3
     rw [show Nat.beq i id = false by
      cases hb : Nat.beq i id with
      | false => rfl
      | true => exact absurd (Nat.eq_of_beq_eq_true hb) hi]
     exact ⟨.exit i, T', ms', M', rfl, E', h2, h3⟩
  ·cases hc
 | region _ _ d => cases d <;> simp only [cCode] at hc <;> (repeat' split at hc) <;> cases hc
 | skip | label | ret | goto | refuse | exit => cases hc
 | _ => simp only [cCode] at hc; split at hc <;> cases hc
theorem w_loop {b : XC} (h : W P fn ro sz b E ms M (KLoop P fn ro sz b K)) : W P fn ro sz (.loop b) E ms M K := w_of fun code T hc he => by
 cases code with
 | loop b' =>
  have hc0 := hc
  simp only [cCode] at hc
  split at hc
  ·rename_i y hy
   cases hc
   obtain ⟨e, T', ms', M', h1, E', h2, h3⟩ := h b' T hy he
   show ∃ e T' ms' M', outCode (om P _) _ = _ /\ _
   rw [h1]
   cases e with
   | norm => exact h3 (.loop b') T' hc0 h2
   | ret => exact ⟨.ret, T', ms', M', rfl, E', h2, h3⟩
   | exit i => exact ⟨.exit i, T', ms', M', rfl, E', h2, h3⟩
  ·cases hc
 | region _ _ d => cases d <;> simp only [cCode] at hc <;> (repeat' split at hc) <;> cases hc
 | skip | label | ret | goto | refuse | exit => cases hc
 | _ => simp only [cCode] at hc; split at hc <;> cases hc
theorem w_scope {b : XC} (h : W P fn ro sz b E ms M K) : W P fn ro sz (.scope b) E ms M K := w_of fun code T hc he => by
 cases code with
 | scope b' =>
  simp only [cCode] at hc
  split at hc
  ·rename_i y hy; cases hc; exact h b' T hy he
  ·cases hc
 | region _ _ d => cases d <;> simp only [cCode] at hc <;> (repeat' split at hc) <;> cases hc
 | skip | label | ret | goto | refuse | exit => cases hc
 | _ => simp only [cCode] at hc; split at hc <;> cases hc
theorem w_mono {c : XC} {K' : Ex -> Env -> List Nat -> Mem -> Prop} (h : W P fn ro sz c E ms M K) (hk : ∀ e E ms M, K e E ms M -> K' e E ms M) : W P fn ro sz c E ms M K' := fun code T hc he =>
 let ⟨e, T', ms', M', h1, E', h2, h3⟩ := h code T hc he; ⟨e, T', ms', M', h1, E', h2, hk _ _ _ _ h3⟩
theorem w_sub {c : XC} {E' : Env} (hs : ∀ t v, look E' t = some v -> look E t = some v) (h : W P fn ro sz c E' ms M K) : W P fn ro sz c E ms M K := fun code T hc he => h code T hc (he.sub hs)
inductive Has (E : Env) : Env -> Prop
 | nil : Has E []
 | cons {t : Nat} {v : LV} {E' : Env} (h : look E t = some v) (h' : Has E E') : Has E ((t, v) :: E')
theorem Has.sub {E E' : Env} (h : Has E E') : ∀ t v, look E' t = some v -> look E t = some v := by
 induction h with
 | nil => intro t v h; cases h
 | cons h1 h2 ih =>
  rename_i t v E'
  intro u w hu
  have hu : (match Nat.beq t u with | true => some v | false => look E' u) = some w := hu
  cases hb : Nat.beq t u with
  | true => rw [hb] at hu; obtain rfl := Nat.eq_of_beq_eq_true hb; rw [h1]; exact hu
  | false => rw [hb] at hu; exact ih u w hu
theorem w_has {c : XC} {E' : Env} (hs : Has E E') (h : W P fn ro sz c E' ms M K) : W P fn ro sz c E ms M K := w_sub hs.sub h

theorem k_seq {b : XC} (h : W P fn ro sz b E ms M K) : KSeq P fn ro sz b K .norm E ms M := h
theorem k_seq_ret {b : XC} (h : K .ret E ms M) : KSeq P fn ro sz b K .ret E ms M := h
theorem k_seq_exit {b : XC} {i : Nat} (h : K (.exit i) E ms M) : KSeq P fn ro sz b K (.exit i) E ms M := h
theorem k_block {id : Nat} (h : K .norm E ms M) : KBlock id K .norm E ms M := h
theorem k_block_ret {id : Nat} (h : K .ret E ms M) : KBlock id K .ret E ms M := h
theorem k_block_exit {id : Nat} (h : K .norm E ms M) : KBlock id K (.exit id) E ms M := by unfold KBlock; simp only [if_true]; exact h
theorem k_block_out {id i : Nat} (hi : Nat.beq i id = false) (h : K (.exit i) E ms M) : KBlock id K (.exit i) E ms M := by
 unfold KBlock
 simp only
 rw [if_neg (fun e => by subst e; simp at hi)]; exact h
theorem k_loop {b : XC} (h : W P fn ro sz (.loop b) E ms M K) : KLoop P fn ro sz b K .norm E ms M := h
theorem k_loop_ret {b : XC} (h : K .ret E ms M) : KLoop P fn ro sz b K .ret E ms M := h
theorem k_loop_exit {b : XC} {i : Nat} (h : K (.exit i) E ms M) : KLoop P fn ro sz b K (.exit i) E ms M := h
theorem k_fun {res : List XR} {Q : LV -> Mem -> Prop} {vs : List LV} (hr : ResX E M res vs) (hq : Q (packed vs) M) : KFun res Q .ret E [] M := ⟨M, rfl, vs, hr, hq⟩
theorem k_fun_norm {res : List XR} {Q : LV -> Mem -> Prop} {vs : List LV} (hr : ResX E M res vs) (hq : Q (packed vs) M) : KFun res Q .norm E [] M := ⟨M, rfl, vs, hr, hq⟩
end code

def zipE : Nat -> List LV -> Env
 | _, [] => []
 | i, v :: vs => (i, v) :: zipE (i + 1) vs
theorem look_zipE {i : Nat} {vs : List LV} {t : Nat} {v : LV} (h : look (zipE i vs) t = some v) : i <= t /\ vs[t - i]? = some v := by
 induction vs generalizing i with
 | nil => cases h
 | cons a as ih =>
  have h : (match Nat.beq i t with | true => some a | false => look (zipE (i + 1) as) t) = some v := h
  cases hb : Nat.beq i t with
  | true => rw [hb] at h; obtain rfl := Nat.eq_of_beq_eq_true hb; cases h; exact ⟨Nat.le_refl _, by simp⟩
  | false =>
   rw [hb] at h
   obtain ⟨h1, h2⟩ := ih h
   refine ⟨by omega, ?_⟩
   rw [show t - i = (t - (i + 1)) + 1 by omega]; simpa using h2
theorem setAll_get : ∀ (vs : List LV) (i : Nat) (T : Tm), i + vs.length <= T.size -> ∃ T', Tm.setAll vs i T = some T' /\ T'.size = T.size /\ ∀ t, T'.get t = if i <= t /\ t < i + vs.length then (vs[t - i]?).getD .unk else T.get t
 | [], i, T, h => ⟨T, rfl, rfl, fun t => by rw [if_neg (by simp)]⟩
 | v :: vs, i, T, h => by
  have h : i + (vs.length + 1) <= T.size := h
  have hs : T.set i v = some ⟨T.size, T.tr.set i (some v)⟩ := Tm.set_eq.2 ⟨by omega, rfl⟩
  obtain ⟨T', h1, h2, h3⟩ := setAll_get vs (i + 1) ⟨T.size, T.tr.set i (some v)⟩ (by show i + 1 + vs.length <= T.size; omega)
  refine ⟨T', by show ob (T.set i v) _ = _; rw [hs]; exact h1, h2, fun t => ?_⟩
  rw [h3 t]
  by_cases hc : i + 1 <= t /\ t < i + 1 + vs.length
  ·rw [if_pos hc, if_pos (by simp; omega), show t - i = (t - (i + 1)) + 1 by omega]; simp
  ·rw [if_neg hc, Tm.get_set hs]
   by_cases e : t = i
   ·subst e; rw [if_pos rfl, if_pos (by simp), Nat.sub_self]
    rfl
   ·rw [if_neg e, if_neg (by simp; omega)]
theorem marks_take : ∀ {ms : List Nat} {M M' : Mem}, Marks ms M M' -> takeMarks ms M = some M'
 | [], M, M', h => by cases h; rfl
 | d :: ds, M, M', h => by
  show atDefr M d (takeMarks ds (M.upd d none)) = _
  unfold atDefr
  rw [h.1, ob_some]
  show takeMarks ds _ = _
  exact marks_take h.2
theorem resX_sound {E : Env} {T : Tm} (he : EnvRel sz E T) {M : Mem} : ∀ {rs : List ResultVar} {xs : List XR} {vs : List LV}, cRes P rs = some xs -> ResX E M xs vs -> resultsOf P T M rs = some vs
 | [], xs, vs, hc, h => by cases hc; cases h; rfl
 | .tmp t :: rs, xs, vs, hc, h => by
  simp only [cRes] at hc
  split at hc
  ·rename_i l hl
   cases hc
   cases h with
   | tmp h1 h2 =>
    show ob (evT T t) _ = _
    rw [he.look _ _ h1, ob_some, resX_sound he hl h2]; rfl
  ·cases hc
 | .cell a t :: rs, xs, vs, hc, h => by
  simp only [cRes] at hc
  split at hc
  ·rename_i l hag hl
   cases hc
   cases h with
   | cell1 h1 h2 h3 =>
    show ob (ob (evT T a) fun a => loadT P t M a) _ = _
    rw [he.look _ _ h1, ob_some]
    unfold loadT
    show ob (ob (aggSz P t) _) _ = _
    rw [hag, ob_some, oe_none, h2, ob_some, resX_sound he hl h3]; rfl
  ·rename_i n l hag hl
   cases hc
   cases h with
   | cellN h1 h2 h3 =>
    show ob (ob (evT T a) fun a => loadT P t M a) _ = _
    rw [he.look _ _ h1, ob_some]
    unfold loadT
    show ob (ob (aggSz P t) _) _ = _
    rw [hag, ob_some, oe_some, h2, ob_some, ob_some, resX_sound he hl h3]; rfl
  ·cases hc
theorem call_enter {f : FuncId} {n : Nat} {c : XC} {res : List XR} (hf : cFn P f = some ⟨n, c, res⟩) {args : List LV} {M : Mem} {Q : LV -> Mem -> Prop} (hn : Nat.ble args.length n = true)
  (h : W P f none n c (zipE 0 args) [] M (KFun res Q)) (hask : Orc.ask P f args = none) : CallOk P f args M Q := by
 unfold cFn at hf
 split at hf
 ·cases hf
 ·rename_i fd hfd
  split at hf
  ·cases hf
  ·rename_i code hcode
   split at hf
   ·rename_i c' r' hc hr
    cases hf
    rw [Nat.ble_eq] at hn
    obtain ⟨T, h1, h2, h3⟩ := setAll_get args 0 ⟨fd.ntmps, .nil⟩ (by show 0 + args.length <= fd.ntmps; omega)
    have hT : Tm.ofList fd.ntmps args = some T := by
     unfold Tm.ofList
     rw [fN_eq]
     show Tm.setAll args 0 ⟨max fd.ntmps args.length, .nil⟩ = _
     rw [Nat.max_eq_left hn]; exact h1
    have he : EnvRel fd.ntmps (zipE 0 args) T := ⟨h2, fun d v hd => by
     obtain ⟨_, h5⟩ := look_zipE hd
     rw [evT_eq, h3 d, if_pos (by have := (List.getElem?_eq_some_iff.1 h5).1; omega), h5]; rfl⟩
    obtain ⟨e, T', ms', M', h5, E', h6, h7⟩ := h code T hc he
    cases e with
    | exit i => exact h7.elim
    | _ =>
     obtain ⟨M2, h8, vs, h9, h10⟩ := h7
     refine ⟨_, M2, ?_, h10⟩
     rw [om_call hask]
     show ob (fnOf P f) _ = _
     rw [hfd, ob_some, hT, ob_some, hcode, ob_some]
     show outCode (om P (.code f none code T [] M)) _ = _
     rw [h5]
     show callEnd P fd T' ms' M' = _
     unfold callEnd
     rw [marks_take h8, ob_some, resX_sound h6 hr h9]; rfl
   ·cases hf
theorem call_in {f : FuncId} {xf : XF} (hf : cFn P f = some xf) {args : List LV} {M : Mem} {Q : LV -> Mem -> Prop} (hn : Nat.ble args.length xf.ntmps = true)
  (h : W P f none xf.ntmps xf.body (zipE 0 args) [] M (KFun xf.res Q)) (hask : Orc.ask P f args = none := by rfl) : CallOk P f args M Q := call_enter (n := xf.ntmps) (c := xf.body) (res := xf.res) hf hn h hask
end
end PvL
end
section
namespace PvL
set_option linter.unusedSectionVars false
open Go

structure New (M : Mem) (n : Nat) (lb : LB) (M' : Mem) : Prop where
 eq : M' = M.push lb
 name : n = M.next
structure Upd (M : Mem) (i : Nat) (lb : LB) (M' : Mem) : Prop where
 eq : M' = M.upd i (some lb)
structure Grow (M M' : Mem) : Prop where
 le : M.next <= M'.next
 old : ∀ i, i < M.next -> M'.get i = M.get i
structure Keep (F : Nat -> Prop) (M M' : Mem) : Prop where
 le : M.next <= M'.next
 old : ∀ i, i < M.next -> ¬ F i -> M'.get i = M.get i
def At (M : Mem) (i : Nat) (lb : LB) : Prop := M.get i = some lb /\ i < M.next
def Rd (M : Mem) (i o n : Nat) (l : List LV) : Prop := loadN M i o n = some l /\ i < M.next
def Rd1 (M : Mem) (i o : Nat) (v : LV) : Prop := load1 M i o = some v /\ i < M.next
section
variable {M M' : Mem} {i j n o : Nat} {lb lb' : LB}
theorem New.next (h : New M n lb M') : M'.next = M.next + 1 := by rw [h.eq]; rfl
theorem Upd.next (h : Upd M i lb M') : M'.next = M.next := by rw [h.eq]; exact Mem.next_upd _ _ _
theorem At.new_same (h : New M n lb M') : At M' n lb := by
 refine ⟨?_, by rw [h.next, h.name]; omega⟩
 rw [h.eq, h.name, Mem.get_push, if_pos rfl]
theorem At.new_old (h : New M n lb M') (ha : At M i lb') : At M' i lb' := by
 refine ⟨?_, by rw [h.next]; have := ha.2; omega⟩
 rw [h.eq, Mem.get_push, if_neg (by have := ha.2; omega)]; exact ha.1
theorem At.upd_same (h : Upd M i lb M') (ha : At M i lb') : At M' i lb := by
 refine ⟨?_, by rw [h.next]; exact ha.2⟩
 rw [h.eq, Mem.get_upd, if_pos rfl]
theorem At.upd_ne (h : Upd M j lb M') (hne : i ≠ j) (ha : At M i lb') : At M' i lb' := by
 refine ⟨?_, by rw [h.next]; exact ha.2⟩
 rw [h.eq, Mem.get_upd, if_neg hne]; exact ha.1
theorem At.grow (h : Grow M M') (ha : At M i lb) : At M' i lb := ⟨by rw [h.old i ha.2]; exact ha.1, Nat.lt_of_lt_of_le ha.2 h.le⟩
theorem At.keep {F : Nat -> Prop} (h : Keep F M M') (hf : ¬ F i) (ha : At M i lb) : At M' i lb := ⟨by rw [h.old i ha.2 hf]; exact ha.1, Nat.lt_of_lt_of_le ha.2 h.le⟩
variable {l : List LV} {v : LV}
theorem loadN_get (h : M'.get i = M.get i) : loadN M' i o n = loadN M i o n := by unfold loadN atCells; rw [h]
theorem load1_get (h : M'.get i = M.get i) : load1 M' i o = load1 M i o := by unfold load1 atCells; rw [h]
theorem Rd.of_at {own : Bool} {cs : List LV} {ty : TypeId} (ha : At M i (.cells own cs ty)) (h : take' n (drop' o cs) = some l) : Rd M i o n l :=
 ⟨by unfold loadN atCells; rw [ha.1]; exact h, ha.2⟩
theorem Rd1.of_at {own : Bool} {cs : List LV} {ty : TypeId} (ha : At M i (.cells own cs ty)) (h : nth cs o = some v) : Rd1 M i o v :=
 ⟨by unfold load1 atCells; rw [ha.1]; exact h, ha.2⟩
theorem Grow.refl (M : Mem) : Grow M M := ⟨Nat.le_refl _, fun _ _ => rfl⟩
theorem Grow.trans {M2 : Mem} (h : Grow M M') (h' : Grow M' M2) : Grow M M2 := ⟨Nat.le_trans h.le h'.le, fun i hi => by rw [h'.old i (Nat.lt_of_lt_of_le hi h.le), h.old i hi]⟩
theorem New.grow (h : New M n lb M') : Grow M M' := ⟨by rw [h.next]; omega, fun i hi => by rw [h.eq, Mem.get_push, if_neg (by omega)]⟩
theorem Grow.new {M0 : Mem} (h : Grow M0 M) (h' : New M n lb M') : Grow M0 M' := h.trans h'.grow
theorem Grow.upd {M0 : Mem} (h : Grow M0 M) (h' : Upd M i lb M') (hi : M0.next <= i) : Grow M0 M' :=
 ⟨by rw [h'.next]; exact h.le, fun j hj => by rw [h'.eq, Mem.get_upd, if_neg (by omega)]; exact h.old j hj⟩
theorem Grow.drop {M0 : Mem} (h : Grow M0 M) (hi : M0.next <= i) : Grow M0 (M.upd i none) :=
 ⟨by rw [Mem.next_upd]; exact h.le, fun j hj => by rw [Mem.get_upd, if_neg (by omega)]; exact h.old j hj⟩
theorem Grow.keep {M0 : Mem} {F : Nat -> Prop} (h : Grow M0 M) (h' : Keep F M M') (hF : ∀ i, F i -> M0.next <= i) : Grow M0 M' :=
 ⟨Nat.le_trans h.le h'.le, fun j hj => by rw [h'.old j (Nat.lt_of_lt_of_le hj h.le) (fun hf => absurd (hF j hf) (by omega))]; exact h.old j hj⟩
theorem Rd.grow (h : Grow M M') (ha : Rd M i o n l) : Rd M' i o n l := ⟨by rw [loadN_get (h.old i ha.2)]; exact ha.1, Nat.lt_of_lt_of_le ha.2 h.le⟩
theorem Rd1.grow (h : Grow M M') (ha : Rd1 M i o v) : Rd1 M' i o v := ⟨by rw [load1_get (h.old i ha.2)]; exact ha.1, Nat.lt_of_lt_of_le ha.2 h.le⟩
theorem Rd.new_old (h : New M j lb M') (ha : Rd M i o n l) : Rd M' i o n l := ha.grow h.grow
theorem Rd1.new_old (h : New M j lb M') (ha : Rd1 M i o v) : Rd1 M' i o v := ha.grow h.grow
theorem upd_get_ne (h : Upd M j lb M') (hne : i ≠ j) : M'.get i = M.get i := by rw [h.eq, Mem.get_upd, if_neg hne]
theorem Rd.upd_ne (h : Upd M j lb M') (hne : i ≠ j) (ha : Rd M i o n l) : Rd M' i o n l := ⟨by rw [loadN_get (upd_get_ne h hne)]; exact ha.1, by rw [h.next]; exact ha.2⟩
theorem Rd1.upd_ne (h : Upd M j lb M') (hne : i ≠ j) (ha : Rd1 M i o v) : Rd1 M' i o v := ⟨by rw [load1_get (upd_get_ne h hne)]; exact ha.1, by rw [h.next]; exact ha.2⟩
theorem Rd.keep {F : Nat -> Prop} (h : Keep F M M') (hf : ¬ F i) (ha : Rd M i o n l) : Rd M' i o n l := ⟨by rw [loadN_get (h.old i ha.2 hf)]; exact ha.1, Nat.lt_of_lt_of_le ha.2 h.le⟩
theorem Rd1.keep {F : Nat -> Prop} (h : Keep F M M') (hf : ¬ F i) (ha : Rd1 M i o v) : Rd1 M' i o v := ⟨by rw [load1_get (h.old i ha.2 hf)]; exact ha.1, Nat.lt_of_lt_of_le ha.2 h.le⟩
end

section
variable {P : Program} [Orc P] {sz : Nat} {E : Env} {M : Mem} {K : Env -> Mem -> Prop} {l : List XG} {d : Nat} {g : Option (Nat × Bool)} {x y a : XO} {i o n t : Nat} {v : LV} {ls : List LV}
theorem g_none : GOn E none := trivial
theorem g_on {t : Nat} {w : Bool} (h : look E t = some (.bool w)) : GOn E (some (t, w)) := h
theorem g_off {t : Nat} {w : Bool} (h : look E t = some (.bool (!w))) : GOff E (some (t, w)) := .inl h
theorem g_und {t : Nat} {w : Bool} (h : look E t = some (.tup [])) : GOff E (some (t, w)) := .inr h
theorem xs_pure {i : XI} (h : xpure i E = some v) : xstep P i E M = some (.val v M) := xpure_sound h M
theorem xs_ld1 (ha : xval E a = some (.ptr (some (i, o)))) (h : Rd1 M i o v) : xstep P (.ld1 a) E M = some (.val v M) := by
 show ob (xval E a) _ = _
 rw [ha, ob_some]
 show ob (load1 M i o) _ = _
 rw [h.1]; rfl
theorem xs_ldN (ha : xval E a = some (.ptr (some (i, o)))) (h : Rd M i o n ls) : xstep P (.ldN n a) E M = some (.val (.agg ls) M) := by
 show ob (xval E a) _ = _
 rw [ha, ob_some]
 show ob (loadN M i o n) _ = _
 rw [h.1]; rfl
theorem xs_new {z : List LV} (hf : allFlat z = true) : xstep P (.new t z) E M = some (.val (.ptr (some (M.next, 0))) (M.push (.cells true z t))) := by
 show guard' (allFlat z) _ = _
 rw [hf]; rfl
theorem xs_box (hx : xval E x = some v) (hf : allFlat v.cells = true) : xstep P (.box t x) E M = some (.val (.ptr (some (M.next, 0))) (M.push (.cells true v.cells t))) := by
 show ob (xval E x) _ = _
 rw [hx, ob_some]
 show guard' (allFlat v.cells) _ = _
 rw [hf]; rfl
theorem xs_bsl {len : Nat} {z cs : List LV} {ps : List (Nat × Nat × XO)} {vs : List (Nat × Nat × LV)} (hp : xParts E ps = some vs) (hc : fillX vs (rep len z) = some cs) :
  xstep P (.bsl t n len z ps) E M = some (.val (.slice (some (M.next, 0)) len true n) (M.push (.cells true cs t))) := by
 show ob (xParts E ps) _ = _
 rw [hp, ob_some, hc]; rfl
theorem xs_mkmap : xstep P .mkmap E M = some (.val (.map (some M.next)) (M.push (.map []))) := rfl
theorem xs_st {cs cs' : List LV} {ty : TypeId} (ha : xval E a = some (.ptr (some (i, o)))) (hx : xval E x = some v) (hm : At M i (.cells true cs ty)) (hn : Nat.beq v.cells.length n = true) (hf : allFlat v.cells = true) (hs : setList cs o v.cells = some cs') :
  xstep P (.st n a x) E M = some (.skip (M.upd i (some (.cells true cs' ty)))) := by
 show ob (xval E a) _ = _
 rw [ha, ob_some, hx, ob_some]
 show guard' _ (guard' _ (ob (storeCs M i o v.cells) _)) = _
 rw [hn, hf, guard'_true, guard'_true]
 unfold storeCs atCells
 rw [hm.1, ob_some]
 show ob (guard' true (ob (setList cs o v.cells) _)) _ = _
 rw [hs]; rfl
theorem xs_iad {b : Nat} {len : Nat} {f : Bool} {e : Nat} {q : IntKind} {k : Nat} (hx : xval E x = some (.slice (some (i, o)) len f e)) (hy : xval E y = some (.int q (k : Int))) (hk : k < len) :
  xstep P (.iad none b x y) E M = some (.val (.ptr (some (i, o + k * b))) M) := by
 show ob (xval E x) _ = _
 rw [hx, ob_some, hy, ob_some]
 show ob (guard' (Nat.ble (k + 1) len) (fN (o + k * b) _)) _ = _
 rw [Nat.ble_eq_true_of_le hk, guard'_true, fN_eq]; rfl
theorem xs_iad_int {b : Nat} {len : Nat} {f : Bool} {e : Nat} {q : IntKind} {k : Int} (hx : xval E x = some (.slice (some (i, o)) len f e)) (hy : xval E y = some (.int q k)) (hk : 0 <= k /\ k < len) :
  xstep P (.iad none b x y) E M = some (.val (.ptr (some (i, o + k.toNat * b))) M) := by
 obtain ⟨m, rfl⟩ := Int.eq_ofNat_of_zero_le hk.1
 exact xs_iad hx hy (by omega)
theorem xs_iadA {b : Nat} {len : Nat} {q : IntKind} {k : Int} (hx : xval E x = some (.ptr (some (i, o)))) (hy : xval E y = some (.int q k)) (hk : 0 <= k /\ k < len) :
  xstep P (.iad (some len) b x y) E M = some (.val (.ptr (some (i, o + k.toNat * b))) M) := by
 obtain ⟨m, rfl⟩ := Int.eq_ofNat_of_zero_le hk.1
 show ob (xval E x) _ = _
 rw [hx, ob_some, hy, ob_some]
 show ob (guard' (Nat.ble (m + 1) len) (fN (o + m * b) _)) _ = _
 rw [Nat.ble_eq_true_of_le (by omega), guard'_true, fN_eq]; rfl
theorem xs_idx {b len : Nat} {ag : Bool} {cs : List LV} {q : IntKind} {k : Int} (hx : xval E x = some (.agg cs)) (hy : xval E y = some (.int q k)) (hk : 0 <= k /\ k < len) (hp : partL ag b (k.toNat * b) cs = some v) :
  xstep P (.idx len b ag x y) E M = some (.val v M) := by
 obtain ⟨m, rfl⟩ := Int.eq_ofNat_of_zero_le hk.1
 show ob (xval E x) _ = _
 rw [hx, ob_some, hy, ob_some]
 show guard' (Nat.ble (m + 1) len) (ob (partL ag b (m * b) cs) _) = _
 rw [Nat.ble_eq_true_of_le (by omega), guard'_true, show partL ag b (m * b) cs = some v from hp]; rfl

theorem x_new {z : List LV} (hg : GOn E g) (hf : allFlat z = true) (hk : ∀ n M', New M n (.cells true z t) M' -> n = M.next -> M'.next = M.next + 1 -> XW P sz l ((d, .ptr (some (n, 0))) :: E) M' K) : XW P sz (⟨some d, .new t z, g⟩ :: l) E M K :=
 xw_val hg (xs_new hf) (hk _ _ ⟨rfl, rfl⟩ rfl rfl)
theorem x_box (hg : GOn E g) (hx : xval E x = some v) (hf : allFlat v.cells = true) (hk : ∀ n M', New M n (.cells true v.cells t) M' -> n = M.next -> M'.next = M.next + 1 -> XW P sz l ((d, .ptr (some (n, 0))) :: E) M' K) : XW P sz (⟨some d, .box t x, g⟩ :: l) E M K :=
 xw_val hg (xs_box hx hf) (hk _ _ ⟨rfl, rfl⟩ rfl rfl)
theorem x_bsl {len : Nat} {z cs : List LV} {ps : List (Nat × Nat × XO)} {vs : List (Nat × Nat × LV)} (hg : GOn E g) (hp : xParts E ps = some vs) (hc : fillX vs (rep len z) = some cs)
  (hk : ∀ n' M', New M n' (.cells true cs t) M' -> n' = M.next -> M'.next = M.next + 1 -> XW P sz l ((d, .slice (some (n', 0)) len true n) :: E) M' K) : XW P sz (⟨some d, .bsl t n len z ps, g⟩ :: l) E M K :=
 xw_val hg (xs_bsl hp hc) (hk _ _ ⟨rfl, rfl⟩ rfl rfl)
theorem x_mkmap (hg : GOn E g) (hk : ∀ n M', New M n (.map []) M' -> n = M.next -> M'.next = M.next + 1 -> XW P sz l ((d, .map (some n)) :: E) M' K) : XW P sz (⟨some d, .mkmap, g⟩ :: l) E M K :=
 xw_val hg xs_mkmap (hk _ _ ⟨rfl, rfl⟩ rfl rfl)
theorem x_st {cs cs' : List LV} {ty : TypeId} (hg : GOn E g) (ha : xval E a = some (.ptr (some (i, o)))) (hx : xval E x = some v) (hm : At M i (.cells true cs ty)) (hn : Nat.beq v.cells.length n = true) (hf : allFlat v.cells = true) (hs : setList cs o v.cells = some cs')
  (hk : ∀ M', Upd M i (.cells true cs' ty) M' -> M'.next = M.next -> At M' i (.cells true cs' ty) -> XW P sz l E M' K) : XW P sz (⟨none, .st n a x, g⟩ :: l) E M K :=
 xw_skip hg (xs_st ha hx hm hn hf hs) (hk _ ⟨rfl⟩ (Mem.next_upd _ _ _) (At.upd_same ⟨rfl⟩ hm))
theorem x_same {f : XO} {as : List XO} {gf : FuncId} {fi ca vs : List LV} (hg : GOn E g) (hf : xval E f = some (.func (.func gf) fi ca)) (has : xvals E as = some vs) (h : CallOk P gf (fi ++ vs ++ ca) M fun w M' => w = v /\ M' = M)
  (hk : XW P sz l ((d, v) :: E) M K) : XW P sz (⟨some d, .call f as, g⟩ :: l) E M K :=
 xw_call hg hf has (Q := fun w M' => w = v /\ M' = M) h fun w M' ⟨h1, h2⟩ => by subst h1; subst h2; exact hk
theorem x_pure {f : XO} {as : List XO} {gf : FuncId} {fi ca vs : List LV} (hg : GOn E g) (hf : xval E f = some (.func (.func gf) fi ca)) (has : xvals E as = some vs) (h : CallOk P gf (fi ++ vs ++ ca) M fun w M' => w = v /\ Grow M M')
  (hk : ∀ M', Grow M M' -> M.next <= M'.next -> XW P sz l ((d, v) :: E) M' K) : XW P sz (⟨some d, .call f as, g⟩ :: l) E M K :=
 xw_call hg hf has (Q := fun w M' => w = v /\ Grow M M') h fun w M' ⟨h1, h2⟩ => by subst h1; exact hk M' h2 h2.le
theorem x_call {f : XO} {as : List XO} {fv : LV} {vs : List LV} {Q : LV -> Mem -> Prop} (hg : GOn E g) (hf : xval E f = some fv) (has : xvals E as = some vs) (h : AppOk P fv vs M Q)
  (hk : ∀ w M', Q w M' -> XW P sz l ((d, w) :: E) M' K) : XW P sz (⟨some d, .call f as, g⟩ :: l) E M K := xw_call hg hf has h hk
theorem x_call0 {f : XO} {as : List XO} {fv : LV} {vs : List LV} {Q : LV -> Mem -> Prop} (hg : GOn E g) (hf : xval E f = some fv) (has : xvals E as = some vs) (h : AppOk P fv vs M Q)
  (hk : ∀ w M', Q w M' -> XW P sz l E M' K) : XW P sz (⟨none, .call f as, g⟩ :: l) E M K := xw_call hg hf has h hk
theorem x_val {i : XI} {v : LV} (hg : GOn E g) (hs : xstep P i E M = some (.val v M)) (hk : XW P sz l ((d, v) :: E) M K) : XW P sz (⟨some d, i, g⟩ :: l) E M K := xw_val hg hs hk
theorem x_off {i : XI} (hg : GOff E g) (hk : XW P sz l ((d, .tup []) :: E) M K) : XW P sz (⟨some d, i, g⟩ :: l) E M K := xw_off hg hk
theorem x_off0 {i : XI} (hg : GOff E g) (hk : XW P sz l E M K) : XW P sz (⟨none, i, g⟩ :: l) E M K := xw_off hg hk

variable {st : List Mem} {k : Nat} {xs : List (Nat × Nat × (Mem -> Prop))} {ld : List (XG × XK)}
theorem d_val {i : XI} {v : LV} (hg : GOn E g) (hs : xstep P i E M = some (.val v M)) (hk : XD P sz ld ((d, v) :: E) M st k xs K) : XD P sz ((⟨some d, i, g⟩, .calm) :: ld) E M st k xs K := xd_val hg hs hk
theorem d_ld1 {lo hi : Nat} (hg : GOn E g) (ha : xval E a = some (.ptr (some (i, o)))) (h : Rd1 M i o v) (hk : XD P sz ld ((d, v) :: E) M st k ((lo, hi, fun m => Rd1 m i o v) :: xs) K) :
  XD P sz ((⟨some d, .ld1 a, g⟩, .reads lo hi) :: ld) E M st k xs K := xd_read hg (xs_ld1 ha h) _ (fun _ hm => xs_ld1 ha hm) hk
theorem d_ldN {lo hi : Nat} (hg : GOn E g) (ha : xval E a = some (.ptr (some (i, o)))) (h : Rd M i o n ls) (hk : XD P sz ld ((d, .agg ls) :: E) M st k ((lo, hi, fun m => Rd m i o n ls) :: xs) K) :
  XD P sz ((⟨some d, .ldN n a, g⟩, .reads lo hi) :: ld) E M st k xs K := xd_read hg (xs_ldN ha h) _ (fun _ hm => xs_ldN ha hm) hk
theorem d_new {z : List LV} (hg : GOn E g) (hf : allFlat z = true) (hk : ∀ n M', New M n (.cells true z t) M' -> n = M.next -> M'.next = M.next + 1 -> XD P sz ld ((d, .ptr (some (n, 0))) :: E) M' st k xs K) : XD P sz ((⟨some d, .new t z, g⟩, .new) :: ld) E M st k xs K :=
 xd_new hg (xs_new hf) (hk _ _ ⟨rfl, rfl⟩ rfl rfl)
theorem d_box (hg : GOn E g) (hx : xval E x = some v) (hf : allFlat v.cells = true) (hk : ∀ n M', New M n (.cells true v.cells t) M' -> n = M.next -> M'.next = M.next + 1 -> XD P sz ld ((d, .ptr (some (n, 0))) :: E) M' st k xs K) : XD P sz ((⟨some d, .box t x, g⟩, .new) :: ld) E M st k xs K :=
 xd_new hg (xs_box hx hf) (hk _ _ ⟨rfl, rfl⟩ rfl rfl)
theorem d_bsl {len : Nat} {z cs : List LV} {ps : List (Nat × Nat × XO)} {vs : List (Nat × Nat × LV)} (hg : GOn E g) (hp : xParts E ps = some vs) (hc : fillX vs (rep len z) = some cs)
  (hk : ∀ n' M', New M n' (.cells true cs t) M' -> n' = M.next -> M'.next = M.next + 1 -> XD P sz ld ((d, .slice (some (n', 0)) len true n) :: E) M' st k xs K) : XD P sz ((⟨some d, .bsl t n len z ps, g⟩, .new) :: ld) E M st k xs K :=
 xd_new hg (xs_bsl hp hc) (hk _ _ ⟨rfl, rfl⟩ rfl rfl)
theorem d_mkmap (hg : GOn E g) (hk : ∀ n M', New M n (.map []) M' -> n = M.next -> M'.next = M.next + 1 -> XD P sz ld ((d, .map (some n)) :: E) M' st k xs K) : XD P sz ((⟨some d, .mkmap, g⟩, .new) :: ld) E M st k xs K :=
 xd_new hg xs_mkmap (hk _ _ ⟨rfl, rfl⟩ rfl rfl)
theorem d_st {cs cs' : List LV} {ty : TypeId} (hg : GOn E g) (ha : xval E a = some (.ptr (some (i, o)))) (hx : xval E x = some v) (hm : At M i (.cells true cs ty)) (hn : Nat.beq v.cells.length n = true) (hf : allFlat v.cells = true) (hs : setList cs o v.cells = some cs')
  (hk : ∀ M', Upd M i (.cells true cs' ty) M' -> M'.next = M.next -> At M' i (.cells true cs' ty) -> XD P sz ld E M' (M' :: st) (k + 1) xs K) : XD P sz ((⟨none, .st n a x, g⟩, .anchor) :: ld) E M st k xs K :=
 xd_skip hg (xs_st ha hx hm hn hf hs) (hk _ ⟨rfl⟩ (Mem.next_upd _ _ _) (At.upd_same ⟨rfl⟩ hm))
theorem d_same {f : XO} {as : List XO} {gf : FuncId} {fi ca vs : List LV} (hg : GOn E g) (hf : xval E f = some (.func (.func gf) fi ca)) (has : xvals E as = some vs) (h : CallOk P gf (fi ++ vs ++ ca) M fun w M' => w = v /\ M' = M)
  (hk : XD P sz ld ((d, v) :: E) M (M :: st) (k + 1) xs K) : XD P sz ((⟨some d, .call f as, g⟩, .anchor) :: ld) E M st k xs K :=
 xd_call hg hf has (Q := fun w M' => w = v /\ M' = M) h fun w M' ⟨h1, h2⟩ => by subst h1; subst h2; exact hk
theorem d_pure {f : XO} {as : List XO} {gf : FuncId} {fi ca vs : List LV} (hg : GOn E g) (hf : xval E f = some (.func (.func gf) fi ca)) (has : xvals E as = some vs) (h : CallOk P gf (fi ++ vs ++ ca) M fun w M' => w = v /\ Grow M M')
  (hk : ∀ M', Grow M M' -> M.next <= M'.next -> XD P sz ld ((d, v) :: E) M' (M' :: st) (k + 1) xs K) : XD P sz ((⟨some d, .call f as, g⟩, .anchor) :: ld) E M st k xs K :=
 xd_call hg hf has (Q := fun w M' => w = v /\ Grow M M') h fun w M' ⟨h1, h2⟩ => by subst h1; exact hk M' h2 h2.le
theorem d_call {f : XO} {as : List XO} {fv : LV} {vs : List LV} {Q : LV -> Mem -> Prop} (hg : GOn E g) (hf : xval E f = some fv) (has : xvals E as = some vs) (h : AppOk P fv vs M Q)
  (hk : ∀ w M', Q w M' -> XD P sz ld ((d, w) :: E) M' (M' :: st) (k + 1) xs K) : XD P sz ((⟨some d, .call f as, g⟩, .anchor) :: ld) E M st k xs K := xd_call hg hf has h hk
theorem d_same0 {f : XO} {as : List XO} {gf : FuncId} {fi ca vs : List LV} (hg : GOn E g) (hf : xval E f = some (.func (.func gf) fi ca)) (has : xvals E as = some vs) (h : CallOk P gf (fi ++ vs ++ ca) M fun w M' => w = v /\ M' = M)
  (hk : XD P sz ld ((d, v) :: E) M st k xs K) : XD P sz ((⟨some d, .call f as, g⟩, .new) :: ld) E M st k xs K :=
 xd_callp hg hf has (Q := fun w M' => w = v /\ M' = M) h fun w M' ⟨h1, h2⟩ => by subst h1; subst h2; exact hk
theorem d_pure0 {f : XO} {as : List XO} {gf : FuncId} {fi ca vs : List LV} (hg : GOn E g) (hf : xval E f = some (.func (.func gf) fi ca)) (has : xvals E as = some vs) (h : CallOk P gf (fi ++ vs ++ ca) M fun w M' => w = v /\ Grow M M')
  (hk : ∀ M', Grow M M' -> M.next <= M'.next -> XD P sz ld ((d, v) :: E) M' st k xs K) : XD P sz ((⟨some d, .call f as, g⟩, .new) :: ld) E M st k xs K :=
 xd_callp hg hf has (Q := fun w M' => w = v /\ Grow M M') h fun w M' ⟨h1, h2⟩ => by subst h1; exact hk M' h2 h2.le
theorem d_off {i : XI} {lo hi : Nat} (hg : GOff E g) (hk : XD P sz ld ((d, .tup []) :: E) M st k xs K) : XD P sz ((⟨some d, i, g⟩, .reads lo hi) :: ld) E M st k xs K := xd_off hg ⟨rfl, rfl⟩ hk
theorem d_off_calm {i : XI} (hg : GOff E g) (hk : XD P sz ld ((d, .tup []) :: E) M st k xs K) : XD P sz ((⟨some d, i, g⟩, .calm) :: ld) E M st k xs K := xd_off hg ⟨rfl, rfl⟩ hk
theorem d_off_new {i : XI} (hg : GOff E g) (hk : XD P sz ld ((d, .tup []) :: E) M st k xs K) : XD P sz ((⟨some d, i, g⟩, .new) :: ld) E M st k xs K := xd_off hg ⟨rfl, rfl⟩ hk
theorem d_off_anchor {i : XI} (hg : GOff E g) (hk : XD P sz ld ((d, .tup []) :: E) M (M :: st) (k + 1) xs K) : XD P sz ((⟨some d, i, g⟩, .anchor) :: ld) E M st k xs K := xd_off hg ⟨rfl, rfl⟩ hk
theorem x_guard {w b : Bool} {i : XI} {dd : Option Nat} (ht : look E t = some (.bool b)) (h1 : b = true -> XW P sz (⟨dd, i, some (t, w)⟩ :: l) ((t, .bool true) :: E) M K) (h0 : b = false -> XW P sz (⟨dd, i, some (t, w)⟩ :: l) ((t, .bool false) :: E) M K) : XW P sz (⟨dd, i, some (t, w)⟩ :: l) E M K := xw_split ht h1 h0
theorem d_guard {w b : Bool} {i : XI} {dd : Option Nat} {kd : XK} (ht : look E t = some (.bool b)) (h1 : b = true -> XD P sz ((⟨dd, i, some (t, w)⟩, kd) :: ld) ((t, .bool true) :: E) M st k xs K) (h0 : b = false -> XD P sz ((⟨dd, i, some (t, w)⟩, kd) :: ld) ((t, .bool false) :: E) M st k xs K) : XD P sz ((⟨dd, i, some (t, w)⟩, kd) :: ld) E M st k xs K := xd_split ht h1 h0
theorem x_pick {c : Nat} {b : Bool} {y z : XO} (ht : look E c = some (.bool b)) (h1 : b = true -> XW P sz (⟨some d, .pick (.t c) y z, g⟩ :: l) ((c, .bool true) :: E) M K) (h0 : b = false -> XW P sz (⟨some d, .pick (.t c) y z, g⟩ :: l) ((c, .bool false) :: E) M K) : XW P sz (⟨some d, .pick (.t c) y z, g⟩ :: l) E M K := xw_split ht h1 h0
theorem d_pick {c : Nat} {b : Bool} {y z : XO} {kd : XK} (ht : look E c = some (.bool b)) (h1 : b = true -> XD P sz ((⟨some d, .pick (.t c) y z, g⟩, kd) :: ld) ((c, .bool true) :: E) M st k xs K) (h0 : b = false -> XD P sz ((⟨some d, .pick (.t c) y z, g⟩, kd) :: ld) ((c, .bool false) :: E) M st k xs K) : XD P sz ((⟨some d, .pick (.t c) y z, g⟩, kd) :: ld) E M st k xs K := xd_split ht h1 h0
theorem d_nil (h : K E M) (ho : ObAll st k xs) : XD P sz [] E M st k xs K := xd_nil ho h
end
theorem mul_bd {a b A B : Int} (ha : -A <= a /\ a <= A) (hb : -B <= b /\ b <= B) : -(A * B) <= a * b /\ a * b <= A * B := by
 have h0 : 0 <= A := by omega
 have h1 : 0 <= B := by omega
 have h2 : (a * b).natAbs <= A.natAbs * B.natAbs := by
  rw [Int.natAbs_mul]
  exact Nat.mul_le_mul (by omega) (by omega)
 have h3 : ((A.natAbs * B.natAbs : Nat) : Int) = A * B := by
  rw [Int.natCast_mul, Int.natAbs_of_nonneg h0, Int.natAbs_of_nonneg h1]
 omega
end PvL
end
section
namespace PvL
set_option linter.unusedSectionVars false
open Go
section
variable {P : Program} [Orc P] {sz : Nat} {fn : FuncId} {E : Env} {ms : List Nat} {M : Mem} {K : Ex -> Env -> List Nat -> Mem -> Prop}

structure LoopSt (P : Program) [Orc P] (fn : FuncId) (sz : Nat) (E : Env) (ps : List Tmp) (a b : XC) (lb : LoopState -> Option Code -> LB) : Prop where
 is : ∃ T ca cb d, EnvRel sz E T /\ cCode P sz ca = some a /\ cCode P sz cb = some b /\ (ps.all fun t => Nat.ble (t + 1) sz) = true /\ lb = fun st pend => .loop st pend fn T ps ca cb d
def zipP : List Tmp -> List LV -> Env -> Env
 | t :: ts, v :: vs, E => zipP ts vs ((t, v) :: E)
 | _, _, E => E
def KIter (l : Nat) (lb : LoopState -> Option Code -> LB) (E : Env) (ms : List Nat) (K : Ex -> Env -> List Nat -> Mem -> Prop) (_ : LV) (M : Mem) : Prop :=
 ∃ st pend, At M l (lb st pend) /\ st ≠ .busy /\ ∀ M', Upd M l (lb .exhausted pend) M' -> M'.next = M.next -> At M' l (lb .exhausted pend) ->
  match pend with | none => K .norm E ms M' | some .ret => K .ret E ms M' | some (.exit id) => K (.exit id) E ms M' | _ => False
def KRound (l : Nat) (lb : LoopState -> Option Code -> LB) (Q : LV -> Mem -> Prop) (e : Ex) (_ : Env) (_ : List Nat) (M : Mem) : Prop :=
 ∃ st pend, At M l (lb st pend) /\
  match e with
  | .norm => ∀ M', Upd M l (lb .ready none) M' -> M'.next = M.next -> At M' l (lb .ready none) -> Q (.bool true) M'
  | .ret => ∀ M', Upd M l (lb .done (some .ret)) M' -> M'.next = M.next -> At M' l (lb .done (some .ret)) -> Q (.bool false) M'
  | .exit id => ∀ M', Upd M l (lb .done (some (.exit id))) M' -> M'.next = M.next -> At M' l (lb .done (some (.exit id))) -> Q (.bool false) M'
def KAssign (P : Program) [Orc P] (fn : FuncId) (sz : Nat) (l : Nat) (lb : LoopState -> Option Code -> LB) (b : XC) (Q : LV -> Mem -> Prop) (e : Ex) (E : Env) (ms : List Nat) (M : Mem) : Prop :=
 e = .norm /\ ∃ pend, At M l (lb .ready pend) /\ ∀ M', Upd M l (lb .busy pend) M' -> M'.next = M.next -> At M' l (lb .busy pend) -> W P fn (some l) sz b E ms M' (KRound l lb Q)

theorem setParams_ok : ∀ {ps : List Tmp} {vs : List LV} {E : Env} {T : Tm}, EnvRel sz E T -> (ps.all fun t => Nat.ble (t + 1) sz) = true -> vs.length = ps.length -> ∃ T', setParams ps vs T = some T' /\ EnvRel sz (zipP ps vs E) T'
 | [], [], E, T, he, _, _ => ⟨T, rfl, he⟩
 | [], v :: vs, E, T, he, _, hl => by cases hl
 | t :: ts, [], E, T, he, _, hl => by cases hl
 | t :: ts, v :: vs, E, T, he, hp, hl => by
  simp only [List.all_cons, Bool.and_eq_true] at hp
  obtain ⟨T1, h1, he1⟩ := he.cons (d := t) (by have := hp.1; rw [Nat.ble_eq] at this; exact this) v
  obtain ⟨T2, h2, he2⟩ := setParams_ok he1 hp.2 (by simpa using hl)
  exact ⟨T2, by show ob (T.set t v) _ = _; rw [h1]; exact h2, he2⟩
theorem at_loop {α : Type} {lb : LoopState -> Option Code -> LB} {ps : List Tmp} {a b : XC} (hlb : LoopSt P fn sz E ps a b lb) {l : Nat} {st : LoopState} {pend : Option Code} (ha : At M l (lb st pend)) :
  ∃ T ca cb d, EnvRel sz E T /\ cCode P sz ca = some a /\ cCode P sz cb = some b /\ (ps.all fun t => Nat.ble (t + 1) sz) = true /\ (∀ st pend, lb st pend = .loop st pend fn T ps ca cb d) /\
   ∀ (k : LoopState -> Option Code -> FuncId -> Tm -> List Tmp -> Code -> Code -> Nat -> Option α), atLoop M l k = k st pend fn T ps ca cb d := by
 obtain ⟨T, ca, cb, d, h1, h2, h3, h4, rfl⟩ := hlb.is
 refine ⟨T, ca, cb, d, h1, h2, h3, h4, fun _ _ => rfl, fun k => ?_⟩
 unfold atLoop
 rw [ha.1]; rfl
theorem loop_same {α : Type} {lb : LoopState -> Option Code -> LB} {T : Tm} {ps : List Tmp} {ca cb : Code} {d : Nat} (hlb : ∀ st pend, lb st pend = .loop st pend fn T ps ca cb d) {l : Nat} {st : LoopState} {pend : Option Code} (ha : At M l (lb st pend))
  (k : LoopState -> Option Code -> FuncId -> Tm -> List Tmp -> Code -> Code -> Nat -> Option α) : atLoop M l k = k st pend fn T ps ca cb d := by
 unfold atLoop
 rw [ha.1, hlb]; rfl
theorem round_in {lb : LoopState -> Option Code -> LB} {ps : List Tmp} {a b : XC} (hlb : LoopSt P fn sz E ps a b lb) {l : Nat} {pend : Option Code} (ha : At M l (lb .ready pend)) {args : List LV} (hn : args.length = ps.length) {Q : LV -> Mem -> Prop}
  (h : W P fn (some l) sz a (zipP ps args E) [] M (KAssign P fn sz l lb b Q)) : RoundOk P l args M Q := by
 obtain ⟨T, ca, cb, d, h1, h2, h3, h4, h5, h6⟩ := at_loop (α := Out) hlb ha
 obtain ⟨T1, h7, h8⟩ := setParams_ok h1 h4 hn
 obtain ⟨e, T2, ms2, M2, h9, E2, h10, h11⟩ := h ca T1 h2 h8
 obtain ⟨rfl, pend2, h12, h13⟩ := h11
 have hu : Upd M2 l (lb .busy pend2) (M2.upd l (some (lb .busy pend2))) := ⟨rfl⟩
 obtain ⟨e3, T3, ms3, M3, h14, E3, h15, st3, pend3, h16, h17⟩ := h13 _ hu (Mem.next_upd _ _ _) (At.upd_same hu h12) cb T2 h3 h10
 have key : ∀ v M', roundEnd l e3 M3 = some (.call v M') -> om P (.round l args M) = some (.call v M') := fun v M' hv => by
  rw [om_round]
  show atLoop M l _ = _
  rw [h6]
  show ob (setParams ps args T) _ = _
  rw [h7, ob_some, h9]
  show atLoop M2 l _ = _
  rw [loop_same h5 h12]
  show outCode (om P (.code fn (some l) cb T2 ms2 (M2.upd l (some (LB.loop .busy pend2 fn T ps ca cb d))))) _ = _
  rw [<- h5, h14]; exact hv
 have hend : ∀ (o : Option Out), (match e3 with | .norm => some (Out.call (.bool true) (M3.upd l (some (lb .ready none)))) | .ret => some (Out.call (.bool false) (M3.upd l (some (lb .done (some .ret))))) | .exit id => some (Out.call (.bool false) (M3.upd l (some (lb .done (some (.exit id))))))) = o -> roundEnd l e3 M3 = o := fun o ho => by
  rw [<- ho]
  unfold roundEnd
  rw [loop_same h5 h16]
  cases e3 <;> simp only [h5] <;> rfl
 cases e3 with
 | norm => exact ⟨_, _, key _ _ (hend _ rfl), h17 _ ⟨rfl⟩ (Mem.next_upd _ _ _) (At.upd_same ⟨rfl⟩ h16)⟩
 | ret => exact ⟨_, _, key _ _ (hend _ rfl), h17 _ ⟨rfl⟩ (Mem.next_upd _ _ _) (At.upd_same ⟨rfl⟩ h16)⟩
 | exit id => exact ⟨_, _, key _ _ (hend _ rfl), h17 _ ⟨rfl⟩ (Mem.next_upd _ _ _) (At.upd_same ⟨rfl⟩ h16)⟩
theorem rf_end {ro : Option Nat} {T : Tm} {lb : LoopState -> Option Code -> LB} {T' : Tm} {ps : List Tmp} {ca cb : Code} {d l : Nat} (h5 : ∀ st pend, lb st pend = .loop st pend fn T' ps ca cb d) (he : EnvRel sz E T) {v : LV} (h : KIter l lb E ms K v M) :
  ∃ e T' ms' M', rfEnd (om P) fn ro l T ms M = some (.code e T' ms' M') /\ ∃ E', EnvRel sz E' T' /\ K e E' ms' M' := by
 obtain ⟨st, pend, h1, h2, h3⟩ := h
 have h3 := h3 _ ⟨rfl⟩ (Mem.next_upd _ _ _) (At.upd_same ⟨rfl⟩ h1)
 unfold rfEnd
 rw [loop_same h5 h1]
 have hb : ∀ {α : Type} (k : Option α), notBusy st k = k := fun k => by cases st <;> first | rfl | exact absurd rfl h2
 rw [hb]
 unfold rfFin
 cases pend with
 | none => rw [oe_none, <- h5]; exact ⟨.norm, T, ms, _, rfl, E, he, h3⟩
 | some c =>
  rw [oe_some, <- h5]
  cases c with
  | ret => exact ⟨.ret, T, ms, _, by rw [om_code]; rfl, E, he, h3⟩
  | exit id => exact ⟨.exit id, T, ms, _, by rw [om_code]; rfl, E, he, h3⟩
  | _ => exact h3.elim
theorem cCode_rfun {code : Code} {f : XO} {ps : List Tmp} {a b : XC} (hc : cCode P sz code = some (.rfun f ps a b)) : ∃ f' ps' a' b', code = .rangeFunc f' ps' a' b' /\ cX f' = some f /\ ps'.toList = ps /\ cCode P sz a' = some a /\ cCode P sz b' = some b /\ (ps.all fun t => Nat.ble (t + 1) sz) = true := by
 cases code with
 | rangeFunc f' ps' a' b' =>
  simp only [cCode] at hc
  split at hc
  ·rename_i h1 h2 h3 h4; cases hc; exact ⟨f', ps', a', b', rfl, h1, rfl, h2, h3, h4⟩
  ·cases hc
 | region _ _ d => cases d <;> simp only [cCode] at hc <;> (repeat' split at hc) <;> cases hc
 | skip | label | ret | goto | refuse | exit => cases hc
 | _ => simp only [cCode] at hc; split at hc <;> cases hc
theorem rf_call {ro : Option Nat} {f : XO} {ps : List Tmp} {a b : XC} {gf : FuncId} {fi ca : List LV} (hf : xval E f = some (.func (.func gf) fi ca)) {f' : Operand} {ps' : Array Tmp} {a' b' : Code} {T : Tm}
  (h1 : cX f' = some f) (h2 : ps'.toList = ps) (h3 : cCode P sz a' = some a) (h4 : cCode P sz b' = some b) (h5 : (ps.all fun t => Nat.ble (t + 1) sz) = true) (he : EnvRel sz E T) (d : Nat)
  (h : ∀ lb l M2, LoopSt P fn sz E ps a b lb -> New M l (lb .ready none) M2 -> l = M.next -> M2.next = M.next + 1 -> CallOk P gf (fi ++ [.func (.yield l) [] []] ++ ca) M2 (KIter l lb E ms K)) :
  ∃ e T' ms' M', rfCall (om P) fn ro f' ps' a' b' d T ms M = some (.code e T' ms' M') /\ ∃ E', EnvRel sz E' T' /\ K e E' ms' M' := by
 have hlb : LoopSt P fn sz E ps a b (fun st pend => .loop st pend fn T ps a' b' d) := ⟨T, a', b', d, he, h3, h4, h5, rfl⟩
 obtain ⟨v, M3, h6, h7⟩ := h _ M.next _ hlb ⟨rfl, rfl⟩ rfl rfl
 unfold rfCall
 rw [Mem.new_eq, cX_ev he h1 hf, ob_some, h2]
 show ∃ e T' ms' M', outCall (om P _) _ = _ /\ _
 rw [h6]
 exact rf_end (fun _ _ => rfl) he h7
theorem w_rfun {f : XO} {ps : List Tmp} {a b : XC} {gf : FuncId} {fi ca : List LV} (hf : xval E f = some (.func (.func gf) fi ca))
  (h : ∀ lb d l M1 M2, LoopSt P fn sz E ps a b lb -> New M d .defr M1 -> d = M.next -> M1.next = M.next + 1 -> New M1 l (lb .ready none) M2 -> l = M1.next -> M2.next = M1.next + 1 ->
   CallOk P gf (fi ++ [.func (.yield l) [] []] ++ ca) M2 (KIter l lb E (d :: ms) K)) : W P fn none sz (.rfun f ps a b) E ms M K := w_of fun code T hc he => by
 obtain ⟨f', ps', a', b', rfl, h1, h2, h3, h4, h5⟩ := cCode_rfun hc
 show ∃ e T' ms' M', cRangeFunc (om P) fn none f' ps' a' b' T ms M = _ /\ _
 unfold cRangeFunc
 rw [oe_none, Mem.new_eq]
 exact rf_call hf h1 h2 h3 h4 h5 he M.next fun lb l M2 hlb hn e1 e2 => h lb M.next l _ M2 hlb ⟨rfl, rfl⟩ rfl rfl hn e1 e2
theorem w_rfun_in {l0 : Nat} {lb0 : LoopState -> Option Code -> LB} {st0 : LoopState} {pend0 : Option Code} {fn0 : FuncId} {sz0 : Nat} {E0 : Env} {ps0 : List Tmp} {a0 b0 : XC} (hlb0 : LoopSt P fn0 sz0 E0 ps0 a0 b0 lb0) (ha : At M l0 (lb0 st0 pend0))
  {f : XO} {ps : List Tmp} {a b : XC} {gf : FuncId} {fi ca : List LV} (hf : xval E f = some (.func (.func gf) fi ca))
  (h : ∀ lb l M2, LoopSt P fn sz E ps a b lb -> New M l (lb .ready none) M2 -> l = M.next -> M2.next = M.next + 1 -> CallOk P gf (fi ++ [.func (.yield l) [] []] ++ ca) M2 (KIter l lb E ms K)) : W P fn (some l0) sz (.rfun f ps a b) E ms M K := w_of fun code T hc he => by
 obtain ⟨f', ps', a', b', rfl, h1, h2, h3, h4, h5⟩ := cCode_rfun hc
 show ∃ e T' ms' M', cRangeFunc (om P) fn (some l0) f' ps' a' b' T ms M = _ /\ _
 unfold cRangeFunc
 rw [oe_some]
 obtain ⟨T0, ca0, cb0, d0, _, _, _, _, _, h6⟩ := at_loop (α := Out) hlb0 ha
 rw [h6]
 exact rf_call hf h1 h2 h3 h4 h5 he d0 h
theorem k_assign {l : Nat} {lb : LoopState -> Option Code -> LB} {b : XC} {Q : LV -> Mem -> Prop} {pend : Option Code} (ha : At M l (lb .ready pend)) (h : ∀ M', Upd M l (lb .busy pend) M' -> M'.next = M.next -> At M' l (lb .busy pend) -> W P fn (some l) sz b E ms M' (KRound l lb Q)) : KAssign P fn sz l lb b Q .norm E ms M := ⟨rfl, pend, ha, h⟩
theorem k_round {l : Nat} {lb : LoopState -> Option Code -> LB} {Q : LV -> Mem -> Prop} {st : LoopState} {pend : Option Code} (ha : At M l (lb st pend)) (h : ∀ M', Upd M l (lb .ready none) M' -> M'.next = M.next -> At M' l (lb .ready none) -> Q (.bool true) M') : KRound l lb Q .norm E ms M := ⟨st, pend, ha, h⟩
theorem k_round_ret {l : Nat} {lb : LoopState -> Option Code -> LB} {Q : LV -> Mem -> Prop} {st : LoopState} {pend : Option Code} (ha : At M l (lb st pend)) (h : ∀ M', Upd M l (lb .done (some .ret)) M' -> M'.next = M.next -> At M' l (lb .done (some .ret)) -> Q (.bool false) M') : KRound l lb Q .ret E ms M := ⟨st, pend, ha, h⟩
theorem k_round_exit {l id : Nat} {lb : LoopState -> Option Code -> LB} {Q : LV -> Mem -> Prop} {st : LoopState} {pend : Option Code} (ha : At M l (lb st pend)) (h : ∀ M', Upd M l (lb .done (some (.exit id))) M' -> M'.next = M.next -> At M' l (lb .done (some (.exit id))) -> Q (.bool false) M') : KRound l lb Q (.exit id) E ms M := ⟨st, pend, ha, h⟩

def Yields (P : Program) [Orc P] (gf : FuncId) (fi ca : List LV) (S : Nat -> Prop) (xs : List (List LV)) (M0 : Mem) : Prop :=
 ∀ (l : Nat) (A : Nat -> Prop) (I : Nat -> Mem -> Prop) (D : Mem -> Prop),
  (∀ i, A i -> i < M0.next) -> (∀ i, S i -> ¬ A i) ->
  (∀ k M M', I k M -> M.next <= M'.next -> (∀ i, i < M0.next -> M'.get i = M.get i) -> I k M') ->
  (∀ M M', D M -> M.next <= M'.next -> (∀ i, i < M0.next -> M'.get i = M.get i) -> D M') ->
  (∀ k x, xs[k]? = some x -> ∀ M, M0.next <= M.next -> I k M -> RoundOk P l x M fun v M' => Keep A M M' /\ ((v = .bool true /\ I (k + 1) M') ∨ (v = .bool false /\ D M'))) ->
  I 0 M0 -> CallOk P gf (fi ++ [.func (.yield l) [] []] ++ ca) M0 fun _ M' => Keep A M0 M' /\ (I xs.length M' ∨ D M')
end
abbrev I (n : Int) : LV := .int .i64 n
theorem lb_iff {X Y : Prop} [Decidable X] [Decidable Y] (h : X ↔ Y) : packed [LV.bool (decide X)] = LV.bool (decide Y) := congrArg LV.bool (decide_eq_decide.2 h)
theorem lb_f {Y : Prop} [Decidable Y] (h : ¬ Y) : packed [LV.bool false] = LV.bool (decide Y) := congrArg LV.bool (decide_eq_false h).symm
theorem lb_t {Y : Prop} [Decidable Y] (h : Y) : packed [LV.bool true] = LV.bool (decide Y) := congrArg LV.bool (decide_eq_true h).symm
theorem resN {E : Env} {M : Mem} {t n i o : Nat} {l : List LV} {rs : List XR} {vs : List LV} (h : look E t = some (.ptr (some (i, o)))) (hv : Rd M i o n l) (hr : ResX E M rs vs) : ResX E M (.cellN t n :: rs) (.agg l :: vs) := .cellN h hv.1 hr
theorem res1 {E : Env} {M : Mem} {t i o : Nat} {v : LV} {rs : List XR} {vs : List LV} (h : look E t = some (.ptr (some (i, o)))) (hv : Rd1 M i o v) (hr : ResX E M rs vs) : ResX E M (.cell1 t :: rs) (v :: vs) := .cell1 h hv.1 hr
end PvL
end
section
namespace PvL
set_option linter.unusedSectionVars false
open Go
section
variable {M M' M0 : Mem} {i j n o : Nat} {lb lb' : LB} {F G : Nat -> Prop}
theorem At.same (ha : At M i lb) (hle : M.next <= M'.next) (h : M'.get i = M.get i) : At M' i lb := ⟨by rw [h]; exact ha.1, Nat.lt_of_lt_of_le ha.2 hle⟩
theorem Rd.same {l : List LV} (ha : Rd M i o n l) (hle : M.next <= M'.next) (h : M'.get i = M.get i) : Rd M' i o n l := ⟨by rw [loadN_get h]; exact ha.1, Nat.lt_of_lt_of_le ha.2 hle⟩
theorem At.lt (ha : At M i lb) : i < M.next := ha.2
theorem Keep.refl (F : Nat -> Prop) (M : Mem) : Keep F M M := ⟨Nat.le_refl _, fun _ _ _ => rfl⟩
theorem Keep.trans (h : Keep F M0 M) (h' : Keep G M M') (hg : ∀ i, G i -> F i ∨ M0.next <= i) : Keep F M0 M' :=
 ⟨Nat.le_trans h.le h'.le, fun i hi hf => by
  rw [h'.old i (Nat.lt_of_lt_of_le hi h.le) (fun hgi => (hg i hgi).elim hf (fun hl => absurd hi (by omega)))]
  exact h.old i hi hf⟩
theorem Keep.weaken (h : Keep F M M') (hg : ∀ i, F i -> G i) : Keep G M M' := ⟨h.le, fun i hi hf => h.old i hi fun hF => hf (hg i hF)⟩
theorem Keep.new (h : Keep F M0 M) (h' : New M n lb M') : Keep F M0 M' :=
 ⟨by rw [h'.next]; exact Nat.le_succ_of_le h.le, fun i hi hf => by rw [h'.grow.old i (Nat.lt_of_lt_of_le hi h.le)]; exact h.old i hi hf⟩
theorem Keep.upd (h : Keep F M0 M) (h' : Upd M i lb M') (hi : F i ∨ M0.next <= i) : Keep F M0 M' :=
 ⟨by rw [h'.next]; exact h.le, fun j hj hf => by
  rw [upd_get_ne h' (fun e => by subst e; exact hi.elim hf (fun hl => absurd hj (by omega)))]; exact h.old j hj hf⟩
theorem Keep.grow (h : Keep F M0 M) (h' : Grow M M') : Keep F M0 M' :=
 ⟨Nat.le_trans h.le h'.le, fun i hi hf => by rw [h'.old i (Nat.lt_of_lt_of_le hi h.le)]; exact h.old i hi hf⟩
theorem Keep.to_grow (h : Keep F M0 M) (hF : ∀ i, F i -> M0.next <= i) : Grow M0 M := ⟨h.le, fun i hi => h.old i hi fun hf => absurd (hF i hf) (by omega)⟩
theorem Grow.to_keep (h : Grow M M') (F : Nat -> Prop) : Keep F M M' := ⟨h.le, fun i hi _ => h.old i hi⟩
theorem Keep.at {F : Nat -> Prop} (h : Keep F M M') (ha : At M i lb) (hf : ¬ F i) : At M' i lb := ha.keep h hf
theorem marks_ok : ∀ {ms : List Nat} {M : Mem}, ms.Nodup -> (∀ d ∈ ms, At M d .defr) -> ∃ M', Marks ms M M' /\ M'.next = M.next /\ ∀ i, i ∉ ms -> M'.get i = M.get i
 | [], M, _, _ => ⟨M, rfl, rfl, fun _ _ => rfl⟩
 | d :: ds, M, hn, hd => by
  rw [List.nodup_cons] at hn
  have h1 := hd d List.mem_cons_self
  have hget : ∀ i, i ≠ d -> (M.upd d none).get i = M.get i := fun i hi => by rw [Mem.get_upd, if_neg hi]
  obtain ⟨M', h3, h5, h6⟩ := marks_ok (M := M.upd d none) hn.2 (fun e he => by
   have k1 := hd e (List.mem_cons_of_mem _ he)
   have hne : e ≠ d := fun h => by subst h; exact hn.1 he
   exact ⟨by rw [hget e hne]; exact k1.1, by rw [Mem.next_upd]; exact k1.2⟩)
  refine ⟨M', ⟨h1.1, h3⟩, by rw [h5, Mem.next_upd], fun i hi => ?_⟩
  rw [h6 i (fun h => hi (List.mem_cons_of_mem _ h)), hget i (fun h => hi (by rw [h]; exact List.mem_cons_self))]
structure Unmark (ms : List Nat) (M M' : Mem) : Prop where
 next : M'.next = M.next
 get : ∀ i, i ∉ ms -> M'.get i = M.get i
theorem Keep.unmark {ms : List Nat} (h : Keep F M0 M) (h' : Unmark ms M M') (hms : ∀ d ∈ ms, F d ∨ M0.next <= d) : Keep F M0 M' :=
 ⟨by rw [h'.next]; exact h.le, fun i hi hf => by rw [h'.get i (fun hm => (hms i hm).elim hf fun hl => absurd hl (by omega))]; exact h.old i hi hf⟩
theorem Grow.unmark {ms : List Nat} (h : Grow M0 M) (h' : Unmark ms M M') (hms : ∀ d ∈ ms, M0.next <= d) : Grow M0 M' :=
 ⟨by rw [h'.next]; exact h.le, fun i hi => by rw [h'.get i (fun hm => absurd (hms i hm) (by omega))]; exact h.old i hi⟩
theorem At.unmark {ms : List Nat} (h' : Unmark ms M M') (hi : i ∉ ms) (ha : At M i lb) : At M' i lb := ha.same (by rw [h'.next]; exact Nat.le_refl _) (h'.get i hi)
end
section
variable {P : Program} [Orc P] {sz : Nat} {fn : FuncId} {E : Env} {ms : List Nat} {M : Mem}
theorem k_fun_end {res : List XR} {Q : LV -> Mem -> Prop} {e : Ex} (he : e = .norm ∨ e = .ret) (hn : ms.Nodup) (hd : ∀ d ∈ ms, At M d .defr)
  (h : ∀ M', Unmark ms M M' -> ∃ vs, ResX E M' res vs /\ Q (packed vs) M') : KFun res Q e E ms M := by
 obtain ⟨M', h1, h3, h4⟩ := marks_ok hn hd
 obtain ⟨vs, h5, h6⟩ := h M' ⟨h3, h4⟩
 rcases he with rfl | rfl
 ·exact ⟨M', h1, vs, h5, h6⟩
 ·exact ⟨M', h1, vs, h5, h6⟩
def KStep (Inv : Nat -> Env -> List Nat -> Mem -> Prop) (n : Nat) (K : Ex -> Env -> List Nat -> Mem -> Prop) (e : Ex) (E : Env) (ms : List Nat) (M : Mem) : Prop :=
 match e with | .norm => ∃ m, m < n /\ Inv m E ms M | .ret => K .ret E ms M | .exit id => K (.exit id) E ms M
theorem w_loop_ind {ro : Option Nat} {b : XC} {K : Ex -> Env -> List Nat -> Mem -> Prop} (Inv : Nat -> Env -> List Nat -> Mem -> Prop) (hstep : ∀ n E ms M, Inv n E ms M -> W P fn ro sz b E ms M (KStep Inv n K)) :
  ∀ n E ms M, Inv n E ms M -> W P fn ro sz (.loop b) E ms M K := by
 intro n
 induction n using Nat.strongRecOn with
 | ind n ih =>
  intro E ms M h
  refine w_loop (w_mono (hstep n E ms M h) fun e E ms M hk => ?_)
  cases e with
  | norm => obtain ⟨m, h1, h2⟩ := hk; exact ih m h1 E ms M h2
  | ret => exact hk
  | exit i => exact hk
theorem k_step {Inv : Nat -> Env -> List Nat -> Mem -> Prop} {n : Nat} {K : Ex -> Env -> List Nat -> Mem -> Prop} (m : Nat) (hm : m < n) (h : Inv m E ms M) : KStep Inv n K .norm E ms M := ⟨m, hm, h⟩
theorem k_step_ret {Inv : Nat -> Env -> List Nat -> Mem -> Prop} {n : Nat} {K : Ex -> Env -> List Nat -> Mem -> Prop} (h : K .ret E ms M) : KStep Inv n K .ret E ms M := h
theorem k_step_exit {Inv : Nat -> Env -> List Nat -> Mem -> Prop} {n i : Nat} {K : Ex -> Env -> List Nat -> Mem -> Prop} (h : K (.exit i) E ms M) : KStep Inv n K (.exit i) E ms M := h
end
section
variable {l : Nat} {lb : LoopState -> Option Code -> LB} {E : Env} {ms : List Nat} {K : Ex -> Env -> List Nat -> Mem -> Prop} {v : LV} {M : Mem} {st : LoopState}
theorem k_iter (ha : At M l (lb st none)) (hst : st ≠ .busy) (h : ∀ M', Upd M l (lb .exhausted none) M' -> M'.next = M.next -> At M' l (lb .exhausted none) -> K .norm E ms M') : KIter l lb E ms K v M := ⟨st, none, ha, hst, h⟩
theorem k_iter_ret (ha : At M l (lb st (some .ret))) (hst : st ≠ .busy) (h : ∀ M', Upd M l (lb .exhausted (some .ret)) M' -> M'.next = M.next -> At M' l (lb .exhausted (some .ret)) -> K .ret E ms M') : KIter l lb E ms K v M := ⟨st, some .ret, ha, hst, h⟩
theorem k_iter_exit {id : Nat} (ha : At M l (lb st (some (.exit id)))) (hst : st ≠ .busy) (h : ∀ M', Upd M l (lb .exhausted (some (.exit id))) M' -> M'.next = M.next -> At M' l (lb .exhausted (some (.exit id))) -> K (.exit id) E ms M') : KIter l lb E ms K v M := ⟨st, some (.exit id), ha, hst, h⟩
end
def MkAt (V : Nat -> LV) (lb : LB) (M : Mem) (w : LV) (M' : Mem) : Prop := ∃ p, w = V p /\ At M' p lb /\ M.next <= p /\ p < M'.next /\ Grow M M'
section
variable {P : Program} [Orc P] {sz : Nat} {E : Env} {M : Mem} {K : Env -> Mem -> Prop} {l : List XG} {d : Nat} {g : Option (Nat × Bool)} {st : List Mem} {k : Nat} {xs : List (Nat × Nat × (Mem -> Prop))} {ld : List (XG × XK)}
theorem x_mkat {f : XO} {as : List XO} {gf : FuncId} {fi ca vs : List LV} {V : Nat -> LV} {lb : LB} (hg : GOn E g) (hf : xval E f = some (.func (.func gf) fi ca)) (has : xvals E as = some vs) (h : CallOk P gf (fi ++ vs ++ ca) M (MkAt V lb M))
  (hk : ∀ p M', At M' p lb -> M.next <= p -> p < M'.next -> Grow M M' -> M.next <= M'.next -> XW P sz l ((d, V p) :: E) M' K) : XW P sz (⟨some d, .call f as, g⟩ :: l) E M K :=
 xw_call hg hf has (Q := MkAt V lb M) h fun w M' ⟨p, h1, h2, h3, h4, h5⟩ => by subst h1; exact hk p M' h2 h3 h4 h5 h5.le
theorem d_mkat {f : XO} {as : List XO} {gf : FuncId} {fi ca vs : List LV} {V : Nat -> LV} {lb : LB} (hg : GOn E g) (hf : xval E f = some (.func (.func gf) fi ca)) (has : xvals E as = some vs) (h : CallOk P gf (fi ++ vs ++ ca) M (MkAt V lb M))
  (hk : ∀ p M', At M' p lb -> M.next <= p -> p < M'.next -> Grow M M' -> M.next <= M'.next -> XD P sz ld ((d, V p) :: E) M' (M' :: st) (k + 1) xs K) : XD P sz ((⟨some d, .call f as, g⟩, .anchor) :: ld) E M st k xs K :=
 xd_call hg hf has (Q := MkAt V lb M) h fun w M' ⟨p, h1, h2, h3, h4, h5⟩ => by subst h1; exact hk p M' h2 h3 h4 h5 h5.le
end
end PvL
end
section
namespace PvL
set_option linter.unusedSectionVars false
set_option linter.unusedVariables false
open Go

structure Kill (M : Mem) (j : Nat) (n : Nat) (lb : LB) (M' : Mem) : Prop where
 eq : M' = (M.upd j none).push lb
 name : n = M.next
section
variable {M M' M0 : Mem} {i j n o : Nat} {lb lb' : LB} {F G : Nat -> Prop}
theorem Kill.next (h : Kill M j n lb M') : M'.next = M.next + 1 := by rw [h.eq]; show (M.upd j none).next + 1 = _; rw [Mem.next_upd]
theorem Kill.same (h : Kill M j n lb M') : At M' n lb := by
 refine ⟨?_, by rw [h.next, h.name]; omega⟩
 rw [h.eq, h.name, Mem.get_push, Mem.next_upd, if_pos rfl]
theorem Kill.keep (h : Kill M j n lb M') : Keep (fun i => i = j) M M' := by
 refine ⟨by rw [h.next]; omega, fun i hi hne => ?_⟩
 rw [h.eq, Mem.get_push, Mem.next_upd, if_neg (by omega), Mem.get_upd, if_neg hne]
theorem Keep.to_grow' {M1 : Mem} (h : Grow M0 M) (h' : Keep F M M1) (hF : ∀ i, F i -> M0.next <= i) : Grow M0 M1 :=
 ⟨Nat.le_trans h.le h'.le, fun i hi => by rw [h'.old i (Nat.lt_of_lt_of_le hi h.le) (fun hf => absurd (hF i hf) (by omega))]; exact h.old i hi⟩
end

theorem take'_some {n : Nat} {l : List LV} (h : n <= l.length) : take' n l = some (l.take n) := take'_eq.2 ⟨h, rfl⟩
theorem firstL_slice {sz n i o : Nat} {f : Bool} {e len : Nat} {M : Mem} {own : Bool} {cs : List LV} {ty : TypeId} (ha : At M i (.cells own cs ty)) (h : o + n * sz <= cs.length) :
  firstL sz n (.slice (some (i, o)) len f e) M = some ((cs.drop o).take (n * sz)) := by
 show ifb (Nat.beq n 0) (some []) (loadN M i o (n * sz)) = _
 by_cases hn : n = 0
 ·subst hn
  rw [show Nat.beq 0 0 = true from rfl, ifb_true, Nat.zero_mul, List.take_zero]
 ·rw [show Nat.beq n 0 = false by cases hb : Nat.beq n 0 with | false => rfl | true => exact absurd (Nat.eq_of_beq_eq_true hb) hn, ifb_false]
  unfold loadN atCells
  rw [ha.1, ob_some]
  show take' (n * sz) (drop' o cs) = _
  rw [drop'_eq, take'_some (by rw [List.length_drop]; omega)]
theorem firstL_rd {α : Type} {sz : Nat} {enc : α -> List LV} {l : List α} {M : Mem} {i o : Nat} {len : Nat} {f : Bool} {e : Nat} (henc : ∀ x ∈ l, (enc x).length = sz)
  (h : ∀ k (hk : k < l.length), Rd M i (o + k * sz) sz (enc l[k])) : firstL sz l.length (.slice (some (i, o)) len f e) M = some (l.flatMap enc) := by
 cases l with
 | nil => rfl
 | cons x xs =>
  obtain ⟨h0, hi⟩ := h 0 (by simp)
  unfold loadN atCells at h0
  obtain ⟨lb, h1, h2⟩ := ob_eq.1 h0
  cases lb with
  | cells own cs ty =>
   have ha : At M i (.cells own cs ty) := ⟨h1, hi⟩
   have hp : ∀ k (hk : k < (x :: xs).length), o + k * sz + sz <= cs.length /\ (cs.drop (o + k * sz)).take sz = enc (x :: xs)[k] ∨ sz = 0 := fun k hk => by
    obtain ⟨g0, _⟩ := h k hk
    unfold loadN atCells at g0
    rw [h1, ob_some] at g0
    have g0 : take' sz (drop' (o + k * sz) cs) = some (enc (x :: xs)[k]) := g0
    obtain ⟨g1, g2⟩ := take'_eq.1 g0
    rw [drop'_eq, List.length_drop] at g1
    rw [drop'_eq] at g2
    by_cases hz : sz = 0
    ·exact .inr hz
    ·exact .inl ⟨by omega, g2.symm⟩
   by_cases hz : sz = 0
   ·subst hz
    have e0 : (x :: xs).flatMap enc = [] := by
     rw [List.flatMap_eq_nil_iff]
     intro y hy
     exact List.eq_nil_of_length_eq_zero (henc y hy)
    rw [e0]
    show ifb (Nat.beq (x :: xs).length 0) (some []) (loadN M i o ((x :: xs).length * 0)) = _
    rw [show Nat.beq (x :: xs).length 0 = false from rfl, ifb_false, Nat.mul_zero]
    unfold loadN atCells
    rw [h1, ob_some]; rfl
   ·have hp : ∀ k (hk : k < (x :: xs).length), o + k * sz + sz <= cs.length /\ (cs.drop (o + k * sz)).take sz = enc (x :: xs)[k] := fun k hk => (hp k hk).resolve_right hz
    have hend : o + (x :: xs).length * sz <= cs.length := by
     have := (hp xs.length (by simp)).1
     simp only [List.length_cons, Nat.add_mul, Nat.one_mul]; omega
    rw [firstL_slice ha hend]
    congr 1
    have key : ∀ n, n <= (x :: xs).length -> (cs.drop o).take (n * sz) = ((x :: xs).take n).flatMap enc := by
     intro n
     induction n with
     | zero => intro _; simp
     | succ n ih =>
      intro hn
      rw [Nat.add_mul, Nat.one_mul, List.take_add, ih (by omega), List.drop_drop, (hp n (by omega)).2, List.take_succ_eq_append_getElem (by omega), List.flatMap_append]
      simp
    have := key (x :: xs).length (Nat.le_refl _)
    rw [List.take_length] at this
    exact this
  | _ => cases h2

section
variable {P : Program} [Orc P] {sz : Nat} {E : Env} {M : Mem} {K : Env -> Mem -> Prop} {l : List XG} {d : Nat} {g : Option (Nat × Bool)} {s x a y z' : XO} {i o n t : Nat} {v : LV} {ls : List LV}
 {st : List Mem} {k : Nat} {xs : List (Nat × Nat × (Mem -> Prop))} {ld : List (XG × XK)}
theorem beq0 {n : Nat} (h : 0 < n) : Nat.beq n 0 = false := by cases hb : Nat.beq n 0 with | false => rfl | true => exact absurd (Nat.eq_of_beq_eq_true hb) (by omega)
theorem xs_app_new {e q by' : Nat} {z : List LV} {aa : Option (Nat × Nat)} {len : Nat} {f : Bool} {es n : Nat} {xv : LV} {old new : List LV} (hs : xval E s = some (.slice aa len f es)) (hx : xval E x = some xv) (hn : lenOfL xv = some n) (h0 : 0 < n)
  (hb : (2 * (len + n) + 2048) * by' <= 140737488355328) (hz : (Nat.ble 1 q && (Nat.ble 1 by' && Nat.beq z.length q)) = true) (ho : firstL q len (.slice aa len f es) M = some old) (hw : firstL q n xv M = some new) (hf : allFlat new = true)
  (hfull : aa = none ∨ f = true) : xstep P (.app e q by' z s x) E M = some (.val (.slice (some (M.next, 0)) (len + n) false q) (M.push (.cells true (old ++ new) e))) := by
 show ob (xval E s) _ = _
 rw [hs, ob_some, hx, ob_some]
 show ob (lenOfL xv) _ = _
 rw [hn, ob_some, beq0 h0, ifb_false, hz, Nat.ble_eq_true_of_le hb]
 show ob (firstL q len _ M) _ = _
 rw [ho, ob_some, hw, ob_some, hf, guard'_true]
 rcases hfull with rfl | rfl
 ·rfl
 ·cases aa <;> rfl
theorem xs_app_kill {e q by' : Nat} {z : List LV} {j off len n : Nat} {xv : LV} {old new cs : List LV} {ty : TypeId} (hs : xval E s = some (.slice (some (j, off)) len false q)) (hx : xval E x = some xv) (hn : lenOfL xv = some n) (h0 : 0 < n)
  (hb : (2 * (len + n) + 2048) * by' <= 140737488355328) (hz : (Nat.ble 1 q && (Nat.ble 1 by' && Nat.beq z.length q)) = true) (ho : firstL q len (.slice (some (j, off)) len false q) M = some old) (hw : firstL q n xv M = some new) (hf : allFlat new = true)
  (ha : At M j (.cells true cs ty)) : xstep P (.app e q by' z s x) E M = some (.val (.slice (some (M.next, 0)) (len + n) false q) ((M.upd j none).push (.cells true (old ++ new) e))) := by
 show ob (xval E s) _ = _
 rw [hs, ob_some, hx, ob_some]
 show ob (lenOfL xv) _ = _
 rw [hn, ob_some, beq0 h0, ifb_false, hz, Nat.ble_eq_true_of_le hb]
 show ob (firstL q len _ M) _ = _
 rw [ho, ob_some, hw, ob_some, hf, guard'_true]
 show guard' (Nat.beq q q) (atCells M j _) = _
 rw [show Nat.beq q q = true by simp, guard'_true]
 unfold atCells
 rw [ha.1, ob_some]
 show some (R1.val (.slice (some ((M.upd j none).next, 0)) _ _ _) _) = _
 rw [Mem.next_upd]
theorem xs_mksl {q by' : Nat} {z : List LV} {nl nc : Nat} {k1 k2 : IntKind} (hx : xval E x = some (.int k1 (nl : Int))) (hy : xval E y = some (.int k2 (nc : Int))) (h1 : nl <= nc) (h2 : by' * nc <= 140737488355328) (h3 : nc <= 4294967296) :
  xstep P (.mksl t q by' z x y) E M = some (.val (.slice (some (M.next, 0)) nl (Nat.beq nl nc) q) (M.push (.cells true (rep nl z) t))) := by
 show ob (xval E x) _ = _
 rw [hx, ob_some, hy, ob_some]
 show guard' (Nat.ble nl nc && (Nat.ble (by' * nc) 140737488355328 && Nat.ble nc 4294967296)) _ = _
 rw [Nat.ble_eq_true_of_le h1, Nat.ble_eq_true_of_le h2, Nat.ble_eq_true_of_le h3]; rfl
theorem xs_lkp_none {kt : TypeId} {z kv : LV} {r : Nat} {es : List (LV × LV)} (hx : xval E x = some (.map (some r))) (hy : xval E y = some kv) (hko : keyOk P 10000 kt kv = true) (hm : At M r (.map es)) (hf : findL P kt kv es 0 = some none) :
  xstep P (.lkp kt z true x y) E M = some (.val (.tup [z, .bool false]) M) := by
 show ob (xval E x) _ = _
 rw [hx, ob_some, hy, ob_some, hko, guard'_true]
 show atMap M r _ = _
 unfold atMap
 rw [hm.1, ob_some]
 show ob (findL P kt kv es 0) _ = _
 rw [hf]; rfl
theorem xs_lkp_some {kt : TypeId} {z kv k' w : LV} {r j : Nat} {es : List (LV × LV)} (hx : xval E x = some (.map (some r))) (hy : xval E y = some kv) (hko : keyOk P 10000 kt kv = true) (hm : At M r (.map es)) (hf : findL P kt kv es 0 = some (some (j, k', w))) :
  xstep P (.lkp kt z true x y) E M = some (.val (.tup [w, .bool true]) M) := by
 show ob (xval E x) _ = _
 rw [hx, ob_some, hy, ob_some, hko, guard'_true]
 show atMap M r _ = _
 unfold atMap
 rw [hm.1, ob_some]
 show ob (findL P kt kv es 0) _ = _
 rw [hf]; rfl
theorem xs_mset_none {kt : TypeId} {kv w : LV} {r : Nat} {es : List (LV × LV)} (hx : xval E x = some (.map (some r))) (hy : xval E y = some kv) (hw : xval E z' = some w) (hko : keyOk P 10000 kt kv = true) (hm : At M r (.map es)) (hf : findL P kt kv es 0 = some none) :
  xstep P (.mset kt x y z') E M = some (.skip (M.upd r (some (.map (es ++ [(kv, w)]))))) := by
 show ob (xval E x) _ = _
 rw [hx, ob_some, hy, ob_some, hw, ob_some, hko, guard'_true]
 show atMap M r _ = _
 unfold atMap
 rw [hm.1, ob_some]
 show ob (findL P kt kv es 0) _ = _
 rw [hf]; rfl
theorem d_lkp_none {kt : TypeId} {z kv : LV} {r lo hi : Nat} {es : List (LV × LV)} (hg : GOn E g) (hx : xval E x = some (.map (some r))) (hy : xval E y = some kv) (hko : keyOk P 10000 kt kv = true) (hm : At M r (.map es)) (hf : findL P kt kv es 0 = some none)
  (hk : XD P sz ld ((d, .tup [z, .bool false]) :: E) M st k ((lo, hi, fun m => At m r (.map es)) :: xs) K) : XD P sz ((⟨some d, .lkp kt z true x y, g⟩, .reads lo hi) :: ld) E M st k xs K :=
 xd_read hg (xs_lkp_none hx hy hko hm hf) _ (fun _ hm' => xs_lkp_none hx hy hko hm' hf) hk
theorem d_lkp_some {kt : TypeId} {z kv k' w : LV} {r j lo hi : Nat} {es : List (LV × LV)} (hg : GOn E g) (hx : xval E x = some (.map (some r))) (hy : xval E y = some kv) (hko : keyOk P 10000 kt kv = true) (hm : At M r (.map es)) (hf : findL P kt kv es 0 = some (some (j, k', w)))
  (hk : XD P sz ld ((d, .tup [w, .bool true]) :: E) M st k ((lo, hi, fun m => At m r (.map es)) :: xs) K) : XD P sz ((⟨some d, .lkp kt z true x y, g⟩, .reads lo hi) :: ld) E M st k xs K :=
 xd_read hg (xs_lkp_some hx hy hko hm hf) _ (fun _ hm' => xs_lkp_some hx hy hko hm' hf) hk
theorem x_mset_none {kt : TypeId} {kv w : LV} {r : Nat} {es : List (LV × LV)} (hg : GOn E g) (hx : xval E x = some (.map (some r))) (hy : xval E y = some kv) (hw : xval E z' = some w) (hko : keyOk P 10000 kt kv = true) (hm : At M r (.map es)) (hf : findL P kt kv es 0 = some none)
  (hk : ∀ M', Upd M r (.map (es ++ [(kv, w)])) M' -> M'.next = M.next -> At M' r (.map (es ++ [(kv, w)])) -> XW P sz l E M' K) : XW P sz (⟨none, .mset kt x y z', g⟩ :: l) E M K :=
 xw_skip hg (xs_mset_none hx hy hw hko hm hf) (hk _ ⟨rfl⟩ (Mem.next_upd _ _ _) (At.upd_same ⟨rfl⟩ hm))
theorem d_mset_none {kt : TypeId} {kv w : LV} {r : Nat} {es : List (LV × LV)} (hg : GOn E g) (hx : xval E x = some (.map (some r))) (hy : xval E y = some kv) (hw : xval E z' = some w) (hko : keyOk P 10000 kt kv = true) (hm : At M r (.map es)) (hf : findL P kt kv es 0 = some none)
  (hk : ∀ M', Upd M r (.map (es ++ [(kv, w)])) M' -> M'.next = M.next -> At M' r (.map (es ++ [(kv, w)])) -> XD P sz ld E M' (M' :: st) (k + 1) xs K) : XD P sz ((⟨none, .mset kt x y z', g⟩, .anchor) :: ld) E M st k xs K :=
 xd_skip hg (xs_mset_none hx hy hw hko hm hf) (hk _ ⟨rfl⟩ (Mem.next_upd _ _ _) (At.upd_same ⟨rfl⟩ hm))
theorem x_gen {i : XI} {v : LV} {M' : Mem} (hg : GOn E g) (hs : xstep P i E M = some (.val v M')) (hk : XW P sz l ((d, v) :: E) M' K) : XW P sz (⟨some d, i, g⟩ :: l) E M K := xw_val hg hs hk
theorem d_anch {i : XI} {v : LV} {M' : Mem} (hg : GOn E g) (hs : xstep P i E M = some (.val v M')) (hk : XD P sz ld ((d, v) :: E) M' (M' :: st) (k + 1) xs K) : XD P sz ((⟨some d, i, g⟩, .anchor) :: ld) E M st k xs K := xd_anchor hg hs hk
end

def Put1 (v : LV) (p : Nat) (lb : LB) (M : Mem) (w : LV) (M' : Mem) : Prop := w = v /\ Keep (fun i => i = p) M M' /\ At M' p lb
section
variable {P : Program} [Orc P] {sz : Nat} {E : Env} {M : Mem} {K : Env -> Mem -> Prop} {l : List XG} {d : Nat} {g : Option (Nat × Bool)} {st : List Mem} {k : Nat} {xs : List (Nat × Nat × (Mem -> Prop))} {ld : List (XG × XK)}
end

section
variable {P : Program} {κ β : Type} [DecidableEq κ] {ek : κ -> LV} {ev : β -> LV} {kt : TypeId}
def encM (ek : κ -> LV) (ev : β -> LV) (L : List (κ × β)) : List (LV × LV) := L.map fun p => (ek p.1, ev p.2)
theorem findL_enc (heq : ∀ a b, eqL P Op.maxDepth kt (ek a) (ek b) = some (decide (a = b))) (key : κ) : ∀ (L : List (κ × β)) (i : Nat),
  (findL P kt (ek key) (encM ek ev L) i = some none /\ ∀ p ∈ L, p.1 ≠ key) ∨ ∃ j v, findL P kt (ek key) (encM ek ev L) i = some (some (j, ek key, ev v)) /\ (key, v) ∈ L
 | [], i => .inl ⟨rfl, fun p hp => by cases hp⟩
 |(a, b) :: L, i => by
  have h : findL P kt (ek key) (encM ek ev ((a, b) :: L)) i = ob (eqL P Op.maxDepth kt (ek key) (ek a)) fun b' => ifb b' (some (some (i, ek a, ev b))) (findL P kt (ek key) (encM ek ev L) (i + 1)) := rfl
  rw [h, heq, ob_some]
  by_cases hab : key = a
  ·subst hab
   rw [decide_eq_true rfl, ifb_true]
   exact .inr ⟨i, b, rfl, List.mem_cons_self⟩
  ·rw [decide_eq_false hab, ifb_false]
   rcases findL_enc heq key L (i + 1) with ⟨h1, h2⟩ | ⟨j, v, h1, h2⟩
   ·refine .inl ⟨h1, fun p hp => ?_⟩
    rcases List.mem_cons.1 hp with rfl | hp
    ·exact fun e => hab e.symm
    ·exact h2 p hp
   ·exact .inr ⟨j, v, h1, List.mem_cons_of_mem _ h2⟩
theorem encM_append (L : List (κ × β)) (a : κ) (b : β) : encM ek ev L ++ [(ek a, ev b)] = encM ek ev (L ++ [(a, b)]) := by unfold encM; rw [List.map_append]; rfl
end

def Vec {α : Type} (b sz : Nat) (ty : TypeId) (enc : α -> List LV) (M : Mem) (v : LV) (l : List α) : Prop :=
 (l = [] /\ v = .slice none 0 true 0) ∨ ∃ i, v = .slice (some (i, 0)) l.length false sz /\ At M i (.cells true (l.flatMap enc) ty) /\ b <= i
section
variable {α : Type} {b sz : Nat} {ty : TypeId} {enc : α -> List LV} {M M' : Mem} {v : LV} {l : List α}
theorem Vec.nil : Vec b sz ty enc M (.slice none 0 true 0) [] := .inl ⟨rfl, rfl⟩
theorem Vec.grow (h : Vec b sz ty enc M v l) (hg : Grow M M') : Vec b sz ty enc M' v l := h.imp id fun ⟨i, h1, h2, h3⟩ => ⟨i, h1, h2.grow hg, h3⟩
theorem Vec.keep {F : Nat -> Prop} (h : Vec b sz ty enc M v l) (hk : Keep F M M') (hF : ∀ i, F i -> i < b) : Vec b sz ty enc M' v l :=
 h.imp id fun ⟨i, h1, h2, h3⟩ => ⟨i, h1, h2.keep hk (fun hf => by have := hF i hf; omega), h3⟩
theorem Vec.shape (h : Vec b sz ty enc M v l) : ∃ a f e, v = .slice a l.length f e := by
 rcases h with ⟨rfl, rfl⟩ | ⟨i, rfl, _⟩
 ·exact ⟨_, _, _, rfl⟩
 ·exact ⟨_, _, _, rfl⟩
theorem flatMap_len {l : List α} (henc : ∀ x ∈ l, (enc x).length = sz) : (l.flatMap enc).length = l.length * sz := by
 induction l with
 | nil => simp
 | cons x xs ih =>
  rw [List.flatMap_cons, List.length_append, henc x List.mem_cons_self, ih (fun y hy => henc y (List.mem_cons_of_mem _ hy)), List.length_cons, Nat.add_mul, Nat.one_mul, Nat.add_comm]
theorem flatMap_at {l : List α} (henc : ∀ x ∈ l, (enc x).length = sz) : ∀ {k : Nat} (hk : k < l.length), ((l.flatMap enc).drop (k * sz)).take sz = enc l[k] := by
 induction l with
 | nil => intro k hk; cases hk
 | cons x xs ih =>
  intro k hk
  have hx := henc x List.mem_cons_self
  cases k with
  | zero =>
   rw [Nat.zero_mul, List.drop_zero, List.flatMap_cons, List.take_append_of_le_length (by omega), List.take_of_length_le (by omega)]; rfl
  | succ k =>
   rw [List.flatMap_cons, Nat.add_mul, Nat.one_mul, Nat.add_comm, <- List.drop_drop, List.drop_append_of_le_length (by omega), List.drop_of_length_le (l := enc x) (by omega), List.nil_append]
   exact ih (fun y hy => henc y (List.mem_cons_of_mem _ hy)) (by simpa using hk)
theorem rd_flat {own : Bool} {i : Nat} (ha : At M i (.cells own (l.flatMap enc) ty)) (henc : ∀ x ∈ l, (enc x).length = sz) {k : Nat} (hk : k < l.length) : Rd M i (0 + k * sz) sz (enc l[k]) := by
 refine Rd.of_at ha ?_
 have hle : k * sz + sz <= l.length * sz := by
  have : (k + 1) * sz <= l.length * sz := Nat.mul_le_mul_right _ hk
  rw [Nat.add_mul, Nat.one_mul] at this; exact this
 rw [drop'_eq, Nat.zero_add, take'_some (by rw [List.length_drop, flatMap_len henc]; omega), flatMap_at henc hk]
theorem Vec.rd (h : Vec b sz ty enc M v l) (henc : ∀ x ∈ l, (enc x).length = sz) : ∃ a f e, v = .slice a l.length f e /\ (l = [] ∨ ∃ i o, a = some (i, o) /\ ∀ k (hk : k < l.length), Rd M i (o + k * sz) sz (enc l[k])) := by
 rcases h with ⟨rfl, rfl⟩ | ⟨i, rfl, h2, h3⟩
 ·exact ⟨_, _, _, rfl, .inl rfl⟩
 ·exact ⟨_, _, _, rfl, .inr ⟨i, 0, rfl, fun k hk => rd_flat h2 henc hk⟩⟩
theorem allFlat_append : ∀ {a c : List LV}, allFlat (a ++ c) = (allFlat a && allFlat c)
 | [], c => by rw [List.nil_append]; rfl
 | x :: xs, c => by
  show ifb x.flat (allFlat (xs ++ c)) false = (ifb x.flat (allFlat xs) false && allFlat c)
  rw [allFlat_append]
  cases x.flat <;> rfl
theorem allFlat_flatMap {l : List α} (h : ∀ x ∈ l, allFlat (enc x) = true) : allFlat (l.flatMap enc) = true := by
 induction l with
 | nil => rfl
 | cons x xs ih => rw [List.flatMap_cons, allFlat_append, h x List.mem_cons_self, ih (fun y hy => h y (List.mem_cons_of_mem _ hy))]; rfl
theorem Vec.app {P : Program} [Orc P] {E : Env} {s x : XO} {by' : Nat} {z : List LV} {l' : List α} {xv : LV} (h : Vec b sz ty enc M v l) (hs : xval E s = some v) (hx : xval E x = some xv) (hn : lenOfL xv = some l'.length) (h0 : 0 < l'.length)
  (hb : (2 * (l.length + l'.length) + 2048) * by' <= 140737488355328) (hz : (Nat.ble 1 sz && (Nat.ble 1 by' && Nat.beq z.length sz)) = true) (hw : firstL sz l'.length xv M = some (l'.flatMap enc))
  (henc : ∀ x, (enc x).length = sz) (hfl : ∀ x, allFlat (enc x) = true) (hbM : b <= M.next) :
  ∃ v' M', xstep P (.app ty sz by' z s x) E M = some (.val v' M') /\ Vec b sz ty enc M' v' (l ++ l') /\ M'.next = M.next + 1 /\ Keep (fun i => b <= i /\ ∃ o n f e, v = .slice (some (i, o)) n f e) M M' := by
 have hf := allFlat_flatMap (l := l') (enc := enc) (fun x _ => hfl x)
 rcases h with ⟨rfl, rfl⟩ | ⟨i, rfl, h2, h3⟩
 ·refine ⟨_, _, xs_app_new hs hx hn h0 (by simpa using hb) hz rfl hw hf (.inl rfl), .inr ⟨M.next, ?_, ?_, hbM⟩, rfl, ?_⟩
  ·rw [List.nil_append, Nat.zero_add]
  ·rw [List.nil_append, List.nil_append]; exact ⟨by rw [Mem.get_push, if_pos rfl], Nat.lt_succ_self _⟩
  ·have hN : New M M.next (.cells true ([] ++ l'.flatMap enc) ty) (M.push (.cells true ([] ++ l'.flatMap enc) ty)) := ⟨rfl, rfl⟩
   exact hN.grow.to_keep _
 ·have ho : firstL sz l.length (.slice (some (i, 0)) l.length false sz) M = some (l.flatMap enc) := by
   rw [firstL_slice h2 (by rw [flatMap_len (fun x _ => henc x)]; omega), List.drop_zero, List.take_of_length_le (by rw [flatMap_len (fun x _ => henc x)]; omega)]
  have hK : Kill M i M.next (.cells true (l.flatMap enc ++ l'.flatMap enc) ty) ((M.upd i none).push (.cells true (l.flatMap enc ++ l'.flatMap enc) ty)) := ⟨rfl, rfl⟩
  refine ⟨_, _, xs_app_kill hs hx hn h0 hb hz ho hw hf h2, .inr ⟨M.next, by rw [List.length_append], ?_, hbM⟩, hK.next, hK.keep.weaken fun j hj => ?_⟩
  ·rw [List.flatMap_append]; exact hK.same
  ·subst hj; exact ⟨h3, _, _, _, _, rfl⟩
end
end PvL
end
section
namespace PvL
set_option linter.unusedSectionVars false
set_option linter.unusedVariables false
open Go
def shlZ (a b : Int) : Int := a * ((2 ^ b.toNat : Nat) : Int)
def shrZ (a b : Int) : Int := a / ((2 ^ b.toNat : Nat) : Int)
def andZ (a b : Int) : Int := ((a.toNat &&& b.toNat : Nat) : Int)
def orZ (a b : Int) : Int := ((a.toNat ||| b.toNat : Nat) : Int)
def andnZ (a b : Int) : Int := a - andZ a b
theorem ofInt_nat {n : Nat} (h : n < 2 ^ 64) : (BitVec.ofInt 64 (n : Int)).toNat = n := by
 rw [BitVec.ofInt_natCast, BitVec.toNat_ofNat, Nat.mod_eq_of_lt h]
theorem wr_small {n : Int} (h : -9223372036854775808 <= n /\ n <= 9223372036854775807) : mkI .i64 (wr .i64 n) = some (.int .i64 n) := by
 rw [mkI_some, wr_eq, wrap_in h]
section
variable {P : Program} {E : Env} {M : Mem} {x y : XO} {a b : Int}
theorem xs_and (hx : xval E x = some (.int .i64 a)) (hy : xval E y = some (.int .i64 b)) (ha : 0 <= a /\ a <= 4294967296) (hb : 0 <= b /\ b <= 4294967296) : xstep P (.bin .and x y) E M = some (.val (.int .i64 (andZ a b)) M) := by
 obtain ⟨m, rfl⟩ := Int.eq_ofNat_of_zero_le ha.1
 obtain ⟨n, rfl⟩ := Int.eq_ofNat_of_zero_le hb.1
 show ob (xval E x) _ = _
 rw [hx, ob_some, hy, ob_some]
 show guard' true (ob (mkI .i64 (wr .i64 (BitVec.ofInt 64 (m : Int) &&& BitVec.ofInt 64 (n : Int)).toNat)) _) = _
 have h1 : (BitVec.ofInt 64 (m : Int) &&& BitVec.ofInt 64 (n : Int)).toNat = m &&& n := by rw [BitVec.toNat_and, ofInt_nat (by omega), ofInt_nat (by omega)]
 have h2 : m &&& n <= m := Nat.and_le_left
 rw [h1, guard'_true, wr_small (by omega), ob_some]; rfl
theorem or_lt {m n : Nat} (hm : m < 4294967296) (hn : n < 4294967296) : m ||| n < 4294967296 := Nat.or_lt_two_pow (n := 32) hm hn
theorem xs_or (hx : xval E x = some (.int .i64 a)) (hy : xval E y = some (.int .i64 b)) (ha : 0 <= a /\ a < 4294967296) (hb : 0 <= b /\ b < 4294967296) : xstep P (.bin .or x y) E M = some (.val (.int .i64 (orZ a b)) M) := by
 obtain ⟨m, rfl⟩ := Int.eq_ofNat_of_zero_le ha.1
 obtain ⟨n, rfl⟩ := Int.eq_ofNat_of_zero_le hb.1
 show ob (xval E x) _ = _
 rw [hx, ob_some, hy, ob_some]
 show guard' true (ob (mkI .i64 (wr .i64 (BitVec.ofInt 64 (m : Int) ||| BitVec.ofInt 64 (n : Int)).toNat)) _) = _
 have h1 : (BitVec.ofInt 64 (m : Int) ||| BitVec.ofInt 64 (n : Int)).toNat = m ||| n := by rw [BitVec.toNat_or, ofInt_nat (by omega), ofInt_nat (by omega)]
 have h2 : m ||| n < 4294967296 := or_lt (by omega) (by omega)
 rw [h1, guard'_true, wr_small (by omega), ob_some]; rfl
theorem andn_nat {m n : Nat} (hm : m < 2 ^ 64) (hn : n < 2 ^ 64) : (BitVec.ofInt 64 (m : Int) &&& ~~~(BitVec.ofInt 64 (n : Int))).toNat = m - (m &&& n) := by
 have h : (BitVec.ofInt 64 (m : Int) &&& ~~~(BitVec.ofInt 64 (n : Int))) + (BitVec.ofInt 64 (m : Int) &&& BitVec.ofInt 64 (n : Int)) = BitVec.ofInt 64 (m : Int) := by
  rw [BitVec.add_eq_or_of_and_eq_zero]
  ·ext i hi
   simp only [BitVec.getElem_or, BitVec.getElem_and, BitVec.getElem_not]
   cases (BitVec.ofInt 64 (m : Int))[i] <;> cases (BitVec.ofInt 64 (n : Int))[i] <;> rfl
  ·ext i hi
   simp only [BitVec.getElem_and, BitVec.getElem_not, BitVec.getElem_zero]
   cases (BitVec.ofInt 64 (m : Int))[i] <;> cases (BitVec.ofInt 64 (n : Int))[i] <;> rfl
 have h2 : (BitVec.ofInt 64 (m : Int) &&& BitVec.ofInt 64 (n : Int)).toNat = m &&& n := by rw [BitVec.toNat_and, ofInt_nat hm, ofInt_nat hn]
 have h3 : (BitVec.ofInt 64 (m : Int) &&& ~~~(BitVec.ofInt 64 (n : Int))).toNat <= m := by
  rw [BitVec.toNat_and, ofInt_nat hm]; exact Nat.and_le_left
 have h4 := congrArg BitVec.toNat h
 rw [BitVec.toNat_add, h2, ofInt_nat hm] at h4
 have h5 : m &&& n <= m := Nat.and_le_left
 generalize (BitVec.ofInt 64 (m : Int) &&& ~~~(BitVec.ofInt 64 (n : Int))).toNat = z at *
 by_cases hz : z + (m &&& n) < 2 ^ 64
 ·rw [Nat.mod_eq_of_lt hz] at h4; omega
 ·rw [Nat.mod_eq_sub_mod (by omega), Nat.mod_eq_of_lt (by omega)] at h4
  omega
theorem xs_andn (hx : xval E x = some (.int .i64 a)) (hy : xval E y = some (.int .i64 b)) (ha : 0 <= a /\ a <= 4294967296) (hb : 0 <= b /\ b <= 4294967296) : xstep P (.bin .andNot x y) E M = some (.val (.int .i64 (andnZ a b)) M) := by
 obtain ⟨m, rfl⟩ := Int.eq_ofNat_of_zero_le ha.1
 obtain ⟨n, rfl⟩ := Int.eq_ofNat_of_zero_le hb.1
 show ob (xval E x) _ = _
 rw [hx, ob_some, hy, ob_some]
 show guard' true (ob (mkI .i64 (wr .i64 (BitVec.ofInt 64 (m : Int) &&& ~~~(BitVec.ofInt 64 (n : Int))).toNat)) _) = _
 have h2 : m &&& n <= m := Nat.and_le_left
 rw [andn_nat (by omega) (by omega), guard'_true, wr_small (by omega), ob_some]
 show some (R1.val (LV.int .i64 ((m - (m &&& n) : Nat) : Int)) M) = some (R1.val (LV.int .i64 ((m : Int) - ((m &&& n : Nat) : Int))) M)
 rw [Int.ofNat_sub h2]
theorem pow_bd {b : Nat} (h : b <= 20) : 1 <= 2 ^ b /\ 2 ^ b <= 1048576 := ⟨Nat.one_le_two_pow, by have := Nat.pow_le_pow_right (n := 2) (by omega) h; omega⟩
theorem shl_bd (ha : 0 <= a /\ a <= 1000000) (hb : 0 <= b /\ b <= 20) : 0 <= shlZ a b /\ shlZ a b <= 1048576000000 := by
 have hp := pow_bd (b := b.toNat) (by omega)
 have := mul_bd (a := a) (b := ((2 ^ b.toNat : Nat) : Int)) (A := 1000000) (B := 1048576) (by omega) (by omega)
 unfold shlZ
 have h0 : 0 <= a * ((2 ^ b.toNat : Nat) : Int) := Int.mul_nonneg ha.1 (by omega)
 omega
theorem xs_shl (hx : xval E x = some (.int .i64 a)) (hy : xval E y = some (.int .i64 b)) (ha : 0 <= a /\ a <= 1000000) (hb : 0 <= b /\ b <= 20) : xstep P (.bin .shl x y) E M = some (.val (.int .i64 (shlZ a b)) M) := by
 have hbd := shl_bd ha hb
 obtain ⟨n, rfl⟩ := Int.eq_ofNat_of_zero_le hb.1
 show ob (xval E x) _ = _
 rw [hx, ob_some, hy, ob_some]
 show guard' true (ob (mkI .i64 (wr .i64 (a * ((2 ^ (Nat.min n 64) : Nat) : Int)))) _) = _
 have hm : Nat.min n 64 = n := Nat.min_eq_left (by omega)
 rw [hm, guard'_true]
 have e : a * ((2 ^ n : Nat) : Int) = shlZ a n := rfl
 rw [e, wr_small (by omega), ob_some]; rfl
theorem xs_shr (hx : xval E x = some (.int .i64 a)) (hy : xval E y = some (.int .i64 b)) (ha : 0 <= a /\ a <= 1000000000) (hb : 0 <= b /\ b <= 20) : xstep P (.bin .shr x y) E M = some (.val (.int .i64 (shrZ a b)) M) := by
 obtain ⟨n, rfl⟩ := Int.eq_ofNat_of_zero_le hb.1
 show ob (xval E x) _ = _
 rw [hx, ob_some, hy, ob_some]
 show guard' true (ob (mkI .i64 (a.fdiv ((2 ^ (Nat.min n 64) : Nat) : Int))) _) = _
 have hm : Nat.min n 64 = n := Nat.min_eq_left (by omega)
 rw [hm, guard'_true, mkI_some, ob_some, Int.fdiv_eq_ediv_of_nonneg _ (Int.natCast_nonneg _)]; rfl
end

section
variable {α : Type} {P : Program} [Orc P]
structure Taker (P : Program) [Orc P] (items : List α) (R : α -> List LV -> (Nat -> Prop) -> Mem -> Prop) (l : Nat) (A Wr : Nat -> Prop) (I : List α -> (Nat -> Prop) -> Mem -> Prop) (D : (Nat -> Prop) -> Mem -> Prop) (N0 : Nat) : Prop where
 lt : ∀ i, A i -> i < N0
 stab : ∀ d T M M', I d T M -> M.next <= M'.next -> (∀ i, (i < N0 /\ ¬ Wr i) ∨ T i -> M'.get i = M.get i) -> I d T M'
 stabD : ∀ T M M', D T M -> M.next <= M'.next -> (∀ i, (i < N0 /\ ¬ Wr i) ∨ T i -> M'.get i = M.get i) -> D T M'
 step : ∀ d x rest v (U T : Nat -> Prop) M, items = d ++ x :: rest -> R x v U M -> N0 <= M.next -> (∀ i, T i -> N0 <= i /\ i < M.next) -> (∀ i, U i -> N0 <= i /\ i < M.next /\ ¬ T i) -> I d T M ->
  RoundOk P l v M fun w M' => Keep (fun i => A i ∨ T i ∨ U i) M M' /\ ∃ T' : Nat -> Prop, (∀ i, T' i -> (T i ∨ U i ∨ M.next <= i) /\ i < M'.next) /\ ((w = .bool true /\ I (d ++ [x]) T' M') ∨ (w = .bool false /\ D T' M'))
def YieldsS (P : Program) [Orc P] (gf : FuncId) (fi ca : List LV) (S Wr : Nat -> Prop) (Fin : Mem -> Prop) (items : List α) (R : α -> List LV -> (Nat -> Prop) -> Mem -> Prop) (M0 : Mem) : Prop :=
 ∀ (l : Nat) (A : Nat -> Prop) (I : List α -> (Nat -> Prop) -> Mem -> Prop) (D : (Nat -> Prop) -> Mem -> Prop),
  Taker P items R l A Wr I D M0.next -> (∀ i, S i -> ¬ A i) -> I [] (fun _ => False) M0 ->
  CallOk P gf (fi ++ [.func (.yield l) [] []] ++ ca) M0 fun _ M' => Keep (fun i => A i ∨ Wr i) M0 M' /\ Fin M' /\ ∃ T' : Nat -> Prop, (∀ i, T' i -> M0.next <= i /\ i < M'.next) /\ (I items T' M' ∨ D T' M')
def Took (A Wr T : Nat -> Prop) (Fin : Mem -> Prop) (I : List α -> (Nat -> Prop) -> Mem -> Prop) (D : (Nat -> Prop) -> Mem -> Prop) (d : List α) (M : Mem) (v : LV) (M' : Mem) : Prop :=
 Keep (fun i => A i ∨ T i ∨ Wr i) M M' /\ Fin M' /\ ∃ T' : Nat -> Prop, (∀ i, T' i -> (T i ∨ M.next <= i) /\ i < M'.next) /\ ((v = .bool true /\ I d T' M') ∨ (v = .bool false /\ D T' M'))
end
section
variable {M M' M0 : Mem} {i j n o k : Nat} {lb lb' : LB} {F : Nat -> Prop} {l : List LV} {v : LV}
theorem At.kill (h : Kill M j n lb M') (hne : i ≠ j) (ha : At M i lb') : At M' i lb' := ha.keep h.keep hne
theorem Rd.kill (h : Kill M j n lb M') (hne : i ≠ j) (ha : Rd M i o k l) : Rd M' i o k l := ha.keep h.keep hne
theorem Rd1.kill (h : Kill M j n lb M') (hne : i ≠ j) (ha : Rd1 M i o v) : Rd1 M' i o v := ha.keep h.keep hne
theorem Keep.kill (h : Keep F M0 M) (h' : Kill M j n lb M') (hj : F j ∨ M0.next <= j) : Keep F M0 M' := h.trans h'.keep fun i hi => by subst hi; exact hj
theorem Grow.kill (h : Grow M0 M) (h' : Kill M j n lb M') (hj : M0.next <= j) : Grow M0 M' := Keep.to_grow' h h'.keep fun i hi => by subst hi; exact hj
end
class IsSl (P : Program) (t : TypeId) : Prop where
 h : ∃ e, P.underlying t = some (.slice e)
section
variable {P : Program} [Orc P] {t : TypeId} [hs : IsSl P t] {E : Env} {M : Mem} {x : XO} {a : Nat × Nat} {n n' : Nat} {f f' : Bool} {e e' : Nat}
theorem eqV_sl (a : Option (Nat × Nat)) : eqV P t (.slice a n f e) (.slice none n' f' e') = some a.isNone := by
 obtain ⟨et, ht⟩ := hs.h
 show ifb false none (eqL P Op.maxDepth t _ _) = _
 rw [ifb_false]
 show eqL P (Op.maxDepth - 1 + 1) t _ _ = _
 unfold eqL
 rw [ht]
 cases a <;> rfl
theorem xs_eqsl (hx : xval E x = some (.slice (some a) n f e)) : xstep P (.eqg false t x (.c (.slice none n' f' e'))) E M = some (.val (.bool false) M) := by
 show ob (xval E x) _ = _
 rw [hx, ob_some]
 show ob (xval E (.c _)) _ = _
 rw [show xval E (.c (.slice none n' f' e')) = some (.slice none n' f' e') from rfl, ob_some]
 show guard' true (ob (eqV P t (.slice (some a) n f e) (.slice none n' f' e')) _) = _
 rw [eqV_sl, guard'_true, ob_some]; rfl
theorem xs_eqsl0 (hx : xval E x = some (.slice none n f e)) : xstep P (.eqg false t x (.c (.slice none n' f' e'))) E M = some (.val (.bool true) M) := by
 show ob (xval E x) _ = _
 rw [hx, ob_some]
 show ob (xval E (.c _)) _ = _
 rw [show xval E (.c (.slice none n' f' e')) = some (.slice none n' f' e') from rfl, ob_some]
 show guard' true (ob (eqV P t (.slice none n f e) (.slice none n' f' e')) _) = _
 rw [eqV_sl, guard'_true, ob_some]; rfl
end
section
variable {P : Program} [Orc P] {sz : Nat} {E : Env} {M : Mem} {K : Env -> Mem -> Prop} {l : List XG} {d : Nat} {g : Option (Nat × Bool)} {s x : XO} {st : List Mem} {k : Nat} {xs : List (Nat × Nat × (Mem -> Prop))} {ld : List (XG × XK)}
 {e q by' : Nat} {z : List LV} {aa : Option (Nat × Nat)} {len : Nat} {f : Bool} {es n : Nat} {xv : LV} {old new : List LV} {j off : Nat} {cs : List LV} {ty : TypeId}
theorem x_app_new (hg : GOn E g) (hs : xval E s = some (.slice aa len f es)) (hx : xval E x = some xv) (hn : lenOfL xv = some n) (h0 : 0 < n)
  (hb : (2 * (len + n) + 2048) * by' <= 140737488355328) (hz : (Nat.ble 1 q && (Nat.ble 1 by' && Nat.beq z.length q)) = true) (ho : firstL q len (.slice aa len f es) M = some old) (hw : firstL q n xv M = some new) (hf : allFlat new = true) (hfull : aa = none ∨ f = true)
  (hk : ∀ m M', New M m (.cells true (old ++ new) e) M' -> m = M.next -> M'.next = M.next + 1 -> XW P sz l ((d, .slice (some (m, 0)) (len + n) false q) :: E) M' K) : XW P sz (⟨some d, .app e q by' z s x, g⟩ :: l) E M K :=
 x_gen hg (xs_app_new hs hx hn h0 hb hz ho hw hf hfull) (hk _ _ ⟨rfl, rfl⟩ rfl rfl)
theorem d_app_kill (hg : GOn E g) (hs : xval E s = some (.slice (some (j, off)) len false q)) (hx : xval E x = some xv) (hn : lenOfL xv = some n) (h0 : 0 < n)
  (hb : (2 * (len + n) + 2048) * by' <= 140737488355328) (hz : (Nat.ble 1 q && (Nat.ble 1 by' && Nat.beq z.length q)) = true) (ho : firstL q len (.slice (some (j, off)) len false q) M = some old) (hw : firstL q n xv M = some new) (hf : allFlat new = true)
  (ha : At M j (.cells true cs ty))
  (hk : ∀ m M', Kill M j m (.cells true (old ++ new) e) M' -> m = M.next -> M'.next = M.next + 1 -> At M' m (.cells true (old ++ new) e) -> XD P sz ld ((d, .slice (some (m, 0)) (len + n) false q) :: E) M' (M' :: st) (k + 1) xs K) : XD P sz ((⟨some d, .app e q by' z s x, g⟩, .anchor) :: ld) E M st k xs K :=
 d_anch hg (xs_app_kill hs hx hn h0 hb hz ho hw hf ha) (by
  have hK : Kill M j M.next (.cells true (old ++ new) e) ((M.upd j none).push (.cells true (old ++ new) e)) := ⟨rfl, rfl⟩
  exact hk _ _ hK rfl hK.next hK.same)
end
end PvL
namespace PvL
open Go
theorem shl_one (k : Nat) : shlZ 1 (k : Int) = ((2 ^ k : Nat) : Int) := by unfold shlZ; rw [Int.one_mul]; rfl
theorem orZ_nat (u k : Nat) : orZ (u : Int) (shlZ 1 (k : Int)) = ((u ||| 2 ^ k : Nat) : Int) := by rw [shl_one]; rfl
theorem and_pow (u k : Nat) : u &&& 2 ^ k = if u.testBit k then 2 ^ k else 0 := by
 refine Nat.eq_of_testBit_eq fun i => ?_
 rw [Nat.testBit_and, Nat.testBit_two_pow]
 by_cases h : k = i
 ·subst h
  cases hu : u.testBit k with
  | true => rw [if_pos rfl, Nat.testBit_two_pow]; rfl
  | false => rw [if_neg (by decide), Nat.zero_testBit]; rfl
 ·rw [decide_eq_false h, Bool.and_false]
  cases hu : u.testBit k with
  | true => rw [if_pos rfl, Nat.testBit_two_pow, decide_eq_false h]
  | false => rw [if_neg (by decide), Nat.zero_testBit]
theorem andZ_nat (u k : Nat) : andZ (u : Int) (shlZ 1 (k : Int)) = 0 ↔ u.testBit k = false := by
 rw [shl_one]
 show ((u &&& 2 ^ k : Nat) : Int) = 0 ↔ _
 rw [and_pow]
 have := Nat.two_pow_pos k
 cases u.testBit k with
 | false => simp
 | true => rw [if_pos rfl]; exact ⟨fun h => by omega, fun h => by cases h⟩
theorem shl_one_bd {k : Nat} (h : k <= 20) : 1 <= shlZ 1 (k : Int) /\ shlZ 1 (k : Int) <= 1048576 := by rw [shl_one]; have := pow_bd h; omega
end PvL
end
section
namespace PvL
set_option linter.unusedSectionVars false
set_option linter.unusedVariables false
open Go
theorem Rd.nth {M : Mem} {i o n j : Nat} {l : List LV} {v : LV} (h : Rd M i o n l) (hj : PvL.nth l j = some v) : Rd1 M i (o + j) v := by
 obtain ⟨h1, h2⟩ := h
 refine ⟨?_, h2⟩
 unfold loadN atCells at h1
 unfold load1 atCells
 obtain ⟨lb, h3, h4⟩ := ob_eq.1 h1
 rw [h3, ob_some]
 cases lb with
 | cells own cs ty =>
  have h4 : take' n (drop' o cs) = some l := h4
  obtain ⟨h5, h6⟩ := take'_eq.1 h4
  show PvL.nth cs (o + j) = some v
  rw [nth_eq] at hj ⊢
  subst h6
  rw [drop'_eq] at hj
  have hlt : j < n := by
   have := (List.getElem?_eq_some_iff.1 hj).1
   rw [List.length_take] at this; omega
  rw [List.getElem?_take_of_lt hlt, List.getElem?_drop] at hj
  exact hj
 | _ => cases h4
theorem xm {p : Prop} (h : p := by ((repeat' (first | assumption | exact Rd1.of_at (by assumption) rfl | exact Rd.of_at (by assumption) rfl | exact Rd1.of_at (At.new_same (by assumption)) rfl | exact Rd.of_at (At.new_same (by assumption)) rfl | exact At.new_same (by assumption) | (with_reducible apply At.new_old (by assumption)) | (with_reducible apply At.upd_ne (by assumption) (by omega)) | (with_reducible apply At.grow (by assumption)) | (with_reducible apply At.keep (by assumption) (by first | assumption | omega | (intro hh; dsimp only at hh; omega))) | (with_reducible apply At.kill (by assumption) (by omega)) | (with_reducible apply Rd.kill (by assumption) (by omega)) | (with_reducible apply Rd1.kill (by assumption) (by omega)) | (with_reducible apply Rd.new_old (by assumption)) | (with_reducible apply Rd1.new_old (by assumption)) | (with_reducible apply Rd.upd_ne (by assumption) (by omega)) | (with_reducible apply Rd1.upd_ne (by assumption) (by omega)) | (with_reducible apply Rd.grow (by assumption)) | (with_reducible apply Rd1.grow (by assumption)) | (with_reducible apply Rd.keep (by assumption) (by first | assumption | omega | (intro hh; dsimp only at hh; omega))) | (with_reducible apply Rd1.keep (by assumption) (by first | assumption | omega | (intro hh; dsimp only at hh; omega))))); first | done | fail)) : p := h
theorem xg {p : Prop} (h : p := by ((repeat' (first | (with_reducible exact Grow.refl _) | assumption | (with_reducible refine Grow.new ?_ (by assumption)) | (with_reducible refine Grow.upd ?_ (by assumption) (by omega)) | (with_reducible refine Grow.kill ?_ (by assumption) (by omega)) | (with_reducible refine Grow.trans ?_ (by assumption)) | (with_reducible refine Keep.to_grow' ?_ (by assumption) (by intro i hi; (try dsimp only at hi); omega)))); first | done | fail)) : p := h
theorem xk {p : Prop} (h : p := by ((repeat' (first | (with_reducible exact Keep.refl _ _) | assumption | (with_reducible refine Keep.new ?_ (by assumption)) | (with_reducible refine Keep.upd ?_ (by assumption) (by first | (left; exact rfl) | (left; constructor <;> omega) | (left; exact ⟨by omega, by omega, by omega⟩) | (left; exact ⟨by omega, by omega, by omega, by omega⟩) | (left; omega) | (left; assumption) | (left; simp; done) | (right; omega))) | (with_reducible refine Keep.kill ?_ (by assumption) (by first | (left; exact rfl) | (right; omega) | (left; omega))) | (with_reducible refine Keep.grow ?_ (by assumption)) | (with_reducible refine Keep.trans ?_ (by assumption) (by intro i hi; (try dsimp only at hi); first | exact .inl hi | (left; omega) | (right; omega) | omega)))); first | done | fail)) : p := h
class BN (q : Bool) (T F : outParam Prop) : Prop where
 t : q = true -> T
 f : q = false -> F
instance (priority := low) {q : Bool} : BN q (q = true) (q = false) := ⟨id, id⟩
instance {p : Prop} [Decidable p] : BN (decide p) p (¬ p) := ⟨of_decide_eq_true, of_decide_eq_false⟩
instance (priority := high) {a b : Int} : BN (decide (a <= b)) (a <= b) (b < a) := ⟨of_decide_eq_true, fun h => Int.not_le.1 (of_decide_eq_false h)⟩
instance (priority := high) {a b : Int} : BN (decide (a < b)) (a < b) (b <= a) := ⟨of_decide_eq_true, fun h => Int.not_lt.1 (of_decide_eq_false h)⟩
instance (priority := high) {p : Prop} [Decidable p] : BN (decide (¬ p)) (¬ p) p := ⟨of_decide_eq_true, fun h => Decidable.not_not.1 (of_decide_eq_false h)⟩
instance {q : Bool} {T F : Prop} [BN q T F] : BN (!q) F T := ⟨fun h => BN.f (q := q) (by simpa using h), fun h => BN.t (q := q) (by simpa using h)⟩
instance {q r : Bool} {T F T' F' : Prop} [BN q T F] [BN r T' F'] : BN (q && r) (T /\ T') (F ∨ F') := ⟨fun h => ⟨BN.t (q := q) (by revert h; cases q <;> simp), BN.t (q := r) (by revert h; cases q <;> simp)⟩, fun h => by
 cases hq : q with
 | false => exact .inl (BN.f (q := q) hq)
 | true => exact .inr (BN.f (q := r) (by rw [hq] at h; simpa using h))⟩
theorem bn_or_t {q r : Bool} {T F T' F' : Prop} [BN q T F] [BN r T' F'] (h : (q || r) = true) : T ∨ T' := by
 cases hq : q with
 | true => exact .inl (BN.t (q := q) hq)
 | false => exact .inr (BN.t (q := r) (by rw [hq] at h; simpa using h))
theorem bn_or_f {q r : Bool} {T F T' F' : Prop} [BN q T F] [BN r T' F'] (h : (q || r) = false) : F /\ F' :=
 ⟨BN.f (q := q) (by revert h; cases q <;> simp), BN.f (q := r) (by revert h; cases q <;> simp)⟩
instance {q r : Bool} {T F T' F' : Prop} [BN q T F] [BN r T' F'] : BN (q || r) (T ∨ T') (F /\ F') := ⟨bn_or_t, bn_or_f⟩
instance (priority := high) {α : Type} : BN (Option.isSome (none : Option α)) False True := ⟨fun h => (by cases h), fun _ => trivial⟩
instance (priority := high) {α : Type} {a : α} : BN (Option.isSome (some a)) True False := ⟨fun _ => trivial, fun h => (by cases h)⟩
instance (priority := high) {q : Bool} {T F : Prop} [BN q T F] : BN (q && true) T F := ⟨fun h => BN.t (q := q) (by simpa using h), fun h => BN.f (q := q) (by simpa using h)⟩
instance (priority := high) {q r : Bool} {T F : Prop} [BN q T F] : BN (ifb true q r) T F := ⟨fun h => BN.t (q := q) h, fun h => BN.f (q := q) h⟩
instance (priority := high) {q r : Bool} {T F : Prop} [BN r T F] : BN (ifb false q r) T F := ⟨fun h => BN.t (q := r) h, fun h => BN.f (q := r) h⟩
class IsB (P : Program) (t : TypeId) : Prop where
 h : P.underlying t = some .bool
theorem eqV_b {P : Program} {t : TypeId} [hb : IsB P t] (p q : Bool) : eqV P t (.bool p) (.bool q) = some (decide (p = q)) := by
 show ifb false none (eqL P Op.maxDepth t (.bool p) (.bool q)) = _
 rw [ifb_false]
 show eqL P (Op.maxDepth - 1 + 1) t (.bool p) (.bool q) = _
 unfold eqL
 rw [hb.h]
 cases p <;> cases q <;> rfl
theorem xs_neb {P : Program} {t : TypeId} [IsB P t] {E : Env} {M : Mem} {x y : XO} {p q : Bool} (hx : xval E x = some (.bool p)) (hy : xval E y = some (.bool q)) : xstep P (.eqg true t x y) E M = some (.val (.bool (!(decide (p = q)))) M) := by
 show ob (xval E x) _ = _
 rw [hx, ob_some, hy, ob_some]
 show guard' true (ob (eqV P t (.bool p) (.bool q)) _) = _
 rw [eqV_b, guard'_true, ob_some]
 cases p <;> cases q <;> rfl
theorem xs_eqb {P : Program} {t : TypeId} [IsB P t] {E : Env} {M : Mem} {x y : XO} {p q : Bool} (hx : xval E x = some (.bool p)) (hy : xval E y = some (.bool q)) : xstep P (.eqg false t x y) E M = some (.val (.bool (decide (p = q))) M) := by
 show ob (xval E x) _ = _
 rw [hx, ob_some, hy, ob_some]
 show guard' true (ob (eqV P t (.bool p) (.bool q)) _) = _
 rw [eqV_b, guard'_true, ob_some]
 cases p <;> cases q <;> rfl
instance (priority := high) : BN true True False := ⟨fun _ => trivial, fun h => (by cases h)⟩
instance (priority := high) : BN false False True := ⟨fun h => (by cases h), fun _ => trivial⟩
section
variable {P : Program} [Orc P] {sz : Nat} {E : Env} {M : Mem} {K : Env -> Mem -> Prop} {l : List XG} {d : Nat} {g : Option (Nat × Bool)} {x y a : XO} {i o n t : Nat} {v : LV} {ls : List LV} {st : List Mem} {k : Nat} {xs : List (Nat × Nat × (Mem -> Prop))} {ld : List (XG × XK)}
theorem x_l1 (hg : GOn E g) (ha : xval E a = some (.ptr (some (i, o)))) (h : Rd1 M i o v) (hk : XW P sz l ((d, v) :: E) M K) : XW P sz (⟨some d, .ld1 a, g⟩ :: l) E M K := x_val hg (xs_ld1 ha h) hk
theorem x_lN (hg : GOn E g) (ha : xval E a = some (.ptr (some (i, o)))) (h : Rd M i o n ls) (hk : XW P sz l ((d, .agg ls) :: E) M K) : XW P sz (⟨some d, .ldN n a, g⟩ :: l) E M K := x_val hg (xs_ldN ha h) hk
theorem gd (h : GOn E g := by first | exact g_none | exact g_on rfl) : GOn E g := h
theorem gx (h : GOff E g := by first | exact g_off rfl | exact g_und rfl) : GOff E g := h
theorem sx {p : Prop} (h : p := by (first | ((with_reducible apply xs_add); exact rfl; exact rfl; omega) | ((with_reducible apply xs_sub); exact rfl; exact rfl; omega) | ((with_reducible apply xs_mul); exact rfl; exact rfl; omega) | ((with_reducible apply xs_neg); exact rfl; omega) | ((with_reducible apply xs_conv); exact rfl; omega) | ((with_reducible apply xs_quo); exact rfl; exact rfl; omega; omega) | ((with_reducible apply xs_rem); exact rfl; exact rfl; omega; omega) | ((with_reducible apply xs_tquo); exact rfl; exact rfl; omega; omega) | ((with_reducible apply xs_trem); exact rfl; exact rfl; omega) | ((with_reducible apply xs_iad); exact rfl; exact rfl; omega) | ((with_reducible apply xs_iad_int); exact rfl; exact rfl; omega) | ((with_reducible apply xs_iadA); exact rfl; exact rfl; omega) | ((with_reducible apply xs_idx); exact rfl; exact rfl; omega; exact rfl) | ((with_reducible apply xs_neb); exact rfl; exact rfl) | ((with_reducible apply xs_eqb); exact rfl; exact rfl) | ((with_reducible apply xs_and); exact rfl; exact rfl; omega; omega) | ((with_reducible apply xs_or); exact rfl; exact rfl; omega; omega) | ((with_reducible apply xs_andn); exact rfl; exact rfl; omega; omega) | ((with_reducible apply xs_shl); exact rfl; exact rfl; omega; omega) | ((with_reducible apply xs_shr); exact rfl; exact rfl; omega; omega) | ((with_reducible apply xs_eqsl); exact rfl) | ((with_reducible apply xs_eqsl0); exact rfl) | exact xs_pure rfl)) : p := h
theorem rx {p : Prop} (h : p := by ((repeat' (first | exact ResX.nil | ((with_reducible apply ResX.tmp); exact rfl) | ((with_reducible apply resN); exact rfl) | ((with_reducible apply res1); exact rfl) | assumption | exact Rd1.of_at (by assumption) rfl | exact Rd.of_at (by assumption) rfl | exact Rd1.of_at (At.new_same (by assumption)) rfl | exact Rd.of_at (At.new_same (by assumption)) rfl | exact At.new_same (by assumption) | (with_reducible apply At.new_old (by assumption)) | (with_reducible apply At.upd_ne (by assumption) (by omega)) | (with_reducible apply At.grow (by assumption)) | (with_reducible apply At.keep (by assumption) (by first | assumption | omega | (intro hh; dsimp only at hh; omega))) | (with_reducible apply At.kill (by assumption) (by omega)) | (with_reducible apply Rd.kill (by assumption) (by omega)) | (with_reducible apply Rd1.kill (by assumption) (by omega)) | (with_reducible apply Rd.new_old (by assumption)) | (with_reducible apply Rd1.new_old (by assumption)) | (with_reducible apply Rd.upd_ne (by assumption) (by omega)) | (with_reducible apply Rd1.upd_ne (by assumption) (by omega)) | (with_reducible apply Rd.grow (by assumption)) | (with_reducible apply Rd1.grow (by assumption)) | (with_reducible apply Rd.keep (by assumption) (by first | assumption | omega | (intro hh; dsimp only at hh; omega))) | (with_reducible apply Rd1.keep (by assumption) (by first | assumption | omega | (intro hh; dsimp only at hh; omega))))); first | done | fail)) : p := h
end
section
variable {P : Program} [Orc P] {fn : FuncId} {ro : Option Nat} {sz : Nat} {E : Env} {ms : List Nat} {M : Mem} {K : Ex -> Env -> List Nat -> Mem -> Prop}
theorem d_nil2 {E : Env} {K : Env -> Mem -> Prop} {st : List Mem} {k : Nat} {xs : List (Nat × Nat × (Mem -> Prop))} (ho : ObAll st k xs) (h : K E M) : XD P sz [] E M st k xs K := d_nil h ho
theorem wc {x : XO} {a b : XC} {q : Bool} {T F : Prop} (hx : xval E x = some (.bool q)) (hbn : BN q T F) (h1 : T -> W P fn ro sz a E ms M K) (h0 : F -> W P fn ro sz b E ms M K) : W P fn ro sz (.cond x a b) E ms M K := w_cond hx (fun h => h1 (hbn.t h)) (fun h => h0 (hbn.f h))
variable {K' : Env -> Mem -> Prop} {l : List XG} {d t : Nat} {g : Option (Nat × Bool)} {st : List Mem} {k : Nat} {xs : List (Nat × Nat × (Mem -> Prop))} {ld : List (XG × XK)} {w b : Bool} {T F : Prop} {q : XI} {dd : Option Nat} {kd : XK} {c : Nat} {y z : XO}
theorem xgd (ht : look E t = some (.bool b)) (hbn : BN b T F) (h1 : T -> XW P sz (⟨dd, q, some (t, w)⟩ :: l) ((t, .bool true) :: E) M K') (h0 : F -> XW P sz (⟨dd, q, some (t, w)⟩ :: l) ((t, .bool false) :: E) M K') : XW P sz (⟨dd, q, some (t, w)⟩ :: l) E M K' := x_guard ht (fun h => h1 (hbn.t h)) (fun h => h0 (hbn.f h))
theorem dgd (ht : look E t = some (.bool b)) (hbn : BN b T F) (h1 : T -> XD P sz ((⟨dd, q, some (t, w)⟩, kd) :: ld) ((t, .bool true) :: E) M st k xs K') (h0 : F -> XD P sz ((⟨dd, q, some (t, w)⟩, kd) :: ld) ((t, .bool false) :: E) M st k xs K') : XD P sz ((⟨dd, q, some (t, w)⟩, kd) :: ld) E M st k xs K' := d_guard ht (fun h => h1 (hbn.t h)) (fun h => h0 (hbn.f h))
theorem xpk (ht : look E c = some (.bool b)) (hbn : BN b T F) (h1 : T -> XW P sz (⟨some d, .pick (.t c) y z, g⟩ :: l) ((c, .bool true) :: E) M K') (h0 : F -> XW P sz (⟨some d, .pick (.t c) y z, g⟩ :: l) ((c, .bool false) :: E) M K') : XW P sz (⟨some d, .pick (.t c) y z, g⟩ :: l) E M K' := x_pick ht (fun h => h1 (hbn.t h)) (fun h => h0 (hbn.f h))
theorem dpk (ht : look E c = some (.bool b)) (hbn : BN b T F) (h1 : T -> XD P sz ((⟨some d, .pick (.t c) y z, g⟩, kd) :: ld) ((c, .bool true) :: E) M st k xs K') (h0 : F -> XD P sz ((⟨some d, .pick (.t c) y z, g⟩, kd) :: ld) ((c, .bool false) :: E) M st k xs K') : XD P sz ((⟨some d, .pick (.t c) y z, g⟩, kd) :: ld) E M st k xs K' := d_pick ht (fun h => h1 (hbn.t h)) (fun h => h0 (hbn.f h))
end
theorem ox {p : Prop} (h : p := by ((repeat' (first | (with_reducible first | apply ob_nil | apply ob_cons | apply ob_at_nil) | ((with_reducible apply ob_at_out); exact rfl) | (with_reducible apply ob_at_in) | exact xm)); first | done | fail)) : p := h
theorem sv {G G' : Prop} (h' : G') (hs : G' -> G := by first | ((with_reducible first | apply w_seq | apply w_ops | apply w_draw | apply w_block | apply w_scope | apply w_ret | apply w_exit | apply w_skip | apply k_seq | apply k_seq_ret | apply k_seq_exit | apply k_block | apply k_block_ret | apply k_block_exit | apply k_loop_ret | apply k_loop_exit | apply k_step_ret | apply k_step_exit | apply xw_nil)) | ((with_reducible first | apply x_val | apply d_val); exact gd; exact sx) | ((with_reducible first | apply x_l1 | apply x_lN | apply d_ld1 | apply d_ldN); exact gd; exact rfl; exact xm) | ((with_reducible first | apply x_st | apply d_st); exact gd; exact rfl; exact rfl; exact xm; exact rfl; exact rfl; exact rfl) | ((with_reducible first | apply x_box | apply d_box | apply x_bsl | apply d_bsl); exact gd; exact rfl; exact rfl) | ((with_reducible first | apply x_new | apply d_new); exact gd; exact rfl) | ((with_reducible first | apply x_mkmap | apply d_mkmap); exact gd) | ((with_reducible first | apply x_off | apply x_off0 | apply d_off | apply d_off_calm | apply d_off_new | apply d_off_anchor); exact gx) | ((with_reducible apply d_nil2); exact ox) | ((with_reducible apply k_block_out); exact rfl) | ((with_reducible first | apply k_assign | apply k_round | apply k_round_ret | apply k_round_exit); exact xm)) : G := hs h'
theorem su {G G' : Prop} (h' : G') (hs : G' -> G := by with_reducible first | apply w_loop | apply k_loop) : G := hs h'
theorem sc {G G1 G2 : Prop} (h1 : G1) (h2 : G2) (hs : G1 -> G2 -> G := by ((with_reducible apply wc); exact rfl; infer_instance)) : G := hs h1 h2
theorem sg {G G1 G2 : Prop} (h1 : G1) (h2 : G2) (hs : G1 -> G2 -> G := by ((with_reducible first | apply xgd | apply dgd | apply xpk | apply dpk); exact rfl; infer_instance)) : G := hs h1 h2
end PvL
end
section
namespace PvL
open Go
set_option linter.unusedVariables false
structure NT (c : Prop) : Prop
theorem nt1 : NT True := ⟨⟩
theorem nt2 {c : Prop} : NT c := ⟨⟩
theorem sz {c G : Prop} (h : c) (hn : ¬ c := by first | exact fun h => h | exact fun h => h rfl | omega) : G := absurd h hn
theorem sy {c G : Prop} (h : c) (g : G) (hn : NT c := by ((fail_if_success exact nt1); exact nt2)) : G := g
theorem sq {p : Prop} (h : p := by first | assumption | exact xm | exact rfl) : p := h
theorem kf {E : Env} {M : Mem} {res : List XR} {Q : LV -> Mem -> Prop} {vs : List LV} {e : Ex} (hq : Q (packed vs) M) (he : e = .ret ∨ e = .norm := by first | exact .inl rfl | exact .inr rfl) (hr : ResX E M res vs := by exact rx) : KFun res Q e E [] M := by
 rcases he with rfl | rfl
 ·exact k_fun hr hq
 ·exact k_fun_norm hr hq
end PvL
end
