/-
  Part of the proof that what the interpreter of YtkkcpebemcbomaaGreatPvL yields, the model's machine comes to. No condition.
-/
import Derived.Test.YtkkcpebemcbomaaGreatPvS12
namespace PvL
open Go

/-! ### Calls that have been run already, by their outcome -/
structure Entry where
  f : FuncId
  args : List LV
  k0 : Nat
  /-- what it looks into -/
  pre : List (Nat × List LV × TypeId)
  v : LV
  next : Nat
  /-- what it leaves that is looked into later -/
  post : List (Nat × List LV × TypeId)

noncomputable def cellsAre (b : Option LB) (cs : List LV) (ty : TypeId) : Bool := match b with | some (.cells _ cs' ty') => Nat.beq ty' ty && lvEqs cs' cs | _ => false
noncomputable def ownCellsAre (b : Option LB) (cs : List LV) (ty : TypeId) : Bool := match b with | some (.cells true cs' ty') => Nat.beq ty' ty && lvEqs cs' cs | _ => false
noncomputable def preOk (m : Mem) : List (Nat × List LV × TypeId) → Bool
  | [] => true
  | x :: xs => cellsAre (m.get x.1) x.2.1 x.2.2 && preOk m xs
noncomputable def postOk (k : Nat) (m : Mem) : List (Nat × List LV × TypeId) → Bool
  | [] => true
  | x :: xs => Nat.ble k x.1 && (ownCellsAre (m.get x.1) x.2.1 x.2.2 && postOk k m xs)
noncomputable def laid (own : Bool) : List (Nat × List LV × TypeId) → Mem → Mem
  | [], m => m
  | x :: xs, m => laid own xs (m.upd x.1 (some (.cells own x.2.1 x.2.2)))
noncomputable def Entry.start (e : Entry) : Mem := laid false e.pre ⟨e.k0, .nil⟩
noncomputable def Entry.apply (e : Entry) (m : Mem) : Mem := laid true e.post ⟨e.next, m.tr⟩
noncomputable def lookE (e : Entry) (f : FuncId) (args : List LV) (m : Mem) : Option Out :=
  ifb (Nat.beq f e.f && (Nat.beq m.next e.k0 && (lvEqs args e.args && preOk m e.pre))) (some (.call e.v (e.apply m))) none
noncomputable def lookAll (f : FuncId) (args : List LV) (m : Mem) : List Entry → Option Out
  | [] => none
  | e :: es => oe (lookE e f args m) (lookAll f args m es) some

section
variable (P : Program) (tbl : List Entry)
noncomputable def stepTT (rec : Task → Option Out) (t : Task) : Option Out :=
  taskE t (fun f r c T ms m => stepT P rec (.code f r c T ms m)) (fun f as m => oe (lookAll f as m tbl) (stepT P rec (.call f as m)) some) (fun l as m => stepT P rec (.round l as m))
noncomputable def runT (n : Nat) : Task → Option Out :=
  @Nat.rec (fun _ => Task → Option Out) (fun _ => none) (fun _ ih t => stepTT P tbl ih t) n
/-- does the entry say what the run says? -/
noncomputable def chk (n : Nat) (e : Entry) : Bool :=
  match runT P tbl n (.call e.f e.args e.start) with
  | some (.call v m1) => lvEq v e.v && (Nat.beq m1.next e.next && (Nat.ble e.k0 e.next && postOk e.k0 m1 e.post))
  | _ => false
end

section
variable {P : Program} {tbl : List Entry}
structure Entry.Ok (P : Program) (e : Entry) : Prop where
  le : e.k0 ≤ e.next
  fn : ∃ fn, fnOf P e.f = some fn
  sim : ∀ m, m.next = e.k0 → preOk m e.pre = true → Sim P (.call e.f e.args m) (.call e.v (e.apply m))

theorem laid_next {own : Bool} : ∀ (l : List (Nat × List LV × TypeId)) (m : Mem), (laid own l m).next = m.next
  | [], _ => rfl
  | x :: xs, m => by show (laid own xs _).next = _; rw [laid_next xs, Mem.next_upd]
theorem lookAll_some {f : FuncId} {args : List LV} {m : Mem} {o : Out} : ∀ (tbl : List Entry), lookAll f args m tbl = some o → ∃ e ∈ tbl, f = e.f ∧ args = e.args ∧ m.next = e.k0 ∧ preOk m e.pre = true ∧ o = .call e.v (e.apply m)
  | [], h => by cases h
  | e :: es, h => by
    have h : oe (lookE e f args m) (lookAll f args m es) some = some o := h
    cases hl : lookE e f args m with
    | none =>
      rw [hl] at h
      obtain ⟨e', he, h'⟩ := lookAll_some es h
      exact ⟨e', List.mem_cons_of_mem _ he, h'⟩
    | some o' =>
      rw [hl] at h
      cases h
      unfold lookE at hl
      cases hc : (Nat.beq f e.f && (Nat.beq m.next e.k0 && (lvEqs args e.args && preOk m e.pre))) with
      | false => rw [hc] at hl; cases hl
      | true =>
        rw [hc] at hl
        cases hl
        simp only [Bool.and_eq_true] at hc
        exact ⟨e, List.mem_cons_self, Nat.eq_of_beq_eq_true hc.1, lvEq_sound.2 _ _ hc.2.2.1, Nat.eq_of_beq_eq_true hc.2.1, hc.2.2.2, rfl⟩

structure Good (P : Program) (rec : Task → Option Out) : Prop where
  mono : RecMono rec
  sim : RecSim P rec
  fn : ∀ f as m1 v m2, rec (.call f as m1) = some (.call v m2) → ∃ fn, fnOf P f = some fn

theorem runT_good (hmix : P.follows .mixedOrders = true) (ht : ∀ e ∈ tbl, e.Ok P) : ∀ n, Good P (runT P tbl n)
  | 0 => ⟨fun t o h => (by cases h), fun t o h => (by cases h), fun _ _ _ _ _ h => (by cases h)⟩
  | n + 1 => by
    have ih := runT_good hmix ht n
    have hs := stepT_sim ih.mono ih.sim ih.fn (draw_sim hmix ih.mono ih.sim ih.fn)
    have hn := stepT_next (P := P) ih.mono
    have key : ∀ f as m o, runT P tbl (n + 1) (.call f as m) = some o → (∃ e ∈ tbl, f = e.f ∧ as = e.args ∧ m.next = e.k0 ∧ preOk m e.pre = true ∧ o = .call e.v (e.apply m)) ∨ stepT P (runT P tbl n) (.call f as m) = some o := by
      intro f as m o h
      have h : oe (lookAll f as m tbl) (stepT P (runT P tbl n) (.call f as m)) some = some o := h
      cases hl : lookAll f as m tbl with
      | none => rw [hl] at h; exact .inr h
      | some o' => rw [hl] at h; cases h; exact .inl (lookAll_some tbl hl)
    refine ⟨fun t o h => ?_, fun t o h => ?_, fun f as m1 v m2 h => ?_⟩
    · cases t with
      | code f r c T ms m => exact hn _ _ h
      | round l as m => exact hn _ _ h
      | call f as m =>
        rcases key f as m o h with ⟨e, he, rfl, rfl, hk, _, rfl⟩ | h
        · show m.next ≤ (e.apply m).next
          unfold Entry.apply
          rw [laid_next, hk]; exact (ht e he).le
        · exact hn _ _ h
    · cases t with
      | code f r c T ms m => exact hs _ _ h
      | round l as m => exact hs _ _ h
      | call f as m =>
        rcases key f as m o h with ⟨e, he, rfl, rfl, hk, hp, rfl⟩ | h
        · exact (ht e he).sim m hk hp
        · exact hs _ _ h
    · rcases key f as m1 _ h with ⟨e, he, rfl, _⟩ | h
      · exact (ht e he).fn
      · obtain ⟨fn, hfn, _⟩ := ob_eq.1 (show stCall P (runT P tbl n) f as m1 = some _ from h)
        exact ⟨fn, hfn⟩

theorem laid_get {own : Bool} : ∀ (l : List (Nat × List LV × TypeId)) (m : Mem) (i : Nat) (lb : LB), (laid own l m).get i = some lb → m.get i = some lb ∨ ∃ x ∈ l, i = x.1 ∧ lb = .cells own x.2.1 x.2.2
  | [], m, i, lb, h => .inl h
  | x :: xs, m, i, lb, h => by
    rcases laid_get xs _ i lb h with h | ⟨y, hy, h⟩
    · rw [Mem.get_upd] at h
      by_cases e : i = x.1
      · rw [if_pos e] at h; cases h; exact .inr ⟨x, List.mem_cons_self, e, rfl⟩
      · rw [if_neg e] at h; exact .inl h
    · exact .inr ⟨y, List.mem_cons_of_mem _ hy, h⟩
theorem preOk_mem {m : Mem} : ∀ (l : List (Nat × List LV × TypeId)), preOk m l = true → ∀ x ∈ l, ∃ own, m.get x.1 = some (.cells own x.2.1 x.2.2)
  | [], _, x, hx => by cases hx
  | y :: ys, h, x, hx => by
    obtain ⟨h1, h2⟩ := (Bool.and_eq_true _ _ ▸ h : cellsAre (m.get y.1) y.2.1 y.2.2 = true ∧ preOk m ys = true)
    rcases List.mem_cons.1 hx with rfl | hx
    · unfold cellsAre at h1
      split at h1
      · rename_i own cs ty e
        simp only [Bool.and_eq_true] at h1
        rw [Nat.eq_of_beq_eq_true h1.1, lvEq_sound.2 _ _ h1.2] at e
        exact ⟨own, e⟩
      · cases h1
    · exact preOk_mem ys h2 x hx
theorem postOk_mem {k : Nat} {m : Mem} : ∀ (l : List (Nat × List LV × TypeId)), postOk k m l = true → ∀ x ∈ l, k ≤ x.1 ∧ m.get x.1 = some (.cells true x.2.1 x.2.2)
  | [], _, x, hx => by cases hx
  | y :: ys, h, x, hx => by
    obtain ⟨h0, h1, h2⟩ := (by simpa only [Bool.and_eq_true] using (show (Nat.ble k y.1 && (ownCellsAre (m.get y.1) y.2.1 y.2.2 && postOk k m ys)) = true from h) : Nat.ble k y.1 = true ∧ ownCellsAre (m.get y.1) y.2.1 y.2.2 = true ∧ postOk k m ys = true)
    rcases List.mem_cons.1 hx with rfl | hx
    · unfold ownCellsAre at h1
      split at h1
      · rename_i cs ty e
        simp only [Bool.and_eq_true] at h1
        rw [Nat.eq_of_beq_eq_true h1.1, lvEq_sound.2 _ _ h1.2] at e
        exact ⟨by rw [Nat.ble_eq] at h0; exact h0, e⟩
      · cases h1
    · exact postOk_mem ys h2 x hx

/-- all that stands is left alone -/
def Prot.all (Pt : Prot) (w : World) : Prot := ⟨fun b => w.heap[b]?, fun b => w.heap[b]? ≠ none, fun _ h => h, Pt.base, Pt.os, Pt.out⟩

theorem entry_ok (hmix : P.follows .mixedOrders = true) (ht : ∀ e ∈ tbl, e.Ok P) {n : Nat} {e : Entry} (h : chk P tbl n e = true) : e.Ok P := by
  unfold chk at h
  have hg := runT_good hmix ht n
  split at h
  · rename_i v m1 hrun
    simp only [Bool.and_eq_true] at h
    obtain ⟨h1, h2, h3, h4⟩ := h
    have h1 := lvEq_sound.1 _ _ h1
    have h2 := Nat.eq_of_beq_eq_true h2
    have h3 : e.k0 ≤ e.next := by rw [Nat.ble_eq] at h3; exact h3
    subst h1
    refine ⟨h3, hg.fn _ _ _ _ _ hrun, fun m hm hpre Pt ρ w as' cs has hrel hf => ?_⟩
    have hpre' := preOk_mem _ hpre
    have hpost := postOk_mem _ h4
    have hstart : Rel (Pt.all w) ρ e.start w := by
      refine ⟨fun r o hr => hr, fun i lb hi => ?_, fun i j lb lb' x y hi hj hro => ?_, hrel.still⟩
      · rcases laid_get _ _ _ _ hi with hi | ⟨x, hx, rfl, rfl⟩
        · rw [Mem.get_mk, PT.get_nil] at hi; cases hi
        · obtain ⟨own, hx'⟩ := hpre' x hx
          obtain ⟨hl, b, s, c, o, k1, ⟨C, e', fr, k2, k3, k4, k5⟩, k6, k7⟩ := hrel.live _ _ hx'
          have hfr : false = true → fr = (0, 0) := fun hh => nomatch hh
          refine ⟨by unfold Entry.start; rw [laid_next]; show x.1 < e.k0; omega, b, s, c, o, k1, ⟨C, e', fr, k2, hfr, k4, k5⟩, k6, ?_⟩
          exact ⟨k6, fun hh => by rw [k6] at hh; cases hh⟩
      · rcases laid_get _ _ _ _ hi with hi | ⟨x, hx, rfl, rfl⟩
        · rw [Mem.get_mk, PT.get_nil] at hi; cases hi
        · cases hro
    have hnx : (e.apply m).next = m1.next := by unfold Entry.apply; rw [laid_next]; exact h2.symm
    have hst : e.start.next = m.next := by unfold Entry.start; rw [laid_next]; exact hm.symm
    rw [hnx] at hf ⊢
    obtain ⟨ρ', v', w', hs, hv, hrel', hsteps⟩ := hg.sim _ _ hrun (Pt.all w) ρ w as' cs has hstart (by rw [hst]; exact hf)
    rw [hst] at hs
    refine ⟨ρ', v', w', hs, hv, ?_, hsteps⟩
    have hkeep : ∀ b o, w.heap[b]? = some o → w'.heap[b]? = some o := fun b o hb => hrel'.keep b o hb
    have hget : ∀ i lb, (e.apply m).get i = some lb → m.get i = some lb ∨ (m.next ≤ i ∧ isRo lb = false ∧ m1.get i = some lb) := fun i lb hi => by
      rcases laid_get _ _ _ _ hi with hi | ⟨x, hx, rfl, rfl⟩
      · exact .inl hi
      · obtain ⟨k1, k2⟩ := hpost x hx
        exact .inr ⟨by omega, rfl, k2⟩
    have hold : ∀ i lb, m.get i = some lb → ∃ b s c o, ρ i = some (b, s, c) ∧ ρ' i = some (b, s, c) ∧ BR ρ' lb o s c ∧ w.heap[b]? = some o ∧ (if isRo lb then Pt b = some o ∧ Pt.ro b else Pt b = none) := fun i lb hi => by
      obtain ⟨_, b, s, c, o, k1, k2, k3, k4⟩ := hrel.live i lb hi
      exact ⟨b, s, c, o, k1, hs.1 _ _ k1, k2.mono hs.1, k3, k4⟩
    have hnew : ∀ i lb, isRo lb = false → m1.get i = some lb → ∃ b s c o, ρ' i = some (b, s, c) ∧ BR ρ' lb o s c ∧ w'.heap[b]? = some o ∧ w.heap[b]? = none := fun i lb hro hi => by
      obtain ⟨_, b, s, c, o, k1, k2, k3, k4⟩ := hrel'.live i lb hi
      rw [hro] at k4
      exact ⟨b, s, c, o, k1, k2, k3, k4⟩
    refine ⟨fun r o hr => hkeep r o (hrel.keep r o hr), fun i lb hi => ?_, fun i j lb lb' x y hi hj hro hro' hx hy he => ?_, hrel'.still⟩
    · rcases hget i lb hi with hi | ⟨_, hro, hi⟩
      · obtain ⟨b, s, c, o, _, k1, k2, k3, k4⟩ := hold i lb hi
        have := (hrel.live i lb hi).1
        exact ⟨by rw [hnx]; omega, b, s, c, o, k1, k2, hkeep _ _ k3, k4⟩
      · obtain ⟨b, s, c, o, k1, k2, k3, k4⟩ := hnew i lb hro hi
        refine ⟨by rw [hnx]; exact (hrel'.live i lb hi).1, b, s, c, o, k1, k2, k3, ?_⟩
        rw [hro]
        show Pt b = none
        cases hp : Pt b with
        | none => rfl
        | some o' => rw [hrel.keep b o' hp] at k4; cases k4
    · rcases hget i lb hi with hi | ⟨_, _, hi⟩
      · obtain ⟨b, s, c, o, k0, k1, _, k3, _⟩ := hold i lb hi
        rcases hget j lb' hj with hj | ⟨_, _, hj⟩
        · obtain ⟨b', s', c', o', l0, l1, _⟩ := hold j lb' hj
          rw [k1] at hx; rw [l1] at hy; cases hx; cases hy
          exact hrel.inj i j lb lb' _ _ hi hj hro hro' k0 l0 he
        · obtain ⟨b', s', c', o', l1, _, _, l4⟩ := hnew j lb' hro' hj
          rw [k1] at hx; rw [l1] at hy; cases hx; cases hy
          have he : b = b' := he
          rw [he, l4] at k3; cases k3
      · obtain ⟨b, s, c, o, k1, _, _, k4⟩ := hnew i lb hro hi
        rcases hget j lb' hj with hj | ⟨_, _, hj⟩
        · obtain ⟨b', s', c', o', l0, l1, _, l3, _⟩ := hold j lb' hj
          rw [k1] at hx; rw [l1] at hy; cases hx; cases hy
          have he : b = b' := he
          rw [← he, k4] at l3; cases l3
        · exact hrel'.inj i j lb lb' x y hi hj hro hro' hx hy he
  · cases h

/-- a world in which nothing that stood has turned -/
theorem grown_of_rel {w w' : World} {ρ : Rho} {m : Mem} (h : Rel (.old w) ρ m w') : RowKit.Grown w w' := by
  have hk : ∀ b o, w.heap[b]? = some o → w'.heap[b]? = some o := fun b o hb => h.keep b o hb
  refine ⟨⟨h.still.1.1, h.still.1.2, fun i hi => ?_⟩, fun a => ?_, ?_⟩
  · have e : w.heap[i]? = some w.heap[i] := Array.getElem?_eq_getElem hi
    rw [hk i _ e, e]
    cases w.heap[i] <;> simp
  · unfold World.frozen?
    by_cases hb : a.block < w.heap.size
    · have e : w.heap[a.block]? = some w.heap[a.block] := Array.getElem?_eq_getElem hb
      rw [hk _ _ e, e]
    · rw [Array.getElem?_eq_none (Nat.le_of_not_lt hb)]
      cases hx : w'.heap[a.block]? with
      | none => rfl
      | some o =>
        cases o with
        | cells c t fr =>
          have := h.still.2 a.block c t fr (Nat.le_of_not_lt hb) hx
          subst this
          simp
        | _ => rfl
  · rcases Nat.eq_zero_or_pos w.heap.size with h0 | h0
    · omega
    · have e : w.heap[w.heap.size - 1]? = some w.heap[w.heap.size - 1] := Array.getElem?_eq_getElem (by omega)
      have := (Array.getElem?_eq_some_iff.1 (hk _ _ e)).1
      omega

/-- a closed call of no arguments that yields true -/
theorem true_calls {e : Entry} (h : e.Ok P) (hk : e.k0 = 0) (ha : e.args = []) (hp : e.pre = []) (hv : e.v = .bool true) (w : World) :
    Calls P e.f #[] w fun x w' => x = .returned (.bool true) ∧ RowKit.Grown w w' := by
  intro cs
  have := h.sim ⟨0, .nil⟩ hk.symm (by rw [hp]; rfl) (.old w) (fun _ => none) w #[] cs (by rw [ha]; exact .nil) (Rel.empty w _) (fun _ _ _ => rfl)
  obtain ⟨ρ', v', w', _, hv', hrel, fr, h1, h2, h3⟩ := this
  rw [hv] at hv'
  have hv2 := hv'.bool_inv
  subst hv2
  exact ⟨_, w', fr, ⟨rfl, grown_of_rel hrel⟩, h1, h2, h3⟩
end
end PvL
