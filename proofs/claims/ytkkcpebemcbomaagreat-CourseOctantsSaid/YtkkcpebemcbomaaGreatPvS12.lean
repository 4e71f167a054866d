/-
  Part of the proof that what the interpreter of YtkkcpebemcbomaaGreatPvL yields, the model's machine comes to. No condition.
-/
import Derived.Test.YtkkcpebemcbomaaGreatPvS11
import Derived.RowKit3
namespace PvL
open Go

section
variable {P : Program} {rec : Task → Option Out} {ops : Array Oper} {D : Nat → DS} {Pt : Prot} {ρ0 : Rho} {df : List Deferred}

def unl (L : Array Bool) : Nat → Nat
  | 0 => 0
  | i + 1 => unl L i + (if L.getD i false then 0 else 1)
theorem unl_le (L : Array Bool) : ∀ n, unl L n ≤ n
  | 0 => Nat.le_refl _
  | n + 1 => by
    have := unl_le L n
    show unl L n + (if L.getD n false = true then 0 else 1) ≤ n + 1
    split <;> omega
theorem unl_zero {L : Array Bool} : ∀ n, unl L n = 0 → ∀ i, i < n → L.getD i false = true
  | 0, _, i, hi => absurd hi (Nat.not_lt_zero _)
  | n + 1, h, i, hi => by
    have h : unl L n + (if L.getD n false = true then 0 else 1) = 0 := h
    by_cases e : i = n
    · subst e
      by_cases hl : L.getD i false = true
      · exact hl
      · rw [if_neg hl] at h; omega
    · exact unl_zero n (by omega) i (by omega)
theorem unl_set {L : Array Bool} {j : Nat} (hj : j < L.size) (hl : L.getD j false = false) : ∀ n, (n ≤ j → unl (L.setIfInBounds j true) n = unl L n) ∧ (j < n → unl (L.setIfInBounds j true) n + 1 = unl L n)
  | 0 => ⟨fun _ => rfl, fun h => absurd h (Nat.not_lt_zero _)⟩
  | n + 1 => by
    obtain ⟨h1, h2⟩ := unl_set hj hl n
    show (_ → unl _ n + (if (L.setIfInBounds j true).getD n false = true then 0 else 1) = unl L n + (if L.getD n false = true then 0 else 1)) ∧ (_ → unl _ n + (if (L.setIfInBounds j true).getD n false = true then 0 else 1) + 1 = unl L n + (if L.getD n false = true then 0 else 1))
    rw [getD_set hj]
    refine ⟨fun h => ?_, fun h => ?_⟩
    · rw [if_neg (show ¬(n = j) by omega), h1 (by omega)]
    · by_cases e : n = j
      · subst e
        rw [if_pos rfl, hl, h1 (Nat.le_refl _)]
        simp
      · rw [if_neg e]
        have := h2 (by omega)
        omega

theorem Inv.ends (h : Tr P rec ops D) {L : Array Bool} {q : Nat} {U : Tm} {Pt' : Prot} {ρ : Rho} {w : World} {a : Act} (hi : Inv ops D Pt ρ0 df L q U Pt' ρ w a) (hall : ∀ i, i < ops.size → L.getD i false = true) :
    Same ρ0 ρ (D 0).m.next (D ops.size).m.next ∧ TR ρ (D ops.size).T a.tmps ∧ a.defers = df ∧ Rel Pt ρ (D ops.size).m w := by
  refine ⟨hi.same, ⟨by rw [hi.hT.1, hi.sz, h.size ops.size (Nat.le_refl _)], fun t => ?_⟩, hi.hd, ?_⟩
  · have ht := hi.hT.2 t
    have : U.get t = (D ops.size).T.get t := by
      by_cases hx : ∃ (i : Nat) (oi : Oper), ops[i]? = some oi ∧ oi.dst = some t
      · obtain ⟨i, oi, hoi, hd⟩ := hx
        rw [hi.tmp i oi t hoi hd, if_pos (hall i (lt_of_at hoi))]
      · have hno : ∀ (i : Nat) (oi : Oper), ops[i]? = some oi → oi.dst ≠ some t := fun i oi h1 h2 => hx ⟨i, oi, h1, h2⟩
        rw [hi.tmp0 t hno, h.before ops.size (Nat.le_refl _) fun i o _ ho => hno i o ho]
    rw [← this]; exact ht
  · obtain ⟨P2, h1, h2, _⟩ := hi.adopt h (ops.size - q) (by have := hi.qn; omega) fun i oi h1 h2 hoi => ⟨fun _ => hall i (lt_of_at hoi), by
      cases hai : isAnchor oi.op with
      | false => rfl
      | true =>
        have := (hi.anch i oi hoi hai).1 (hall i (lt_of_at hoi))
        omega⟩
    rw [show q + (ops.size - q) = ops.size by have := hi.qn; omega] at h1
    exact h1.weaken h2

theorem Inv.none_ready (h : Tr P rec ops D) {L : Array Bool} {q : Nat} {U : Tm} {Pt' : Prot} {ρ : Rho} {w : World} {a : Act} (hi : Inv ops D Pt ρ0 df L q U Pt' ρ w a) (hr : Region.ready .any ops L = []) :
    ∀ n i, i < n → i < ops.size → L.getD i false = true
  | 0, i, hl, _ => absurd hl (Nat.not_lt_zero _)
  | n + 1, i, hl, hin => by
    have ho : ops[i]? = some ops[i] := Array.getElem?_eq_getElem hin
    cases hx : L.getD i false with
    | true => rfl
    | false =>
      have hmem : i ∈ Region.ready .any ops L := by
        rw [mem_ready]
        refine ⟨?_, ops[i], ho, fun e he hb => ?_⟩
        · have hs : i < L.size := by rw [hi.sizeL]; exact hin
          simp [hs] at hx ⊢; exact hx
        · have := h.ok.edge i _ ho e he hb
          exact hi.none_ready h hr n e.on (by omega) (by omega)
      rw [hr] at hmem; cases hmem

theorem draw_go (hrec : RecSim P rec) (hcall : ∀ f as m1 v m2, rec (.call f as m1) = some (.call v m2) → ∃ fn, fnOf P f = some fn) (h : Tr P rec ops D) (b : Frame) (k : List Item) (cs : List Frame) :
    ∀ (fuel t : Nat) (L : Array Bool) (q : Nat) (U : Tm) (Pt' : Prot) (ρ : Rho) (w : World) (a : Act), Inv ops D Pt ρ0 df L q U Pt' ρ w a → unl L ops.size ≤ fuel →
      ∃ ρ' a' w', Same ρ0 ρ' (D 0).m.next (D ops.size).m.next ∧ TR ρ' (D ops.size).T a'.tmps ∧ a'.defers = df ∧ Rel Pt ρ' (D ops.size).m w' ∧
        Steps P (lone (b.atR a (.inRegion ops (Region.linearise.go .any ops fuel t L []) :: k)) cs w) (lone (b.atR a' k) cs w')
  | 0, t, L, q, U, Pt', ρ, w, a, hi, hu => by
    obtain ⟨h1, h2, h3, h4⟩ := hi.ends h (unl_zero _ (by omega))
    exact ⟨ρ, a, w, h1, h2, h3, h4, .one stepR_region_end⟩
  | fuel + 1, t, L, q, U, Pt', ρ, w, a, hi, hu => by
    have e : Region.linearise.go .any ops (fuel + 1) t L [] = match (Region.ready .any ops L)[t % (Region.ready .any ops L).length]? with
      | some i => Region.linearise.go .any ops fuel (t / (Region.ready .any ops L).length) (L.setIfInBounds i true) [i]
      | none => [].reverse := rfl
    rw [e]
    cases hx : (Region.ready .any ops L)[t % (Region.ready .any ops L).length]? with
    | none =>
      have hnil : Region.ready .any ops L = [] := by
        cases hr : Region.ready .any ops L with
        | nil => rfl
        | cons x xs =>
          rw [hr] at hx
          have hlt : t % (x :: xs).length < (x :: xs).length := Nat.mod_lt _ (by simp)
          simp at hx
          simp at hlt
          omega
      obtain ⟨h1, h2, h3, h4⟩ := hi.ends h (fun i hin => hi.none_ready h hnil (i + 1) i (by omega) hin)
      exact ⟨ρ, a, w, h1, h2, h3, h4, .one stepR_region_end⟩
    | some i =>
      obtain ⟨hl, o, ho, hr⟩ := mem_ready.1 (List.mem_of_getElem? hx)
      have hin := lt_of_at ho
      have hs : i < L.size := by rw [hi.sizeL]; exact hin
      have hl : L.getD i false = false := by simp [hs] at hl ⊢; exact hl
      obtain ⟨q', U', Pt'', ρ', w', a', hi', hst⟩ := hi.step hrec hcall h ho hl hr b (Region.linearise.go .any ops fuel (t / (Region.ready .any ops L).length) (L.setIfInBounds i true) []) k cs
      have hu' := (unl_set hs hl ops.size).2 hin
      obtain ⟨ρ2, a2, w2, g1, g2, g3, g4, g5⟩ := draw_go hrec hcall h b k cs fuel (t / (Region.ready .any ops L).length) _ q' U' Pt'' ρ' w' a' hi' (by omega)
      refine ⟨ρ2, a2, w2, g1, g2, g3, g4, ?_⟩
      show Steps P (lone (b.atR a (.inRegion ops (Region.linearise.go .any ops fuel _ (L.setIfInBounds i true) [i]) :: k)) cs w) _
      rw [linearise_go_acc, List.reverse_singleton, List.singleton_append]
      exact hst.trans g5

theorem draw_sim (hmix : P.follows .mixedOrders = true) (hm : RecMono rec) (hrec : RecSim P rec) (hcall : ∀ f as m1 v m2, rec (.call f as m1) = some (.call v m2) → ∃ fn, fnOf P f = some fn) : DrawSim P rec := by
  intro ops T T' m m' st kk ps hok hrun hpend Pt ρ b id k cs w a hT hrel hf
  obtain ⟨D, d0, dn, hstep⟩ := drawRun_trace _ _ _ _ hrun
  rw [Nat.zero_add, Array.length_toList] at dn
  have h : Tr P rec ops D := ⟨regionOk_spec hok, hm, fun j o ho => by
    have := hstep j o (by simpa using ho)
    rw [Nat.zero_add] at this; exact this, by rw [d0], by rw [d0], by rw [dn]; exact hpend⟩
  have hrep : ∀ i, (Array.replicate ops.size false).getD i false = false := fun i => by
    by_cases hi : i < ops.size
    · simp [hi]
    · simp [Array.getElem?_eq_none (show (Array.replicate ops.size false).size ≤ i by simp; omega)]
  have hi : Inv ops D Pt ρ a.defers (Array.replicate ops.size false) 0 T Pt ρ { w with drawn := w.drawn + 1 } a :=
    { sizeL := by simp
      qn := Nat.zero_le _
      hq := .inl rfl
      anch := fun i o _ _ => by rw [hrep]; simp
      down := fun j o _ hl => by rw [hrep] at hl; cases hl
      sz := by rw [d0]
      tmp := fun i o d _ _ => by rw [hrep, d0]; simp
      tmp0 := fun d _ => by rw [d0]
      hT := hT
      hd := rfl
      rel := by rw [d0]; exact hrel.of_heap rfl
      le := ⟨fun _ _ h => h, rfl, rfl, rfl, rfl⟩
      news := fun i o lb _ hl => by rw [hrep] at hl; cases hl
      dist := fun i i' o o' lb lb' x x' _ _ hl => by rw [hrep] at hl; cases hl
      fresh := fun i hin _ x h1 h2 => by
        have n1 := h.next i 0 (by omega)
        have n2 := h.next (ops.size - (i + 1)) (i + 1) (by omega)
        rw [show 0 + i = i by omega, d0] at n1
        rw [show i + 1 + (ops.size - (i + 1)) = ops.size by omega, dn] at n2
        have n1 : m.next ≤ (D i).m.next := n1
        have n2 : (D (i + 1)).m.next ≤ m'.next := n2
        exact hf x (by omega) (by omega)
      same := Same.refl _ _ _ }
  obtain ⟨ρ', a', w', h1, h2, h3, h4, h5⟩ := draw_go hrec hcall h b k cs ops.size (w.tape w.drawn (.order b.fn id)) _ 0 T Pt ρ _ a hi (unl_le _ _)
  rw [d0, dn] at h1
  rw [dn] at h2 h4
  refine ⟨ρ', a', w', h1, h2, h3, h4, .head stepR_region_draw ?_⟩
  rw [show Region.schedule (P.follows .mixedOrders) ops (w.tape w.drawn (.order b.fn id)) = Region.linearise.go .any ops ops.size (w.tape w.drawn (.order b.fn id)) (Array.replicate ops.size false) [] by
    simp only [Region.schedule, hmix, Bool.true_or, if_true]; rfl]
  exact h5

/-- **THE INTERPRETER IS RIGHT** -/
theorem run_sim (hmix : P.follows .mixedOrders = true) : ∀ n, RecSim P (run P n)
  | 0 => fun t o h => by cases h
  | n + 1 => stepT_sim (run_next n) (run_sim hmix n) (fnOf_of_run n) (draw_sim hmix (run_next n) (run_sim hmix n) (fnOf_of_run n))

/-! ### A call, from outside -/
def Prot.old (w : World) : Prot := ⟨fun b => w.heap[b]?, fun b => w.heap[b]? ≠ none, fun _ h => h, w.heap.size, w.os, w.output⟩

theorem calls_of_run (hmix : P.follows .mixedOrders = true) {n : Nat} {f : FuncId} {args : List LV} {m m' : Mem} {v : LV} (h : run P n (.call f args m) = some (.call v m')) {w : World} {as' : Array Value} {ρ : Rho}
    (ha : VRs ρ args as'.toList) (hrel : Rel (.old w) ρ m w) (hf : Fresh ρ m.next m'.next) :
    Calls P f as' w fun e w' => ∃ v' ρ', e = .returned v' ∧ VR ρ' v v' ∧ Same ρ ρ' m.next m'.next ∧ Rel (.old w) ρ' m' w' := by
  intro cs
  obtain ⟨ρ', v', w', h1, h2, h3, fr, h4, h5, h6⟩ := run_sim hmix n _ _ h (.old w) ρ w as' cs ha hrel hf
  exact ⟨_, w', fr, ⟨v', ρ', rfl, h2, h1, h3⟩, h4, h5, h6⟩

theorem Rel.empty (w : World) (ρ : Rho) : Rel (.old w) ρ ⟨0, .nil⟩ w :=
  ⟨fun _ _ h => h, fun i lb h => (by rw [Mem.get_mk, PT.get_nil] at h; cases h), fun i j lb lb' x y h => (by rw [Mem.get_mk, PT.get_nil] at h; cases h), ⟨rfl, rfl⟩, fun b c t fr hb e => by
    rw [Array.getElem?_eq_none hb] at e; cases e⟩

end
end PvL
