/-
  Part of the proof that what the interpreter of YtkkcpebemcbomaaGreatPvL yields, the model's machine comes to. No condition.
-/
import Derived.Test.YtkkcpebemcbomaaGreatPvS9
namespace PvL
open Go

section
variable {P : Program} {rec : Task → Option Out} {ops : Array Oper} {D : Nat → DS} {Pt Pt' : Prot} {ρ0 ρ : Rho} {df : List Deferred} {L : Array Bool} {q : Nat} {U : Tm} {w : World} {a : Act}
  {j : Nat} {o : Oper}

theorem getD_set {L : Array Bool} {j : Nat} (hj : j < L.size) (i : Nat) : (L.setIfInBounds j true).getD i false = if i = j then true else L.getD i false := by
  by_cases e : i = j
  · subst e; simp [hj]
  · rw [if_neg e, getD_set_ne false (Ne.symm e)]

theorem Inv.deps (hi : Inv ops D Pt ρ0 df L q U Pt' ρ w a) (ho : ops[j]? = some o) (hr : ∀ e ∈ o.after, Region.binds .any e = true → L.getD e.on false = true) {i : Nat}
    (hb : Nat.testBit ((deps ops).getD j 0) i = true) : L.getD i false = true :=
  deps_closed (S := fun i => L.getD i false = true) hi.down (j + 1) j (Nat.lt_succ_self _) o ho hr i hb

theorem Inv.look (h : Tr P rec ops D) (hi : Inv ops D Pt ρ0 df L q U Pt' ρ w a) (ho : ops[j]? = some o) (hj : L.getD j false = false) (hr : ∀ e ∈ o.after, Region.binds .any e = true → L.getD e.on false = true)
    {t : Tmp} (ht : t ∈ looks ops.toList o) : (D j).T.get t = U.get t := by
  have hjn := lt_of_at ho
  by_cases hx : ∃ (i : Nat) (oi : Oper), ops[i]? = some oi ∧ oi.dst = some t
  · obtain ⟨i, oi, hoi, hdi⟩ := hx
    obtain ⟨hne, h1, h2⟩ := h.ok.pair j i o oi t ho hoi hdi ht
    rw [hi.tmp i oi t hoi hdi]
    by_cases hl : i < j
    · rw [if_pos (hi.deps ho hr (h1 hl))]
      exact (h.after (ops.size - j) j (by omega) fun i' o' hi' ho' e => by
        have := h.ok.uniq i i' oi o' t hoi ho' hdi e
        omega).symm
    · have hji : j < i := by omega
      rw [if_neg (fun hs => ?_)]
      · exact h.before j (by omega) fun i' o' hi' ho' e => by
          have := h.ok.uniq i i' oi o' t hoi ho' hdi e
          omega
      · have := hi.deps hoi (hi.down i oi hoi hs) (h2 hji)
        rw [hj] at this; cases this
  · have hno : ∀ (i : Nat) (oi : Oper), ops[i]? = some oi → oi.dst ≠ some t := fun i oi hoi hd => hx ⟨i, oi, hoi, hd⟩
    rw [hi.tmp0 t hno]
    exact h.before j (by omega) fun i' o' _ ho' => hno i' o' ho'

theorem wanted_congr {all : List Oper} {T U : Tm} {o : Oper} (h : ∀ t ∈ looks all o, T.get t = U.get t) : wanted all T o.guard = wanted all U o.guard := by
  cases hg : o.guard with
  | none => rfl
  | some p =>
    obtain ⟨j, want⟩ := p
    show oe ((all[j]?).bind (·.dst)) _ _ = oe ((all[j]?).bind (·.dst)) _ _
    cases hd : (all[j]?).bind (·.dst) with
    | none => rfl
    | some d =>
      have : d ∈ looks all o := by
        unfold looks
        rw [hg]
        simp only [hd]
        simp
      show ob (evT T d) _ = ob (evT U d) _
      rw [evT_eq, evT_eq, h d this]
theorem op_congr {all : List Oper} {T U : Tm} {o : Oper} (m : Mem) (h : ∀ t ∈ looks all o, T.get t = U.get t) : op1 P o.op T m = op1 P o.op U m :=
  op1_congr o.op m fun t ht => h t (List.mem_append_left _ (List.mem_filterMap.2 ⟨.tmp t, by simpa using ht, rfl⟩))

theorem Same.any {ρ ρ' : Rho} {n : Nat} (h : Same ρ ρ' n n) (x y : Nat) : Same ρ ρ' x y := ⟨h.1, fun i _ => h.2 i (by omega)⟩

theorem Inv.fin (h : Tr P rec ops D) (hi : Inv ops D Pt ρ0 df L q U Pt' ρ w a) (ho : ops[j]? = some o) (hr : ∀ e ∈ o.after, Region.binds .any e = true → L.getD e.on false = true)
    {q' : Nat} {U' : Tm} {Pt'' : Prot} {ρ' : Rho} {w' : World} {a' : Act} (hp : Puts U U' o.dst) (hv : ∀ t, o.dst = some t → U'.get t = (D (j + 1)).T.get t)
    (hs : Same ρ ρ' (D j).m.next (D (j + 1)).m.next) (hqn : q' ≤ ops.size) (hq' : AtEnd ops q') (hanch : ∀ i oi, ops[i]? = some oi → isAnchor oi.op = true → ((i = j ∨ L.getD i false = true) ↔ i < q'))
    (hT' : TR ρ' U' a'.tmps) (hd' : a'.defers = df) (hrel : Rel Pt'' ρ' (D q').m w') (hle : Pt.Le Pt'') (hnews : News ops D (L.setIfInBounds j true) q' Pt Pt'' ρ') (hdist : Dist ops D (L.setIfInBounds j true) q' ρ') :
    Inv ops D Pt ρ0 df (L.setIfInBounds j true) q' U' Pt'' ρ' w' a' := by
  have hjn := lt_of_at ho
  have hset := getD_set (L := L) (j := j) (by rw [hi.sizeL]; exact hjn)
  refine ⟨by simp [hi.sizeL], hqn, hq', fun i oi hoi ha => ?_, fun i oi hoi hl e he hb => ?_, by rw [hp.1, hi.sz], fun i oi d hoi hd => ?_, fun d hn => ?_, hT', hd', hrel, hle, hnews, hdist, fun i hin hl => ?_, ?_⟩
  · rw [hset, ← hanch i oi hoi ha]
    by_cases e : i = j
    · simp [e]
    · simp [e]
  · rw [hset] at hl
    by_cases ei : i = j
    · subst ei
      rw [ho] at hoi; cases hoi
      exact getD_set_true (hr e he hb)
    · rw [if_neg ei] at hl
      exact getD_set_true (hi.down i oi hoi hl e he hb)
  · rw [hset]
    by_cases ei : i = j
    · subst ei
      rw [ho] at hoi; cases hoi
      rw [if_pos rfl, if_pos rfl, hv d hd]
      exact (h.after (ops.size - (i + 1)) (i + 1) (by omega) fun i' o' hi' ho' e => by
        have := h.ok.uniq i i' o o' d ho ho' hd e
        omega).symm
    · rw [if_neg ei, hp.2 d (fun e => ei (h.ok.uniq i j oi o d hoi ho hd e)), hi.tmp i oi d hoi hd]
  · rw [hp.2 d (hn j o ho), hi.tmp0 d hn]
  · rw [hset] at hl
    by_cases ei : i = j
    · rw [if_pos ei] at hl; cases hl
    · rw [if_neg ei] at hl
      have := hi.fresh i hin hl
      intro x hx1 hx2
      rw [hs.2 x ?_]
      · exact this x hx1 hx2
      · by_cases hl : i < j
        · have := h.next (j - (i + 1)) (i + 1) (by omega)
          rw [show i + 1 + (j - (i + 1)) = j by omega] at this
          exact .inl (by omega)
        · have := h.next (i - (j + 1)) (j + 1) (by omega)
          rw [show j + 1 + (i - (j + 1)) = i by omega] at this
          exact .inr (by omega)
  · refine ⟨hi.same.1.trans hs.1, fun i hx => ?_⟩
    have h1 := h.next j 0 (by omega)
    have h2 := h.next (ops.size - (j + 1)) (j + 1) (by omega)
    rw [show 0 + j = j by omega] at h1
    rw [show j + 1 + (ops.size - (j + 1)) = ops.size by omega] at h2
    rw [hs.2 i (by omega), hi.same.2 i hx]

theorem News.keep {q' : Nat} {ρ' : Rho} {Pt'' : Prot} (hjn : j < L.size) (ho : ops[j]? = some o) (hn : News ops D L q' Pt Pt'' ρ) (hle : RLe ρ ρ') (hno : ∀ lb, isNew o.op = true → q' ≤ j → (D (j + 1)).m ≠ (D j).m.push lb) :
    News ops D (L.setIfInBounds j true) q' Pt Pt'' ρ' := fun i oi lb hoi hl hqi hk e => by
  rw [getD_set hjn] at hl
  by_cases ei : i = j
  · subst ei
    rw [ho] at hoi; cases hoi
    exact absurd e (hno lb hk hqi)
  · rw [if_neg ei] at hl
    obtain ⟨b, s, c, ob, k1, k2, k3, k4⟩ := hn i oi lb hoi hl hqi hk e
    exact ⟨b, s, c, ob, hle _ _ k1, k2.mono hle, k3, k4⟩
theorem Dist.keep {q' : Nat} {ρ' : Rho} {Pt'' : Prot} (hjn : j < L.size) (ho : ops[j]? = some o) (hn : News ops D L q' Pt Pt'' ρ) (hd : Dist ops D L q ρ) (hqq : q ≤ q') (hle : RLe ρ ρ') (hno : ∀ lb, isNew o.op = true → q' ≤ j → (D (j + 1)).m ≠ (D j).m.push lb) :
    Dist ops D (L.setIfInBounds j true) q' ρ' := fun i i' oi oi' lb lb' x x' hoi hoi' hl hl' hqi hqi' hk hk' e e' hne hx hx' => by
  rw [getD_set hjn] at hl hl'
  have h1 : i ≠ j := fun ei => by
    subst ei
    rw [ho] at hoi; cases hoi
    exact absurd e (hno lb hk hqi)
  have h2 : i' ≠ j := fun ei => by
    subst ei
    rw [ho] at hoi'; cases hoi'
    exact absurd e' (hno lb' hk' hqi')
  rw [if_neg h1] at hl
  rw [if_neg h2] at hl'
  obtain ⟨b, s, c, ob, k1, _⟩ := hn i oi lb hoi hl hqi hk e
  obtain ⟨b', s', c', ob', k1', _⟩ := hn i' oi' lb' hoi' hl' hqi' hk' e'
  rw [hle _ _ k1] at hx
  rw [hle _ _ k1'] at hx'
  cases hx; cases hx'
  exact hd i i' oi oi' lb lb' _ _ hoi hoi' hl hl' (by omega) (by omega) hk hk' e e' hne k1 k1'
end
end PvL
