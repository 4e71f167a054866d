/-
  Part of the proof that what the interpreter of YtkkcpebemcbomaaGreatPvL yields, the model's machine comes to. No condition.
-/
import Derived.Test.YtkkcpebemcbomaaGreatPvO5
namespace PvL
open Go

section pure1
variable {P : Program} {ρ : Rho} {w : World}

/-- a bound of a slice expression -/
theorem boundL_sim {α : Type} {x : LV} {most most' : Nat} {k : Nat → Option α} {y : α} (h : boundL x most k = some y) (hm : most ≤ most') :
    ∃ n : Nat, n ≤ most ∧ k n = some y ∧ ∀ (code : BoundsCode) (x' : Value), VR ρ x x' → (Instr.sliceBound x' most' code).run P w = .ok n w := by
  obtain ⟨q, i, rfl, h1⟩ := asInt_eq.1 h
  obtain ⟨n, rfl, h2⟩ := nat?_eq.1 h1
  obtain ⟨hn, h3⟩ := guard'_eq.1 h2
  rw [Nat.ble_eq] at hn
  refine ⟨n, hn, h3, fun code x' hx => ?_⟩
  rw [hx.int_inv]
  unfold Instr.sliceBound
  simp only [Go.asIntOf, Sem.run_bind, Sem.run_pure, Result.andThen_ok]
  rw [if_pos ⟨by omega, by omega⟩]
  simp

def OR (ρ : Rho) : Option LV → Option Value → Prop
  | none, none => True
  | some v, some v' => VR ρ v v'
  | _, _ => False

theorem optBound_none {α : Type} (most d : Nat) (k : Nat → Option α) : optBound none most d k = k d := rfl
theorem optBound_some {α : Type} (v : LV) (most d : Nat) (k : Nat → Option α) : optBound (some v) most d k = boundL v most k := rfl

theorem sliceSl_sim {t e : TypeId} {n : Nat} (hu : P.underlying t = some (.slice e)) (hn : szOf P e = some n) {a : Option (Nat × Nat)} {len es : Nat} {full : Bool} {lo hi mx : Option LV} {v : LV}
    (h : sliceSl n a len full es lo hi mx = some v) {x' : Value} {lo' hi' mx' : Option Value} (hx : VR ρ (.slice a len full es) x') (hlo : OR ρ lo lo') (hhi : OR ρ hi hi') (hmx : OR ρ mx mx') :
    ∃ v', (Instr.slice t x' lo' hi' mx').run P w = .ok v' w ∧ VR ρ v v' := by
  unfold sliceSl at h
  obtain ⟨hg, h⟩ := guard'_eq.1 h
  -- what stands behind the bounds
  have fin : ∀ (m M hh l : Nat) (cap : Nat) (A : Option Addr), len ≤ cap → (mx.isSome = true → M = m) → (mx = none → M = cap ∧ m = len) → m ≤ len → hh ≤ m → l ≤ hh →
      x' = .slice A len cap →
      (oe a (some (.slice none 0 true 0)) fun p => pr p fun id off =>
        guard' (Nat.beq es n && (mx.isSome || (full || (Nat.ble (l + 1) len || Nat.beq l 0)))) (fN (ifb (Nat.beq m l && (full || mx.isSome)) off (off + l * n)) fun off' => fN (hh - l) fun len' =>
          some (.slice (some (id, off')) len' (ifb mx.isSome (Nat.beq hh m) (full && Nat.beq hh len)) es))) = some v →
      VR ρ v (.slice (if M = l then A else A.map (·.add (l * n))) (hh - l) (M - l)) := by
    intro m M hh l cap A hcap hM1 hM2 hm hhm hl hA hv
    subst hA
    cases a with
    | none =>
      cases hv
      cases hx
      have : M - l = 0 := by
        cases mx with
        | none => have := hM2 rfl; omega
        | some _ => have := hM1 rfl; omega
      have h0 : hh - l = 0 := by omega
      rw [this, h0]
      split <;> exact .sliceNil _ _
    | some p =>
      obtain ⟨id, off⟩ := p
      obtain ⟨hg2, hv2⟩ := guard'_eq.1 (show guard' _ _ = some v from hv)
      rw [fN_eq, fN_eq] at hv2
      cases hv2
      simp only [Bool.and_eq_true, Bool.or_eq_true, Nat.beq_eq, Nat.ble_eq] at hg2
      obtain ⟨rfl, hg3⟩ := hg2
      cases hx with
      | slice hρ hle hf hc =>
        rename_i b s c
        -- the address
        have haddr : (if M = l then some (⟨b, s + off, none⟩ : Addr) else (some (⟨b, s + off, none⟩ : Addr)).map (·.add (l * es))) =
            some ⟨b, s + (ifb (Nat.beq m l && (full || mx.isSome)) off (off + l * es)), none⟩ ∧
            s + (ifb (Nat.beq m l && (full || mx.isSome)) off (off + l * es)) + (M - l) * es ≤ c := by
          have hMc : M ≤ cap := by
            cases mx with
            | none => have := hM2 rfl; omega
            | some _ => have := hM1 rfl; omega
          have hmul : l * es + (M - l) * es ≤ cap * es ∨ M < l := by
            by_cases hlt : M < l
            · exact .inr hlt
            · left; rw [← Nat.add_mul]; exact Nat.mul_le_mul_right _ (by omega)
          have hML : l ≤ M := by
            cases mx with
            | none => have := hM2 rfl; omega
            | some _ => have := hM1 rfl; omega
          cases hb : Nat.beq m l && (full || mx.isSome) with
          | true =>
            simp only [Bool.and_eq_true, Nat.beq_eq, Bool.or_eq_true] at hb
            have hMl : M = l := by
              cases mx with
              | none =>
                have h2 := hM2 rfl
                rcases hb.2 with hb2 | hb2
                · have := hf hb2; omega
                · cases hb2
              | some _ => have := hM1 rfl; omega
            rw [if_pos hMl, hMl]
            refine ⟨rfl, ?_⟩
            simp
            have : 0 ≤ cap * es := Nat.zero_le _
            omega
          | false =>
            by_cases hMl : M = l
            · -- at the very end of a slice that may have room: only from 0
              have : l = 0 := by
                simp only [Bool.and_eq_false_iff, Bool.or_eq_false_iff] at hb
                cases mx with
                | none =>
                  have h2 := hM2 rfl
                  rcases hg3 with hg3 | hg3 | hg3 | hg3
                  · cases hg3
                  · rcases hb with hb | hb
                    · have := hf hg3
                      have : m = l := by omega
                      rw [this] at hb; simp at hb
                    · rw [hg3] at hb; cases hb.1
                  · omega
                  · exact hg3
                | some _ =>
                  have h1 := hM1 rfl
                  rcases hb with hb | hb
                  · have : m = l := by omega
                    rw [this] at hb; simp at hb
                  · cases hb.2
              subst this
              rw [if_pos hMl]
              refine ⟨by simp, ?_⟩
              rw [hMl]; simp
              have : 0 ≤ cap * es := Nat.zero_le _
              omega
            · rw [if_neg hMl]
              refine ⟨by simp only [Option.map_some, add_none]; simp [Nat.add_assoc], ?_⟩
              simp only [ifb_false]
              rcases hmul with hmul | hmul
              · omega
              · omega
        rw [haddr.1]
        have hmM : m ≤ M := by
          cases mx with
          | none => have := hM2 rfl; omega
          | some _ => have := hM1 rfl; omega
        refine .slice hρ (by omega) ?_ haddr.2
        intro hfl
        cases mx with
        | none =>
          have h2 := hM2 rfl
          simp only [Option.isSome_none, ifb_false, Bool.and_eq_true, Nat.beq_eq] at hfl
          have := hf hfl.1
          omega
        | some _ =>
          have h1 := hM1 rfl
          simp only [Option.isSome_some, ifb_true, Nat.beq_eq] at hfl
          omega
  have hxs : ∃ A cap, x' = .slice A len cap ∧ len ≤ cap := by
    cases hx with
    | sliceNil => exact ⟨none, 0, rfl, Nat.le_refl _⟩
    | slice hρ hle hf hc => exact ⟨_, _, rfl, hle⟩
  obtain ⟨A, cap, hA, hcap⟩ := hxs
  have run0 : ∀ l h m : Nat, (Instr.sliceBounds true len cap lo' hi' mx').run P w = .ok (l, h, m) w →
      (Instr.slice t x' lo' hi' mx').run P w = .ok (.slice (if m = l then A else A.map (·.add (l * n))) (h - l) (m - l)) w := by
    intro l h m hb
    unfold Instr.slice
    simp only [Sem.run_bind, Go.run_underlying hu, Result.andThen_ok]
    rw [hA]
    simp only [Sem.run_bind, hb, Result.andThen_ok, run_sizeOf hn]
    rfl
  cases mx with
  | none =>
    cases mx' with
    | some _ => exact hmx.elim
    | none =>
      rw [optBound_none] at h
      cases hi with
      | none =>
        cases hi' with
        | some _ => exact hhi.elim
        | none =>
          rw [optBound_none] at h
          cases lo with
          | none =>
            cases lo' with
            | some _ => exact hlo.elim
            | none =>
              exact ⟨_, run0 0 len cap (by simp [Instr.sliceBounds]), fin len cap len 0 cap A hcap (by simp) (by simp) (Nat.le_refl _) (Nat.le_refl _) (Nat.zero_le _) hA h⟩
          | some lv =>
            cases lo' with
            | none => exact hlo.elim
            | some lv' =>
              obtain ⟨l, hl, hk, hb⟩ := boundL_sim (P := P) (ρ := ρ) (w := w) (optBound_some _ _ _ _ ▸ h) (Nat.le_refl _)
              exact ⟨_, run0 l len cap (by simp [Instr.sliceBounds, hb _ _ hlo]), fin len cap len l cap A hcap (by simp) (by simp) (Nat.le_refl _) (Nat.le_refl _) hl hA hk⟩
      | some hv =>
        cases hi' with
        | none => exact hhi.elim
        | some hv' =>
          obtain ⟨hh, hle, hk, hb⟩ := boundL_sim (P := P) (ρ := ρ) (w := w) (optBound_some _ _ _ _ ▸ h) hcap
          cases lo with
          | none =>
            cases lo' with
            | some _ => exact hlo.elim
            | none =>
              exact ⟨_, run0 0 hh cap (by simp [Instr.sliceBounds, hb _ _ hhi]), fin len cap hh 0 cap A hcap (by simp) (by simp) (Nat.le_refl _) hle (Nat.zero_le _) hA hk⟩
          | some lv =>
            cases lo' with
            | none => exact hlo.elim
            | some lv' =>
              obtain ⟨l, hl, hk2, hb2⟩ := boundL_sim (P := P) (ρ := ρ) (w := w) (optBound_some _ _ _ _ ▸ hk) (Nat.le_refl _)
              exact ⟨_, run0 l hh cap (by simp [Instr.sliceBounds, hb _ _ hhi, hb2 _ _ hlo]), fin len cap hh l cap A hcap (by simp) (by simp) (Nat.le_refl _) hle hl hA hk2⟩
  | some mv =>
    cases mx' with
    | none => exact hmx.elim
    | some mv' =>
      obtain ⟨mm, hmle, hk0, hb0⟩ := boundL_sim (P := P) (ρ := ρ) (w := w) (optBound_some _ _ _ _ ▸ h) hcap
      cases hi with
      | none => cases hg
      | some hv =>
        cases hi' with
        | none => exact hhi.elim
        | some hv' =>
          obtain ⟨hh, hle, hk, hb⟩ := boundL_sim (P := P) (ρ := ρ) (w := w) (optBound_some _ _ _ _ ▸ hk0) (Nat.le_refl _)
          cases lo with
          | none =>
            cases lo' with
            | some _ => exact hlo.elim
            | none =>
              exact ⟨_, run0 0 hh mm (by simp [Instr.sliceBounds, hb0 _ _ hmx, hb _ _ hhi]), fin mm mm hh 0 cap A hcap (fun _ => rfl) (by simp) hmle hle (Nat.zero_le _) hA hk⟩
          | some lv =>
            cases lo' with
            | none => exact hlo.elim
            | some lv' =>
              obtain ⟨l, hl, hk2, hb2⟩ := boundL_sim (P := P) (ρ := ρ) (w := w) (optBound_some _ _ _ _ ▸ hk) (Nat.le_refl _)
              exact ⟨_, run0 l hh mm (by simp [Instr.sliceBounds, hb0 _ _ hmx, hb _ _ hhi, hb2 _ _ hlo]), fin mm mm hh l cap A hcap (fun _ => rfl) (by simp) hmle hle hl hA hk2⟩
end pure1
end PvL
