/-
  Part of the proof that what the interpreter of YtkkcpebemcbomaaGreatPvL yields, the model's machine comes to. No condition.
-/
import Derived.Test.YtkkcpebemcbomaaGreatPvO6
namespace PvL
open Go

section pure2
variable {P : Program} {ρ : Rho} {w : World}

theorem sliceL_sim {t : TypeId} {x v : LV} {lo hi mx : Option LV} (h : sliceL P t x lo hi mx = some v) {x' : Value} {lo' hi' mx' : Option Value} (hx : VR ρ x x') (hlo : OR ρ lo lo') (hhi : OR ρ hi hi') (hmx : OR ρ mx mx') :
    ∃ v', (Instr.sliceAt t x' lo' hi' mx').run P w = .ok v' w ∧ VR ρ v v' := by
  have at_slice : ∀ d, P.underlying t = some d → (∀ n e, d ≠ .array n e) → (Instr.sliceAt t x' lo' hi' mx').run P w = (Instr.slice t x' lo' hi' mx').run P w := by
    intro d hu hd
    unfold Instr.sliceAt
    rw [Sem.run_bind, Go.run_underlying hu, Result.andThen_ok]
    cases d <;> first | rfl | exact absurd rfl (hd _ _)
  unfold sliceL at h
  split at h
  · rename_i e hu
    obtain ⟨a, len, full, es, rfl, h1⟩ := asSlice_eq.1 h
    obtain ⟨n, hn, h2⟩ := ob_eq.1 h1
    obtain ⟨v', hr, hv⟩ := sliceSl_sim (P := P) (w := w) hu hn h2 hx hlo hhi hmx
    exact ⟨v', by rw [at_slice _ hu (by simp)]; exact hr, hv⟩
  · rename_i hu
    obtain ⟨s, rfl, h1⟩ := asStr_eq.1 h
    obtain ⟨hg, h2⟩ := guard'_eq.1 h1
    rw [hx.str_inv]
    rw [hx.str_inv] at at_slice
    cases mx with
    | some _ => cases hg
    | none =>
      cases mx' with
      | some _ => exact hmx.elim
      | none =>
        have run0 : ∀ l hh : Nat, (Instr.sliceBounds false s.size s.size lo' hi' none).run P w = .ok (l, hh, s.size) w →
            (Instr.sliceAt t (.string s) lo' hi' none).run P w = .ok (.string (s.extract l hh)) w := by
          intro l hh hb
          rw [at_slice _ hu (by simp)]
          unfold Instr.slice
          simp only [Sem.run_bind, Go.run_underlying hu, Result.andThen_ok, Option.isSome_none, Bool.false_eq_true, if_false, hb, Sem.run_pure]
        cases hi with
        | none =>
          cases hi' with
          | some _ => exact hhi.elim
          | none =>
            rw [optBound_none] at h2
            cases lo with
            | none =>
              cases lo' with
              | some _ => exact hlo.elim
              | none =>
                rw [optBound_none] at h2
                cases h2
                exact ⟨_, run0 0 s.size (by simp [Instr.sliceBounds]), .str _⟩
            | some lv =>
              cases lo' with
              | none => exact hlo.elim
              | some lv' =>
                obtain ⟨l, hl, hk, hb⟩ := boundL_sim (P := P) (ρ := ρ) (w := w) (optBound_some _ _ _ _ ▸ h2) (Nat.le_refl _)
                cases hk
                exact ⟨_, run0 l s.size (by simp [Instr.sliceBounds, hb _ _ hlo]), .str _⟩
        | some hv =>
          cases hi' with
          | none => exact hhi.elim
          | some hv' =>
            obtain ⟨hh, hle, hk, hb⟩ := boundL_sim (P := P) (ρ := ρ) (w := w) (optBound_some _ _ _ _ ▸ h2) (Nat.le_refl _)
            cases lo with
            | none =>
              cases lo' with
              | some _ => exact hlo.elim
              | none =>
                rw [optBound_none] at hk
                cases hk
                exact ⟨_, run0 0 hh (by simp [Instr.sliceBounds, hb _ _ hhi]), .str _⟩
            | some lv =>
              cases lo' with
              | none => exact hlo.elim
              | some lv' =>
                obtain ⟨l, hl, hk2, hb2⟩ := boundL_sim (P := P) (ρ := ρ) (w := w) (optBound_some _ _ _ _ ▸ hk) (Nat.le_refl _)
                cases hk2
                exact ⟨_, run0 l hh (by simp [Instr.sliceBounds, hb _ _ hhi, hb2 _ _ hlo]), .str _⟩
  · cases h

theorem ixK_eq {t : TypeId} {q : Option Nat × Nat} (h : ixK P t = some q) : (∃ e, P.underlying t = some (.slice e) ∧ szOf P e = some q.2 ∧ q.1 = none) ∨ ∃ len e, P.underlying t = some (.array len e) ∧ szOf P e = some q.2 ∧ q.1 = some len := by
  unfold ixK at h
  split at h
  · rename_i e hu
    obtain ⟨n, hn, h⟩ := ob_eq.1 h
    cases h
    exact .inl ⟨e, hu, hn, rfl⟩
  · rename_i len e hu
    obtain ⟨n, hn, h⟩ := ob_eq.1 h
    cases h
    exact .inr ⟨len, e, hu, hn, rfl⟩
  · cases h
theorem idxAt_eq {id off i n len : Nat} {v : LV} (h : idxAt id off i n len = some v) : i < len ∧ v = .ptr (some (id, off + i * n)) := by
  obtain ⟨hg, h⟩ := guard'_eq.1 h
  rw [fN_eq] at h
  cases h
  exact ⟨Nat.le_of_ble_eq_true hg, rfl⟩
theorem indexAddrL_sim {t : TypeId} {x i v : LV} (h : indexAddrL P t x i = some v) {x' i' : Value} (hx : VR ρ x x') (hi : VR ρ i i') :
    ∃ v', (Instr.indexAt t x' i').run P w = .ok v' w ∧ VR ρ v v' := by
  obtain ⟨q, hq, h1⟩ := ob_eq.1 h
  obtain ⟨len, n⟩ := q
  obtain ⟨k, z, rfl, h2⟩ := asInt_eq.1 (show asInt i _ = some v from h1)
  obtain ⟨j, rfl, h3⟩ := nat?_eq.1 h2
  rw [hi.int_inv]
  rcases ixK_eq hq with ⟨e, hu, hn, hl⟩ | ⟨l, e, hu, hn, hl⟩
  · have hl : len = none := hl
    subst hl
    obtain ⟨a, ln, full, es, rfl, h4⟩ := asSlice_eq.1 (show asSlice x _ = some v from h3)
    obtain ⟨⟨id, off⟩, rfl, h5⟩ := ob_eq.1 h4
    obtain ⟨hlt, rfl⟩ := idxAt_eq h5
    cases hx with
    | slice hρ hle hf hc =>
      rename_i b s c cap
      refine ⟨.pointer (some ⟨b, s + (off + j * n), none⟩), ?_, .ptr hρ⟩
      unfold Instr.indexAt
      simp only [Go.asIntOf, Sem.run_bind, Sem.run_pure, Result.andThen_ok, Go.run_underlying hu]
      rw [if_pos ⟨by omega, by omega⟩]
      simp [run_sizeOf hn, add_none, Nat.add_assoc]
  · have hl : len = some l := hl
    subst hl
    obtain ⟨id, off, rfl, h4⟩ := asPtr_eq.1 (show asPtr x _ = some v from h3)
    obtain ⟨hlt, rfl⟩ := idxAt_eq h4
    cases hx with
    | ptr hρ =>
      rename_i b s c
      refine ⟨.pointer (some ⟨b, s + (off + j * n), none⟩), ?_, .ptr hρ⟩
      unfold Instr.indexAt Instr.sureAddr
      simp only [Go.asIntOf, Sem.run_bind, Sem.run_pure, Result.andThen_ok, Go.run_underlying hu]
      rw [if_pos ⟨by omega, by omega⟩]
      simp [run_sizeOf hn, add_none, Nat.add_assoc]

theorem partL_sim {t : TypeId} {ag : Bool} {n off : Nat} {cs : List LV} {v : LV} (h : partL ag n off cs = some v) (hag : isAggT P t = some ag) (hn : szOf P t = some n) {cs' : Array Value} (hc : VRs ρ cs cs'.toList) :
    ∃ v', (part t cs' off).run P w = .ok v' w ∧ VR ρ v v' := by
  cases ag with
  | false => exact part_sim hc (s := none) (by unfold aggSz; rw [hag]; rfl) h
  | true => exact part_sim hc (s := some n) (by unfold aggSz; rw [hag]; show ob (szOf P t) _ = _; rw [hn]; rfl) h
theorem indexL_sim {t : TypeId} {x i v : LV} (h : indexL P t x i = some v) {x' i' : Value} (hx : VR ρ x x') (hi : VR ρ i i') :
    ∃ v', (Instr.index t x' i').run P w = .ok v' w ∧ VR ρ v v' := by
  unfold indexL at h
  split at h
  · rename_i len e hu
    obtain ⟨cs, rfl, h1⟩ := asAgg_eq.1 h
    obtain ⟨k, z, rfl, h2⟩ := (asInt_eq (v := i)).1 h1
    obtain ⟨j, rfl, h3⟩ := nat?_eq.1 h2
    obtain ⟨n, hn, h4⟩ := ob_eq.1 h3
    obtain ⟨ag, hag, h5⟩ := ob_eq.1 h4
    obtain ⟨hlt, h6⟩ := guard'_eq.1 h5
    rw [Nat.ble_eq] at hlt
    rw [hi.int_inv]
    obtain ⟨cs', rfl, hc⟩ := hx.agg_inv
    obtain ⟨v', hr, hv⟩ := partL_sim (P := P) (w := w) h6 hag hn hc
    refine ⟨v', ?_, hv⟩
    unfold Instr.index
    simp only [Go.asIntOf, Sem.run_bind, Sem.run_pure, Result.andThen_ok, Go.run_underlying hu]
    rw [if_pos ⟨by omega, by omega⟩]
    simp [run_sizeOf hn, hr]
  · rename_i hu
    obtain ⟨s, rfl, h1⟩ := asStr_eq.1 h
    obtain ⟨k, z, rfl, h2⟩ := (asInt_eq (v := i)).1 h1
    obtain ⟨j, rfl, h3⟩ := nat?_eq.1 h2
    obtain ⟨b, hb, h4⟩ := ob_eq.1 h3
    cases h4
    rw [hi.int_inv, hx.str_inv]
    refine ⟨_, ?_, .int _ _⟩
    unfold Instr.index
    simp only [Go.asIntOf, Sem.run_bind, Sem.run_pure, Result.andThen_ok, Go.run_underlying hu]
    rw [if_pos (by omega)]
    simp [hb]
  · cases h
theorem fieldPl_eq {t : TypeId} {f : Nat} {q : Nat × Nat × Bool} (h : fieldPl P t f = some q) : ∃ fs F, P.underlying t = some (.struct fs) ∧ fs[f]? = some F ∧ q.1 = F.offset ∧ szOf P F.type = some q.2.1 ∧ isAggT P F.type = some q.2.2 := by
  obtain ⟨F, hF, h1⟩ := ob_eq.1 h
  obtain ⟨n, hn, h2⟩ := ob_eq.1 h1
  obtain ⟨b, hb, h3⟩ := ob_eq.1 h2
  cases h3
  unfold fieldOf at hF
  split at hF
  · rename_i fs hu
    exact ⟨fs, F, hu, hF, rfl, hn, hb⟩
  · cases hF
theorem fieldL_sim {t : TypeId} {x v : LV} {f : Nat} (h : fieldL P t x f = some v) {x' : Value} (hx : VR ρ x x') : ∃ v', (Instr.field t x' f).run P w = .ok v' w ∧ VR ρ v v' := by
  obtain ⟨⟨off, n, ag⟩, hq, h1⟩ := ob_eq.1 h
  obtain ⟨cs, rfl, h2⟩ := asAgg_eq.1 (show asAgg x _ = some v from h1)
  obtain ⟨fs, F, hu, hF, ho, hn, hag⟩ := fieldPl_eq hq
  have ho : off = F.offset := ho
  subst ho
  obtain ⟨cs', rfl, hc⟩ := hx.agg_inv
  obtain ⟨v', hr, hv⟩ := partL_sim (P := P) (w := w) h2 hag hn hc
  refine ⟨v', ?_, hv⟩
  unfold Instr.field
  simp only [Sem.run_bind, Go.run_underlying hu, Result.andThen_ok, hF]
  simp [Go.asAgg, hr]
theorem fieldAddrL_sim {t : TypeId} {x v : LV} {f : Nat} (h : fieldAddrL P t x f = some v) {x' : Value} (hx : VR ρ x x') : ∃ v', (Instr.fieldAt t x' f).run P w = .ok v' w ∧ VR ρ v v' := by
  obtain ⟨⟨off, n, ag⟩, hq, h1⟩ := ob_eq.1 h
  obtain ⟨id, o, rfl, h2⟩ := asPtr_eq.1 (show asPtr x _ = some v from h1)
  obtain ⟨hg, h3⟩ := guard'_eq.1 h2
  rw [fN_eq] at h3
  cases h3
  rw [Nat.ble_eq] at hg
  obtain ⟨fs, F, hu, hF, ho, hn, hag⟩ := fieldPl_eq hq
  have ho : off = F.offset := ho
  subst ho
  cases hx with
  | ptr hρ =>
    rename_i b s c
    refine ⟨.pointer (some ⟨b, s + (o + F.offset), none⟩), ?_, .ptr hρ⟩
    unfold Instr.fieldAt Instr.sureAddr fieldPlace
    simp only [Sem.run_bind, Go.run_underlying hu, Result.andThen_ok, hF, Sem.run_pure]
    have hn : szOf P F.type = some n := hn
    simp only [run_sizeOf hn, Result.andThen_ok]
    rw [if_neg (by omega)]
    simp [add_none, Nat.add_assoc]
theorem nilCheckL_sim {x v : LV} (h : nilCheckL x = some v) {x' : Value} (hx : VR ρ x x') : ∃ a, x' = .pointer (some a) ∧ VR ρ v x' := by
  unfold nilCheckL at h
  split at h
  · cases h
    cases hx with
    | ptr hρ => exact ⟨_, rfl, .ptr hρ⟩
  · cases h
theorem extract_sim {vs : List LV} {i : Nat} {v : LV} (h : nth vs i = some v) {x' : Value} (hx : VR ρ (.tup vs) x') : ∃ v', (Instr.extract x' i).run P w = .ok v' w ∧ VR ρ v v' := by
  cases hx with
  | tup hvs =>
    rw [nth_eq] at h
    obtain ⟨v', e, hv⟩ := hvs.get h
    simp only [Array.getElem?_toList] at e
    exact ⟨v', by simp [Instr.extract, e], hv⟩
theorem max2L_sim {a b v : LV} (h : max2L a b = some v) {a' b' : Value} (ha : VR ρ a a') (hb : VR ρ b b') : ∃ v', (Builtin.max2 a' b').run P w = .ok v' w ∧ VR ρ v v' := by
  obtain ⟨k, x, rfl, h1⟩ := asInt_eq.1 h
  obtain ⟨k', y, rfl, h2⟩ := (asInt_eq (v := b)).1 h1
  cases h2
  rw [ha.int_inv, hb.int_inv, ilt_eq]
  refine ⟨_, by simp only [Builtin.max2]; rfl, ?_⟩
  by_cases hc : x < y
  · simp only [hc, decide_true, ifb_true, if_true]; exact .int _ _
  · simp only [hc, decide_false, ifb_false, if_false]; exact .int _ _
theorem min2L_sim {a b v : LV} (h : min2L a b = some v) {a' b' : Value} (ha : VR ρ a a') (hb : VR ρ b b') : ∃ v', (Builtin.min2 a' b').run P w = .ok v' w ∧ VR ρ v v' := by
  obtain ⟨k, x, rfl, h1⟩ := asInt_eq.1 h
  obtain ⟨k', y, rfl, h2⟩ := (asInt_eq (v := b)).1 h1
  cases h2
  rw [ha.int_inv, hb.int_inv, ilt_eq]
  refine ⟨_, by simp only [Builtin.min2]; rfl, ?_⟩
  by_cases hc : y < x
  · simp only [hc, decide_true, ifb_true, if_true]; exact .int _ _
  · simp only [hc, decide_false, ifb_false, if_false]; exact .int _ _
theorem foldL_sim {f : LV → LV → Option LV} {g : Value → Value → Sem Value} (hfg : ∀ a b v a' b', f a b = some v → VR ρ a a' → VR ρ b b' → ∃ v', (g a' b').run P w = .ok v' w ∧ VR ρ v v') :
    ∀ (ys : List LV) (ys' : List Value) (x v : LV) (x' : Value), foldL f ys x = some v → VR ρ x x' → VRs ρ ys ys' → ∃ v', (ys'.foldlM g x').run P w = .ok v' w ∧ VR ρ v v'
  | [], _, x, v, x', h, hx, hy => by cases hy; cases h; exact ⟨x', rfl, hx⟩
  | y :: ys, _, x, v, x', h, hx, hy => by
    cases hy with
    | cons hy hys =>
      obtain ⟨z, hz, h1⟩ := ob_eq.1 (show ob (f x y) _ = some v from h)
      obtain ⟨z', hr, hzv⟩ := hfg _ _ _ _ _ hz hx hy
      obtain ⟨v', hr2, hv⟩ := foldL_sim hfg ys _ z v z' h1 hzv hys
      exact ⟨v', by rw [List.foldlM_cons, Sem.run_bind, hr]; exact hr2, hv⟩
end pure2
end PvL
