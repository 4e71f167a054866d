/-
  Part of the proof that what the interpreter of YtkkcpebemcbomaaGreatPvL yields, the model's machine comes to. No condition.
-/
import Derived.Test.YtkkcpebemcbomaaGreatPvO
import Derived.ChangeKeysEq
import Derived.Laws.BitsLemmas
namespace PvL
open Go

/-! ### Integers -/
theorem kEq_iff {a b : IntKind} : kEq a b = true ↔ a = b := by cases a <;> cases b <;> first | exact ⟨fun _ => rfl, fun _ => rfl⟩ | exact ⟨fun h => (by cases h), fun h => (by cases h)⟩
theorem ilt_eq (a b : Int) : ilt a b = decide (a < b) := by
  cases a with
  | ofNat a => cases b with
    | ofNat b =>
      show Nat.ble (Nat.succ a) b = _
      rw [Bool.eq_iff_iff, Nat.ble_eq]; simp; omega
    | negSucc b => show false = _; symm; simp; omega
  | negSucc a => cases b with
    | ofNat b => show true = _; symm; simp; omega
    | negSucc b =>
      show Nat.ble (Nat.succ b) a = _
      rw [Bool.eq_iff_iff, Nat.ble_eq]; simp; omega
theorem ieq_eq (a b : Int) : ieq a b = (a == b) := by
  cases a with
  | ofNat a => cases b with
    | ofNat b =>
      show Nat.beq a b = _
      rw [Bool.eq_iff_iff, Nat.beq_eq]; simp; omega
    | negSucc b => show false = _; symm; simp
  | negSucc a => cases b with
    | ofNat b => show false = _; symm; simp
    | negSucc b =>
      show Nat.beq a b = _
      rw [Bool.eq_iff_iff, Nat.beq_eq]; simp
theorem izero_iff {z : Int} : izero z = true ↔ z = 0 := by unfold izero; rw [ieq_eq]; simp
theorem wr_eq (k : IntKind) (n : Int) : wr k n = k.wrap n := by
  unfold wr
  cases k <;> first | rfl | skip
  show ifb (inI64 n) n _ = _
  cases h : inI64 n with
  | false => rfl
  | true =>
    show n = _
    rw [IntKind.wrap_i64]
    cases n with
    | ofNat m =>
      have h : Nat.ble m 9223372036854775807 = true := h
      rw [Nat.ble_eq] at h
      rw [show Int.ofNat m = (m : Int) from rfl]
      omega
    | negSucc m =>
      have h : Nat.ble m 9223372036854775807 = true := h
      rw [Nat.ble_eq] at h
      omega
theorem nat?_eq {α : Type} {z : Int} {k : Nat → Option α} {y : α} : nat? z k = some y ↔ ∃ n : Nat, z = n ∧ k n = some y := by
  cases z with
  | ofNat n =>
    show k n = some y ↔ _
    constructor
    · intro h; exact ⟨n, rfl, h⟩
    · rintro ⟨m, h1, h2⟩
      have h1 : (n : Int) = m := h1
      have : n = m := by omega
      subst this; exact h2
  | negSucc n =>
    show none = some y ↔ _
    simp
theorem mkI_eq {k : IntKind} {z : Int} {v : LV} : mkI k z = some v ↔ v = .int k z := by unfold mkI; rw [fI_eq]; simp [eq_comm]
theorem mkB_eq {b : Bool} {v : LV} : mkB b = some v ↔ v = .bool b := by cases b <;> simp [mkB, eq_comm]
theorem mkN_eq {n : Nat} {v : LV} : mkN n = some v ↔ v = .int .i64 n := by unfold mkN; rw [fN_eq]; simp [eq_comm]
theorem bEq_eq (a b : Bool) : bEq a b = (a == b) := by cases a <;> cases b <;> rfl

section ops
variable {P : Program} {ρ : Rho} {w : World}

theorem VR.int_inv {k : IntKind} {n : Int} {v' : Value} (h : VR ρ (.int k n) v') : v' = .int k n := by cases h; rfl
theorem VR.bool_inv {b : Bool} {v' : Value} (h : VR ρ (.bool b) v') : v' = .bool b := by cases h; rfl
theorem VR.str_inv {s : ByteArray} {v' : Value} (h : VR ρ (.str s) v') : v' = .string s := by cases h; rfl
theorem VR.agg_inv {c : List LV} {v' : Value} (h : VR ρ (.agg c) v') : ∃ c', v' = .agg c' ∧ VRs ρ c c'.toList := by cases h with | agg h => exact ⟨_, rfl, h⟩

theorem cmpI_eq {f : Int → Int → Bool} {x y v : LV} (h : cmpI f x y = some v) : ∃ k a b, x = .int k a ∧ y = .int k b ∧ v = .bool (f a b) := by
  obtain ⟨k, a, rfl, h1⟩ := asInt_eq.1 h
  obtain ⟨k', b, rfl, h2⟩ := (asInt_eq (v := y)).1 h1
  obtain ⟨hk, h3⟩ := guard'_eq.1 h2
  obtain rfl := kEq_iff.1 hk
  exact ⟨k, a, b, rfl, rfl, mkB_eq.1 h3⟩

theorem arI_eq {f : IntKind → Int → Int → Option LV} {x y v : LV} (h : arI f x y = some v) : ∃ k a b, x = .int k a ∧ y = .int k b ∧ f k a b = some v := by
  obtain ⟨k, a, rfl, h1⟩ := asInt_eq.1 h
  obtain ⟨k', b, rfl, h2⟩ := (asInt_eq (v := y)).1 h1
  obtain ⟨hk, h3⟩ := guard'_eq.1 h2
  obtain rfl := kEq_iff.1 hk
  exact ⟨k, a, b, rfl, rfl, h3⟩

/-- a part of an aggregate -/
theorem part_sim {t : TypeId} {off : Nat} {xs : List LV} {xs' : Array Value} (h : VRs ρ xs xs'.toList) {s : Option Nat} (hs : aggSz P t = some s) {v : LV}
    (hv : oe s (nth xs off) (fun n => ob (take' n (drop' off xs)) fun a => some (.agg a)) = some v) : ∃ v', (part t xs' off).run P w = .ok v' w ∧ VR ρ v v' := by
  rcases aggSz_eq hs with ⟨rfl, hag⟩ | ⟨n, rfl, hag, hsz⟩
  · have hv : nth xs off = some v := hv
    rw [nth_eq] at hv
    obtain ⟨v', h1, h2⟩ := h.get hv
    refine ⟨v', ?_, h2⟩
    unfold part
    rw [Sem.run_bind, run_isAgg hag, Result.andThen_ok]
    simp at h1
    simp [h1]
  · obtain ⟨a, ha, hv⟩ := ob_eq.1 (show ob (take' n (drop' off xs)) (fun a => some (.agg a)) = some v from hv)
    cases hv
    rw [drop'_eq] at ha
    obtain ⟨h1, rfl⟩ := take'_eq.1 ha
    refine ⟨.agg (xs'.extract off (off + n)), ?_, .agg ?_⟩
    · unfold part
      rw [Sem.run_bind, run_isAgg hag, Result.andThen_ok]
      simp [run_sizeOf hsz]
    · have hl := h.length
      simp only [List.length_drop] at h1
      refine VRs.of_get ?_ fun k v hk => ?_
      · simp at hl ⊢; omega
      · have hkn : k < n := by
          have := (List.getElem?_eq_some_iff.1 hk).1
          simp at this; omega
        rw [List.getElem?_take, if_pos hkn, List.getElem?_drop] at hk
        obtain ⟨v', h2, h3⟩ := h.get hk
        refine ⟨v', ?_, h3⟩
        simp only [Array.getElem?_toList] at h2
        have hb := (Array.getElem?_eq_some_iff.1 h2).1
        simp only [Array.getElem?_toList, Array.getElem?_extract]
        rw [if_pos (by omega)]
        exact h2

theorem eqPart_sim {rec : TypeId → LV → LV → Option Bool} {d : Nat}
    (ih : ∀ t x y r x' y', rec t x y = some r → VR ρ x x' → VR ρ y y' → (Op.equalIn d t x' y').run P w = .ok r w)
    {t : TypeId} {off : Nat} {xs ys : List LV} {xs' ys' : Array Value} (hx : VRs ρ xs xs'.toList) (hy : VRs ρ ys ys'.toList) {r : Bool} (h : eqPart P rec t off xs ys = some r) :
    ∃ a b, (part t xs' off).run P w = .ok a w ∧ (part t ys' off).run P w = .ok b w ∧ (Op.equalIn d t a b).run P w = .ok r w := by
  obtain ⟨s, hs, h⟩ := ob_eq.1 h
  cases s with
  | none =>
    have h : ob (nth xs off) (fun a => ob (nth ys off) fun b => rec t a b) = some r := h
    obtain ⟨a, ha, h⟩ := ob_eq.1 h
    obtain ⟨b, hb, h⟩ := ob_eq.1 h
    obtain ⟨a', h1, h2⟩ := part_sim (w := w) hx hs (v := a) ha
    obtain ⟨b', h3, h4⟩ := part_sim (w := w) hy hs (v := b) hb
    exact ⟨a', b', h1, h3, ih _ _ _ _ _ _ h h2 h4⟩
  | some n =>
    have h : ob (take' n (drop' off xs)) (fun a => ob (take' n (drop' off ys)) fun b => rec t (.agg a) (.agg b)) = some r := h
    obtain ⟨a, ha, h⟩ := ob_eq.1 h
    obtain ⟨b, hb, h⟩ := ob_eq.1 h
    obtain ⟨a', h1, h2⟩ := part_sim (w := w) hx hs (v := .agg a) (by show ob (take' n (drop' off xs)) _ = _; rw [ha]; rfl)
    obtain ⟨b', h3, h4⟩ := part_sim (w := w) hy hs (v := .agg b) (by show ob (take' n (drop' off ys)) _ = _; rw [hb]; rfl)
    exact ⟨a', b', h1, h3, ih _ _ _ _ _ _ h h2 h4⟩

theorem andO_eq {x y : Option Bool} {r : Bool} (h : andO x y = some r) : (x = some false ∧ r = false) ∨ (x = some true ∧ y = some r) := by
  obtain ⟨b, hb, h⟩ := ob_eq.1 h
  cases b with
  | false => cases h; exact .inl ⟨hb, rfl⟩
  | true => exact .inr ⟨hb, h⟩

theorem fieldsEq_sim {rec : TypeId → LV → LV → Option Bool} {d : Nat}
    (ih : ∀ t x y r x' y', rec t x y = some r → VR ρ x x' → VR ρ y y' → (Op.equalIn d t x' y').run P w = .ok r w)
    {xs ys : List LV} {xs' ys' : Array Value} (hx : VRs ρ xs xs'.toList) (hy : VRs ρ ys ys'.toList) :
    ∀ (fs : List Field) (r : Bool), fieldsEq P rec xs ys fs = some r → (Op.eqFields d xs' ys' fs).run P w = .ok r w
  | [], r, h => by cases h; rfl
  | f :: fs, r, h => by
    have h : ifb (f.name == "_") (fieldsEq P rec xs ys fs) (andO (eqPart P rec f.type f.offset xs ys) (fieldsEq P rec xs ys fs)) = some r := h
    cases hn : f.name == "_" with
    | true =>
      rw [hn] at h
      have hn' : f.name = "_" := by simpa using hn
      unfold Op.eqFields
      rw [if_neg (by simp [hn'])]
      exact fieldsEq_sim ih hx hy fs r h
    | false =>
      rw [hn] at h
      have hn' : f.name ≠ "_" := by simpa using hn
      unfold Op.eqFields
      rw [if_pos hn']
      rcases andO_eq (show andO _ _ = some r from h) with ⟨h1, rfl⟩ | ⟨h1, h2⟩
      · obtain ⟨a, b, p1, p2, p3⟩ := eqPart_sim ih hx hy h1
        simp [p1, p2, p3]
      · obtain ⟨a, b, p1, p2, p3⟩ := eqPart_sim ih hx hy h1
        have := fieldsEq_sim ih hx hy fs r h2
        simp [p1, p2, p3, this]

theorem arrEq_sim {rec : TypeId → LV → LV → Option Bool} {d : Nat}
    (ih : ∀ t x y r x' y', rec t x y = some r → VR ρ x x' → VR ρ y y' → (Op.equalIn d t x' y').run P w = .ok r w)
    {xs ys : List LV} {xs' ys' : Array Value} (hx : VRs ρ xs xs'.toList) (hy : VRs ρ ys ys'.toList) (e : TypeId) (n : Nat) :
    ∀ (is : List Nat) (r : Bool), arrEq P rec e n xs ys is = some r → (Op.eqItems d e n xs' ys' is).run P w = .ok r w
  | [], r, h => by cases h; rfl
  | i :: is, r, h => by
    unfold Op.eqItems
    rcases andO_eq (show andO (eqPart P rec e (i * n) xs ys) (arrEq P rec e n xs ys is) = some r from h) with ⟨h1, rfl⟩ | ⟨h1, h2⟩
    · obtain ⟨a, b, p1, p2, p3⟩ := eqPart_sim ih hx hy h1
      simp [p1, p2, p3]
    · obtain ⟨a, b, p1, p2, p3⟩ := eqPart_sim ih hx hy h1
      have := arrEq_sim ih hx hy e n is r h2
      simp [p1, p2, p3, this]

theorem info_of_szOf {t : TypeId} {n : Nat} (h : szOf P t = some n) : ∃ i, P.info? t = some i ∧ P.cellsOf t = n := by
  unfold szOf at h
  cases hi : P.info? t with
  | none => rw [hi] at h; cases h
  | some i => rw [hi] at h; cases h; exact ⟨i, rfl, by simp [Program.cellsOf, hi]⟩

theorem eqL_sim : ∀ (d : Nat) (t : TypeId) (x y : LV) (r : Bool) (x' y' : Value), eqL P d t x y = some r → VR ρ x x' → VR ρ y y' → (Op.equalIn d t x' y').run P w = .ok r w
  | 0, _, _, _, _, _, _, h, _, _ => by cases h
  | d + 1, t, x, y, r, x', y', h, hx, hy => by
    unfold eqL at h
    cases hu : P.underlying t with
    | none => rw [hu] at h; cases h
    | some D =>
      rw [hu] at h
      cases D with
      | bool =>
        obtain ⟨a, rfl, h⟩ := asBool_eq.1 h
        obtain ⟨b, rfl, h⟩ := (asBool_eq (v := y)).1 h
        cases h
        rw [hx.bool_inv, hy.bool_inv, bEq_eq]
        exact run_equalIn_bool w d t a b hu
      | int q =>
        obtain ⟨k, a, rfl, h1⟩ := asInt_eq.1 h
        obtain ⟨k', b, rfl, h2⟩ := (asInt_eq (v := y)).1 h1
        obtain ⟨hk, h3⟩ := guard'_eq.1 h2
        obtain rfl := kEq_iff.1 hk
        cases h3
        rw [hx.int_inv, hy.int_inv, ieq_eq]
        exact run_equalIn_int w d t k q a b hu
      | string =>
        obtain ⟨a, rfl, h⟩ := asStr_eq.1 h
        obtain ⟨b, rfl, h⟩ := (asStr_eq (v := y)).1 h
        cases h
        rw [hx.str_inv, hy.str_inv]
        simp [Op.equalIn, Go.run_underlying hu]
      | pointer e =>
        simp only at h
        split at h
        · rename_i b
          cases h
          cases hx
          cases hy <;> simp [Op.equalIn, Go.run_underlying hu]
        · cases h
          cases hx; cases hy
          simp [Op.equalIn, Go.run_underlying hu]
        · cases h
      | slice e =>
        simp only at h
        split at h
        · cases h
          cases hx
          cases hy <;> simp [Op.equalIn, Go.run_underlying hu]
        · cases h
          cases hx; cases hy
          simp [Op.equalIn, Go.run_underlying hu]
        · cases h
      | map k e =>
        simp only at h
        split at h
        · cases h
          cases hx
          cases hy <;> simp [Op.equalIn, Go.run_underlying hu]
        · cases h
          cases hx; cases hy
          simp [Op.equalIn, Go.run_underlying hu]
        · cases h
      | func a b c =>
        simp only at h
        split at h
        · cases h; cases hx; cases hy; simp [Op.equalIn, Go.run_underlying hu]
        · cases h; cases hx; cases hy <;> simp [Op.equalIn, Go.run_underlying hu]
        · cases h; cases hx <;> cases hy <;> simp [Op.equalIn, Go.run_underlying hu]
        · cases h
      | struct fs =>
        obtain ⟨xs, rfl, h⟩ := asAgg_eq.1 h
        obtain ⟨ys, rfl, h⟩ := (asAgg_eq (v := y)).1 h
        obtain ⟨xs', rfl, hx1⟩ := hx.agg_inv
        obtain ⟨ys', rfl, hy1⟩ := hy.agg_inv
        cases hp : P.stoodInHeld t with
        | true => rw [hp] at h; cases h
        | false =>
          rw [hp] at h
          have hf : P.fieldsOf t = fs := by simp [Program.fieldsOf, hu]
          rw [run_equalIn_struct w d t xs' ys' (by rw [hf]; exact hu) hp, hf]
          exact fieldsEq_sim (eqL_sim d) hx1 hy1 fs.toList r h
      | array len e =>
        obtain ⟨xs, rfl, h⟩ := asAgg_eq.1 h
        obtain ⟨ys, rfl, h⟩ := (asAgg_eq (v := y)).1 h
        obtain ⟨n, hn, h⟩ := ob_eq.1 h
        obtain ⟨xs', rfl, hx1⟩ := hx.agg_inv
        obtain ⟨ys', rfl, hy1⟩ := hy.agg_inv
        obtain ⟨i, hi, hc⟩ := info_of_szOf hn
        rw [run_equalIn_array w d xs' ys' hu hi, hc]
        exact arrEq_sim (eqL_sim d) hx1 hy1 e n _ r h
      | _ => cases h
end ops
end PvL
