/-
  Part of the proof that what the interpreter of YtkkcpebemcbomaaGreatPvL yields, the model's machine comes to. No condition.
-/
import Derived.Test.YtkkcpebemcbomaaGreatPvO8
namespace PvL
open Go

section bi
variable {P : Program} {Pt : Prot} {ρ : Rho} {m : Mem} {w : World}

theorem lenK_eq {t : TypeId} {k : LenK} (h : lenK P t = some k) : ∃ d, P.underlying t = some d ∧ ((k = .str ∧ d = .string) ∨ (k = .sl ∧ ∃ e, d = .slice e) ∨ (∃ n e, k = .arr n ∧ d = .array n e) ∨ (k = .map ∧ ∃ a b, d = .map a b)) := by
  unfold lenK at h
  split at h
  · rename_i hu; cases h; exact ⟨_, hu, .inl ⟨rfl, rfl⟩⟩
  · rename_i e hu; cases h; exact ⟨_, hu, .inr (.inl ⟨rfl, e, rfl⟩)⟩
  · rename_i n e hu; cases h; exact ⟨_, hu, .inr (.inr (.inl ⟨n, e, rfl, rfl⟩))⟩
  · rename_i a b hu; cases h; exact ⟨_, hu, .inr (.inr (.inr ⟨rfl, a, b, rfl⟩))⟩
  · cases h
theorem lenL_sim (hrel : Rel Pt ρ m w) {t : TypeId} {x v : LV} (h : lenL P t x m = some v) {x' : Value} (hx : VR ρ x x') (ts : Array TypeId) (ty : TypeId) (as : List Value) (ht : ts[0]? = some t) :
    ∃ v', (Builtin.len_ ts ty (x' :: as).toArray).run P w = .ok v' w ∧ VR ρ v v' := by
  obtain ⟨k, hk, h1⟩ := ob_eq.1 h
  obtain ⟨d, hu, hd⟩ := lenK_eq hk
  unfold Builtin.len_
  rw [ht]
  simp only [List.getElem?_toArray, List.getElem?_cons_zero, Sem.run_bind, Go.run_underlying hu, Result.andThen_ok]
  rcases hd with ⟨rfl, rfl⟩ | ⟨rfl, e, rfl⟩ | ⟨n, e, rfl, rfl⟩ | ⟨rfl, a, b, rfl⟩
  · obtain ⟨s, rfl, h2⟩ := asStr_eq.1 (show asStr x _ = some v from h1)
    rw [hx.str_inv, mkN_eq.1 h2]
    exact ⟨_, rfl, .int _ _⟩
  · obtain ⟨a, n, f, es, rfl, h2⟩ := asSlice_eq.1 (show asSlice x _ = some v from h1)
    rw [mkN_eq.1 h2]
    cases hx with
    | sliceNil => exact ⟨_, rfl, .int _ _⟩
    | slice => exact ⟨_, rfl, .int _ _⟩
  · rw [mkN_eq.1 (show mkN n = some v from h1)]
    exact ⟨_, rfl, .int _ _⟩
  · obtain ⟨es, h2, hm⟩ := entries_sim hrel hx (show entriesOf m x (fun es => mkN es.length) = some v from h1)
    rw [mkN_eq.1 h2]
    rcases hm with ⟨rfl, rfl⟩ | ⟨i, b, s, c, E, clk, _, rfl, hρ, hi, hh, hE⟩
    · exact ⟨_, rfl, .int _ _⟩
    · have hg : (getObj b).run P w = .ok (.map E clk) w := by simp [getObj, Sem.run, hh]
      refine ⟨.int .i64 E.size, ?_, by rw [hE.length]; simpa using VR.int _ _⟩
      simp only [Sem.run_bind, hg, Result.andThen_ok]
      rfl

/-- the first elements of what is appended or copied -/
theorem firstL_sim (hrel : Rel Pt ρ m w) {sz n : Nat} {x : LV} {l : List LV} (h : firstL sz n x m = some l) {x' : Value} (hx : VR ρ x x') :
    ∃ L : Array Value, (Builtin.firstCells sz n x').run P w = .ok L w ∧ VRs ρ l L.toList ∧ L.size = n * sz := by
  unfold firstL at h
  split at h
  · obtain ⟨hn, h⟩ := guard'_eq.1 h
    rw [Nat.beq_eq] at hn
    cases h; cases hx; exact ⟨#[], rfl, .nil, by rw [hn]; simp⟩
  · cases hx with
    | slice hρ hle hf hc =>
      obtain ⟨vs, h1, h2, h3⟩ := loadN_sim hrel h hρ
      exact ⟨vs.toArray, by simp only [Builtin.firstCells]; exact run_loadCells h1 h2, by simpa using h3, by simpa using h1⟩
  · rename_i s
    obtain ⟨hg, h⟩ := guard'_eq.1 h
    simp only [Bool.and_eq_true, Nat.beq_eq, Nat.ble_eq] at hg
    cases h
    rw [hx.str_inv]
    refine ⟨_, rfl, ?_, ?_⟩
    · simp only [Array.toList_map]
      generalize (s.extract 0 n).data.toList = bs
      induction bs with
      | nil => exact .nil
      | cons b bs ih => exact .cons (.int _ _) ih
    · rw [hg.1, Array.size_map]
      have h1 : (s.extract 0 n).data.size = (s.extract 0 n).size := rfl
      rw [h1, ByteArray.size_extract]; omega
  · cases h
theorem lenOf_sim {x : LV} {n : Nat} (h : lenOfL x = some n) {x' : Value} (hx : VR ρ x x') : (Builtin.lenOf x').run P w = .ok n w := by
  unfold lenOfL at h
  split at h
  · cases h
    cases hx with
    | sliceNil => rfl
    | slice => rfl
  · cases h; rw [hx.str_inv]; rfl
  · cases h
theorem growBy_le (need : Nat) : ∀ (r c : Nat), c ≤ 2 * need + 2048 → Builtin.growBy need r c ≤ 2 * need + 2048
  | 0, c, h => h
  | r + 1, c, h => by
    unfold Builtin.growBy
    split
    · exact h
    · exact growBy_le need r _ (by omega)
theorem nextcap_le (need cap : Nat) (h : cap < need) : Builtin.nextslicecap need cap ≤ 2 * need + 2048 := by
  unfold Builtin.nextslicecap
  split
  · omega
  · split
    · omega
    · exact growBy_le _ _ _ (by omega)

theorem arg0_eq {α : Type} {l : List α} {k : α → List α → Option R1} {r : R1} : arg0 l k = some r ↔ ∃ a as, l = a :: as ∧ k a as = some r := by
  cases l with
  | nil => exact ⟨fun h => (by cases h), fun ⟨_, _, e, _⟩ => (by cases e)⟩
  | cons a as => exact ⟨fun h => ⟨a, as, rfl, h⟩, fun ⟨_, _, e, h⟩ => (by cases e; exact h)⟩


/-- append, where nothing is made of zeros: its two ways -/
theorem append_run {st xt e : TypeId} {xd : TypeDesc} {sz n len cap : Nat} {A : Option Addr} {x' : Value} {ts : Array TypeId} {ty : TypeId} (hu : P.underlying st = some (.slice e)) (hxd : P.underlying xt = some xd) (hni : isIntD xd = false)
    (hsz : szOf P e = some sz) (hlen : (Builtin.lenOf x').run P w = .ok n w) (ht1 : ts[0]? = some st) (ht2 : ts[1]? = some xt) :
    (len + n ≤ cap → (Builtin.append_ ts ty #[.slice A len cap, x']).run P w =
      (do let new ← Builtin.firstCells sz n x'
          if let some a := A then storeCells (a.add (len * sz)) new.toList
          pure (.slice A (len + n) cap) : Sem Value).run P w) ∧
    (∀ i, (typeInfo e).run P w = .ok i w → 0 < i.bytes → ¬ len + n ≤ cap → Builtin.nextslicecap (len + n) cap * i.bytes ≤ 2 ^ 48 →
      (Builtin.append_ ts ty #[.slice A len cap, x']).run P w =
      (do let newCap ← choose (.appendCap (len + n) cap e)
          let old ← Builtin.firstCells sz len (.slice A len cap)
          let new ← Builtin.firstCells sz n x'
          let rest := Builtin.zeroCells (← zeroValue e).cells (newCap - (len + n))
          pure (.slice (some (← newRow e (old ++ new ++ rest))) (len + n) newCap) : Sem Value).run P w) := by
  constructor
  · intro hle
    unfold Builtin.append_
    cases xd <;> first | (cases hni; done) | skip
    all_goals
     simp only [ht1, ht2, List.getElem?_toArray, List.getElem?_cons_zero, List.getElem?_cons_succ, Sem.run_bind, Go.run_underlying hu, Go.run_underlying hxd, Result.andThen_ok, run_sizeOf hsz,
      Sem.run_pure, Bool.false_eq_true, if_false, Bool.not_false, if_true, hlen, hle]
     cases A <;> rfl
  · intro i hi hpos hgt hcap
    have hi2 : ∀ w', (typeInfo e).run P w' = .ok i w' := by
      intro w'
      unfold typeInfo at hi ⊢
      simp only [Sem.run_bind, run_program, Result.andThen_ok] at hi ⊢
      split at hi
      · rename_i i' he
        cases hi
        rfl
      · cases hi
    unfold Builtin.append_
    cases xd <;> first | (cases hni; done) | skip
    all_goals
     simp only [ht1, ht2, List.getElem?_toArray, List.getElem?_cons_zero, List.getElem?_cons_succ, Sem.run_bind, Go.run_underlying hu, Go.run_underlying hxd, Result.andThen_ok, run_sizeOf hsz,
      Sem.run_pure, Bool.false_eq_true, if_false, Bool.not_false, if_true, hlen, hgt, hi]
     rw [if_neg (by intro hh; rcases hh with ⟨_, h | h⟩ <;> first | (cases h; done) | omega)]
     simp only [Sem.run_bind, hi, Result.andThen_ok]
     rw [if_neg (by omega)]
     simp only [Sem.run_bind, run_choose]
     rw [if_neg (by simp [Question.forced])]
     simp only [Result.andThen_ok, hi2, run_askRoom]
     rfl


/-- a block whose name has been given up gets a new name -/
theorem Rel.reuse (h : Rel Pt ρ m w) (hf : ρ m.next = none) {lb : LB} {o' : Obj} {b s c : Nat} (hro : isRo lb = false) (hb : BR ρ lb o' s c) (hp : Pt b = none)
    (hfree : ∀ j l x, m.get j = some l → isRo l = false → ρ j = some x → x.1 ≠ b) {w' : World} (ho : w'.heap[b]? = some o') (hoth : ∀ r, r ≠ b → w'.heap[r]? = w.heap[r]?) (hs : w'.os = w.os ∧ w'.output = w.output := by exact ⟨rfl, rfl⟩) :
    Rel Pt (upd1 ρ m.next (b, s, c)) (m.push lb) w' := by
  have hle := RLe.upd1 (ρ := ρ) (i := m.next) (x := (b, s, c)) hf
  refine ⟨fun r o hr => ?_, fun j l hj => ?_, fun j k l l' x y hj hk h1 h2 hx hy he => ?_, by rw [hs.1, hs.2]; exact h.still.1, fun r C t fr hr e => ?_⟩
  rotate_right
  · by_cases eb : r = b
    · rw [eb, ho] at e; exact hb.thawed hro _ _ _ (Option.some.inj e)
    · rw [hoth r eb] at e; exact h.still.2 r C t fr hr e
  · have : r ≠ b := fun e => by subst e; rw [hp] at hr; cases hr
    rw [hoth r this]; exact h.keep r o hr
  · rw [Mem.get_push] at hj
    by_cases e : j = m.next
    · rw [if_pos e] at hj; cases hj
      exact ⟨by show j < m.next + 1; omega, b, s, c, o', by rw [e]; exact upd1_self _ _ _, hb.mono hle, ho, by rw [hro]; exact hp⟩
    · rw [if_neg e] at hj
      obtain ⟨hl, b1, s1, c1, o1, e1, g1, g2, g3⟩ := h.live j l hj
      have hne : b1 ≠ b := by
        by_cases hr : isRo l = true
        · rw [if_pos hr] at g3
          intro eb; subst eb; rw [hp] at g3; cases g3.1
        · exact hfree j l _ hj (by simpa using hr) e1
      exact ⟨Nat.lt_succ_of_lt hl, b1, s1, c1, o1, hle _ _ e1, g1.mono hle, by rw [hoth b1 hne]; exact g2, g3⟩
  · rw [Mem.get_push] at hj hk
    by_cases e : j = m.next
    · by_cases e' : k = m.next
      · rw [e, e']
      · rw [if_neg e'] at hk
        obtain ⟨hl, b1, s1, c1, o1, e1, _, g2, _⟩ := h.live k l' hk
        rw [hle _ _ e1] at hy; cases hy
        rw [e, upd1_self] at hx; cases hx
        exact absurd he.symm (hfree k l' _ hk h2 e1)
    · rw [if_neg e] at hj
      obtain ⟨hl, b1, s1, c1, o1, e1, _, g2, _⟩ := h.live j l hj
      rw [hle _ _ e1] at hx; cases hx
      by_cases e' : k = m.next
      · rw [e', upd1_self] at hy; cases hy
        exact absurd he (hfree j l _ hj h1 e1)
      · rw [if_neg e'] at hk
        obtain ⟨_, b2, s2, c2, o2, e2, _, _, _⟩ := h.live k l' hk
        rw [hle _ _ e2] at hy; cases hy
        exact h.inj j k l l' _ _ hj hk h1 h2 e1 e2 he

theorem killed_eq {α : Type} {a : Option (Nat × Nat)} {full okes : Bool} {k : Mem → Option α} {y : α} (h : killed a full okes m k = some y) :
    ((a = none ∨ full = true) ∧ k m = some y) ∨ ∃ id off c e, a = some (id, off) ∧ full = false ∧ okes = true ∧ m.get id = some (.cells true c e) ∧ k (m.upd id none) = some y := by
  cases a with
  | none => exact .inl ⟨.inl rfl, h⟩
  | some p =>
    obtain ⟨id, off⟩ := p
    cases full with
    | true => exact .inl ⟨.inr rfl, h⟩
    | false =>
      obtain ⟨hok, h1⟩ := guard'_eq.1 (show guard' okes _ = some y from h)
      obtain ⟨own, c, e, hi, h2⟩ := atCells_eq.1 h1
      obtain ⟨hown, h3⟩ := guard'_eq.1 h2
      subst hown
      exact .inr ⟨id, off, c, e, rfl, rfl, hok, hi, h3⟩

theorem append_sim {st xt : TypeId} {s x : LV} {r : R1} (h : appendL P st xt s x m rvm = some r) :
    ∃ v m', r = .val v m' ∧ ∀ (Pt : Prot) (ρ : Rho) (w : World) (s' x' : Value) (ts : Array TypeId) (ty : TypeId), ts[0]? = some st → ts[1]? = some xt → VR ρ s s' → VR ρ x x' → Rel Pt ρ m w → Fresh ρ m.next m'.next →
      Gives P Pt ρ m w (Builtin.append_ ts ty #[s', x']) v m' := by
  obtain ⟨e, he, h1⟩ := ob_eq.1 h
  obtain ⟨xd, hxd, h2⟩ := ob_eq.1 h1
  have hni : isIntD xd = false := by
    cases hi : isIntD xd with
    | false => rfl
    | true => rw [hi] at h2; cases h2
  rw [hni] at h2
  obtain ⟨sz, hsz, h3⟩ := ob_eq.1 (show ob (szOf P e) _ = some r from h2)
  obtain ⟨by', hby, h4⟩ := ob_eq.1 h3
  obtain ⟨a, len, full, es, rfl, h5⟩ := asSlice_eq.1 h4
  obtain ⟨n, hn, h6⟩ := ob_eq.1 h5
  have hu := sliceElem_eq he
  have hmatch : ∀ {α : Type} (x y : α), (match xd with | .int _ => x | _ => y) = y := by
    intro α x y; cases xd <;> first | rfl | cases hni
  cases hn0 : Nat.beq n 0 with
  | true =>
    rw [hn0] at h6
    cases h6
    have hn0 : n = 0 := Nat.eq_of_beq_eq_true hn0
    subst hn0
    refine ⟨_, _, rfl, fun Pt ρ w s' x' ts ty ht1 ht2 hs hx hrel hf => ?_⟩
    refine Gives.pure hrel (v' := s') ?_ hs
    have hlen := lenOf_sim (P := P) (w := w) hn hx
    have hsl : ∃ A cap, s' = .slice A len cap ∧ len ≤ cap := by
      cases hs with
      | sliceNil => exact ⟨none, 0, rfl, Nat.le_refl _⟩
      | slice hρ hle hf hc => exact ⟨_, _, rfl, hle⟩
    obtain ⟨A, cap, rfl, hcap⟩ := hsl
    rw [(append_run (A := A) (cap := cap) (ty := ty) hu hxd hni hsz hlen ht1 ht2).1 (by omega)]
    obtain ⟨L, hL, hL2⟩ : ∃ L : Array Value, (Builtin.firstCells sz 0 x').run P w = .ok L w ∧ L.toList = [] := by
      unfold lenOfL at hn
      split at hn
      · cases hx with
        | sliceNil => exact ⟨#[], rfl, rfl⟩
        | slice => exact ⟨#[], by simp [Builtin.firstCells, loadCells, loadCellsFrom], rfl⟩
      · rw [hx.str_inv]; exact ⟨_, rfl, by simp⟩
      · cases hn
    simp only [Sem.run_bind, hL, Result.andThen_ok, hL2]
    cases A <;> rfl
  | false =>
    rw [hn0] at h6
    obtain ⟨z, hz, h7⟩ := ob_eq.1 (show ob (zeroL P e) _ = some r from h6)
    obtain ⟨hg, h8⟩ := guard'_eq.1 h7
    obtain ⟨old, hold, h9⟩ := ob_eq.1 h8
    obtain ⟨new, hnew, h10⟩ := ob_eq.1 h9
    obtain ⟨hfl, h11⟩ := guard'_eq.1 h10
    simp only [Bool.and_eq_true, Nat.ble_eq, Nat.beq_eq] at hg
    obtain ⟨hg1, hg2, hg3, hg4⟩ := hg
    have hnpos : 0 < n := by
      rcases Nat.eq_zero_or_pos n with h0 | h0
      · rw [h0] at hn0; cases hn0
      · exact h0
    -- a new block
    have fresh_way : ∀ (Pt : Prot) (ρ : Rho) (w : World) (m0 : Mem) (s' x' : Value) (ts : Array TypeId) (ty : TypeId) (A : Option Addr) (cap : Nat), s' = .slice A len cap → ¬ len + n ≤ cap →
        ts[0]? = some st → ts[1]? = some xt → VR ρ (.slice a len full es) s' → VR ρ x x' → Rel Pt ρ m w → Rel Pt ρ m0 w → m0.next = m.next → ρ m.next = none →
        Gives P Pt ρ m w (Builtin.append_ ts ty #[s', x']) (.slice (some (m.next, 0)) (len + n) false sz) (m0.push (.cells true (old ++ new) e)) := by
      intro Pt ρ w m0 s' x' ts ty A cap hsA hgt ht1 ht2 hs hx hrel hrel0 hnext hf
      subst hsA
      obtain ⟨i, hi, hib⟩ := run_bytes (w := w) hby
      have hcapb : Builtin.nextslicecap (len + n) cap * i.bytes ≤ 2 ^ 48 := by
        have h1 := nextcap_le (len + n) cap (by omega)
        have h2 : Builtin.nextslicecap (len + n) cap * i.bytes ≤ (2 * (len + n) + 2048) * by' := by rw [hib]; exact Nat.mul_le_mul_right _ h1
        omega
      let w1 : World := { w with drawn := w.drawn + 1 }
      have hrel1 : Rel Pt ρ m w1 := hrel.of_heap rfl
      obtain ⟨L1, hL1, hv1, hs1⟩ := firstL_sim (P := P) hrel1 hold hs
      obtain ⟨L2, hL2, hv2, hs2⟩ := firstL_sim (P := P) hrel1 hnew hx
      obtain ⟨zv, hz1, hz2, hzc, hzf⟩ := zero_sim (w := w1) (ρ := ρ) hz
      have hzl : z.cells.length = zv.cells.size := by simpa using hzc.length
      let newCap := (Question.appendCap (len + n) cap e).cut (w.tape w.drawn (.appendCap (len + n) cap e))
      have hnc : len + n ≤ newCap := Nat.le_add_right _ _
      let C := L1 ++ L2 ++ Builtin.zeroCells zv.cells (newCap - (len + n))
      have hC : C.size = newCap * sz := by
        have : (Builtin.zeroCells zv.cells (newCap - (len + n))).size = (newCap - (len + n)) * sz := by
          simp [Builtin.zeroCells, ← hzl, hg4]
        show (L1 ++ L2 ++ _).size = _
        rw [Array.size_append, Array.size_append, hs1, hs2, this, ← Nat.add_mul, ← Nat.add_mul]
        congr 1; omega
      have hcells : CellsR ρ (old ++ new) C 0 := by
        have hv : VRs ρ (old ++ new) (L1 ++ L2).toList := by rw [Array.toList_append]; exact hv1.append hv2
        exact hv.cellsR_append
      have hnew' := new_cells (hrel0.of_heap (w' := w1) rfl) (by rw [hnext]; exact hf) (C := C) (e := e) (e' := e) hcells
      refine ⟨_, .slice (some ⟨w.heap.size, 0 + 0, none⟩) (len + n) newCap, _, ?_, by show Same ρ (upd1 ρ m0.next _) m.next (m0.next + 1); rw [hnext]; exact Same.upd1 hf, .slice (by rw [hnext]; exact upd1_self _ _ _) hnc (fun hh => by cases hh) (by show 0 + 0 + newCap * sz ≤ C.size; rw [hC]; omega), hnew'⟩
      rw [(append_run (A := A) (cap := cap) (ty := ty) hu hxd hni hsz (lenOf_sim hn hx) ht1 ht2).2 i hi (by omega) hgt hcapb]
      simp only [Sem.run_bind, run_choose]
      rw [if_neg (by simp [Question.forced])]
      simp only [Result.andThen_ok]
      rw [show (Builtin.firstCells sz len (Value.slice A len cap)).run P { w with drawn := w.drawn + 1 } = _ from hL1]
      simp only [Result.andThen_ok]
      rw [hL2]
      simp only [Result.andThen_ok, hz1, newRow, Sem.run_bind, run_newObj, Sem.run_pure]
      rfl
    rcases killed_eq h11 with ⟨hk, h12⟩ | ⟨id, off, c0, e0, rfl, rfl, hok, hid, h12⟩
    · rw [Mem.new_eq, fN_eq] at h12
      cases h12
      refine ⟨_, _, rfl, fun Pt ρ w s' x' ts ty ht1 ht2 hs hx hrel hf => ?_⟩
      have hsl : ∃ A cap, s' = .slice A len cap ∧ cap = len := by
        cases hs with
        | sliceNil => exact ⟨none, 0, rfl, rfl⟩
        | slice hρ hle hfu hc =>
          rcases hk with hk | hk
          · cases hk
          · exact ⟨_, _, rfl, hfu hk⟩
      obtain ⟨A, cap, hA, hcap⟩ := hsl
      exact fresh_way Pt ρ w m s' x' ts ty A cap hA (by omega) ht1 ht2 hs hx hrel hrel rfl (hf _ (Nat.le_refl _) (Nat.lt_succ_self _))
    · rw [Mem.new_eq, fN_eq] at h12
      cases h12
      rw [Nat.beq_eq] at hok
      subst hok
      refine ⟨_, _, rfl, fun Pt ρ w s' x' ts ty ht1 ht2 hs hx hrel hf => ?_⟩
      have hnx : (m.upd id none).next = m.next := Mem.next_upd _ _ _
      have hf0 : ρ m.next = none := hf _ (Nat.le_refl _) (by show m.next < (m.upd id none).next + 1; rw [hnx]; exact Nat.lt_succ_self _)
      have hrel0 := hrel.drop id
      have hs0 := hs
      cases hs with
      | slice hρ hle hfu hc =>
        rename_i b s c cap
        by_cases hroom : len + n ≤ cap
        · -- in place
          obtain ⟨C, e', fr, hh, hfr, hsz', hC⟩ := hrel.cells hid hρ
          obtain rfl := hfr rfl
          obtain ⟨L2, hL2, hv2, hs2⟩ := firstL_sim (P := P) hrel hnew hx
          obtain ⟨vs, hv1, hv2', hv3⟩ := loadN_sim hrel (show loadN m id off (len * es) = some old from hold) hρ
          have hmul : (len + n) * es ≤ cap * es := Nat.mul_le_mul_right _ hroom
          rw [Nat.add_mul] at hmul
          have hol : old.length = len * es := by rw [hv3.length, hv1]
          have hnl : new.length = n * es := by rw [hv2.length]; simpa using hs2
          obtain ⟨w', C', hrun, hh', hsz2, hk', hoth, hos⟩ := storeCells_run P b (s + off + len * es) e' L2.toList 0 w C hh (hv2.oneCells hfl) (.inr (by simp; omega))
          have hp : Pt b = none := by
            obtain ⟨_, b1, s1, c1, o1, e1, _, _, h4⟩ := hrel.live id _ hid
            rw [hρ] at e1; cases e1
            exact h4
          have hfree : ∀ j l x, (m.upd id none).get j = some l → isRo l = false → ρ j = some x → x.1 ≠ b := by
            intro j l x hj hl hxj
            rw [Mem.get_upd] at hj
            by_cases e : j = id
            · rw [if_pos e] at hj; cases hj
            · rw [if_neg e] at hj
              exact fun eb => e (hrel.inj j id l _ x _ hj hid hl rfl hxj hρ eb)
          have hBR : BR ρ (.cells true (old ++ new) e) (.cells C' e' (0, 0)) (s + off) c := by
            refine ⟨C', e', (0, 0), rfl, fun _ => rfl, by omega, fun k v hk => ?_⟩
            by_cases hkl : k < old.length
            · rw [List.getElem?_append_left hkl] at hk
              obtain ⟨v', e1, hv⟩ := hv3.get hk
              refine ⟨v', ?_, hv⟩
              rw [hk', if_neg (by omega), ← e1, ← hv2' k (by omega), cell_of hh]
            · rw [List.getElem?_append_right (by omega)] at hk
              obtain ⟨v', e1, hv⟩ := hv2.get hk
              have hkn := (List.getElem?_eq_some_iff.1 hk).1
              refine ⟨v', ?_, hv⟩
              rw [hk', if_pos (by simp; omega), ← e1]
              congr 1; omega
          have hrel' := Rel.reuse hrel0 (by rw [hnx]; exact hf0) (lb := .cells true (old ++ new) e) rfl hBR hp hfree hh' hoth hos
          refine ⟨_, .slice (some ⟨b, s + off + 0, none⟩) (len + n) cap, w', ?_, by show Same ρ (upd1 ρ (m.upd id none).next _) m.next ((m.upd id none).next + 1); rw [hnx]; exact Same.upd1 hf0, ?_, hrel'⟩
          · rw [(append_run (ty := ty) hu hxd hni hsz (lenOf_sim hn hx) ht1 ht2).1 hroom]
            simp only [Sem.run_bind, hL2, Result.andThen_ok, add_none, hrun, Sem.run_pure]
            rfl
          · rw [hnx]
            exact .slice (upd1_self _ _ _) hroom (fun hh => by cases hh) (by omega)
        · rw [hnx]
          exact fresh_way Pt ρ w (m.upd id none) _ x' ts ty _ cap rfl hroom ht1 ht2 hs0 hx hrel hrel0 hnx hf0
end bi
end PvL
