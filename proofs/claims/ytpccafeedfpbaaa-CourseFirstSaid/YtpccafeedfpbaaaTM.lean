/-
  Part of the proof of CourseFirst: what functions of the program and of the statement come to, walked by the rules. No condition beyond those in each theorem.
-/
import Derived.Test.YtpccafeedfpbaaaTS
import Derived.Test.YtpccafeedfpbaaaTL
section
open PvL
set_option linter.unusedVariables false
namespace Go.Proofs.Ytpccafeedfpbaaa.C
/-! the search, and what Best finds -/
theorem run_le {s : Cr} (hs : CrOk s) : ∀ (l : List Nat) (x y : Rch), (∀ c ∈ l, c < 2 * s.lines.length) → runE s x l = some y → x.2 ≤ y.2
  | [], x, y, _, h => by cases h; exact Int.le_refl _
  | c :: l, x, y, hl, h => by
    have e : runE s x (c :: l) = match goF s x c with | none => none | some b => runE s (rchF s c b.2) l := rfl
    rw [e] at h
    cases hg : goF s x c with
    | none => rw [hg] at h; cases h
    | some b =>
      rw [hg] at h
      have h1 := goF_bd hs (c := c) (by have := hl c (List.mem_cons_self ..); omega) hg
      have h2 := run_le hs l _ y (fun d hd => hl d (List.mem_cons_of_mem _ hd)) h
      have h2 : b.2 ≤ y.2 := h2
      omega
theorem cov_mem {s : Cr} : ∀ (l : List Nat) (set : Nat), Cov s set l → ∀ c ∈ l, c < 2 * s.lines.length
  | [], _, _, c, hc => by cases hc
  | a :: l, set, h, c, hc => by
    rcases List.mem_cons.1 hc with rfl | hc
    · exact h.1
    · exact cov_mem l _ h.2.2 c hc
theorem nextO_sound {s : Cr} {e : Int} : ∀ (f : Nat) (l : List Nat) (x : Rch) (left : Nat) (r : List Nat), nextO s e f l x left = some r → ∃ r' y, r = l ++ r' ∧ Cov s left r' ∧ runE s x r' = some y ∧ y.2 = e := by
  intro f
  have h0 : ∀ (l : List Nat) (x : Rch) (r : List Nat), (if x.2 = e then some l else none) = some r → ∃ r' y, r = l ++ r' ∧ Cov s 0 r' ∧ runE s x r' = some y ∧ y.2 = e := fun l x r h => by
    split at h
    · cases h
      exact ⟨[], x, (List.append_nil _).symm, rfl, rfl, by assumption⟩
    · cases h
  induction f with
  | zero =>
    intro l x left r h
    unfold nextO at h
    split at h
    · rename_i hl; subst hl; exact h0 l x r h
    · cases h
  | succ f ih =>
    intro l x left r h
    by_cases hl : left = 0
    · subst hl
      have e1 : nextO s e (f + 1) l x 0 = if x.2 = e then some l else none := rfl
      rw [e1] at h
      exact h0 l x r h
    · rw [stepG_next s e f l x left hl] at h
      obtain ⟨c, hc, h⟩ := findSome_mem h
      unfold stepG at h
      cases hg : goF s x c with
      | none => rw [hg] at h; cases h
      | some b =>
        rw [hg] at h
        dsimp only at h
        split at h
        · cases h
        · obtain ⟨r', y, h1, h2, h3, h4⟩ := ih _ _ _ _ h
          have hm := mem_shoots.1 hc
          refine ⟨c :: r', y, by rw [h1, List.append_assoc]; rfl, ⟨hm.1, hm.2, h2⟩, ?_, h4⟩
          show (match goF s x c with | none => none | some b => runE s (rchF s c b.2) r') = _
          rw [hg]; exact h3
theorem nextO_complete {s : Cr} (hs : CrOk s) {e : Int} : ∀ (f : Nat) (l : List Nat) (x : Rch) (left : Nat) (r : List Nat) (y : Rch), left ≤ f → Cov s left r → runE s x r = some y → y.2 = e → nextO s e f l x left ≠ none := by
  intro f
  have h0 : ∀ (l : List Nat) (x : Rch) (r : List Nat) (y : Rch), Cov s 0 r → runE s x r = some y → y.2 = e → (if x.2 = e then some l else none) ≠ none := fun l x r y h1 h2 h3 => by
    cases r with
    | nil => cases h2; rw [if_pos h3]; exact fun h => by cases h
    | cons c r => have := h1.2.1; rw [Nat.zero_testBit] at this; cases this
  induction f with
  | zero =>
    intro l x left r y hf h1 h2 h3
    obtain rfl : left = 0 := by omega
    exact h0 l x r y h1 h2 h3
  | succ f ih =>
    intro l x left r y hf h1 h2 h3
    by_cases hl : left = 0
    · subst hl
      exact h0 l x r y h1 h2 h3
    · rw [stepG_next s e f l x left hl]
      cases r with
      | nil => exact absurd h1 hl
      | cons c r =>
        intro h
        have h4 := List.findSome?_eq_none_iff.1 h c (mem_shoots.2 ⟨h1.1, h1.2.1⟩)
        have e1 : runE s x (c :: r) = match goF s x c with | none => none | some b => runE s (rchF s c b.2) r := rfl
        rw [e1] at h2
        unfold stepG at h4
        cases hg : goF s x c with
        | none => rw [hg] at h2; cases h2
        | some b =>
          rw [hg] at h2 h4
          dsimp only at h2 h4
          have hle := run_le hs r _ y (cov_mem r _ h1.2.2) h2
          have hle : b.2 ≤ y.2 := hle
          rw [if_neg (by omega)] at h4
          have := rest_lt h1.2.1
          exact ih _ _ _ r y (by omega) h1.2.2 h2 h3 h4
theorem end_fold {s : Cr} : ∀ (l : List Nat) (e : Int), -1 ≤ e → (l.foldl (endS s) e = e ∨ ∃ c ∈ l, l.foldl (endS s) e = TT s (allN s) c ∧ 0 ≤ TT s (allN s) c) ∧ (0 ≤ e → 0 ≤ l.foldl (endS s) e ∧ l.foldl (endS s) e ≤ e) ∧ ∀ c ∈ l, 0 ≤ TT s (allN s) c → 0 ≤ l.foldl (endS s) e ∧ l.foldl (endS s) e ≤ TT s (allN s) c
  | [], e, _ => ⟨.inl rfl, fun h => ⟨h, Int.le_refl _⟩, fun c hc => by cases hc⟩
  | a :: l, e, he => by
    rw [List.foldl_cons]
    have hst : (endS s e a = e ∧ (0 ≤ TT s (allN s) a → 0 ≤ e ∧ e ≤ TT s (allN s) a)) ∨ (endS s e a = TT s (allN s) a ∧ 0 ≤ TT s (allN s) a ∧ (0 ≤ e → TT s (allN s) a ≤ e)) := by
      unfold endS
      split
      · rename_i h; exact .inr ⟨rfl, h.1, fun _ => by omega⟩
      · rename_i h; exact .inl ⟨rfl, fun h' => by omega⟩
    obtain ⟨h1, h2, h3⟩ := end_fold l (endS s e a) (by rcases hst with h | h <;> omega)
    refine ⟨?_, fun h => ?_, fun c hc h => ?_⟩
    · rcases h1 with h1 | ⟨c, hc, h1⟩
      · rcases hst with h | h
        · exact .inl (by rw [h1, h.1])
        · exact .inr ⟨a, List.mem_cons_self .., by rw [h1, h.1], h.2.1⟩
      · exact .inr ⟨c, List.mem_cons_of_mem _ hc, h1⟩
    · have := h2 (by rcases hst with h | h <;> omega)
      rcases hst with h | h <;> omega
    · rcases List.mem_cons.1 hc with rfl | hc
      · have := h2 (by rcases hst with h' | h' <;> omega)
        rcases hst with h' | h' <;> omega
      · exact h3 c hc h
theorem all_lt (s : Cr) : allN s < 2 ^ s.lines.length := by unfold allN; have := Nat.two_pow_pos s.lines.length; omega
/-- no full order ends before Best's end -/
theorem best_least {s : Cr} (hs : CrOk s) {l : List Nat} {y : Rch} (h0 : l ≠ []) (h1 : Cov s (allN s) l) (h2 : runE s (startR s) l = some y) : 0 ≤ endB s ∧ endB s ≤ y.2 := by
  rcases split_last l with rfl | ⟨l', c, rfl⟩
  · exact absurd rfl h0
  · obtain ⟨_, h3, h4⟩ := TT_least hs _ l' (allN s) c y rfl (all_lt s) h1 h2
    have hc := cov_mem _ _ h1 c (by simp)
    have h5 := (end_fold (s := s) (shootsL s (allN s)) (-1) (by omega)).2.2 c (mem_shoots.2 ⟨hc, by
      unfold allN; exact all_bit (by omega)⟩) h3
    unfold endB
    omega
/-- Best's end is reached, and the search finds an order -/
theorem best_found {s : Cr} (hs : CrOk s) (h : 0 ≤ endB s) : ∃ r y, nextO s (endB s) (allN s) [] (startR s) (allN s) = some r ∧ Cov s (allN s) r ∧ runE s (startR s) r = some y ∧ y.2 = endB s := by
  rcases (end_fold (s := s) (shootsL s (allN s)) (-1) (by omega)).1 with h1 | ⟨c, hc, h1, h2⟩
  · unfold endB at h; omega
  · obtain ⟨l, h3, h4⟩ := TT_run hs (allN s) (allN s) c (Nat.le_refl _) (all_lt s) (mem_shoots.1 hc).1 (by omega)
    have h5 : (rchF s c (TT s (allN s) c)).2 = endB s := by unfold endB; rw [h1]; rfl
    cases hn : nextO s (endB s) (allN s) [] (startR s) (allN s) with
    | none => exact absurd hn (nextO_complete hs _ _ _ _ _ _ (Nat.le_refl _) h3 h4 h5)
    | some r =>
      obtain ⟨r', y, g1, g2, g3, g4⟩ := nextO_sound _ _ _ _ _ hn
      obtain rfl : r = r' := g1
      exact ⟨r, y, rfl, g2, g3, g4⟩
/-! orders as lists of lines with ways -/
theorem cov_props {s : Cr} (hn : s.lines.length ≤ 5) : ∀ (l : List Nat) (set : Nat), set < 1048576 → Cov s set l → (l.map (· / 2)).Nodup ∧ ∀ k, set.testBit k = true ↔ k ∈ l.map (· / 2)
  | [], set, _, h => by
    obtain rfl : set = 0 := h
    exact ⟨List.nodup_nil, fun k => ⟨fun h => (by rw [Nat.zero_testBit] at h; cases h), fun h => (by cases h)⟩⟩
  | c :: l, set, hs, h => by
    obtain ⟨h1, h2, h3⟩ := h
    have hle := rest_le (a := set) (k := c / 2)
    obtain ⟨g1, g2⟩ := cov_props hn l _ (by omega) h3
    have hb := fun j => rest_bit (set := set) (k := c / 2) (j := j) hs (by omega)
    refine ⟨List.nodup_cons.2 ⟨fun hm => ?_, g1⟩, fun k => ?_⟩
    · have := (g2 _).2 hm
      rw [hb] at this
      simp at this
    · rw [List.map_cons, List.mem_cons, ← g2 k, hb, Bool.and_eq_true]
      constructor
      · intro h
        by_cases hk : c / 2 = k
        · exact .inl hk.symm
        · exact .inr ⟨h, by rw [decide_eq_false hk]; rfl⟩
      · rintro (rfl | h)
        · exact h2
        · exact h.1
theorem cov_of {s : Cr} (hn : s.lines.length ≤ 5) : ∀ (l : List Nat) (set : Nat), set < 1048576 → (l.map (· / 2)).Nodup → (∀ k, set.testBit k = true ↔ k ∈ l.map (· / 2)) → (∀ c ∈ l, c < 2 * s.lines.length) → Cov s set l
  | [], set, hs, _, h, _ => Nat.eq_of_testBit_eq fun i => by
    rw [Nat.zero_testBit]
    cases hb : set.testBit i with
    | false => rfl
    | true => exact absurd ((h i).1 hb) (by simp)
  | c :: l, set, hs, hnd, h, hl => by
    have hc := hl c (List.mem_cons_self ..)
    rw [List.map_cons, List.nodup_cons] at hnd
    have hle := rest_le (a := set) (k := c / 2)
    have hb := fun j => rest_bit (set := set) (k := c / 2) (j := j) hs (by omega)
    refine ⟨hc, (h _).2 (by simp), cov_of hn l _ (by omega) hnd.2 (fun k => ?_) fun d hd => hl d (List.mem_cons_of_mem _ hd)⟩
    rw [hb, Bool.and_eq_true, h k, List.map_cons, List.mem_cons]
    constructor
    · rintro ⟨h1, h2⟩
      rcases h1 with rfl | h1
      · simp at h2
      · exact h1
    · intro h1
      refine ⟨.inr h1, ?_⟩
      rw [decide_eq_false (fun e => hnd.1 (by rw [e]; exact h1))]; rfl
theorem sh_div {s : Cr} {x : Int × Int} (h : rightP s x) : shN x / 2 = x.1.toNat := by
  unfold rightP at h
  unfold shN; omega
theorem map_sh {s : Cr} {l : List (Int × Int)} (h : ∀ x ∈ l, rightP s x) : (l.map shN).map (· / 2) = (l.map (·.1)).map Int.toNat := by
  rw [List.map_map, List.map_map]
  exact List.map_congr_left fun x hx => sh_div (h x hx)
theorem cov_ord {s : Cr} (hs : CrOk s) {l : List (Int × Int)} (h : OrdOk s l) (hlen : l.length = s.lines.length) : Cov s (allN s) (l.map shN) := by
  have hn5 := hs.n5
  have hp2 : 2 ^ s.lines.length ≤ 32 := Nat.pow_le_pow_right (n := 2) (by omega) hn5
  have hnd : ((l.map (·.1)).map Int.toNat).Nodup := by
    refine List.pairwise_map.2 (List.Pairwise.imp_of_mem (fun {a b} ha hb hab => ?_) h.2)
    obtain ⟨x, hx, rfl⟩ := List.mem_map.1 ha
    obtain ⟨y, hy, rfl⟩ := List.mem_map.1 hb
    have h2 := h.1 x hx
    have h3 := h.1 y hy
    unfold rightP at h2 h3
    omega
  have hlt : ∀ k ∈ (l.map (·.1)).map Int.toNat, k < s.lines.length := fun k hk => by
    obtain ⟨a, ha, rfl⟩ := List.mem_map.1 hk
    obtain ⟨x, hx, rfl⟩ := List.mem_map.1 ha
    have h2 := h.1 x hx
    unfold rightP at h2
    omega
  refine cov_of hn5 _ _ (by unfold allN; omega) (by rw [map_sh h.1]; exact hnd) (fun k => ?_) (fun c hc => ?_)
  · rw [map_sh h.1]
    constructor
    · intro hb
      have hk := bit_lt (all_lt s) hb
      refine Classical.byContradiction fun hno => ?_
      have := nodup_lt s.lines.length (k :: (l.map (·.1)).map Int.toNat) (List.nodup_cons.2 ⟨hno, hnd⟩) (fun j hj => by
        rcases List.mem_cons.1 hj with rfl | hj
        · exact hk
        · exact hlt j hj)
      rw [List.length_cons, List.length_map, List.length_map] at this
      omega
    · intro hk
      unfold allN
      exact all_bit (hlt k hk)
  · obtain ⟨x, hx, rfl⟩ := List.mem_map.1 hc
    exact (sh_eq (h.1 x hx)).2
/-- a number as a line with a way -/
def unN (c : Nat) : Int × Int := ((c / 2 : Nat), (c % 2 : Nat))
theorem sh_un (c : Nat) : shN (unN c) = c := by unfold shN unN; dsimp only; omega
theorem ord_cov {s : Cr} (hs : CrOk s) {l : List Nat} (h : Cov s (allN s) l) : OrdOk s (l.map unN) ∧ l.length = s.lines.length ∧ (l.map unN).map shN = l := by
  have hn5 := hs.n5
  have hp2 : 2 ^ s.lines.length ≤ 32 := Nat.pow_le_pow_right (n := 2) (by omega) hn5
  obtain ⟨h1, h2⟩ := cov_props hn5 l _ (by unfold allN; omega) h
  refine ⟨⟨fun x hx => ?_, ?_⟩, ?_, ?_⟩
  · obtain ⟨c, hc, rfl⟩ := List.mem_map.1 hx
    have := cov_mem l _ h c hc
    unfold rightP unN
    dsimp only
    omega
  · rw [List.map_map]
    have e : ((fun x : Int × Int => x.1) ∘ unN) = (fun k : Nat => (k : Int)) ∘ (fun c : Nat => c / 2) := rfl
    rw [e, ← List.map_map]
    exact List.pairwise_map.2 (List.Pairwise.imp (fun {a b} hab => by omega) h1)
  · have g1 := nodup_lt s.lines.length _ h1 (fun k hk => bit_lt (all_lt s) ((h2 k).2 hk))
    have g2 : s.lines.length ≤ l.length := by
      have hsub : List.range s.lines.length ⊆ l.map (· / 2) := fun k hk => (h2 k).1 (by unfold allN; exact all_bit (List.mem_range.1 hk))
      have := (List.nodup_range (n := s.lines.length)).length_le_of_subset hsub
      rw [List.length_range, List.length_map] at this
      exact this
    rw [List.length_map] at g1
    omega
  · rw [List.map_map]
    have : (shN ∘ unN) = id := funext sh_un
    rw [this, List.map_id]
end Go.Proofs.Ytpccafeedfpbaaa.C
end
section
open PvL
set_option linter.unusedVariables false
namespace Go.Proofs.Ytpccafeedfpbaaa.C
/-! what CourseFirst says -/
theorem times_ok {s : Cr} {l : List (Int × Int)} (h : (TimesF s l).2 = 0) : CrOk s ∧ OrdOk s l ∧ ∃ bs, timesG s (startR s) (l.map shN) = some bs ∧ TimesF s l = (bs, 0) := by
  unfold TimesF at *
  by_cases h1 : CrOk s
  · rw [if_pos h1] at h ⊢
    by_cases h2 : OrdOk s l
    · rw [if_pos h2] at h ⊢
      cases ht : timesG s (startR s) (l.map shN) with
      | none => rw [ht] at h; exact absurd h (by decide)
      | some bs => exact ⟨h1, h2, bs, rfl, rfl⟩
    · rw [if_neg h2] at h; exact absurd h (by decide)
  · rw [if_neg h1] at h; exact absurd h (by decide)
theorem last_get {bs : List Bd} {n : Nat} (h : bs.length = n) (h0 : 0 < n) {d : Int} : (bs.getLast?.map (·.2)).getD d = (bs[n - 1]'(by omega)).2 := by
  subst h
  rw [List.getLast?_eq_getElem?, List.getElem?_eq_getElem (by omega)]; rfl
/-- an order of all lines, that can be shot: its end -/
theorem first_least {s : Cr} {l : List (Int × Int)} (h : (TimesF s l).2 = 0) (hn : l.length = s.lines.length) : CrOk s ∧ (TimesF s l).1.length = s.lines.length ∧ 0 ≤ endB s ∧ ∀ (hi : s.lines.length - 1 < (TimesF s l).1.length), endB s ≤ ((TimesF s l).1[s.lines.length - 1]).2 := by
  obtain ⟨hs, ho, bs, ht, he⟩ := times_ok h
  have hc := cov_ord hs ho hn
  obtain ⟨hlen, y, hr, hy⟩ := (run_times s _ _).2 bs ht
  have hn1 := hs.n1
  rw [List.length_map] at hlen
  have hb := best_least hs (l := l.map shN) (fun e => by rw [List.map_eq_nil_iff] at e; rw [e] at hn; simp at hn; omega) hc hr
  rw [last_get (show bs.length = s.lines.length by omega) (by omega)] at hy
  refine ⟨hs, by rw [he]; show bs.length = _; omega, hb.1, fun hi => ?_⟩
  simp only [he]
  omega
/-- the order that Best finds -/
theorem first_own {s : Cr} (hs : CrOk s) (h : 0 ≤ endB s) : ∃ r, nextO s (endB s) (allN s) [] (startR s) (allN s) = some r ∧ r.length = s.lines.length ∧ (TimesF s (r.map unN)).2 = 0 ∧ (TimesF s (r.map unN)).1.length = s.lines.length ∧ ∀ (hi : s.lines.length - 1 < (TimesF s (r.map unN)).1.length), ((TimesF s (r.map unN)).1[s.lines.length - 1]).2 = endB s := by
  obtain ⟨r, y, h1, h2, h3, h4⟩ := best_found hs h
  obtain ⟨g1, g2, g3⟩ := ord_cov hs h2
  have hn1 := hs.n1
  cases ht : timesG s (startR s) r with
  | none => rw [(run_times s _ _).1.1 ht] at h3; cases h3
  | some bs =>
    obtain ⟨hlen, z, hr, hz⟩ := (run_times s _ _).2 bs ht
    rw [h3] at hr
    cases hr
    have he : TimesF s (r.map unN) = (bs, 0) := by unfold TimesF; rw [if_pos hs, if_pos g1, g3, ht]
    rw [last_get (show bs.length = s.lines.length by omega) (by omega)] at hz
    refine ⟨r, h1, g2, by rw [he], by rw [he]; show bs.length = _; omega, fun hi => ?_⟩
    simp only [he]
    omega
end Go.Proofs.Ytpccafeedfpbaaa.C
end
