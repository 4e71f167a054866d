/-
  Part of the proof of CourseWider: what functions of the program and of the statement come to, walked by the rules. No condition beyond those in each theorem.
-/
import Derived.Test.YtpccafeedfpbaaaTS
import Derived.Test.YtpccafeedfpbaaaTL
section
open PvL
set_option linter.unusedVariables false
namespace Go.Proofs.Ytpccafeedfpbaaa.C
/-! the search, and what Best finds -/
theorem run_le {s : Cr} (hs : CrOk s) : ∀ (l : List Nat) (x y : Rch), (∀ c ∈ l, c < 2 * s.lines.length) → runE s x l = some y → x.2 ≤ y.2
  | [], x, y, _, h => by cases h; exact Int.le_refl _
  | c :: l, x, y, hl, h => by
    have e : runE s x (c :: l) = match goF s x c with | none => none | some b => runE s (rchF s c b.2) l := rfl
    rw [e] at h
    cases hg : goF s x c with
    | none => rw [hg] at h; cases h
    | some b =>
      rw [hg] at h
      have h1 := goF_bd hs (c := c) (by have := hl c (List.mem_cons_self ..); omega) hg
      have h2 := run_le hs l _ y (fun d hd => hl d (List.mem_cons_of_mem _ hd)) h
      have h2 : b.2 ≤ y.2 := h2
      omega
theorem cov_mem {s : Cr} : ∀ (l : List Nat) (set : Nat), Cov s set l → ∀ c ∈ l, c < 2 * s.lines.length
  | [], _, _, c, hc => by cases hc
  | a :: l, set, h, c, hc => by
    rcases List.mem_cons.1 hc with rfl | hc
    · exact h.1
    · exact cov_mem l _ h.2.2 c hc
theorem nextO_sound {s : Cr} {e : Int} : ∀ (f : Nat) (l : List Nat) (x : Rch) (left : Nat) (r : List Nat), nextO s e f l x left = some r → ∃ r' y, r = l ++ r' ∧ Cov s left r' ∧ runE s x r' = some y ∧ y.2 = e := by
  intro f
  have h0 : ∀ (l : List Nat) (x : Rch) (r : List Nat), (if x.2 = e then some l else none) = some r → ∃ r' y, r = l ++ r' ∧ Cov s 0 r' ∧ runE s x r' = some y ∧ y.2 = e := fun l x r h => by
    split at h
    · cases h
      exact ⟨[], x, (List.append_nil _).symm, rfl, rfl, by assumption⟩
    · cases h
  induction f with
  | zero =>
    intro l x left r h
    unfold nextO at h
    split at h
    · rename_i hl; subst hl; exact h0 l x r h
    · cases h
  | succ f ih =>
    intro l x left r h
    by_cases hl : left = 0
    · subst hl
      have e1 : nextO s e (f + 1) l x 0 = if x.2 = e then some l else none := rfl
      rw [e1] at h
      exact h0 l x r h
    · rw [stepG_next s e f l x left hl] at h
      obtain ⟨c, hc, h⟩ := findSome_mem h
      unfold stepG at h
      cases hg : goF s x c with
      | none => rw [hg] at h; cases h
      | some b =>
        rw [hg] at h
        dsimp only at h
        split at h
        · cases h
        · obtain ⟨r', y, h1, h2, h3, h4⟩ := ih _ _ _ _ h
          have hm := mem_shoots.1 hc
          refine ⟨c :: r', y, by rw [h1, List.append_assoc]; rfl, ⟨hm.1, hm.2, h2⟩, ?_, h4⟩
          show (match goF s x c with | none => none | some b => runE s (rchF s c b.2) r') = _
          rw [hg]; exact h3
theorem nextO_complete {s : Cr} (hs : CrOk s) {e : Int} : ∀ (f : Nat) (l : List Nat) (x : Rch) (left : Nat) (r : List Nat) (y : Rch), left ≤ f → Cov s left r → runE s x r = some y → y.2 = e → nextO s e f l x left ≠ none := by
  intro f
  have h0 : ∀ (l : List Nat) (x : Rch) (r : List Nat) (y : Rch), Cov s 0 r → runE s x r = some y → y.2 = e → (if x.2 = e then some l else none) ≠ none := fun l x r y h1 h2 h3 => by
    cases r with
    | nil => cases h2; rw [if_pos h3]; exact fun h => by cases h
    | cons c r => have := h1.2.1; rw [Nat.zero_testBit] at this; cases this
  induction f with
  | zero =>
    intro l x left r y hf h1 h2 h3
    obtain rfl : left = 0 := by omega
    exact h0 l x r y h1 h2 h3
  | succ f ih =>
    intro l x left r y hf h1 h2 h3
    by_cases hl : left = 0
    · subst hl
      exact h0 l x r y h1 h2 h3
    · rw [stepG_next s e f l x left hl]
      cases r with
      | nil => exact absurd h1 hl
      | cons c r =>
        intro h
        have h4 := List.findSome?_eq_none_iff.1 h c (mem_shoots.2 ⟨h1.1, h1.2.1⟩)
        have e1 : runE s x (c :: r) = match goF s x c with | none => none | some b => runE s (rchF s c b.2) r := rfl
        rw [e1] at h2
        unfold stepG at h4
        cases hg : goF s x c with
        | none => rw [hg] at h2; cases h2
        | some b =>
          rw [hg] at h2 h4
          dsimp only at h2 h4
          have hle := run_le hs r _ y (cov_mem r _ h1.2.2) h2
          have hle : b.2 ≤ y.2 := hle
          rw [if_neg (by omega)] at h4
          have := rest_lt h1.2.1
          exact ih _ _ _ r y (by omega) h1.2.2 h2 h3 h4
theorem end_fold {s : Cr} : ∀ (l : List Nat) (e : Int), -1 ≤ e → (l.foldl (endS s) e = e ∨ ∃ c ∈ l, l.foldl (endS s) e = TT s (allN s) c ∧ 0 ≤ TT s (allN s) c) ∧ (0 ≤ e → 0 ≤ l.foldl (endS s) e ∧ l.foldl (endS s) e ≤ e) ∧ ∀ c ∈ l, 0 ≤ TT s (allN s) c → 0 ≤ l.foldl (endS s) e ∧ l.foldl (endS s) e ≤ TT s (allN s) c
  | [], e, _ => ⟨.inl rfl, fun h => ⟨h, Int.le_refl _⟩, fun c hc => by cases hc⟩
  | a :: l, e, he => by
    rw [List.foldl_cons]
    have hst : (endS s e a = e ∧ (0 ≤ TT s (allN s) a → 0 ≤ e ∧ e ≤ TT s (allN s) a)) ∨ (endS s e a = TT s (allN s) a ∧ 0 ≤ TT s (allN s) a ∧ (0 ≤ e → TT s (allN s) a ≤ e)) := by
      unfold endS
      split
      · rename_i h; exact .inr ⟨rfl, h.1, fun _ => by omega⟩
      · rename_i h; exact .inl ⟨rfl, fun h' => by omega⟩
    obtain ⟨h1, h2, h3⟩ := end_fold l (endS s e a) (by rcases hst with h | h <;> omega)
    refine ⟨?_, fun h => ?_, fun c hc h => ?_⟩
    · rcases h1 with h1 | ⟨c, hc, h1⟩
      · rcases hst with h | h
        · exact .inl (by rw [h1, h.1])
        · exact .inr ⟨a, List.mem_cons_self .., by rw [h1, h.1], h.2.1⟩
      · exact .inr ⟨c, List.mem_cons_of_mem _ hc, h1⟩
    · have := h2 (by rcases hst with h | h <;> omega)
      rcases hst with h | h <;> omega
    · rcases List.mem_cons.1 hc with rfl | hc
      · have := h2 (by rcases hst with h' | h' <;> omega)
        rcases hst with h' | h' <;> omega
      · exact h3 c hc h
theorem all_lt (s : Cr) : allN s < 2 ^ s.lines.length := by unfold allN; have := Nat.two_pow_pos s.lines.length; omega
/-- no full order ends before Best's end -/
theorem best_least {s : Cr} (hs : CrOk s) {l : List Nat} {y : Rch} (h0 : l ≠ []) (h1 : Cov s (allN s) l) (h2 : runE s (startR s) l = some y) : 0 ≤ endB s ∧ endB s ≤ y.2 := by
  rcases split_last l with rfl | ⟨l', c, rfl⟩
  · exact absurd rfl h0
  · obtain ⟨_, h3, h4⟩ := TT_least hs _ l' (allN s) c y rfl (all_lt s) h1 h2
    have hc := cov_mem _ _ h1 c (by simp)
    have h5 := (end_fold (s := s) (shootsL s (allN s)) (-1) (by omega)).2.2 c (mem_shoots.2 ⟨hc, by
      unfold allN; exact all_bit (by omega)⟩) h3
    unfold endB
    omega
/-- Best's end is reached, and the search finds an order -/
theorem best_found {s : Cr} (hs : CrOk s) (h : 0 ≤ endB s) : ∃ r y, nextO s (endB s) (allN s) [] (startR s) (allN s) = some r ∧ Cov s (allN s) r ∧ runE s (startR s) r = some y ∧ y.2 = endB s := by
  rcases (end_fold (s := s) (shootsL s (allN s)) (-1) (by omega)).1 with h1 | ⟨c, hc, h1, h2⟩
  · unfold endB at h; omega
  · obtain ⟨l, h3, h4⟩ := TT_run hs (allN s) (allN s) c (Nat.le_refl _) (all_lt s) (mem_shoots.1 hc).1 (by omega)
    have h5 : (rchF s c (TT s (allN s) c)).2 = endB s := by unfold endB; rw [h1]; rfl
    cases hn : nextO s (endB s) (allN s) [] (startR s) (allN s) with
    | none => exact absurd hn (nextO_complete hs _ _ _ _ _ _ (Nat.le_refl _) h3 h4 h5)
    | some r =>
      obtain ⟨r', y, g1, g2, g3, g4⟩ := nextO_sound _ _ _ _ _ hn
      obtain rfl : r = r' := g1
      exact ⟨r, y, rfl, g2, g3, g4⟩
/-! orders as lists of lines with ways -/
theorem cov_props {s : Cr} (hn : s.lines.length ≤ 5) : ∀ (l : List Nat) (set : Nat), set < 1048576 → Cov s set l → (l.map (· / 2)).Nodup ∧ ∀ k, set.testBit k = true ↔ k ∈ l.map (· / 2)
  | [], set, _, h => by
    obtain rfl : set = 0 := h
    exact ⟨List.nodup_nil, fun k => ⟨fun h => (by rw [Nat.zero_testBit] at h; cases h), fun h => (by cases h)⟩⟩
  | c :: l, set, hs, h => by
    obtain ⟨h1, h2, h3⟩ := h
    have hle := rest_le (a := set) (k := c / 2)
    obtain ⟨g1, g2⟩ := cov_props hn l _ (by omega) h3
    have hb := fun j => rest_bit (set := set) (k := c / 2) (j := j) hs (by omega)
    refine ⟨List.nodup_cons.2 ⟨fun hm => ?_, g1⟩, fun k => ?_⟩
    · have := (g2 _).2 hm
      rw [hb] at this
      simp at this
    · rw [List.map_cons, List.mem_cons, ← g2 k, hb, Bool.and_eq_true]
      constructor
      · intro h
        by_cases hk : c / 2 = k
        · exact .inl hk.symm
        · exact .inr ⟨h, by rw [decide_eq_false hk]; rfl⟩
      · rintro (rfl | h)
        · exact h2
        · exact h.1
/-- a number as a line with a way -/
def unN (c : Nat) : Int × Int := ((c / 2 : Nat), (c % 2 : Nat))
theorem sh_un (c : Nat) : shN (unN c) = c := by unfold shN unN; dsimp only; omega
theorem ord_cov {s : Cr} (hs : CrOk s) {l : List Nat} (h : Cov s (allN s) l) : OrdOk s (l.map unN) ∧ l.length = s.lines.length ∧ (l.map unN).map shN = l := by
  have hn5 := hs.n5
  have hp2 : 2 ^ s.lines.length ≤ 32 := Nat.pow_le_pow_right (n := 2) (by omega) hn5
  obtain ⟨h1, h2⟩ := cov_props hn5 l _ (by unfold allN; omega) h
  refine ⟨⟨fun x hx => ?_, ?_⟩, ?_, ?_⟩
  · obtain ⟨c, hc, rfl⟩ := List.mem_map.1 hx
    have := cov_mem l _ h c hc
    unfold rightP unN
    dsimp only
    omega
  · rw [List.map_map]
    have e : ((fun x : Int × Int => x.1) ∘ unN) = (fun k : Nat => (k : Int)) ∘ (fun c : Nat => c / 2) := rfl
    rw [e, ← List.map_map]
    exact List.pairwise_map.2 (List.Pairwise.imp (fun {a b} hab => by omega) h1)
  · have g1 := nodup_lt s.lines.length _ h1 (fun k hk => bit_lt (all_lt s) ((h2 k).2 hk))
    have g2 : s.lines.length ≤ l.length := by
      have hsub : List.range s.lines.length ⊆ l.map (· / 2) := fun k hk => (h2 k).1 (by unfold allN; exact all_bit (List.mem_range.1 hk))
      have := (List.nodup_range (n := s.lines.length)).length_le_of_subset hsub
      rw [List.length_range, List.length_map] at this
      exact this
    rw [List.length_map] at g1
    omega
  · rw [List.map_map]
    have : (shN ∘ unN) = id := funext sh_un
    rw [this, List.map_id]
end Go.Proofs.Ytpccafeedfpbaaa.C
end
section
open PvL
set_option linter.unusedVariables false
namespace Go.Proofs.Ytpccafeedfpbaaa.C
/-! what CourseFirst says -/
end Go.Proofs.Ytpccafeedfpbaaa.C
end
section
open PvL
set_option linter.unusedVariables false
namespace Go.Proofs.Ytpccafeedfpbaaa.C
/-! longer windows -/
def wideL (l : List Bd) : List Bd := match l with | [] => [] | w :: t => [(w.1, ((w :: t)[t.length]'(by simp)).2)]
def wideCr (s : Cr) : Cr := { s with opn := s.opn.map wideL }
theorem win_order {l : List Bd} (h : WinOk l) : ∀ (k : Nat) (hk : k < l.length) (h0 : 0 < l.length), (l[0]).1 ≤ l[k].1 ∧ (l[0]).2 ≤ l[k].2
  | 0, _, _ => ⟨Int.le_refl _, Int.le_refl _⟩
  | k + 1, hk, h0 => by
    have h1 := win_order h k (by omega) h0
    have h2 := h.2 (k + 1) hk
    have h3 := h.2 k (by omega)
    simp at h2
    omega
theorem win_last {l : List Bd} (h : WinOk l) : ∀ (j k : Nat) (hk : k + j < l.length), (l[k]'(by omega)).2 ≤ (l[k + j]).2
  | 0, k, _ => Int.le_refl _
  | j + 1, k, hk => by
    have h1 := win_last h j k (by omega)
    have h2 := h.2 (k + j + 1) (by omega)
    simp at h2
    have : l[k + (j + 1)] = l[k + j + 1] := by congr 1
    rw [this]
    omega
theorem wide_ok {l : List Bd} (h : WinOk l) : WinOk (wideL l) := by
  cases l with
  | nil => exact h
  | cons w t =>
    have h1 := h.2 t.length (by simp)
    have h2 := win_order h t.length (by simp) (by simp)
    have h3 := h.2 0 (by simp)
    refine ⟨by unfold wideL; simp, fun k hk => ?_⟩
    have hk0 : k = 0 := by unfold wideL at hk; simp at hk; exact hk
    subst hk0
    unfold wideL
    simp only [List.getElem_cons_zero] at h2 h3
    refine ⟨h3.1, ?_, h1.2.2.1, .inl rfl⟩
    show w.1 ≤ ((w :: t)[t.length]'(by simp)).2
    omega
theorem wide_cr {s : Cr} (h : CrOk s) : CrOk (wideCr s) where
  n1 := h.n1
  n5 := h.n5
  nf := h.nf
  nb := h.nb
  no := by show (s.opn.map wideL).length = _; rw [List.length_map]; exact h.no
  lines := h.lines
  opn := fun l hl => by
    obtain ⟨x, hx, rfl⟩ := List.mem_map.1 (show l ∈ s.opn.map wideL from hl)
    exact wide_ok (h.opn x hx)
  fields := h.fields
  buoys := h.buoys
  spread := h.spread
  start := h.start
  speed := h.speed
  turn := h.turn
theorem wide_win {l : List Bd} (h : WinOk l) {t n : Int} {b : Bd} (hb : l.findSome? (winO t n) = some b) : ∃ b', (wideL l).findSome? (winO t n) = some b' ∧ b'.2 ≤ b.2 := by
  obtain ⟨w, hw, h1⟩ := findSome_mem hb
  obtain ⟨k, hk, rfl⟩ := List.getElem_of_mem hw
  cases l with
  | nil => cases hk
  | cons v r =>
    have h2 := win_order h k hk (by simp)
    have hk' : k ≤ r.length := by simp at hk; omega
    have h3 := win_last h (r.length - k) k (by simp; omega)
    have e : k + (r.length - k) = r.length := by omega
    simp only [e] at h3
    simp only [List.getElem_cons_zero] at h2
    unfold winO at h1
    split at h1
    · cases h1
      refine ⟨(iMax t v.1, iMax t v.1 + n), ?_, ?_⟩
      · have e2 : wideL (v :: r) = [(v.1, ((v :: r)[r.length]'(by simp)).2)] := rfl
        have e3 : winO t n (v.1, ((v :: r)[r.length]'(by simp)).2) = some (iMax t v.1, iMax t v.1 + n) := if_pos (by unfold iMax at *; dsimp only; omega)
        rw [e2, List.findSome?_cons, e3]
      · unfold iMax; dsimp only; omega
    · cases h1
theorem wide_costL (s : Cr) (to : Int) : ∀ (l : List Pt) (p : Pt) (o : Int), costL (wideCr s) to p o l = costL s to p o l
  | [], _, _ => rfl
  | q :: l, p, o => by
    have ih := wide_costL s to l
    unfold costL
    simp only [ih]
    rfl
theorem wide_offer (s : Cr) (a b : Pose) (l : List Pt) : offerL (wideCr s) a b l = offerL s a b l := by
  unfold offerL costP
  cases l with
  | nil => rfl
  | cons p l => dsimp only; rw [wide_costL]
theorem wide_next (s : Cr) (a b : Pose) : ∀ (d : Nat) (l : List Pt) (used : Nat), nextL (wideCr s) a b d l used = nextL s a b d l used
  | 0, l, used => wide_offer s a b _
  | d + 1, l, used => by
    have ih := wide_next s a b d
    unfold nextL
    rw [wide_offer]
    simp only [ih]
    rfl
theorem wide_best (s : Cr) (p q : Pose) : bestF (wideCr s) p q = bestF s p q := by
  unfold bestF passL
  rw [wide_offer, wide_next]; rfl
theorem wide_cost (s : Cr) (p q : Pose) : costN (wideCr s) p q = costN s p q := by unfold costN; rw [wide_best]
theorem wide_beg (s : Cr) (c : Nat) : begC (wideCr s) c = begC s c := rfl
theorem wide_shot {s : Cr} (hs : CrOk s) {c : Nat} (hc : c / 2 < s.lines.length) {t : Int} {b : Bd} (hb : shotC s c t = some b) : ∃ b', shotC (wideCr s) c t = some b' ∧ b'.2 ≤ b.2 := by
  unfold shotC shotF at *
  split at hb
  · rename_i hcl
    have hcl' : clearF (wideCr s) (wayF (wideCr s) (c / 2) ((c % 2 : Nat) : Int)).1 (wayF (wideCr s) (c / 2) ((c % 2 : Nat) : Int)).2 = true := hcl
    rw [if_pos hcl']
    have hno := hs.no
    have e : (wideCr s).opn.getD (c / 2) [] = wideL (s.opn.getD (c / 2) []) := by
      show (s.opn.map wideL).getD (c / 2) [] = _
      rw [getD_eq (by rw [List.length_map]; omega), getD_eq (by omega), List.getElem_map]
    rw [e]
    rw [getD_eq (by omega)] at hb ⊢
    exact wide_win (hs.opn _ (List.getElem_mem _)) hb
  · cases hb
theorem wide_go {s : Cr} (hs : CrOk s) {x : Rch} {c : Nat} (hc : c / 2 < s.lines.length) {b : Bd} (hb : goF s x c = some b) : ∃ b', goF (wideCr s) x c = some b' ∧ b'.2 ≤ b.2 := by
  unfold goF at *
  rw [wide_beg, wide_cost]
  split at hb
  · cases hb
  · rename_i h
    rw [if_neg h]
    exact wide_shot hs hc hb
theorem wide_run {s : Cr} (hs : CrOk s) : ∀ (l : List Nat) (p : Pose) (t t' : Int) (y : Rch), (∀ c ∈ l, c < 2 * s.lines.length) → t' ≤ t → runE s (p, t) l = some y → ∃ y', runE (wideCr s) (p, t') l = some y' ∧ y'.2 ≤ y.2
  | [], p, t, t', y, _, ht, h => by cases h; exact ⟨(p, t'), rfl, ht⟩
  | c :: l, p, t, t', y, hl, ht, h => by
    have hc := hl c (List.mem_cons_self ..)
    have e1 : ∀ s x, runE s x (c :: l) = match goF s x c with | none => none | some b => runE s (rchF s c b.2) l := fun _ _ => rfl
    rw [e1] at h
    cases hg : goF s (p, t) c with
    | none => rw [hg] at h; cases h
    | some b =>
      rw [hg] at h
      obtain ⟨b1, h1, h2⟩ := wide_go hs (by omega) hg
      obtain ⟨b2, h3, h4⟩ := goF_mono (wide_cr hs) (p := p) (c := c) (show c / 2 < s.lines.length by omega) ht h1
      rw [e1, h3]
      exact wide_run hs l (endC s c) b.2 b2.2 y (fun d hd => hl d (List.mem_cons_of_mem _ hd)) (by omega) h
theorem wide_cov (s : Cr) : ∀ (l : List Nat) (set : Nat), Cov s set l → Cov (wideCr s) set l
  | [], _, h => h
  | c :: l, set, h => ⟨h.1, h.2.1, wide_cov s l _ h.2.2⟩
/-- what CourseWider says -/
theorem wider {s : Cr} (hs : CrOk s) (h : 0 ≤ endB s) : CrOk (wideCr s) ∧ 0 ≤ endB (wideCr s) ∧ endB (wideCr s) ≤ endB s := by
  obtain ⟨r, y, h1, h2, h3, h4⟩ := best_found hs h
  have hw := wide_cr hs
  obtain ⟨y', h5, h6⟩ := wide_run hs r s.start 0 0 y (cov_mem r _ h2) (Int.le_refl _) h3
  have hn := (ord_cov hs h2).2.1
  have hn1 := hs.n1
  have h7 := best_least hw (l := r) (fun e => by rw [e] at hn; simp at hn; omega) (wide_cov s r _ h2) h5
  exact ⟨hw, h7.1, by omega⟩
theorem run_goes {s : Cr} : ∀ (l : List Nat) (x y : Rch), runE s x l = some y → ∀ c ∈ l, ∃ z b, goF s z c = some b
  | [], _, _, _, c, hc => by cases hc
  | a :: l, x, y, h, c, hc => by
    have e : runE s x (a :: l) = match goF s x a with | none => none | some b => runE s (rchF s a b.2) l := rfl
    rw [e] at h
    cases hg : goF s x a with
    | none => rw [hg] at h; cases h
    | some b =>
      rw [hg] at h
      rcases List.mem_cons.1 hc with rfl | hc
      · exact ⟨x, b, hg⟩
      · exact run_goes l _ y h c hc
/-- where there is a best order, each line has a window -/
theorem opn_ne {s : Cr} (hs : CrOk s) (h : 0 ≤ endB s) : ∀ k (hk : k < s.opn.length), s.opn[k] ≠ [] := by
  intro k hk hno
  obtain ⟨r, y, _, h2, h3, _⟩ := best_found hs h
  have hn5 := hs.n5
  have hp2 : 2 ^ s.lines.length ≤ 32 := Nat.pow_le_pow_right (n := 2) (by omega) hn5
  have hkn : k < s.lines.length := by have := hs.no; omega
  obtain ⟨c, hc, hck⟩ := List.mem_map.1 (((cov_props hn5 r _ (by unfold allN; omega) h2).2 k).1 (by unfold allN; exact all_bit hkn))
  obtain ⟨z, b, hg⟩ := run_goes r _ _ h3 c hc
  have hck : c / 2 = k := hck
  unfold goF at hg
  split at hg
  · cases hg
  · unfold shotC shotF at hg
    split at hg
    · rw [hck, getD_eq hk, hno] at hg
      cases hg
    · cases hg
end Go.Proofs.Ytpccafeedfpbaaa.C
end
