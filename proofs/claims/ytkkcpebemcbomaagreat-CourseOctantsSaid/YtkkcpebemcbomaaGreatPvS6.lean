/-
  Part of the proof that what the interpreter of YtkkcpebemcbomaaGreatPvL yields, the model's machine comes to. No condition.
-/
import Derived.Test.YtkkcpebemcbomaaGreatPvS5
import Derived.CheckFast
import Derived.Orders
namespace PvL
open Go

/-! ### What the checks of a drawn region say -/
theorem fold_testBit {look : Nat → Nat} {i : Nat} : ∀ (l : List Edge) (s : Nat), Nat.testBit (l.foldl (fun s e => if Region.binds .any e then s ||| 2 ^ e.on ||| look e.on else s) s) i = true →
    Nat.testBit s i = true ∨ ∃ e ∈ l, Region.binds .any e = true ∧ (i = e.on ∨ Nat.testBit (look e.on) i = true)
  | [], s, h => .inl h
  | e :: es, s, h => by
    rcases fold_testBit es _ (show Nat.testBit (List.foldl _ (if Region.binds .any e then s ||| 2 ^ e.on ||| look e.on else s) es) i = true from h) with h1 | ⟨e', he, hb, h1⟩
    · by_cases hb : Region.binds .any e = true
      · rw [if_pos hb, Nat.testBit_or, Nat.testBit_or, Bool.or_eq_true, Bool.or_eq_true] at h1
        rcases h1 with (h1 | h1) | h1
        · exact .inl h1
        · refine .inr ⟨e, List.mem_cons_self, hb, .inl ?_⟩
          rw [Nat.testBit_two_pow] at h1
          exact (of_decide_eq_true h1).symm
        · exact .inr ⟨e, List.mem_cons_self, hb, .inr h1⟩
      · rw [if_neg hb] at h1; exact .inl h1
    · exact .inr ⟨e', List.mem_cons_of_mem _ he, hb, h1⟩

theorem fold_push {F : Array Nat → Oper → Nat} : ∀ (l : List Oper) (A : Array Nat), let R := l.foldl (fun acc o => acc.push (F acc o)) A
    (∀ i, i < A.size → R.getD i 0 = A.getD i 0) ∧ R.size = A.size + l.length ∧ ∀ j o, l[j]? = some o → ∃ B : Array Nat, B.size = A.size + j ∧ (∀ i, i < B.size → R.getD i 0 = B.getD i 0) ∧ R.getD (A.size + j) 0 = F B o
  | [], A => ⟨fun _ _ => rfl, by simp, fun j o h => by cases h⟩
  | o :: os, A => by
    obtain ⟨h1, h2, h3⟩ := fold_push (F := F) os (A.push (F A o))
    refine ⟨fun i hi => ?_, by simp at h2 ⊢; omega, fun j o' hj => ?_⟩
    · rw [List.foldl_cons, h1 i (by simp; omega)]
      simp [Array.getElem?_push, Nat.ne_of_lt hi]
    · cases j with
      | zero =>
        cases hj
        refine ⟨A, by simp, fun i hi => ?_, ?_⟩
        · rw [List.foldl_cons, h1 i (by simp; omega)]
          simp [Array.getElem?_push, Nat.ne_of_lt hi]
        · rw [List.foldl_cons, h1 (A.size + 0) (by simp)]
          simp
      | succ j =>
        obtain ⟨B, b1, b2, b3⟩ := h3 j o' (by simpa using hj)
        refine ⟨B, by simp at b1; omega, fun i hi => by rw [List.foldl_cons]; exact b2 i hi, ?_⟩
        rw [List.foldl_cons, show A.size + (j + 1) = (A.push (F A o)).size + j by simp; omega]
        exact b3

theorem deps_spec {ops : Array Oper} {j : Nat} {o : Oper} (ho : ops[j]? = some o) {i : Nat} (h : Nat.testBit ((deps ops).getD j 0) i = true) :
    ∃ e ∈ o.after, Region.binds .any e = true ∧ (i = e.on ∨ (e.on < j ∧ Nat.testBit ((deps ops).getD e.on 0) i = true)) := by
  have hg : ∀ j, (deps ops).getD j 0 = (Region.before ops).getD j 0 := fun j => by
    unfold deps; simp [List.getD_eq_getElem?_getD, Array.getD_eq_getD_getElem?]
  have hb : Region.before ops = ops.toList.foldl (fun acc o => acc.push (o.after.foldl (init := 0) fun s e => if Region.binds .any e then s ||| 2 ^ e.on ||| acc.getD e.on 0 else s)) #[] := by
    unfold Region.before; rw [← Array.foldl_toList]
  obtain ⟨_, _, h3⟩ := fold_push (F := fun acc o => o.after.foldl (init := 0) fun s e => if Region.binds .any e then s ||| 2 ^ e.on ||| acc.getD e.on 0 else s) ops.toList #[]
  obtain ⟨B, b1, b2, b3⟩ := h3 j o (by simpa using ho)
  rw [hg, hb] at h
  simp only [Array.size_empty, Nat.zero_add] at b1 b2 b3
  rw [b3, ← Array.foldl_toList] at h
  rcases fold_testBit (look := fun n => B.getD n 0) o.after.toList 0 h with h | ⟨e, he, hb', h⟩
  · simp at h
  · refine ⟨e, by simpa using he, hb', ?_⟩
    rcases h with h | h
    · exact .inl h
    · by_cases hl : e.on < B.size
      · refine .inr ⟨by omega, ?_⟩
        rw [hg, hb, b2 _ hl]; exact h
      · simp [Array.getElem?_eq_none (Nat.le_of_not_lt hl)] at h

/-- a set closed under what must run ahead holds all that its members hang on -/
theorem deps_closed {ops : Array Oper} {S : Nat → Prop} (hS : ∀ j o, ops[j]? = some o → S j → ∀ e ∈ o.after, Region.binds .any e = true → S e.on) :
    ∀ (n j : Nat), j < n → ∀ o, ops[j]? = some o → (∀ e ∈ o.after, Region.binds .any e = true → S e.on) → ∀ i, Nat.testBit ((deps ops).getD j 0) i = true → S i
  | 0, j, hj, _, _, _, _, _ => absurd hj (Nat.not_lt_zero _)
  | n + 1, j, hj, o, ho, hr, i, hi => by
    obtain ⟨e, he, hb, h⟩ := deps_spec ho hi
    rcases h with rfl | ⟨hl, h⟩
    · exact hr e he hb
    · have hs := hr e he hb
      have hlt : e.on < ops.size := by
        have := (Array.getElem?_eq_some_iff.1 ho).1
        omega
      exact deps_closed hS n e.on (by omega) ops[e.on] (Array.getElem?_eq_getElem hlt) (hS e.on _ (Array.getElem?_eq_getElem hlt) hs) i h

theorem dstsOk_seen : ∀ (l : List Oper) (seen : List Tmp), dstsOk l seen = true → ∀ (i : Nat) (o : Oper) (d : Tmp), l[i]? = some o → o.dst = some d → d ∉ seen
  | [], _, _, i, o, d, h, _ => by cases h
  | x :: xs, seen, h, i, o, d, hi, hd => by
    unfold dstsOk at h
    cases hx : x.dst with
    | none =>
      rw [hx] at h
      cases i with
      | zero => cases hi; rw [hx] at hd; cases hd
      | succ i => exact dstsOk_seen xs seen h i o d (by simpa using hi) hd
    | some d' =>
      rw [hx] at h
      simp only [Bool.and_eq_true, Bool.not_eq_true'] at h
      cases i with
      | zero => cases hi; rw [hx] at hd; cases hd; simpa using h.1
      | succ i => exact fun hm => dstsOk_seen xs (d' :: seen) h.2 i o d (by simpa using hi) hd (List.mem_cons_of_mem _ hm)
theorem dstsOk_uniq : ∀ (l : List Oper) (seen : List Tmp), dstsOk l seen = true → ∀ (i j : Nat) (o o' : Oper) (d : Tmp), l[i]? = some o → l[j]? = some o' → o.dst = some d → o'.dst = some d → i = j
  | [], _, _, i, j, o, o', d, h, _, _, _ => by cases h
  | x :: xs, seen, h, i, j, o, o', d, hi, hj, hd, hd' => by
    unfold dstsOk at h
    have hs : ∀ d', x.dst = some d' → dstsOk xs (d' :: seen) = true := fun d' hx => by rw [hx] at h; simp only [Bool.and_eq_true] at h; exact h.2
    have hn : x.dst = none → dstsOk xs seen = true := fun hx => by rw [hx] at h; exact h
    cases i with
    | zero =>
      cases hi
      cases j with
      | zero => rfl
      | succ j => exact absurd List.mem_cons_self (dstsOk_seen xs _ (hs d hd) j o' d (by simpa using hj) hd')
    | succ i =>
      cases j with
      | zero => cases hj; exact absurd List.mem_cons_self (dstsOk_seen xs _ (hs d hd') i o d (by simpa using hi) hd)
      | succ j =>
        cases hx : x.dst with
        | none => rw [dstsOk_uniq xs seen (hn hx) i j o o' d (by simpa using hi) (by simpa using hj) hd hd']
        | some d' => rw [dstsOk_uniq xs _ (hs d' hx) i j o o' d (by simpa using hi) (by simpa using hj) hd hd']

theorem rowOk_spec {ds : List Nat} {i : Nat} {li : List Tmp} : ∀ (l : List Oper) (j0 : Nat), rowOk ds i li l j0 = true → ∀ j o d, l[j]? = some o → o.dst = some d → d ∈ li →
    i ≠ j0 + j ∧ (j0 + j < i → Nat.testBit (ds.getD i 0) (j0 + j) = true) ∧ (i < j0 + j → Nat.testBit (ds.getD (j0 + j) 0) i = true)
  | [], _, _, j, o, d, h, _, _ => by cases h
  | x :: xs, j0, h, j, o, d, hj, hd, hm => by
    obtain ⟨h1, h2⟩ := (Bool.and_eq_true _ _ ▸ h : pairOk ds li i j0 x = true ∧ rowOk ds i li xs (j0 + 1) = true)
    cases j with
    | zero =>
      cases hj
      unfold pairOk at h1
      rw [hd] at h1
      simp only [Bool.or_eq_true, Bool.not_eq_true', List.contains_eq_mem, decide_eq_false_iff_not] at h1
      rcases h1 with h1 | h1
      · exact absurd hm h1
      · by_cases he : i = j0
        · subst he; rw [show Nat.beq i i = true from Nat.beq_refl i] at h1; cases h1
        · rw [show Nat.beq i j0 = false from by cases hb : Nat.beq i j0 with
            | false => rfl
            | true => exact absurd (Nat.eq_of_beq_eq_true hb) he] at h1
          refine ⟨by simpa using he, fun hl => ?_, fun hl => ?_⟩
          · rw [show Nat.blt j0 i = true from by rw [Nat.blt_eq]; simpa using hl] at h1; exact h1
          · rw [show Nat.blt j0 i = false from by
              cases hb : Nat.blt j0 i with
              | false => rfl
              | true => rw [Nat.blt_eq] at hb; simp at hl; omega] at h1; exact h1
    | succ j =>
      have := rowOk_spec xs (j0 + 1) h2 j o d (by simpa using hj) hd hm
      rw [show j0 + (j + 1) = j0 + 1 + j by omega]; exact this
theorem pairsOk_spec {ops : List Oper} {ds : List Nat} : ∀ (l : List Oper) (i0 : Nat), pairsOk ops ds l i0 = true → ∀ i oi, l[i]? = some oi → rowOk ds (i0 + i) (looks ops oi) ops 0 = true
  | [], _, _, i, oi, h => by cases h
  | x :: xs, i0, h, i, oi, hi => by
    obtain ⟨h1, h2⟩ := (Bool.and_eq_true _ _ ▸ h : rowOk ds i0 (looks ops x) ops 0 = true ∧ pairsOk ops ds xs (i0 + 1) = true)
    cases i with
    | zero => cases hi; exact h1
    | succ i => rw [show i0 + (i + 1) = i0 + 1 + i by omega]; exact pairsOk_spec xs (i0 + 1) h2 i oi (by simpa using hi)
theorem anchorOk_spec {mask : Nat} : ∀ (l : List Oper) (i0 n : Nat), anchorOk mask l i0 n = true → ∀ i o, i < n → l[i]? = some o → (isAnchor o.op || isNew o.op) = true → Nat.testBit mask (i0 + i) = true
  | [], _, _, _, i, o, _, h, _ => by cases h
  | x :: xs, i0, 0, _, i, o, hi, _, _ => absurd hi (Nat.not_lt_zero _)
  | x :: xs, i0, n + 1, h, i, o, hi, ho, hk => by
    obtain ⟨h1, h2⟩ := (Bool.and_eq_true _ _ ▸ h : ifb (isAnchor x.op || isNew x.op) (Nat.testBit mask i0) true = true ∧ anchorOk mask xs (i0 + 1) n = true)
    cases i with
    | zero => cases ho; rw [hk] at h1; exact h1
    | succ i => rw [show i0 + (i + 1) = i0 + 1 + i by omega]; exact anchorOk_spec xs (i0 + 1) n h2 i o (by omega) (by simpa using ho) hk
theorem anchorsOk_spec {ops : List Oper} {ds : List Nat} : ∀ (l : List Oper) (i0 : Nat), anchorsOk ops ds l i0 = true → ∀ i o, l[i]? = some o → isAnchor o.op = true → anchorOk (ds.getD (i0 + i) 0) ops 0 (i0 + i) = true
  | [], _, _, i, o, h, _ => by cases h
  | x :: xs, i0, h, i, o, hi, hk => by
    obtain ⟨h1, h2⟩ := (Bool.and_eq_true _ _ ▸ h : ifb (isAnchor x.op) (anchorOk (ds.getD i0 0) ops 0 i0) true = true ∧ anchorsOk ops ds xs (i0 + 1) = true)
    cases i with
    | zero => cases hi; rw [hk] at h1; exact h1
    | succ i => rw [show i0 + (i + 1) = i0 + 1 + i by omega]; exact anchorsOk_spec xs (i0 + 1) h2 i o (by simpa using hi) hk
theorem edgesOk_spec : ∀ (l : List Oper) (i0 : Nat), edgesOk l i0 = true → ∀ i o, l[i]? = some o → ∀ e ∈ o.after, Region.binds .any e = true → e.on < i0 + i
  | [], _, _, i, o, h, _, _, _ => by cases h
  | x :: xs, i0, h, i, o, hi, e, he, hb => by
    obtain ⟨h1, h2⟩ := (Bool.and_eq_true _ _ ▸ h : x.after.toList.all (fun e => !Region.binds .any e || Nat.blt e.on i0) = true ∧ edgesOk xs (i0 + 1) = true)
    cases i with
    | zero =>
      cases hi
      have := List.all_eq_true.1 h1 e (by simpa using he)
      rw [hb] at this
      simpa [Nat.blt_eq] using this
    | succ i =>
      have := edgesOk_spec xs (i0 + 1) h2 i o (by simpa using hi) e he hb
      omega

structure RegOk (ops : Array Oper) : Prop where
  uniq : ∀ (i j : Nat) (o o' : Oper) (d : Tmp), ops[i]? = some o → ops[j]? = some o' → o.dst = some d → o'.dst = some d → i = j
  pair : ∀ (i j : Nat) (oi oj : Oper) (d : Tmp), ops[i]? = some oi → ops[j]? = some oj → oj.dst = some d → d ∈ looks ops.toList oi →
    i ≠ j ∧ (j < i → Nat.testBit ((deps ops).getD i 0) j = true) ∧ (i < j → Nat.testBit ((deps ops).getD j 0) i = true)
  anch : ∀ (j : Nat) (oj : Oper), ops[j]? = some oj → isAnchor oj.op = true → ∀ (i : Nat) (oi : Oper), i < j → ops[i]? = some oi → (isAnchor oi.op || isNew oi.op) = true → Nat.testBit ((deps ops).getD j 0) i = true
  edge : ∀ (j : Nat) (oj : Oper), ops[j]? = some oj → ∀ e ∈ oj.after, Region.binds .any e = true → e.on < j
theorem regionOk_spec {ops : Array Oper} (h : regionOk ops = true) : RegOk ops := by
  unfold regionOk at h
  simp only [Bool.and_eq_true] at h
  obtain ⟨h1, h2, h3, h4⟩ := h
  refine ⟨fun i j o o' d hi hj hd hd' => dstsOk_uniq _ _ h1 i j o o' d (by simpa using hi) (by simpa using hj) hd hd', fun i j oi oj d hi hj hd hm => ?_, fun j oj hj hk i oi hl hi hk' => ?_, fun j oj hj e he hb => ?_⟩
  · have := rowOk_spec _ 0 (pairsOk_spec _ 0 h2 i oi (by simpa using hi)) j oj d (by simpa using hj) hd hm
    simpa using this
  · have := anchorOk_spec _ 0 _ (anchorsOk_spec _ 0 h3 j oj (by simpa using hj) hk) i oi (by omega) (by simpa using hi) hk'
    simpa using this
  · have := edgesOk_spec _ 0 h4 j oj (by simpa using hj) e he hb
    omega

/-! ### Counting anchors -/
noncomputable def acnt (p : Nat → Bool) : List Oper → Nat → Nat
  | [], _ => 0
  | o :: os, i => (ifb (isAnchor o.op && p i) 1 0) + acnt p os (i + 1)
theorem anchorsIn_eq {mask : Nat} : ∀ (l : List Oper) (i : Nat), anchorsIn mask l i = acnt (Nat.testBit mask) l i
  | [], _ => rfl
  | o :: os, i => by show _ + anchorsIn mask os (i + 1) = _; rw [anchorsIn_eq os (i + 1)]; rfl
theorem anchorsFree_eq {m : Nat} {ds : List Nat} : ∀ (l : List Oper) (i : Nat), ds.length = i + l.length → anchorsFree m l (ds.drop i) = acnt (fun j => !(Nat.testBit (ds.getD j 0) m)) l i
  | [], i, h => by rw [show ds.drop i = [] from by simp at h; simp [h]]; rfl
  | o :: os, i, h => by
    have hl : i < ds.length := by simp at h; omega
    rw [List.drop_eq_getElem_cons hl]
    show (ifb (isAnchor o.op && !(Nat.testBit ds[i] m)) 1 0) + anchorsFree m os (ds.drop (i + 1)) = _
    rw [anchorsFree_eq os (i + 1) (by simp at h; omega)]
    show _ = (ifb (isAnchor o.op && !(Nat.testBit (ds.getD i 0) m)) 1 0) + _
    rw [show ds.getD i 0 = ds[i] from by simp [hl]]
theorem acnt_mono {p q : Nat → Bool} : ∀ (l : List Oper) (i : Nat), (∀ j o, l[j]? = some o → isAnchor o.op = true → p (i + j) = true → q (i + j) = true) → acnt p l i ≤ acnt q l i
  | [], _, _ => Nat.le_refl _
  | o :: os, i, h => by
    have h1 := acnt_mono os (i + 1) fun j o hj => by rw [show i + 1 + j = i + (j + 1) by omega]; exact h (j + 1) o (by simpa using hj)
    have h2 : ifb (isAnchor o.op && p i) 1 0 ≤ ifb (isAnchor o.op && q i) 1 0 := by
      have h0 := h 0 o rfl
      cases ha : isAnchor o.op with
      | false => exact Nat.le_refl _
      | true =>
        cases hp : p i with
        | false => exact Nat.zero_le _
        | true => rw [show q i = true from h0 ha hp]; exact Nat.le_refl _
    exact Nat.add_le_add h2 h1
theorem acnt_congr {p q : Nat → Bool} (l : List Oper) (i : Nat) (h : ∀ j o, l[j]? = some o → isAnchor o.op = true → p (i + j) = q (i + j)) : acnt p l i = acnt q l i :=
  Nat.le_antisymm (acnt_mono l i fun j o hj ha hp => by rw [← h j o hj ha]; exact hp) (acnt_mono l i fun j o hj ha hp => by rw [h j o hj ha]; exact hp)
theorem acnt_false : ∀ (l : List Oper) (i : Nat), acnt (fun _ => false) l i = 0
  | [], _ => rfl
  | o :: os, i => by show ifb (isAnchor o.op && false) 1 0 + acnt _ os (i + 1) = 0; rw [acnt_false os, Bool.and_false]; rfl
theorem acnt_succ (n : Nat) : ∀ (l : List Oper) (i j : Nat) (o : Oper), n = i + j → l[j]? = some o → acnt (fun x => Nat.blt x (n + 1)) l i = acnt (fun x => Nat.blt x n) l i + ifb (isAnchor o.op) 1 0
  | [], _, _, _, _, h => by cases h
  | x :: xs, i, 0, o, hn, h => by
    cases h
    have e1 : Nat.blt i (n + 1) = true := by rw [Nat.blt_eq]; omega
    have e2 : Nat.blt i n = false := by
      cases hb : Nat.blt i n with
      | false => rfl
      | true => rw [Nat.blt_eq] at hb; omega
    show ifb (isAnchor x.op && Nat.blt i (n + 1)) 1 0 + acnt _ xs (i + 1) = ifb (isAnchor x.op && Nat.blt i n) 1 0 + acnt _ xs (i + 1) + _
    rw [e1, e2, acnt_congr (q := fun _ => false) xs (i + 1), acnt_congr (p := fun x => Nat.blt x n) (q := fun _ => false) xs (i + 1), acnt_false]
    · simp [ifb]
    · intro j o _ _
      cases hb : Nat.blt (i + 1 + j) n with
      | false => rfl
      | true => rw [Nat.blt_eq] at hb; omega
    · intro j o _ _
      cases hb : Nat.blt (i + 1 + j) (n + 1) with
      | false => rfl
      | true => rw [Nat.blt_eq] at hb; omega
  | x :: xs, i, j + 1, o, hn, h => by
    have e1 : Nat.blt i (n + 1) = true := by rw [Nat.blt_eq]; omega
    have e2 : Nat.blt i n = true := by rw [Nat.blt_eq]; omega
    show ifb (isAnchor x.op && Nat.blt i (n + 1)) 1 0 + acnt _ xs (i + 1) = ifb (isAnchor x.op && Nat.blt i n) 1 0 + acnt _ xs (i + 1) + _
    rw [e1, e2, acnt_succ n xs (i + 1) j o (by omega) (by simpa using h)]
    omega
end PvL
