/-
 Part of the proof of CourseBests: what functions of the program and of the statement come to, walked by the rules. No condition beyond those in each theorem.
-/
import Derived.Test.YtpccafeedfpbaaaGreatUM
import Derived.Test.YtpccafeedfpbaaaGreatUN
import Derived.Test.YtpccafeedfpbaaaGreatUI
import Derived.Test.YtpccafeedfpbaaaGreatUK
section
open Go PvL Go.Proofs
set_option linter.unusedSimpArgs false
set_option linter.unusedVariables false
namespace Go.Proofs.YtpccafeedfpbaaaGreat.C
def updT (o : Option (List Nat × Int)) (y : List Nat × Int) : Option (List Nat × Int) := match o with | none => some y | some z => if y.2 < z.2 then some y else some z
noncomputable def tryF (s : Cr) : Nat -> List Nat -> Nat -> Int -> Nat -> Option (List Nat × Int) -> Option (List Nat × Int)
 | 0, l, fr, t, left, st => if left = 0 then updT st (l, t) else st
 | f + 1, l, fr, t, left, st => if left = 0 then updT st (l, t) else
  (shootsL s left).foldl (fun st c => match goF s (posR s fr, t) c with | none => st | some b => tryF s f (l ++ [c]) c b.2 (restN left (c / 2)) st) st
noncomputable def ordL (s : Cr) : Nat -> List Nat -> Nat -> Int -> Nat -> List (List Nat × Int)
 | 0, l, fr, t, left => if left = 0 then [(l, t)] else []
 | f + 1, l, fr, t, left => if left = 0 then [(l, t)] else
  (shootsL s left).flatMap fun c => match goF s (posR s fr, t) c with | none => [] | some b => ordL s f (l ++ [c]) c b.2 (restN left (c / 2))
theorem zdm {α β γ : Type} (h : α -> List β) (g : γ -> β -> γ) : ∀ (l : List α) (z : γ), (l.flatMap h).foldl g z = l.foldl (fun z a => (h a).foldl g z) z
 | [], z => rfl
 | a :: l, z => by rw [List.flatMap_cons, List.foldl_append, zdm h g l, List.foldl_cons]
theorem zdl {α β : Type} {g h : β -> α -> β} : ∀ {l : List α} {z : β}, (∀ z a, a ∈ l -> g z a = h z a) -> l.foldl g z = l.foldl h z
 | [], z, _ => rfl
 | a :: l, z, hh => by rw [List.foldl_cons, List.foldl_cons, hh z a (List.mem_cons_self ..), zdl fun z b hb => hh z b (List.mem_cons_of_mem _ hb)]
theorem zd1 (s : Cr) : ∀ (f : Nat) (l : List Nat) (fr : Nat) (t : Int) (left : Nat) (st : Option (List Nat × Int)), tryF s f l fr t left st = (ordL s f l fr t left).foldl updT st
 | 0, l, fr, t, left, st => by
  unfold tryF ordL
  split <;> rfl
 | f + 1, l, fr, t, left, st => by
  unfold tryF ordL
  split
  ·rfl
  ·rw [zdm]
   refine zdl fun z c _ => ?_
   cases goF s (posR s fr, t) c with
   | none => rfl
   | some b => exact zd1 s f _ _ _ _ _
theorem zba {s : Cr} : ∀ (f : Nat) (l : List Nat) (fr : Nat) (t : Int) (left : Nat) (y : List Nat × Int), y ∈ ordL s f l fr t left -> ∃ r z, y.1 = l ++ r /\ Cov s left r /\ runE s (posR s fr, t) r = some z /\ z.2 = y.2 := by
 intro f
 induction f with
 | zero =>
  intro l fr t left y hy
  unfold ordL at hy
  split at hy
  ·obtain rfl := List.mem_singleton.1 hy
   rename_i h
   exact ⟨[], _, (List.append_nil _).symm, h, rfl, rfl⟩
  ·cases hy
 | succ f ih =>
  intro l fr t left y hy
  unfold ordL at hy
  split at hy
  ·obtain rfl := List.mem_singleton.1 hy
   rename_i h
   exact ⟨[], _, (List.append_nil _).symm, h, rfl, rfl⟩
  ·obtain ⟨c, hc, hy⟩ := List.mem_flatMap.1 hy
   obtain ⟨hc1, hc2⟩ := zo.1 hc
   cases hg : goF s (posR s fr, t) c with
   | none => rw [hg] at hy; cases hy
   | some b =>
    rw [hg] at hy
    obtain ⟨r, z, h1, h2, h3, h4⟩ := ih _ _ _ _ _ hy
    refine ⟨c :: r, z, by rw [h1, List.append_assoc]; rfl, ⟨hc1, hc2, h2⟩, ?_, h4⟩
    show (match goF s (posR s fr, t) c with | none => none | some b => runE s (rchF s c b.2) r) = _
    rw [hg]
    have : rchF s c b.2 = (posR s c, b.2) := by unfold rchF posR; rw [if_pos hc1]
    dsimp only
    rw [this]; exact h3
theorem zk4 {s : Cr} (hs : CrOk s) {f : Nat} {l : List Nat} {fr : Nat} {t : Int} {left : Nat} {y : List Nat × Int} (h : y ∈ ordL s f l fr t left) : t <= y.2 := by
 obtain ⟨r, z, _, h2, h3, h4⟩ := zba _ _ _ _ _ _ h
 have := zi4 hs r _ _ (z6d _ _ h2) h3
 rw [<- h4]; exact this
theorem zh3 {α β : Type} (h : α -> List β) (p : β -> Bool) : ∀ (l : List α), (l.flatMap h).find? p = l.findSome? fun a => (h a).find? p
 | [] => rfl
 | a :: l => by
  rw [List.flatMap_cons, List.find?_append, List.findSome?_cons, zh3 h p l]
  cases (h a).find? p <;> rfl
theorem znw {α β : Type} {g h : α -> Option β} : ∀ {l : List α}, (∀ a ∈ l, g a = h a) -> l.findSome? g = l.findSome? h
 | [], _ => rfl
 | a :: l, hh => by rw [List.findSome?_cons, List.findSome?_cons, hh a (List.mem_cons_self ..), znw fun b hb => hh b (List.mem_cons_of_mem _ hb)]
theorem zku {α β γ : Type} (g : α -> Option β) (k : β -> γ) : ∀ (l : List α), (l.findSome? g).map k = l.findSome? fun a => (g a).map k
 | [] => rfl
 | a :: l => by
  rw [List.findSome?_cons, List.findSome?_cons]
  cases g a with
  | none => exact zku g k l
  | some b => rfl
theorem ze2 {s : Cr} (hs : CrOk s) {e : Int} : ∀ (f : Nat) (l : List Nat) (fr : Nat) (t : Int) (left : Nat), nextO s e f l (posR s fr, t) left = ((ordL s f l fr t left).find? fun y => decide (y.2 = e)).map (·.1)
 | 0, l, fr, t, left => by
  unfold nextO ordL
  split
  ·show (if t = e then some l else none) = _
   by_cases h : t = e
   ·rw [if_pos h, List.find?_cons_of_pos (by exact decide_eq_true h)]; rfl
   ·rw [if_neg h, List.find?_cons_of_neg (by simpa using h)]; rfl
  ·rfl
 | f + 1, l, fr, t, left => by
  unfold nextO ordL
  split
  ·show (if t = e then some l else none) = _
   by_cases h : t = e
   ·rw [if_pos h, List.find?_cons_of_pos (by exact decide_eq_true h)]; rfl
   ·rw [if_neg h, List.find?_cons_of_neg (by simpa using h)]; rfl
  ·rw [zh3, zku]
   refine znw fun c hc => ?_
   obtain ⟨hc1, hc2⟩ := zo.1 hc
   cases hg : goF s (posR s fr, t) c with
   | none => rfl
   | some b =>
    dsimp only
    split
    ·rename_i hlt
     rw [List.find?_eq_none.2]
     ·rfl
     ·intro y hy
      have := zk4 hs hy
      simp; omega
    ·have : rchF s c b.2 = (posR s c, b.2) := by unfold rchF posR; rw [if_pos hc1]
     rw [this]; exact ze2 hs f _ _ _ _
theorem zaq {e : Int} {x : List Nat × Int} (hx : x.2 = e) : ∀ {S : List (List Nat × Int)}, (∀ y ∈ S, e <= y.2) -> S.foldl updT (some x) = some x
 | [], _ => rfl
 | y :: S, h => by
  have h1 := h y (List.mem_cons_self ..)
  rw [List.foldl_cons]
  have : updT (some x) y = some x := if_neg (by omega)
  rw [this]; exact zaq hx fun z hz => h z (List.mem_cons_of_mem _ hz)
theorem z7x {e : Int} {x : List Nat × Int} : ∀ {S : List (List Nat × Int)} {o : Option (List Nat × Int)}, (∀ y, o = some y -> e < y.2) -> (∀ y ∈ S, e <= y.2) -> S.find? (fun y => decide (y.2 = e)) = some x -> S.foldl updT o = some x
 | [], o, _, _, h => by cases h
 | y :: S, o, ho, hS, h => by
  have h1 := hS y (List.mem_cons_self ..)
  have hS' : ∀ z ∈ S, e <= z.2 := fun z hz => hS z (List.mem_cons_of_mem _ hz)
  rw [List.foldl_cons]
  by_cases hy : y.2 = e
  ·rw [List.find?_cons_of_pos (by exact decide_eq_true hy)] at h
   cases h
   have : updT o x = some x := by
    cases o with
    | none => rfl
    | some z => have := ho z rfl; exact if_pos (by omega)
   rw [this]; exact zaq hy hS'
  ·rw [List.find?_cons_of_neg (by simpa using hy)] at h
   refine z7x (fun z hz => ?_) hS' h
   cases o with
   | none => cases hz; omega
   | some w =>
    have hw := ho w rfl
    have hz : (if y.2 < w.2 then some y else some w) = some z := hz
    split at hz <;> cases hz <;> omega
noncomputable def bestR (s : Cr) : Option (List Nat × Int) := tryF s (allN s) [] (2 * s.lines.length) 0 (allN s) none
theorem ziw {s : Cr} (hs : CrOk s) : allN s ≠ 0 := by
 unfold allN
 have h1 := hs.n1
 have : 2 ^ 1 <= 2 ^ s.lines.length := Nat.pow_le_pow_right (by omega) h1
 omega
theorem zbk (s : Cr) : startR s = (posR s (2 * s.lines.length), 0) := by unfold posR startR; rw [if_neg (by omega)]
theorem zkv {s : Cr} (hs : CrOk s) {y : List Nat × Int} (h : y ∈ ordL s (allN s) [] (2 * s.lines.length) 0 (allN s)) : 0 <= endB s /\ endB s <= y.2 := by
 obtain ⟨r, z, _, h2, h3, h4⟩ := zba _ _ _ _ _ _ h
 rw [<- zbk] at h3
 have := zer hs (l := r) (fun h0 => by rw [h0] at h2; exact ziw hs h2) h2 h3
 rw [<- h4]; exact this
theorem zep {s : Cr} (hs : CrOk s) (h : endB s < 0) : bestR s = none := by
 unfold bestR
 rw [zd1]
 cases hS : ordL s (allN s) [] (2 * s.lines.length) 0 (allN s) with
 | nil => rfl
 | cons y S =>
  have := zkv hs (y := y) (by rw [hS]; exact List.mem_cons_self ..)
  omega
theorem z7n {s : Cr} (hs : CrOk s) (h : 0 <= endB s) : ∃ r, nextO s (endB s) (allN s) [] (startR s) (allN s) = some r /\ bestR s = some (r, endB s) /\ r.length = s.lines.length := by
 obtain ⟨r, y, h1, h2, h3, h4⟩ := zeq hs h
 refine ⟨r, h1, ?_, (zmh hs h2).2.1⟩
 rw [zbk, ze2 hs] at h1
 obtain ⟨w, hw, hw2⟩ := Option.map_eq_some_iff.1 h1
 unfold bestR
 rw [zd1]
 have he := List.find?_some hw
 have he : w.2 = endB s := of_decide_eq_true he
 have : w = (r, endB s) := Prod.ext hw2 he
 rw [this] at hw
 exact z7x (e := endB s) (fun y hy => by cases hy) (fun y hy => (zkv hs hy).2) hw
end Go.Proofs.YtpccafeedfpbaaaGreat.C
end
section
open Go PvL Go.Proofs
set_option linter.unusedVariables false
set_option linter.unusedSimpArgs false
namespace Go.Proofs.YtpccafeedfpbaaaGreat.C
def FrV (b : Nat) (M : Mem) (v : LV) (l : List Nat) : Prop := ∃ i f, v = .slice (some (i, 0)) l.length f 2 /\ At M i (.cells true (l.flatMap shcc) 50) /\ b <= i /\ (f = true -> l = [])
section
variable {P : Program} [Orc P] {sz : Nat} {E : Env} {M : Mem} {K : Env -> Mem -> Prop} {ll : List XG} {d : Nat} {g : Option (Nat × Bool)} {s x : XO}
theorem zmq {b n eo : Nat} {ao : Option (Nat × Nat)} {fo : Bool} {l : List Nat} (hg : GOn E g) (hs : xval E s = some (.slice (some (n, 0)) 0 true 2)) (ha : At M n (.cells true [] 50)) (hb : b <= n) (hx : xval E x = some (.slice ao l.length fo eo)) (hl : SlA 2 shcc M ao l) (hlen : l.length <= 100)
  (hk : ∀ v' M', FrV b M' v' l -> Grow M M' -> M.next <= M'.next -> XW P sz ll ((d, v') :: E) M' K) : XW P sz (⟨some d, .app 50 2 16 [I 0, I 0] s x, g⟩ :: ll) E M K := by
 by_cases h0 : l = []
 ·subst h0
  exact zii hg (z8j hs hx rfl) (hk _ M ⟨n, true, rfl, ha, hb, fun _ => rfl⟩ (Grow.refl _) (Nat.le_refl _))
 ·have h1 : 0 < l.length := List.length_pos_iff.2 h0
  have hw : firstL 2 l.length (.slice ao l.length fo eo) M = some (l.flatMap shcc) := z78 hl (fun _ _ => rfl) h1
  refine z2n hg hs hx rfl h1 (by omega) rfl (old := []) rfl hw (zy (fun x _ => rfl)) (.inr rfl) fun m M' hn hm hnx => ?_
  rw [Nat.zero_add]
  have := ha.2
  exact hk _ M' ⟨m, false, rfl, At.new_same hn, by omega, fun h => by cases h⟩ hn.grow (by omega)
theorem zpt {b n c : Nat} {v : LV} {l : List Nat} (hg : GOn E g) (hs : xval E s = some v) (hv : FrV b M v l) (hx : xval E x = some (.slice (some (n, 0)) 1 true 2)) (ha : At M n (.cells true (shcc c) 50)) (hbM : b <= M.next) (hlen : l.length <= 100)
  (hk : ∀ v' M', FrV b M' v' (l ++ [c]) -> Keep (fun i => b <= i) M M' -> M.next <= M'.next -> XW P sz ll ((d, v') :: E) M' K) : XW P sz (⟨some d, .app 50 2 16 [I 0, I 0] s x, g⟩ :: ll) E M K := by
 have hw : firstL 2 1 (.slice (some (n, 0)) 1 true 2) M = some ([c].flatMap shcc) := zm (enc := shcc) (l := [c]) (fun _ _ => rfl) (fun k hk => zl (enc := shcc) (l := [c]) ha (fun _ _ => rfl) hk)
 obtain ⟨i, f, rfl, ai, hbi, hf⟩ := hv
 cases f with
 | true =>
  obtain rfl := hf rfl
  refine z2n hg hs hx rfl (by decide) (by simp) rfl (old := []) rfl hw (zy (fun x _ => rfl)) (.inr rfl) fun m M' hn hm hnx => ?_
  exact hk _ M' ⟨m, false, rfl, At.new_same hn, by omega, fun h => by cases h⟩ (hn.grow.to_keep _) (by omega)
 | false =>
  refine z1b hg (l' := [c]) (b := b) (enc := shcc) (l := l) (.inr ⟨i, rfl, ai, hbi⟩) hs hx rfl (by simp) (by rw [List.length_singleton]; omega) rfl hw (fun _ => rfl) (fun _ => rfl) hbM fun v' M' hv' hnx hk' => ?_
  rcases hv' with ⟨h1, _⟩ | ⟨j, h1, h2, h3⟩
  ·simp at h1
  ·exact hk v' M' ⟨j, false, h1, h2, h3, fun h => by cases h⟩ ⟨hk'.le, fun k hk1 hk2 => hk'.old k hk1 (fun h => hk2 h.1)⟩ hk'.le
end
end Go.Proofs.YtpccafeedfpbaaaGreat.C
end
section
open Go PvL Go.Proofs
set_option linter.unusedSimpArgs false
set_option linter.unusedVariables false
namespace Go.Proofs.YtpccafeedfpbaaaGreat.C
theorem zb6 : ∀ (a b : List Nat), a.Nodup -> (∀ x ∈ a, x ∈ b) -> a.length <= b.length
 | [], b, _, _ => Nat.zero_le _
 | x :: a, b, hn, hs => by
  have hx := hs x (List.mem_cons_self ..)
  obtain ⟨h1, h2⟩ := List.nodup_cons.1 hn
  have := zb6 a (b.erase x) h2 (fun y hy => (List.mem_erase_of_ne (fun e => h1 (by rw [<- e]; exact hy))).2 (hs y (List.mem_cons_of_mem _ hy)))
  rw [List.length_erase_of_mem hx] at this
  have h3 := List.length_pos_of_mem hx
  rw [List.length_cons]; omega
structure Us (s : Cr) (l : List Nat) (left : Nat) : Prop where
 nd : (l.map (· / 2)).Nodup
 lt : ∀ c ∈ l, c < 2 * s.lines.length
 le : left < 2 ^ s.lines.length
 bit : ∀ k, left.testBit k = true ↔ k < s.lines.length /\ k ∉ l.map (· / 2)
theorem Us.len {s : Cr} {l : List Nat} {left : Nat} (h : Us s l left) : l.length <= s.lines.length := by
 have := z1h s.lines.length (l.map (· / 2)) h.nd (fun k hk => by
  obtain ⟨c, hc, rfl⟩ := List.mem_map.1 hk
  have := h.lt c hc
  omega)
 rw [List.length_map] at this; exact this
theorem Us.zero {s : Cr} {l : List Nat} {left : Nat} (h : Us s l left) : l.length = s.lines.length ↔ left = 0 := by
 constructor
 ·intro hl
  refine Classical.byContradiction fun h0 => ?_
  obtain ⟨k, hk⟩ := Nat.exists_testBit_of_ne_zero h0
  obtain ⟨h1, h2⟩ := (h.bit k).1 hk
  have := z1h s.lines.length (k :: l.map (· / 2)) (List.nodup_cons.2 ⟨h2, h.nd⟩) (fun j hj => by
   rcases List.mem_cons.1 hj with rfl | hj
   ·exact h1
   ·obtain ⟨c, hc, rfl⟩ := List.mem_map.1 hj
    have := h.lt c hc
    omega)
  rw [List.length_cons, List.length_map] at this
  omega
 ·rintro rfl
  have hall : ∀ k, k < s.lines.length -> k ∈ l.map (· / 2) := fun k hk => Classical.byContradiction fun hn => by
   have := (h.bit k).2 ⟨hk, hn⟩
   rw [Nat.zero_testBit] at this; cases this
  have h1 := h.len
  have h2 : (List.range s.lines.length).length <= (l.map (· / 2)).length := zb6 _ _ List.nodup_range (fun k hk => hall k (List.mem_range.1 hk))
  rw [List.length_range, List.length_map] at h2
  omega
theorem Us.step {s : Cr} {l : List Nat} {left c : Nat} (hn : s.lines.length <= 5) (h : Us s l left) (hc : c < 2 * s.lines.length) (hb : left.testBit (c / 2) = true) : Us s (l ++ [c]) (restN left (c / 2)) := by
 have hp2 : 2 ^ s.lines.length <= 32 := Nat.pow_le_pow_right (n := 2) (by omega) hn
 have hle := h.le
 have hbc := ((h.bit _).1 hb).2
 refine ⟨?_, fun d hd => ?_, Nat.lt_of_le_of_lt zcv h.le, fun k => ?_⟩
 ·rw [List.map_append, List.nodup_append]
  refine ⟨h.nd, by simp, fun a ha b hb2 => ?_⟩
  simp at hb2
  subst hb2
  rintro rfl
  exact hbc ha
 ·rcases List.mem_append.1 hd with hd | hd
  ·exact h.lt d hd
  ·obtain rfl := List.mem_singleton.1 hd; exact hc
 ·rw [z0u (by omega) (by omega), Bool.and_eq_true, h.bit, List.map_append, List.mem_append]
  simp
  constructor
  ·rintro ⟨⟨h1, h2⟩, h3⟩
   exact ⟨h1, h2, fun e => h3 e.symm⟩
  ·rintro ⟨h1, h2, h3⟩
   exact ⟨⟨h1, h2⟩, fun e => h3 e.symm⟩
theorem Us.init (s : Cr) : Us s [] (allN s) := ⟨List.nodup_nil, fun c hc => (by cases hc), zd4 s, fun k => by
 unfold allN
 rw [Nat.testBit_two_pow_sub_one, decide_eq_true_iff]
 exact ⟨fun h => ⟨h, by simp⟩, fun h => h.1⟩⟩
theorem Us.any {s : Cr} {l : List Nat} {left c : Nat} (h : Us s l left) (hc : c / 2 < s.lines.length) : (l.any fun d => decide (d / 2 = c / 2)) = !(left.testBit (c / 2)) := by
 cases hb : left.testBit (c / 2) with
 | true =>
  rw [Bool.not_true, List.any_eq_false]
  intro d hd he
  exact ((h.bit _).1 hb).2 (List.mem_map.2 ⟨d, hd, of_decide_eq_true he⟩)
 | false =>
  rw [Bool.not_false, List.any_eq_true]
  have : c / 2 ∈ l.map (· / 2) := Classical.byContradiction fun hn => by rw [(h.bit _).2 ⟨hc, hn⟩] at hb; cases hb
  obtain ⟨d, hd, e⟩ := List.mem_map.1 this
  exact ⟨d, hd, decide_eq_true e⟩
abbrev fnc (A : CrA) (s : Cr) (aC : Option (Nat × Nat)) (fC : Bool) (u : LV) (te : Int) (fd : Bool) : List LV := [.slice A.aL s.lines.length A.fL 4, .slice A.aF s.fields.length A.fF A.eF, .slice A.aB s.buoys.length A.fB 2, I s.spread.1.1, I s.spread.1.2, I s.spread.2.1.1, I s.spread.2.1.2, I s.spread.2.2.1.1, I s.spread.2.2.1.2, I s.spread.2.2.2.1, I s.spread.2.2.2.2,
 I s.start.1.1, I s.start.1.2, I s.start.2, I s.speed, I s.turn, .slice A.aO s.opn.length A.fO 1, .slice aC (2 * s.lines.length + 1) fC 1, u, I te, .bool fd]
def FndV (b0 : Nat) (M : Mem) (u : LV) (te : Int) (fd : Bool) (st : Option (List Nat × Int)) : Prop := match st with
 | none => fd = false /\ ∃ a n f e, u = .slice a n f e
 | some y => fd = true /\ te = y.2 /\ ∃ p f, u = .slice (some (p, 0)) y.1.length f 2 /\ At M p (.cells true (y.1.flatMap shcc) 50) /\ b0 <= p
theorem FndV.shape {b0 : Nat} {M : Mem} {u : LV} {te : Int} {fd : Bool} {st : Option (List Nat × Int)} (h : FndV b0 M u te fd st) : ∃ a n f e, u = .slice a n f e := by
 cases st with
 | none => exact h.2
 | some y => obtain ⟨_, _, p, f, h, _⟩ := h; exact ⟨_, _, _, _, h⟩
theorem FndV.keep {b0 : Nat} {M M' : Mem} {u : LV} {te : Int} {fd : Bool} {st : Option (List Nat × Int)} {F : Nat -> Prop} (h : FndV b0 M u te fd st) (hk : Keep F M M') (hF : ∀ i cs, At M i (.cells true cs 50) -> ¬ F i) : FndV b0 M' u te fd st := by
 cases st with
 | none => exact h
 | some y =>
  obtain ⟨h1, h2, p, f, h3, h4, h5⟩ := h
  exact ⟨h1, h2, p, f, h3, h4.keep hk (hF _ _ h4), h5⟩
def FndM (b0 : Nat) (M : Mem) (nF : Nat) (A : CrA) (s : Cr) (aC : Option (Nat × Nat)) (fC : Bool) (st : Option (List Nat × Int)) : Prop := ∃ u te fd, At M nF (.cells true (fnc A s aC fC u te fd) 137) /\ FndV b0 M u te fd st
theorem FndM.keep {b0 nF : Nat} {M M' : Mem} {A : CrA} {s : Cr} {aC : Option (Nat × Nat)} {fC : Bool} {st : Option (List Nat × Int)} {F : Nat -> Prop} (h : FndM b0 M nF A s aC fC st) (hk : Keep F M M') (hF : ∀ i, i < M.next -> ¬ F i) : FndM b0 M' nF A s aC fC st := by
 obtain ⟨u, te, fd, h1, h2⟩ := h
 exact ⟨u, te, fd, h1.keep hk (hF _ h1.2), h2.keep hk fun i cs hi => hF _ hi.2⟩
theorem zee {s : Cr} {f : Nat} {l : List Nat} {fr : Nat} {t : Int} {st : Option (List Nat × Int)} : tryF s f l fr t 0 st = updT st (l, t) := by
 cases f <;> exact if_pos rfl
set_option maxHeartbeats 8000000 in
theorem z7q {A : CrA} {s : Cr} {aC : Option (Nat × Nat)} {fC : Bool} {nF b0 fr : Nat} {t : Int} {l : List Nat} {st : Option (List Nat × Int)} {ao : Option (Nat × Nat)} {fo : Bool} {eo : Nat} {M : Mem} (hs : CrOk s) (hl : l.length = s.lines.length) (hF : FndM b0 M nF A s aC fC st) (ho : SlA 2 shcc M ao l) (hb : b0 <= M.next) :
  CallOk Tryz.prog 67 [.ptr (some (nF, 0)), .slice ao l.length fo eo, I fr, I t] M (fun v M' => Keep (fun i => i = nF) M M' /\ FndM b0 M' nF A s aC fC (updT st (l, t))) := by
 have hn5 := hs.n5
 obtain ⟨u, te, fd, aF, hV⟩ := hF
 obtain ⟨ua, un, uf, ue, rfl⟩ := hV.shape
 have lF := aF.2
 refine z6 kq67 rfl ?_
 dsimp only [xq67, qm, qf, ql, qL, qi, qc, qn, qB, qC, qg, qS, qo, qq, qZ, zipE, Nat.reduceAdd]
 cases st with
 | none =>
  obtain ⟨rfl, _⟩ := hV
  (repeat' first|with_reducible intro _|refine sv ?_|refine sc ?_ ?_<;>(intro h;try exact sz h)|refine sg ?_ ?_<;>(intro h;first|exact sz h|refine sy h ?_)|exact sq|fail)
  all_goals try (exfalso; omega)
  rename_i n38 M1 hn38 e1 e2
  have ho1 := ho.grow hn38.grow
  have aF1 := aF.grow hn38.grow
  have hg1 := hn38.grow
  refine zmq (b := b0) (by exact gd) rfl (At.new_same hn38) (by omega) rfl ho1 (by omega) ?_
  intro v' M2 hv' hg2 le2
  obtain ⟨i, f, rfl, ai, hbi, _⟩ := hv'
  have aF2 := aF1.grow hg2
  have hgs2 : Grow M M2 /\ True := ⟨hg1.trans hg2, trivial⟩
  have hiF : i ≠ nF := fun h => absurd (z3n ai (h ▸ aF2)) (by decide)
  clear hg1 hg2 hn38
  (repeat' first|with_reducible intro _|refine sv ?_|refine sc ?_ ?_<;>(intro h;try exact sz h)|refine sg ?_ ?_<;>(intro h;first|exact sz h|refine sy h ?_)|exact sq|fail)
  rename_i M3 hu3 e3 a3 M4 hu4 e4 a4 M5 hu5 e5 a5
  have hk5 : Keep (fun i => i = nF) M M5 := ((((Keep.refl (fun i => i = nF) M).grow hgs2.1).upd hu3 (.inl rfl)).upd hu4 (.inl rfl)).upd hu5 (.inl rfl)
  (refine kf ?_)
  exact ⟨hk5, by skip; exact ⟨_, _, _, a5, rfl, rfl, i, f, rfl, ((ai.upd_ne hu3 hiF).upd_ne hu4 hiF).upd_ne hu5 hiF, hbi⟩⟩
 | some y =>
  have hV' := hV
  obtain ⟨rfl, rfl, p, f, _, hp, hpb⟩ := hV
  by_cases hlt : t < y.2
  ·have hres : updT (some y) (l, t) = some (l, t) := if_pos hlt
   generalize y.2 = yt at *
   (repeat' first|with_reducible intro _|refine sv ?_|refine sc ?_ ?_<;>(intro h;try exact sz h)|refine sg ?_ ?_<;>(intro h;first|exact sz h|refine sy h ?_)|exact sq|fail)
   all_goals try (exfalso; omega)
   rename_i n38 M1 hn38 e1 e2
   have ho1 := ho.grow hn38.grow
   have aF1 := aF.grow hn38.grow
   have hg1 := hn38.grow
   refine zmq (b := b0) (by exact gd) rfl (At.new_same hn38) (by omega) rfl ho1 (by omega) ?_
   intro v' M2 hv' hg2 le2
   obtain ⟨i, f, rfl, ai, hbi, _⟩ := hv'
   have aF2 := aF1.grow hg2
   have hgs2 : Grow M M2 /\ True := ⟨hg1.trans hg2, trivial⟩
   have hiF : i ≠ nF := fun h => absurd (z3n ai (h ▸ aF2)) (by decide)
   clear hg1 hg2 hn38
   (repeat' first|with_reducible intro _|refine sv ?_|refine sc ?_ ?_<;>(intro h;try exact sz h)|refine sg ?_ ?_<;>(intro h;first|exact sz h|refine sy h ?_)|exact sq|fail)
   rename_i M3 hu3 e3 a3 M4 hu4 e4 a4 M5 hu5 e5 a5
   have hk5 : Keep (fun i => i = nF) M M5 := ((((Keep.refl (fun i => i = nF) M).grow hgs2.1).upd hu3 (.inl rfl)).upd hu4 (.inl rfl)).upd hu5 (.inl rfl)
   (refine kf ?_)
   exact ⟨hk5, by rw [hres]; exact ⟨_, _, _, a5, rfl, rfl, i, f, rfl, ((ai.upd_ne hu3 hiF).upd_ne hu4 hiF).upd_ne hu5 hiF, hbi⟩⟩
  ·have hres : updT (some y) (l, t) = some y := if_neg hlt
   rw [hres]
   generalize hy : y.2 = yt at *
   (repeat' first|with_reducible intro _|refine sv ?_|refine sc ?_ ?_<;>(intro h;try exact sz h)|refine sg ?_ ?_<;>(intro h;first|exact sz h|refine sy h ?_)|exact sq|fail)
   all_goals try (exfalso; omega)
   (refine kf ?_)
   exact ⟨Keep.refl _ _, _, _, _, aF, hV'⟩
noncomputable def stepT (s : Cr) (f : Nat) (l : List Nat) (fr : Nat) (t : Int) (left : Nat) (st : Option (List Nat × Int)) (c : Nat) : Option (List Nat × Int) := match goF s (posR s fr, t) c with | none => st | some b => tryF s f (l ++ [c]) c b.2 (restN left (c / 2)) st
noncomputable def accT (s : Cr) (f : Nat) (l : List Nat) (fr : Nat) (t : Int) (left : Nat) (st : Option (List Nat × Int)) (j : Nat) : Option (List Nat × Int) := ((List.range j).filter fun c => left.testBit (c / 2)).foldl (stepT s f l fr t left) st
theorem ziv {s : Cr} {f : Nat} {l : List Nat} {fr : Nat} {t : Int} {left : Nat} {st : Option (List Nat × Int)} {j : Nat} : accT s f l fr t left st (j + 1) = if left.testBit (j / 2) = true then stepT s f l fr t left (accT s f l fr t left st j) j else accT s f l fr t left st j := by
 unfold accT
 rw [List.range_succ, List.filter_append, List.foldl_append]
 cases h : left.testBit (j / 2) <;> simp [h]
theorem zml {s : Cr} {f : Nat} {l : List Nat} {fr : Nat} {t : Int} {left : Nat} {st : Option (List Nat × Int)} (h : left ≠ 0) : tryF s (f + 1) l fr t left st = accT s f l fr t left st (2 * s.lines.length) := by
 show (if left = 0 then _ else _) = _
 rw [if_neg h]; rfl
theorem SlA.keepO {α : Type} {q : Nat} {enc : α -> List LV} {M M' : Mem} {a : Option (Nat × Nat)} {l : List α} {F : Nat -> Prop} (h : SlA q enc M a l) (hk : Keep F M M') (hF : ∀ i o, a = some (i, o) -> ¬ F i) : SlA q enc M' a l :=
 h.imp id fun ⟨i, o, h1, h2⟩ => ⟨i, o, h1, fun k hk' => (h2 k hk').keep hk (hF i o h1)⟩
set_option maxHeartbeats 32000000 in
theorem zp6 {A : CrA} {s : Cr} {aC : Option (Nat × Nat)} {fC : Bool} {nF b0 : Nat} {MB : Mem} (hs : CrOk s) (hco : CoM MB A s aC) (hnF : MB.next <= nF) : ∀ (f : Nat) (M : Mem) (l : List Nat) (fr : Nat) (t : Int) (left : Nat) (st : Option (List Nat × Int)) (ao : Option (Nat × Nat)) (fo : Bool) (eo : Nat),
  left <= f -> Us s l left -> Grow MB M -> FndM b0 M nF A s aC fC st -> SlA 2 shcc M ao l -> (∀ i o, ao = some (i, o) -> i ≠ nF) -> fr <= 2 * s.lines.length -> (0 <= t /\ t <= 1048576) -> b0 <= M.next ->
  CallOk Tryz.prog 67 [.ptr (some (nF, 0)), .slice ao l.length fo eo, I fr, I t] M (fun v M' => Keep (fun i => i = nF) M M' /\ FndM b0 M' nF A s aC fC (tryF s f l fr t left st)) := by
 have hn5 := hs.n5
 intro f
 induction f with
 | zero =>
  intro M l fr t left st ao fo eo hle hU hgB hF ho hne hfr ht hb
  obtain rfl : left = 0 := by omega
  rw [zee]
  exact z7q hs (hU.zero.2 rfl) hF ho hb
 | succ f ih =>
  intro M l fr t left st ao fo eo hle hU hgB hF ho hne hfr ht hb
  by_cases h0 : left = 0
  ·subst h0
   rw [zee]
   exact z7q hs (hU.zero.2 rfl) hF ho hb
  have hll : l.length ≠ s.lines.length := fun h => h0 (hU.zero.1 h)
  have hlb := hU.len
  rw [zml h0]
  have hF0 := hF
  obtain ⟨u, te, fd, aF, hV⟩ := hF
  obtain ⟨ua, un, uf, ue, rfl⟩ := hV.shape
  have lF := aF.2
  refine z6 kq67 rfl ?_
  dsimp only [xq67, qm, qf, ql, qL, qi, qc, qn, qB, qC, qg, qS, qo, qq, qZ, zipE, Nat.reduceAdd]
  (repeat' first|with_reducible intro _|refine sv ?_|refine sc ?_ ?_<;>(intro h;try exact sz h)|refine sg ?_ ?_<;>(intro h;first|exact sz h|refine sy h ?_)|exact sq|fail)
  all_goals try (exfalso; omega)
  refine zc (fun n E ms M' => ∃ j : Nat, n = 2 * s.lines.length - j /\ j <= 2 * s.lines.length /\ ms = [] /\ Has E [(0, .ptr (some (nF, 0))), (1, .slice ao l.length fo eo), (2, I fr), (3, I t), (8, I j)] /\ Keep (fun i => i = nF) M M' /\ FndM b0 M' nF A s aC fC (accT s f l fr t left st j)) ?_ (2 * s.lines.length) _ _ _
   ⟨0, by omega, by omega, rfl, .cons rfl (.cons rfl (.cons rfl (.cons rfl (.cons rfl .nil)))), Keep.refl _ _, hF0⟩
  clear aF hV hF0
  rintro n E ms M5 ⟨j, rfl, hj, rfl, hE, hk5, hF5⟩
  refine zz hE ?_
  have hF5' := hF5
  obtain ⟨u5, te5, fd5, aF5, hV5⟩ := hF5
  obtain ⟨ua5, un5, uf5, ue5, rfl⟩ := hV5.shape
  have l5 := aF5.2
  have le5 := hk5.le
  by_cases hlast : j = 2 * s.lines.length
  ·subst hlast
   (repeat' first|with_reducible intro _|refine sv ?_|refine sc ?_ ?_<;>(intro h;try exact sz h)|refine sg ?_ ?_<;>(intro h;first|exact sz h|refine sy h ?_)|exact sq|fail)
   (refine kf ?_)
   exact ⟨hk5, hF5'⟩
  have hjlt : j < 2 * s.lines.length := by omega
  have hj2 : ((j / 2 : Nat) : Int) = (j : Int) / 2 := by omega
  have ho5 := ho.keepO hk5 hne
  have hgB5 : Grow MB M5 /\ True := ⟨Keep.to_grow' hgB hk5 (fun i hi => by omega), trivial⟩
  have hks : Keep (fun i => i = nF) M M5 /\ True := ⟨hk5, trivial⟩
  clear hk5
  (repeat' first|with_reducible intro _|refine sv ?_|refine sc ?_ ?_<;>(intro h;try exact sz h)|refine sg ?_ ?_<;>(intro h;first|exact sz h|refine sy h ?_)|exact sq|fail)
  refine zc (fun n E ms M' => ∃ i : Nat, n = l.length - i /\ i <= l.length /\ ms = [] /\ Has E [(0, .ptr (some (nF, 0))), (1, .slice ao l.length fo eo), (2, I fr), (3, I t), (8, I j), (9, .bool ((l.take i).any fun d => decide (d / 2 = j / 2))), (10, I i)] /\ M' = M5) ?_ l.length _ _ _
   ⟨0, by omega, by omega, rfl, .cons rfl (.cons rfl (.cons rfl (.cons rfl (.cons rfl (.cons rfl (.cons rfl .nil)))))), rfl⟩
  clear hE
  rintro n E ms M6 ⟨i, rfl, hi, rfl, hE, rfl⟩
  refine zz hE ?_
  by_cases hil : i < l.length
  ·obtain ⟨io, oo, rfl, hr⟩ := ho5.resolve_left (fun h => by rw [h] at hil; simp at hil)
   have rO : Rd1 M6 io (oo + i * 2 + 0) (I (l[i] / 2 : Nat)) := (hr i hil).nth (j := 0) rfl
   have liO := (hr i hil).2
   have hnew : ((l.take (i + 1)).any fun d => decide (d / 2 = j / 2)) = ((l.take i).any (fun d => decide (d / 2 = j / 2)) || decide (l[i] / 2 = j / 2)) := by
    rw [List.take_succ_eq_append_getElem hil, List.any_append]; simp
   have hd : decide (((l[i] / 2 : Nat) : Int) = (j : Int) / 2) = decide (l[i] / 2 = j / 2) := decide_eq_decide.2 (by omega)
   generalize hy : l[i] = y at *
   cases hu : (l.take i).any fun d => decide (d / 2 = j / 2) with
   | true =>
    rw [hu] at hnew
    (have hrd0 := rO;repeat' first|with_reducible intro _|refine sv ?_|refine sc ?_ ?_<;>(intro h;try exact sz h)|refine sg ?_ ?_<;>(intro h;first|exact sz h|refine sy h ?_)|exact sq|fail)
    all_goals try (exfalso; omega)
    refine zh (l.length - (i + 1)) (by omega) ⟨i + 1, rfl, by omega, rfl, .cons rfl (.cons rfl (.cons rfl (.cons rfl (.cons rfl (.cons (by rw [hnew]; rfl) (.cons rfl .nil)))))), rfl⟩
   | false =>
    rw [hu, Bool.false_or, <- hd] at hnew
    (have hrd0 := rO;repeat' first|with_reducible intro _|refine sv ?_|refine sc ?_ ?_<;>(intro h;try exact sz h)|refine sg ?_ ?_<;>(intro h;first|exact sz h|refine sy h ?_)|exact sq|fail)
    all_goals try (exfalso; omega)
    refine zh (l.length - (i + 1)) (by omega) ⟨i + 1, rfl, by omega, rfl, .cons rfl (.cons rfl (.cons rfl (.cons rfl (.cons rfl (.cons (by rw [hnew]; rfl) (.cons rfl .nil)))))), rfl⟩
  obtain rfl : i = l.length := by omega
  rw [List.take_length, hU.any (show j / 2 < s.lines.length by omega)]
  have hsucc := ziv (s := s) (f := f) (l := l) (fr := fr) (t := t) (left := left) (st := st) (j := j)
  cases hb2 : left.testBit (j / 2) with
  | false =>
   rw [hb2, if_neg (by decide)] at hsucc
   (repeat' first|with_reducible intro _|refine sv ?_|refine sc ?_ ?_<;>(intro h;try exact sz h)|refine sg ?_ ?_<;>(intro h;first|exact sz h|refine sy h ?_)|exact sq|fail)
   all_goals try (exfalso; omega)
   refine zh (2 * s.lines.length - (j + 1)) (by omega) ⟨j + 1, rfl, by omega, rfl, .cons rfl (.cons rfl (.cons rfl (.cons rfl (.cons rfl .nil)))), hks.1, by rw [hsucc]; exact hF5'⟩
  | true =>
   rw [hb2, if_pos rfl] at hsucc
   have hon := fun M' (hg : Grow M6 M') => zp5 (A := A) (s := s) (aC := aC) (fC := fC) (fr := fr) (to := j) (t := t) hs (hco.grow (hgB5.1.trans hg)) hfr hjlt (by omega)
   have honR : onR s fr t j = match goF s (posR s fr, t) j with | some b => b.2 | none => -1 := rfl
   unfold stepT at hsucc
   cases hgf : goF s (posR s fr, t) j with
   | none =>
    rw [hgf] at hsucc honR
    have honR : onR s fr t j = -1 := honR
    rw [honR] at hon
    (repeat' first|with_reducible intro _|refine sv ?_|refine sc ?_ ?_<;>(intro h;try exact sz h)|(with_reducible first|apply za|apply z8|apply z5);exact gd;exact rfl;exact rfl;exact hon _ (xg)|refine sg ?_ ?_<;>(intro h;first|exact sz h|refine sy h ?_)|exact sq|fail)
    all_goals try (exfalso; omega)
    rename_i M7 hg7 e7
    refine zh (2 * s.lines.length - (j + 1)) (by omega) ⟨j + 1, rfl, by omega, rfl, .cons rfl (.cons rfl (.cons rfl (.cons rfl (.cons rfl .nil)))), hks.1.grow hg7, by rw [hsucc]; exact hF5'.keep (hg7.to_keep (fun _ => False)) (fun _ _ h => h)⟩
   | some b =>
    rw [hgf] at hsucc honR
    have hgb := zar hs (z2b hjlt) hgf
    have honR : onR s fr t j = b.2 := honR
    rw [honR] at hon
    (repeat' first|with_reducible intro _|refine sv ?_|refine sc ?_ ?_<;>(intro h;try exact sz h)|(with_reducible first|apply za|apply z8|apply z5);exact gd;exact rfl;exact rfl;exact hon _ (xg)|refine sg ?_ ?_<;>(intro h;first|exact sz h|refine sy h ?_)|exact sq|fail)
    all_goals try (exfalso; omega)
    rename_i M7 hg7 e7 n89 M8 hn89 e8 e9
    have hsucc : accT s f l fr t left st (j + 1) = tryF s f (l ++ [j]) j b.2 (restN left (j / 2)) (accT s f l fr t left st j) := hsucc
    have hg68 : Grow M6 M8 := hg7.trans hn89.grow
    refine zmq (b := M7.next) (by exact gd) rfl (At.new_same hn89) (by omega) rfl (ho5.grow hg68) (by omega) ?_
    intro v9 M9 hv9 hg89 le9
    have hgs69 : Grow M6 M9 /\ True := ⟨hg68.trans hg89, trivial⟩
    have le69 := hgs69.1.le
    clear hg7 hg68 hg89 hn89
    obtain ⟨i9, f9, rfl, a9, hb9, hff⟩ := hv9
    (repeat' first|with_reducible intro _|refine sv ?_|refine sc ?_ ?_<;>(intro h;try exact sz h)|refine sg ?_ ?_<;>(intro h;first|exact sz h|refine sy h ?_)|exact sq|fail)
    rename_i n97 M10 hn97 e10 e11
    have hg610 : Grow M6 M10 := hgs69.1.trans hn97.grow
    have hc97 : At M10 n97 (.cells true (shcc j) 50) := by
     have := At.new_same hn97
     show At M10 n97 (.cells true [I ((j / 2 : Nat) : Int), I ((j % 2 : Nat) : Int)] 50)
     rw [show ((j / 2 : Nat) : Int) = (j : Int) / 2 from hj2, show ((j % 2 : Nat) : Int) = (j : Int) % 2 by omega]
     exact this
    refine zpt (b := M7.next) (c := j) (by exact gd) rfl ⟨i9, f9, rfl, a9.grow hn97.grow, hb9, hff⟩ rfl hc97 (by omega) (by omega) ?_
    intro v11 M11 hv11 hk11 le11
    have hg611 : Grow M6 M11 := Keep.to_grow' hg610 hk11 (fun i hi => by omega)
    obtain ⟨i11, f11, rfl, a11, hb11, _⟩ := hv11
    have hst11 := hF5'.keep (hg611.to_keep (fun _ => False)) (fun _ _ h => h)
    have hch := ih M11 (l ++ [j]) j b.2 (restN left (j / 2)) _ (some (i11, 0)) f11 2 (by have := z4t hb2; omega) (hU.step hn5 hjlt hb2) (hgB5.1.trans hg611) hst11
     (.inr ⟨i11, 0, rfl, fun k hk => zl a11 (fun _ _ => rfl) hk⟩) (fun i o h => by cases h; omega) (by omega) (by omega) (by omega)
    have hgs11 : Grow M6 M11 /\ True := ⟨hg611, trivial⟩
    clear hg610 hg611 hn97 hk11 hst11
    (repeat' first|with_reducible intro _|refine sv ?_|refine sc ?_ ?_<;>(intro h;try exact sz h)|(with_reducible first|apply zn|apply z04|apply z0f);exact gd;exact rfl;exact rfl;exact hch|refine sg ?_ ?_<;>(intro h;first|exact sz h|refine sy h ?_)|exact sq|fail)
    rename_i w M12 hq
    obtain ⟨hk12, hF12⟩ := hq
    refine zh (2 * s.lines.length - (j + 1)) (by omega) ⟨j + 1, rfl, by omega, rfl, .cons rfl (.cons rfl (.cons rfl (.cons rfl (.cons rfl .nil)))), (hks.1.grow hgs11.1).trans hk12 (fun i hi => .inl hi), by rw [hsucc]; exact hF12⟩
set_option maxHeartbeats 16000000 in
theorem zla {A : CrA} {s : Cr} {M : Mem} (hM : CrM M A s) : CallOk Tryz.prog 20 [crv A s] M (fun v M' => Grow M M' /\ ((¬ CrOk s /\ v = .tup [.slice none 0 true 0, I 0, I 40]) ∨ (CrOk s /\ endB s < 0 /\ v = .tup [.slice none 0 true 0, I 0, I 4]) ∨
  (CrOk s /\ 0 <= endB s /\ ∃ (u : LV) (r : List Nat) (p : Nat) (f : Bool), v = .tup [u, I (endB s), I 0] /\ nextO s (endB s) (allN s) [] (startR s) (allN s) = some r /\ r.length = s.lines.length /\ u = .slice (some (p, 0)) r.length f 2 /\ At M' p (.cells true (r.flatMap shcc) 50)))) := by
 classical
 have hc := fun M' (hg : Grow M M') => z7e (hM.grow hg)
 refine z6 kq20 rfl ?_
 dsimp only [xq20, qm, qf, ql, qL, qi, qb, qc, qn, qC, qo, qk, qK, qq, qZ, qN, zipE, Nat.reduceAdd]
 by_cases hok : CrOk s
 rotate_left
 ·have he : eCrB s = 40 := if_neg (by rw [z2a hok]; decide)
  rw [he] at hc
  (repeat' first|with_reducible intro _|refine sv ?_|refine sc ?_ ?_<;>(intro h;try exact sz h)|(with_reducible first|apply za|apply z8|apply z5);exact gd;exact rfl;exact rfl;exact hc _ (xg)|refine sg ?_ ?_<;>(intro h;first|exact sz h|refine sy h ?_)|exact sq|fail)
  all_goals first
   |(exfalso; omega)
   |((refine kf ?_)
     exact ⟨xg, .inl ⟨hok, rfl⟩⟩)
 have he : eCrB s = 0 := if_pos (zjh hok)
 rw [he] at hc
 have hcs := fun M' (hg : Grow M M') => zj4 hok (hM.grow hg)
 have hn5 := hok.n5
 have hn1 := hok.n1
 (repeat' first|with_reducible intro _|refine sv ?_|refine sc ?_ ?_<;>(intro h;try exact sz h)|(with_reducible first|apply za|apply z8|apply z5);exact gd;exact rfl;exact rfl;exact hc _ (xg)|(with_reducible first|apply zn|apply z04|apply z0f);exact gd;exact rfl;exact rfl;exact hcs _ (xg)|refine sg ?_ ?_<;>(intro h;first|exact sz h|refine sy h ?_)|exact sq|fail)
 all_goals try (exfalso; omega)
 rename_i n1 M1 hn1' e1 e2 M2 hg2 e3 w M3 hq
 obtain ⟨hg3, aC, fC, rfl, hco⟩ := hq
 have le3 := hg3.le
 have hgs3 : Grow M M3 /\ True := ⟨xg, trivial⟩
 have b1 : At M3 n1 (.cells true (crc A s) 35) := xm
 clear hc hcs hn1' hg2 hg3
 (repeat' first|with_reducible intro _|refine sv ?_|refine sc ?_ ?_<;>(intro h;try exact sz h)|refine sg ?_ ?_<;>(intro h;first|exact sz h|refine sy h ?_)|exact sq|fail)
 rename_i n6 M4 hn6 e4 e5
 have hF : FndM M.next M4 n6 A s aC fC none := ⟨_, 0, false, At.new_same hn6, rfl, _, _, _, _, rfl⟩
 have hcall := zp6 hok hco (show M3.next <= n6 by omega) (allN s) M4 [] (2 * s.lines.length) 0 (allN s) none none true 0 (Nat.le_refl _) (Us.init s) hn6.grow hF (.inl rfl) (fun i o h => by cases h) (Nat.le_refl _) (by omega) (by omega)
 rw [show ((2 * s.lines.length : Nat) : Int) = 2 * (s.lines.length : Int) by omega, show tryF s (allN s) [] (2 * s.lines.length) 0 (allN s) none = bestR s from rfl] at hcall
 have hgs4 : Grow M M4 /\ True := ⟨hgs3.1.trans hn6.grow, trivial⟩
 clear hF hn6
 (repeat' first|with_reducible intro _|refine sv ?_|refine sc ?_ ?_<;>(intro h;try exact sz h)|(with_reducible first|apply zn|apply z04|apply z0f);exact gd;exact rfl;exact rfl;exact hcall|refine sg ?_ ?_<;>(intro h;first|exact sz h|refine sy h ?_)|exact sq|fail)
 rename_i w M5 hq
 obtain ⟨hk5, u5, te5, fd5, a5, hV⟩ := hq
 obtain ⟨ua, un, uf, ue, rfl⟩ := hV.shape
 have hgs5 : Grow M M5 /\ True := ⟨Keep.to_grow' hgs4.1 hk5 (fun i hi => by omega), trivial⟩
 have l5 := a5.2
 clear hcall hk5
 by_cases hE : endB s < 0
 ·rw [zep hok hE] at hV
  obtain ⟨rfl, _⟩ := hV
  (repeat' first|with_reducible intro _|refine sv ?_|refine sc ?_ ?_<;>(intro h;try exact sz h)|refine sg ?_ ?_<;>(intro h;first|exact sz h|refine sy h ?_)|exact sq|fail)
  all_goals try (exfalso; omega)
  (refine kf ?_)
  exact ⟨hgs5.1, .inr (.inl ⟨hok, hE, rfl⟩)⟩
 ·obtain ⟨r, h1, h2, h3⟩ := z7n hok (by omega)
  rw [h2] at hV
  obtain ⟨rfl, rfl, p, f, hsl, hp, hpb⟩ := hV
  have hsl : LV.slice ua un uf ue = .slice (some (p, 0)) r.length f 2 := hsl
  cases hsl
  (repeat' first|with_reducible intro _|refine sv ?_|refine sc ?_ ?_<;>(intro h;try exact sz h)|refine sg ?_ ?_<;>(intro h;first|exact sz h|refine sy h ?_)|exact sq|fail)
  all_goals try (exfalso; omega)
  (refine kf ?_)
  exact ⟨hgs5.1, .inr (.inr ⟨hok, by omega, _, r, p, _, rfl, h1, h3, rfl, hp⟩)⟩
def Bst4 (s : Cr) (v : LV) (M' : Mem) : Prop := (¬ CrOk s /\ v = .tup [.slice none 0 true 0, I 0, I 40]) ∨ (CrOk s /\ endB s < 0 /\ v = .tup [.slice none 0 true 0, I 0, I 4]) ∨
  (CrOk s /\ 0 <= endB s /\ ∃ (u : LV) (r : List Nat) (p : Nat) (f : Bool), v = .tup [u, I (endB s), I 0] /\ nextO s (endB s) (allN s) [] (startR s) (allN s) = some r /\ r.length = s.lines.length /\ u = .slice (some (p, 0)) r.length f 2 /\ At M' p (.cells true (r.flatMap shcc) 50))
set_option maxHeartbeats 8000000 in
theorem z8t {A : CrA} {s : Cr} {M : Mem} (hM : CrM M A s) : CallOk Tryz.prog 5 [crv A s] M (fun v M' => v = .bool true) := by
 have hp1 := fun M' (hg : Grow M M') => zn6 (hM.grow hg)
 have hp2 := fun M' (hg : Grow M M') => zla (hM.grow hg)
 refine z6 kq5 rfl ?_
 dsimp only [xq5, qm, qL, qi, qb, qe, qc, qa, qn, qB, qC, qg, qo, qk, qK, qq, zipE, Nat.reduceAdd]
 (repeat' first|with_reducible intro _|refine sv ?_|refine sc ?_ ?_<;>(intro h;try exact sz h)|(with_reducible first|apply zn|apply z04|apply z0f);exact gd;exact rfl;exact rfl;exact hp1 _ (xg)|refine sg ?_ ?_<;>(intro h;first|exact sz h|refine sy h ?_)|exact sq|fail)
 rename_i n1 M1 hn1 e1 e2 w M2 hq
 obtain ⟨hg2, hc1⟩ := hq
 have le2 := hg2.le
 have key : ∃ (r : List Nat) (n e : Int) (a1 : Option (Nat × Nat)) (f1 : Bool) (q1 : Nat), w = .tup [.slice a1 r.length f1 q1, I n, I e] /\ SlA 2 shcc M2 a1 r /\ r.length <= 1000000 /\ ∀ w2 M', Bst4 s w2 M' -> ∃ (a2 : Option (Nat × Nat)) (f2 : Bool) (q2 : Nat), w2 = .tup [.slice a2 r.length f2 q2, I n, I e] /\ SlA 2 shcc M' a2 r := by
  rcases hc1 with ⟨hno, rfl⟩ | ⟨hok, hE, rfl⟩ | ⟨hok, hE, u, rfl, hu⟩
  ·refine ⟨[], 0, 40, none, true, 0, rfl, .inl rfl, Nat.zero_le _, fun w2 M' h => ?_⟩
   rcases h with ⟨_, h⟩ | ⟨h, _⟩ | ⟨h, _⟩
   ·exact ⟨none, true, 0, h, .inl rfl⟩
   ·exact absurd h hno
   ·exact absurd h hno
  ·refine ⟨[], 0, 4, none, true, 0, rfl, .inl rfl, Nat.zero_le _, fun w2 M' h => ?_⟩
   rcases h with ⟨h, _⟩ | ⟨_, _, h⟩ | ⟨_, h, _⟩
   ·exact absurd hok h
   ·exact ⟨none, true, 0, h, .inl rfl⟩
   ·omega
  ·obtain ⟨r, h1, _, h3⟩ := z7n hok hE
   have hn5 := hok.n5
   have hn1 := hok.n1
   rcases hu r h1 with ⟨h0, _⟩ | ⟨i, rfl, ai, _⟩
   ·rw [h0] at h3; simp at h3; omega
   refine ⟨r, endB s, 0, some (i, 0), false, 2, rfl, .inr ⟨i, 0, rfl, fun k hk => zl ai (fun _ _ => rfl) hk⟩, by omega, fun w2 M' h => ?_⟩
   rcases h with ⟨h, _⟩ | ⟨_, h, _⟩ | ⟨_, _, u, r2, p, f, rfl, g1, g2, rfl, g3⟩
   ·exact absurd hok h
   ·omega
   ·rw [h1] at g1
    cases g1
    exact ⟨some (p, 0), f, 2, rfl, .inr ⟨p, 0, rfl, fun k hk => zl g3 (fun _ _ => rfl) hk⟩⟩
 obtain ⟨r, n, e, a1, f1, q1, rfl, hA, hrl, hall⟩ := key
 clear hp1 hc1
 (repeat' first|with_reducible intro _|refine sv ?_|refine sc ?_ ?_<;>(intro h;try exact sz h)|(with_reducible first|apply zn|apply z04|apply z0f);exact gd;exact rfl;exact rfl;exact hp2 _ (xg)|refine sg ?_ ?_<;>(intro h;first|exact sz h|refine sy h ?_)|exact sq|fail)
 rename_i w M3 hq
 obtain ⟨hg3, hc2⟩ := hq
 have le3 := hg3.le
 obtain ⟨a2, f2, q2, rfl, hB⟩ := hall _ _ hc2
 have hA3 := hA.grow hg3
 clear hA hp2 hc2 hall hn1 hg2 hg3
 (repeat' first|with_reducible intro _|refine sv ?_|refine sc ?_ ?_<;>(intro h;try exact sz h)|refine sg ?_ ?_<;>(intro h;first|exact sz h|refine sy h ?_)|exact sq|fail)
 all_goals try (exfalso; omega)
 refine zc (fun n E ms M' => ∃ k : Nat, n = r.length - k /\ k <= r.length /\ ms = [] /\ Has E [(3, .slice a1 r.length f1 q1), (6, .slice a2 r.length f2 q2), (9, I k)] /\ Grow M3 M') ?_ r.length _ _ _
  ⟨0, by omega, by omega, rfl, .cons rfl (.cons rfl (.cons rfl .nil)), xg⟩
 rintro n E ms M4 ⟨k, rfl, hk, rfl, hE, hg⟩
 have hle := hg.le
 refine zz hE ?_
 by_cases hlast : k = r.length
 ·subst hlast
  (repeat' first|with_reducible intro _|refine sv ?_|refine sc ?_ ?_<;>(intro h;try exact sz h)|(with_reducible first|apply zj|apply zi|apply ze);exact gd;exact rfl;exact rfl;exact zlu _|refine sg ?_ ?_<;>(intro h;first|exact sz h|refine sy h ?_)|exact sq|fail)
  (refine kf ?_)
  rfl
 have hlt : k < r.length := by omega
 obtain ⟨i, o, rfl, hr⟩ := hA3.resolve_left (fun h => by rw [h] at hlt; simp at hlt)
 obtain ⟨i2, o2, rfl, hr2⟩ := hB.resolve_left (fun h => by rw [h] at hlt; simp at hlt)
 have r1 := (hr k hlt).grow hg
 have r2 := (hr2 k hlt).grow hg
 have h1 := r1.2
 have h2 := r2.2
 generalize r[k] = c at *
 (have hrd0 := r1;have hrd1 := r2;repeat' first|with_reducible intro _|refine sv ?_|refine sc ?_ ?_<;>(intro h;try exact sz h)|refine sg ?_ ?_<;>(intro h;first|exact sz h|refine sy h ?_)|exact sq|fail)
 all_goals try (exfalso; omega)
 refine zh (r.length - (k + 1)) (by omega) ⟨k + 1, rfl, by omega, rfl, .cons rfl (.cons rfl (.cons rfl .nil)), xg⟩
end Go.Proofs.YtpccafeedfpbaaaGreat.C
end
