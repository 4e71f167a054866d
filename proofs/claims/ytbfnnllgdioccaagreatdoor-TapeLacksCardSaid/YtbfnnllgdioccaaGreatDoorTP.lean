/-
 Part of the proof of TapeLacks: what functions of the program and of the statement come to, walked by the rules. No condition beyond those in each theorem.
-/
import Derived.Test.YtbfnnllgdioccaaGreatDoorPvG
import Derived.Test.YtbfnnllgdioccaaGreatDoorTW
import Derived.Test.YtbfnnllgdioccaaGreatDoorTX
import Derived.Test.YtbfnnllgdioccaaGreatDoorPvH
section
open PvL
set_option linter.unusedVariables false
namespace Go.Proofs.YtbfnnllgdioccaaGreatDoor.C
def stepB (c : Int) : Int := if 65535 < shlZ c 1 then xorZ (andZ (shlZ c 1) 65535) 4129 else shlZ c 1
def stepN : Nat -> Int -> Int
 | 0, c => c
 | n + 1, c => stepB (stepN n c)
def byteC (c : Int) (b : Nat) : Int := stepN 8 (xorZ c (shlZ (b : Int) 8))
def crcK (s : ByteArray) : Nat -> Int
 | 0 => 65535
 | k + 1 => byteC (crcK s k) (byteAt s k)
end Go.Proofs.YtbfnnllgdioccaaGreatDoor.C
end
section
open Go PvL Go.Proofs
set_option linter.unusedSimpArgs false
set_option linter.unusedVariables false
namespace Go.Proofs.YtbfnnllgdioccaaGreatDoor.C
theorem c_Between (n a b : Int) (M : Mem) : CallOk Tryz.prog 49 [I n, I a, I b] M (fun w M' => w = .bool (decide (a <= n /\ n <= b)) /\ M' = M) := by
 refine call_in k49 rfl ?_
 dsimp only [x49, zipE, Nat.reduceAdd]
 (repeat' (first | (with_reducible intro _) | refine sv ?_ | (refine sc ?_ ?_ <;> (intro h; try first | exact h.elim | exact absurd rfl h | (exfalso; omega))) | (refine sg ?_ ?_ <;> (intro h; (fail_if_success (have : True := h)); try first | exact h.elim | exact absurd rfl h | (exfalso; omega))) | assumption | exact xm | exact rfl))
 ·((with_reducible first | apply k_fun | apply k_fun_norm); exact rx)
  refine ⟨?_, rfl⟩
  simp [packed]; omega
 ·((with_reducible first | apply k_fun | apply k_fun_norm); exact rx)
  refine ⟨?_, rfl⟩
  simp [packed]; omega
end Go.Proofs.YtbfnnllgdioccaaGreatDoor.C
end
section
open PvL Go
set_option linter.unusedVariables false
namespace Go.Proofs.YtbfnnllgdioccaaGreatDoor.C
def SlI (M : Mem) (a : Option (Nat × Nat)) (l : List Int) : Prop := l = [] ∨ ∃ i o, a = some (i, o) /\ ∀ k (hk : k < l.length), Rd1 M i (o + k * 1) (I l[k])
theorem SlI.grow {M M' : Mem} {a : Option (Nat × Nat)} {l : List Int} (h : SlI M a l) (hg : Grow M M') : SlI M' a l :=
 h.imp id fun ⟨i, o, h1, h2⟩ => ⟨i, o, h1, fun k hk => (h2 k hk).grow hg⟩
theorem SlI.rd {M : Mem} {a : Option (Nat × Nat)} {l : List Int} (h : SlI M a l) {k : Nat} (hk : k < l.length) : ∃ i o, a = some (i, o) /\ Rd1 M i (o + k * 1) (I l[k]) := by
 rcases h with rfl | ⟨i, o, h1, h2⟩
 ·exact absurd hk (Nat.not_lt_zero _)
 ·exact ⟨i, o, h1, h2 k hk⟩
abbrev intc (n : Int) : List LV := [I n]
theorem rd_one {M : Mem} {i o : Nat} {v : LV} (h : Rd M i o 1 [v]) : Rd1 M i o v := by
 have := Rd.nth (j := 0) h (v := v) rfl
 simpa using this
theorem SlI.vec {M : Mem} {b : Nat} {ty : TypeId} {v : LV} {l : List Int} (h : Vec b 1 ty intc M v l) : ∃ a f e, v = .slice a l.length f e /\ SlI M a l := by
 obtain ⟨a, f, e, h1, h2⟩ := h.rd (fun _ _ => rfl)
 refine ⟨a, f, e, h1, h2.imp id fun ⟨i, o, h3, h4⟩ => ⟨i, o, h3, fun k hk => rd_one (h4 k hk)⟩⟩
abbrev frSh : Sh := .pair (.int .i64) (.pair (.int .i64) (.sl (.int .i64) 8))
abbrev Fr := Int × Int × List Int
theorem enc_ints {m : Mem} {b : Nat} {l : List Int} {cs : List LV} (h : Enc m (.sl (.int .i64) b) l cs) : ∃ a f, cs = [.slice a l.length f 1] /\ SlI m a l /\ l.length <= reachBytes /\ ∀ x ∈ l, IntKind.min .i64 <= x /\ x <= IntKind.max .i64 := by
 obtain ⟨a, f, h1, h2, h3⟩ := h
 by_cases hl : l = []
 ·subst hl
  exact ⟨a, f, h1, .inl rfl, h2.1, fun x hx => nomatch hx⟩
 ·obtain ⟨i, o, g1, g2, _, g3⟩ := h3 hl
  have key : ∀ k (hk : k < l.length), Rd1 m i (o + k * 1) (I l[k]) /\ IntKind.min .i64 <= l[k] /\ l[k] <= IntKind.max .i64 := fun k hk => by
   obtain ⟨c, g4, g5, g6⟩ := g3 k hk
   rw [g5] at g4
   exact ⟨rd_one ⟨g4, g2⟩, g6⟩
  refine ⟨a, f, h1, .inr ⟨i, o, g1, fun k hk => (key k hk).1⟩, h2.1, fun x hx => ?_⟩
  obtain ⟨k, hk, rfl⟩ := List.getElem_of_mem hx
  exact (key k hk).2
def FrV (M : Mem) (v : LV) (x : Fr) : Prop := ∃ a f e, v = .agg [I x.1, I x.2.1, .slice a x.2.2.length f e] /\ SlI M a x.2.2
def I64 (n : Int) : Prop := -9223372036854775808 <= n /\ n <= 9223372036854775807
def FrIn (x : Fr) : Prop := I64 x.1 /\ I64 x.2.1 /\ x.2.2.length <= 1000000000000000 /\ ∀ n ∈ x.2.2, I64 n
theorem enc_fr {m : Mem} {x : Fr} {cs : List LV} (h : Enc m frSh x cs) : FrV m (.agg cs) x /\ FrIn x := by
 obtain ⟨c1, d1, rfl, ⟨rfl, hb1⟩, c2, d2, rfl, ⟨rfl, hb2⟩, h3⟩ := h
 obtain ⟨a, f, rfl, h4, h5, h6⟩ := enc_ints h3
 have h5 : x.2.2.length <= 140737488351232 := h5
 exact ⟨⟨a, f, 1, rfl, h4⟩, hb1, hb2, by omega, h6⟩
theorem FrV.grow {M M' : Mem} {v : LV} {x : Fr} (h : FrV M v x) (hg : Grow M M') : FrV M' v x := by
 obtain ⟨a, f, e, h1, h2⟩ := h
 exact ⟨a, f, e, h1, h2.grow hg⟩
def knB (n : Int) : Bool := decide (-32767 <= n /\ n <= 32767)
def smB (n : Int) : Bool := knB n || (decide (n = 40000) || decide (n = 40001))
def btB (n a b : Int) : Bool := decide (a <= n /\ n <= b)
def smsB (l : List Int) : Bool := btB l.length 1 64 && l.all smB
def frB (x : Fr) : Bool := btB x.1 0 60000 && (btB x.2.1 0 23 && smsB x.2.2)
def errF (x : Fr) : Int := if frB x then 0 else 80
end Go.Proofs.YtbfnnllgdioccaaGreatDoor.C
end
section
open PvL Go
set_option linter.unusedVariables false
namespace Go.Proofs.YtbfnnllgdioccaaGreatDoor.C
section
variable {α : Type} {b q : Nat} {ty : TypeId} {enc : α -> List LV} {M : Mem} {v : LV} {l l' : List α} {P : Program} [Orc P] {sz : Nat} {E : Env} {K : Env -> Mem -> Prop} {ll : List XG} {d : Nat} {g : Option (Nat × Bool)} {s x : XO} {st : List Mem} {k : Nat} {xs : List (Nat × Nat × (Mem -> Prop))} {ld : List (XG × XK)} {by' : Nat} {z : List LV} {xv : LV}
theorem x_vec_app (hg : GOn E g) (hv : Vec b q ty enc M v l) (hs : xval E s = some v) (hx : xval E x = some xv) (hn : lenOfL xv = some l'.length) (h0 : 0 < l'.length) (hb : (2 * (l.length + l'.length) + 2048) * by' <= 140737488355328) (hz : (Nat.ble 1 q && (Nat.ble 1 by' && Nat.beq z.length q)) = true) (hw : firstL q l'.length xv M = some (l'.flatMap enc))
  (henc : ∀ x, (enc x).length = q) (hfl : ∀ x, allFlat (enc x) = true) (hbM : b <= M.next) (hk : ∀ v' M', Vec b q ty enc M' v' (l ++ l') -> M'.next = M.next + 1 -> Keep (fun i => b <= i /\ ∃ o n f e, v = .slice (some (i, o)) n f e) M M' -> XW P sz ll ((d, v') :: E) M' K) : XW P sz (⟨some d, .app ty q by' z s x, g⟩ :: ll) E M K := by
 obtain ⟨v', M', h1, h2, h3, h4⟩ := hv.app (P := P) hs hx hn h0 hb hz hw henc hfl hbM
 exact x_gen hg h1 (hk v' M' h2 h3 h4)
end
theorem one_first {m : Nat} {x : Int} {M M' : Mem} {ty : TypeId} (hn : New M m (.cells true [I x] ty) M') : firstL 1 1 (.slice (some (m, 0)) 1 true 1) M' = some ([x].flatMap intc) :=
 firstL_rd (enc := intc) (l := [x]) (fun _ _ => rfl) (fun k' hk' => rd_flat (enc := intc) (l := [x]) (At.new_same hn) (fun _ _ => rfl) hk')
def SlB (b : Nat) (M : Mem) (a : Option (Nat × Nat)) (l : List Int) : Prop := l = [] ∨ ∃ i o, a = some (i, o) /\ b <= i /\ ∀ k (hk : k < l.length), Rd1 M i (o + k * 1) (I l[k])
theorem SlB.sl {b : Nat} {M : Mem} {a : Option (Nat × Nat)} {l : List Int} (h : SlB b M a l) : SlI M a l := h.imp id fun ⟨i, o, h1, _, h2⟩ => ⟨i, o, h1, h2⟩
theorem SlB.keep {b : Nat} {M M' : Mem} {F : Nat -> Prop} {a : Option (Nat × Nat)} {l : List Int} (h : SlB b M a l) (hk : Keep F M M') (hF : ∀ i, F i -> i < b) : SlB b M' a l :=
 h.imp id fun ⟨i, o, h1, h2, h3⟩ => ⟨i, o, h1, h2, fun k hk' => (h3 k hk').keep hk (fun hf => by have := hF i hf; omega)⟩
theorem SlB.weaken {b b' : Nat} {M : Mem} {a : Option (Nat × Nat)} {l : List Int} (h : SlB b M a l) (hb : b' <= b) : SlB b' M a l := h.imp id fun ⟨i, o, h1, h2, h3⟩ => ⟨i, o, h1, by omega, h3⟩
theorem SlB.grow {b : Nat} {M M' : Mem} {a : Option (Nat × Nat)} {l : List Int} (h : SlB b M a l) (hg : Grow M M') : SlB b M' a l :=
 h.imp id fun ⟨i, o, h1, h2, h3⟩ => ⟨i, o, h1, h2, fun k hk => (h3 k hk).grow hg⟩
theorem SlB.vec {M : Mem} {b : Nat} {ty : TypeId} {v : LV} {l : List Int} (h : Vec b 1 ty intc M v l) : ∃ a f e, v = .slice a l.length f e /\ SlB b M a l := by
 rcases h with ⟨rfl, rfl⟩ | ⟨i, rfl, h2, h3⟩
 ·exact ⟨_, _, _, rfl, .inl rfl⟩
 ·exact ⟨_, _, _, rfl, .inr ⟨i, 0, rfl, h3, fun k hk => rd_one (rd_flat (enc := intc) h2 (fun _ _ => rfl) hk)⟩⟩
def FrB (b : Nat) (M : Mem) (v : LV) (x : Fr) : Prop := ∃ a f e, v = .agg [I x.1, I x.2.1, .slice a x.2.2.length f e] /\ SlB b M a x.2.2
theorem FrB.fr {b : Nat} {M : Mem} {v : LV} {x : Fr} (h : FrB b M v x) : FrV M v x := by
 obtain ⟨a, f, e, h1, h2⟩ := h
 exact ⟨a, f, e, h1, h2.sl⟩
def joinI (a b : Int) : Int := if a = b ∨ b = 40000 then a else if a = 40000 then b else 40001
def getG (l : List Int) (k : Nat) : Int := l.getD k 40000
def bothL (a b : List Int) : List Int := (List.range (max a.length b.length)).map fun k => joinI (getG a k) (getG b k)
theorem getG_lt {l : List Int} {k : Nat} (h : k < l.length) : getG l k = l[k] := by unfold getG; rw [List.getD_eq_getElem?_getD, List.getElem?_eq_getElem h]; rfl
theorem getG_ge {l : List Int} {k : Nat} (h : l.length <= k) : getG l k = 40000 := by unfold getG; rw [List.getD_eq_getElem?_getD, List.getElem?_eq_none h]; rfl
end Go.Proofs.YtbfnnllgdioccaaGreatDoor.C
end
section
open PvL Go
set_option linter.unusedVariables false
namespace Go.Proofs.YtbfnnllgdioccaaGreatDoor.C
def ltB (c : Nat) : Bool := decide (97 <= c /\ c <= 122)
def dgB (c : Nat) : Bool := decide (c = 95) || decide (48 <= c /\ c <= 57)
def nmK (s : ByteArray) : Nat -> Bool
 | 0 => true
 | k + 1 => nmK s k && (ltB (byteAt s k) || (decide (k ≠ 0) && dgB (byteAt s k)))
def nmB (s : ByteArray) : Bool := nmK s s.size && btB s.size 1 16
theorem nmK_s (s : ByteArray) (k : Nat) : nmK s (k + 1) = (nmK s k && (ltB (byteAt s k) || (decide (k ≠ 0) && dgB (byteAt s k)))) := rfl
theorem nmK_no {s : ByteArray} : ∀ {n k : Nat}, k <= n -> nmK s k = false -> nmK s n = false
 | 0, k, h, hk => by obtain rfl : k = 0 := by omega
                     exact hk
 | n + 1, k, h, hk => by
  by_cases he : k = n + 1
  ·subst he; exact hk
  ·rw [nmK_s, nmK_no (n := n) (by omega) hk]; rfl
theorem nmB_no {s : ByteArray} {k : Nat} (h : k <= s.size) (hk : nmK s k = false) : nmB s = false := by unfold nmB; rw [nmK_no h hk]; rfl
abbrev Rl := ByteArray × List Fr
def FsV (M : Mem) (a : Option (Nat × Nat)) (L : List Fr) : Prop := L = [] ∨ ∃ i o, a = some (i, o) /\ ∀ k (hk : k < L.length), ∃ b g u, Rd M i (o + k * 3) 3 [I L[k].1, I L[k].2.1, .slice b L[k].2.2.length g u] /\ SlI M b L[k].2.2
theorem FsV.grow {M M' : Mem} {a : Option (Nat × Nat)} {L : List Fr} (h : FsV M a L) (hg : Grow M M') : FsV M' a L :=
 h.imp id fun ⟨i, o, h1, h2⟩ => ⟨i, o, h1, fun k hk => by
  obtain ⟨b, g, u, h3, h4⟩ := h2 k hk
  exact ⟨b, g, u, h3.grow hg, h4.grow hg⟩⟩
def zFr0 : Fr := (0, 0, [])
def fe (L : List Fr) (k : Nat) : Fr := L.getD k zFr0
theorem fe_lt {L : List Fr} {k : Nat} (h : k < L.length) : fe L k = L[k] := by unfold fe; rw [List.getD_eq_getElem?_getD, List.getElem?_eq_getElem h]; rfl
theorem FsV.rd {M : Mem} {a : Option (Nat × Nat)} {L : List Fr} (h : FsV M a L) {k : Nat} (hk : k < L.length) : ∃ i o b g u, a = some (i, o) /\ Rd M i (o + k * 3) 3 [I (fe L k).1, I (fe L k).2.1, .slice b (fe L k).2.2.length g u] /\ FrV M (.agg [I (fe L k).1, I (fe L k).2.1, .slice b (fe L k).2.2.length g u]) (fe L k) := by
 rcases h with rfl | ⟨i, o, h1, h2⟩
 ·exact absurd hk (Nat.not_lt_zero _)
 ·obtain ⟨b, g, u, h3, h4⟩ := h2 k hk
  rw [<- fe_lt hk] at h3 h4
  exact ⟨i, o, b, g, u, h1, h3, b, g, u, rfl, h4⟩
def RlV (M : Mem) (v : LV) (r : Rl) : Prop := ∃ a f e, v = .agg [.str r.1, .slice a r.2.length f e] /\ FsV M a r.2
theorem RlV.grow {M M' : Mem} {v : LV} {r : Rl} (h : RlV M v r) (hg : Grow M M') : RlV M' v r := by
 obtain ⟨a, f, e, h1, h2⟩ := h
 exact ⟨a, f, e, h1, h2.grow hg⟩
def RlIn (r : Rl) : Prop := r.1.size <= 1000000000000000 /\ r.2.length <= 1000000000000000 /\ ∀ x ∈ r.2, FrIn x
theorem RlIn.fr {r : Rl} (h : RlIn r) {k : Nat} (hk : k < r.2.length) : FrIn (fe r.2 k) := by rw [fe_lt hk]; exact h.2.2 _ (List.getElem_mem hk)
abbrev rlSh : Sh := .pair .str (.sl frSh 40)
theorem enc_rl {m : Mem} {r : Rl} {cs : List LV} (h : Enc m rlSh r cs) : RlV m (.agg cs) r /\ RlIn r := by
 obtain ⟨c1, d1, rfl, ⟨rfl, hb1⟩, a, f, rfl, h2, h3⟩ := h
 have hb1 : r.1.size <= 140737488351232 := hb1
 have h2 : r.2.length <= 140737488351232 := h2.1
 by_cases hl : r.2 = []
 ·refine ⟨⟨a, f, _, rfl, .inl hl⟩, by omega, by omega, fun x hx => ?_⟩
  rw [hl] at hx; cases hx
 ·obtain ⟨i, o, g1, g2, _, g3⟩ := h3 hl
  have key : ∀ k (hk : k < r.2.length), (∃ b g u, Rd m i (o + k * 3) 3 [I r.2[k].1, I r.2[k].2.1, .slice b r.2[k].2.2.length g u] /\ SlI m b r.2[k].2.2) /\ FrIn r.2[k] := fun k hk => by
   obtain ⟨c, g4, g5⟩ := g3 k hk
   obtain ⟨⟨b, g, u, g6, g7⟩, g8⟩ := enc_fr g5
   injection g6 with g6
   subst g6
   exact ⟨⟨b, g, u, ⟨g4, g2⟩, g7⟩, g8⟩
  refine ⟨⟨a, f, _, rfl, .inr ⟨i, o, g1, fun k hk => (key k hk).1⟩⟩, by omega, by omega, fun x hx => ?_⟩
  obtain ⟨k, hk, rfl⟩ := List.getElem_of_mem hx
  exact (key k hk).2
def keyI (x : Fr) : Int := 24 * x.1 + x.2.1
def rlK (L : List Fr) : Nat -> Bool
 | 0 => true
 | k + 1 => rlK L k && (frB (fe L k) && (decide (k = 0) || decide (keyI (fe L (k - 1)) < keyI (fe L k))))
def rlB (r : Rl) : Bool := (nmB r.1 && decide (r.2.length <= 128)) && rlK r.2 r.2.length
def errRl (r : Rl) : Int := if rlB r then 0 else 81
theorem rlK_s (L : List Fr) (k : Nat) : rlK L (k + 1) = (rlK L k && (frB (fe L k) && (decide (k = 0) || decide (keyI (fe L (k - 1)) < keyI (fe L k))))) := rfl
theorem rlK_no {L : List Fr} : ∀ {n k : Nat}, k <= n -> rlK L k = false -> rlK L n = false
 | 0, k, h, hk => by obtain rfl : k = 0 := by omega
                     exact hk
 | n + 1, k, h, hk => by
  by_cases he : k = n + 1
  ·subst he; exact hk
  ·rw [rlK_s, rlK_no (n := n) (by omega) hk]; rfl
theorem rlK_fr {L : List Fr} {k i : Nat} (h : rlK L k = true) (hi : i < k) : frB (fe L i) = true := by
 cases hq : frB (fe L i) with
 | true => rfl
 | false =>
  rw [rlK_no (n := k) (k := i + 1) (by omega) (by rw [rlK_s, hq]; simp)] at h
  cases h
theorem errRl_no {r : Rl} {k : Nat} (h : k <= r.2.length) (hk : rlK r.2 k = false) : errRl r = 81 := by unfold errRl rlB; rw [rlK_no h hk, Bool.and_false]; rfl
theorem frB_bd {x : Fr} (h : frB x = true) : 0 <= x.1 /\ x.1 <= 60000 /\ 0 <= x.2.1 /\ x.2.1 <= 23 /\ smsB x.2.2 = true := by
 unfold frB btB at h
 simp only [Bool.and_eq_true, decide_eq_true_eq] at h
 exact ⟨h.1.1, h.1.2, h.2.1.1, h.2.1.2, h.2.2⟩
def cmpI8 (a b : Int) : Int := if a < b then -1 else if b < a then 1 else 0
def cmpK (a b : Int × Int) : Int := if cmpI8 a.1 b.1 ≠ 0 then cmpI8 a.1 b.1 else cmpI8 a.2 b.2
theorem cmpK_ge {x y : Fr} (hx : frB x = true) (hy : frB y = true) : decide (cmpK (x.1, x.2.1) (y.1, y.2.1) >= 0) = !decide (keyI x < keyI y) := by
 have h1 := frB_bd hx
 have h2 := frB_bd hy
 unfold cmpK cmpI8 keyI
 dsimp only
 rw [<- decide_not]
 refine decide_eq_decide.2 ?_
 split <;> split <;> (try split) <;> (try split) <;> omega
end Go.Proofs.YtbfnnllgdioccaaGreatDoor.C
end
section
open Go PvL
set_option linter.unusedVariables false
namespace Go.Proofs.YtbfnnllgdioccaaGreatDoor.C
def ldn (lv n : Int) : Bool := knB n && !btB n (-lv) lv
def loudF (lv : Int) (x : Fr) : Bool := x.2.2.any (ldn lv)
def qd : Option Bool -> Bool
 | none => true
 | some q => q
def dq (L : List Fr) (lv : Int) : Nat -> Int -> Option Bool
 | 0, _ => none
 | k + 1, c => if c = (fe L k).2.1 then some (!loudF lv (fe L k) && qd (dq L lv k c)) else dq L lv k c
def dqT (L : List Fr) (lv : Int) (c : Int) : Bool := (dq L lv L.length c).getD false
def deadL (L : List Fr) (lv : Int) : Nat -> List Int
 | 0 => []
 | c + 1 => deadL L lv c ++ (if dqT L lv c then [(c : Int)] else [])
theorem deadL_len (L : List Fr) (lv : Int) : ∀ c, (deadL L lv c).length <= c
 | 0 => Nat.le_refl _
 | c + 1 => by
  have := deadL_len L lv c
  show (deadL L lv c ++ (if dqT L lv c then [(c : Int)] else [])).length <= c + 1
  rw [List.length_append]
  split <;> simp <;> omega
theorem dq_s (L : List Fr) (lv : Int) (k : Nat) (c : Int) : dq L lv (k + 1) c = if c = (fe L k).2.1 then some (!loudF lv (fe L k) && qd (dq L lv k c)) else dq L lv k c := rfl
theorem deadL_s (L : List Fr) (lv : Int) (c : Nat) : deadL L lv (c + 1) = deadL L lv c ++ (if dqT L lv c then [(c : Int)] else []) := rfl
def deadF (r : Rl) (lv : Int) : List Int × Int :=
 if errRl r = 0 then (if btB lv 0 32767 then (deadL r.2 lv 24, 0) else ([], 7)) else ([], errRl r)
theorem deadF_len (r : Rl) (lv : Int) : (deadF r lv).1.length <= 24 := by
 unfold deadF
 split
 ·split
  ·exact deadL_len _ _ _
  ·exact Nat.zero_le _
 ·exact Nat.zero_le _
abbrev Wn := Int × Int × Int × Int × Int
def gdF (ch : Int) (sm : Nat) (x : Fr) : Bool := decide (x.2.1 < ch) && (decide (sm <= x.2.2.length) && (x.2.2.take sm).all knB)
def gq (L : List Fr) (ch : Int) (sm : Nat) : Nat -> Int -> Option Int
 | 0, _ => none
 | k + 1, s => if gdF ch sm (fe L k) = true /\ s = (fe L k).1 then some ((gq L ch sm k s).getD 0 + 1) else gq L ch sm k s
def gqN (L : List Fr) (ch : Int) (sm : Nat) (k : Nat) (s : Int) : Int := (gq L ch sm k s).getD 0
theorem gq_s (L : List Fr) (ch : Int) (sm k : Nat) (s : Int) : gq L ch sm (k + 1) s = if gdF ch sm (fe L k) = true /\ s = (fe L k).1 then some ((gq L ch sm k s).getD 0 + 1) else gq L ch sm k s := rfl
theorem gqN_bd (L : List Fr) (ch : Int) (sm : Nat) (s : Int) : ∀ k, 0 <= gqN L ch sm k s /\ gqN L ch sm k s <= k
 | 0 => ⟨Int.le_refl _, Int.le_refl _⟩
 | k + 1 => by
  have := gqN_bd L ch sm s k
  unfold gqN at *
  rw [gq_s]
  split
  ·rw [Option.getD_some]; omega
  ·omega
def wnB (w : Wn) : Bool := (btB w.1 0 w.2.1 && (btB w.2.1 0 60000 && (decide (w.2.1 - w.1 < 1000) && (btB w.2.2.1 1 24 && (btB w.2.2.2.1 1 64 && btB w.2.2.2.2 0 24)))))
def pq (L : List Fr) (w : Wn) (s : Int) : Bool := decide (w.2.2.1 - gqN L w.2.2.1 w.2.2.2.1.toNat L.length s > w.2.2.2.2)
def poorL (L : List Fr) (w : Wn) : Nat -> List Int
 | 0 => []
 | n + 1 => poorL L w n ++ (if pq L w (w.1 + n) then [w.1 + n] else [])
theorem poorL_s (L : List Fr) (w : Wn) (n : Nat) : poorL L w (n + 1) = poorL L w n ++ (if pq L w (w.1 + n) then [w.1 + n] else []) := rfl
theorem poorL_len (L : List Fr) (w : Wn) : ∀ c, (poorL L w c).length <= c
 | 0 => Nat.le_refl _
 | c + 1 => by
  have := poorL_len L w c
  rw [poorL_s, List.length_append]
  split <;> simp <;> omega
def poorF (r : Rl) (w : Wn) : List Int × Int :=
 if errRl r = 0 then (if wnB w then (poorL r.2 w (w.2.1 - w.1 + 1).toNat, 0) else ([], 84)) else ([], errRl r)
theorem wnB_bd {w : Wn} (h : wnB w = true) : 0 <= w.1 /\ w.1 <= w.2.1 /\ w.2.1 <= 60000 /\ w.2.1 - w.1 < 1000 /\ 1 <= w.2.2.1 /\ w.2.2.1 <= 24 /\ 1 <= w.2.2.2.1 /\ w.2.2.2.1 <= 64 /\ 0 <= w.2.2.2.2 /\ w.2.2.2.2 <= 24 := by
 unfold wnB btB at h
 simp only [Bool.and_eq_true, decide_eq_true_eq] at h
 omega
theorem poorF_len (r : Rl) (w : Wn) : (poorF r w).1.length <= 1000 := by
 unfold poorF
 split
 ·split
  ·rename_i h
   have := wnB_bd h
   have h2 := poorL_len r.2 w (w.2.1 - w.1 + 1).toNat
   show (poorL r.2 w (w.2.1 - w.1 + 1).toNat).length <= 1000
   omega
  ·exact Nat.zero_le _
 ·exact Nat.zero_le _
theorem rlK_lt {L : List Fr} {n : Nat} (h : rlK L n = true) : ∀ {i j : Nat}, i < j -> j < n -> keyI (fe L i) < keyI (fe L j) := by
 have hstep : ∀ {k : Nat}, k + 1 < n -> keyI (fe L k) < keyI (fe L (k + 1)) := fun {k} hk => by
  have h2 : rlK L (k + 2) = true := by
   cases h3 : rlK L (k + 2) with
   | true => rfl
   | false => rw [rlK_no (by omega : k + 2 <= n) h3] at h; cases h
  rw [rlK_s, rlK_s] at h2
  simp only [Bool.and_eq_true, Bool.or_eq_true, decide_eq_true_eq] at h2
  rcases h2.2.2 with h3 | h3
  ·omega
  ·exact h3
 intro i j hij
 induction j with
 | zero => omega
 | succ j ih =>
  intro hj
  rcases Nat.lt_or_ge i j with h1 | h1
  ·exact Int.lt_trans (ih h1 (by omega)) (hstep hj)
  ·obtain rfl : i = j := by omega
   exact hstep hj
def allK (l : List Int) : Nat -> Bool
 | 0 => true
 | k + 1 => allK l k && knB (getG l k)
theorem allK_s (l : List Int) (k : Nat) : allK l (k + 1) = (allK l k && knB (getG l k)) := rfl
theorem allK_eq (l : List Int) : ∀ k, allK l k = (decide (k <= l.length) && (l.take k).all knB)
 | 0 => by rw [List.take_zero]; simp [allK]
 | k + 1 => by
  rw [allK_s, allK_eq l k]
  by_cases hk : k < l.length
  ·rw [List.take_succ_eq_append_getElem hk, List.all_append, decide_eq_true (show k <= l.length by omega), decide_eq_true (show k + 1 <= l.length by omega), show getG l k = l[k] from by unfold getG; simp [hk]]
   simp
  ·rw [decide_eq_false (show ¬ (k + 1 <= l.length) by omega), show getG l k = 40000 from by unfold getG; simp [hk]]
   simp [knB]
def gdS (sm : Nat) (x : Fr) : Bool := allK x.2.2 sm
theorem gdF_eq (ch : Int) (sm : Nat) (x : Fr) : gdF ch sm x = (decide (x.2.1 < ch) && gdS sm x) := by unfold gdF gdS; rw [allK_eq]
def mtB (s c : Int) (x : Fr) : Bool := decide (x.1 = s) && decide (x.2.1 = c)
def goodB (L : List Fr) (sm : Nat) (s : Int) : Nat -> Int -> Bool
 | 0, _ => false
 | k + 1, c => goodB L sm s k c || (gdS sm (fe L k) && mtB s c (fe L k))
theorem goodB_s (L : List Fr) (sm : Nat) (s : Int) (k : Nat) (c : Int) : goodB L sm s (k + 1) c = (goodB L sm s k c || (gdS sm (fe L k) && mtB s c (fe L k))) := rfl
theorem goodB_no {L : List Fr} {sm : Nat} {s c : Int} : ∀ {k : Nat}, (∀ j, j < k -> mtB s c (fe L j) = false) -> goodB L sm s k c = false
 | 0, _ => rfl
 | k + 1, h => by rw [goodB_s, goodB_no (fun j hj => h j (by omega)), h k (by omega), Bool.and_false]; rfl
theorem mt_key {s c : Int} {x y : Fr} (hx : mtB s c x = true) (hy : mtB s c y = true) : keyI x = keyI y := by
 unfold mtB at hx hy
 simp only [Bool.and_eq_true, decide_eq_true_eq] at hx hy
 unfold keyI
 rw [hx.1, hx.2, hy.1, hy.2]
theorem goodB_one {L : List Fr} {sm n i : Nat} {s c : Int} (h : rlK L n = true) (hi : i < n) (hm : mtB s c (fe L i) = true) : goodB L sm s n c = gdS sm (fe L i) := by
 have hother : ∀ j, j < n -> j ≠ i -> mtB s c (fe L j) = false := fun j hj hji => by
  cases hmj : mtB s c (fe L j) with
  | false => rfl
  | true =>
   have := mt_key hm hmj
   rcases Nat.lt_or_ge i j with h1 | h1
   ·have := rlK_lt h h1 hj; omega
   ·have := rlK_lt h (show j < i by omega) hi; omega
 have key : ∀ k, k <= n -> goodB L sm s k c = (decide (i < k) && gdS sm (fe L i)) := by
  intro k
  induction k with
  | zero => intro _; rfl
  | succ k ih =>
   intro hk
   rw [goodB_s, ih (by omega)]
   by_cases hki : k = i
   ·subst hki
    rw [hm, decide_eq_false (show ¬ (k < k) by omega), decide_eq_true (show k < k + 1 by omega)]
    simp
   ·rw [hother k (by omega) hki]
    by_cases h3 : i < k
    ·rw [decide_eq_true h3, decide_eq_true (show i < k + 1 by omega)]; simp
    ·rw [decide_eq_false h3, decide_eq_false (show ¬ i < k + 1 by omega)]; simp
 rw [key n (Nat.le_refl _), decide_eq_true hi, Bool.true_and]
def badN (L : List Fr) (sm : Nat) (s : Int) (k : Nat) : Nat -> Int
 | 0 => 0
 | c + 1 => badN L sm s k c + (if goodB L sm s k c then 0 else 1)
theorem badN_s (L : List Fr) (sm : Nat) (s : Int) (k c : Nat) : badN L sm s k (c + 1) = badN L sm s k c + (if goodB L sm s k c then 0 else 1) := rfl
theorem badN_bd (L : List Fr) (sm : Nat) (s : Int) (k : Nat) : ∀ c, 0 <= badN L sm s k c /\ badN L sm s k c <= c
 | 0 => ⟨Int.le_refl _, Int.le_refl _⟩
 | c + 1 => by have := badN_bd L sm s k c; rw [badN_s]; split <;> omega
theorem badN_same {L : List Fr} {sm : Nat} {s : Int} {k : Nat} : ∀ {c : Nat}, (∀ d : Nat, d < c -> (gdS sm (fe L k) && mtB s d (fe L k)) = false) -> badN L sm s (k + 1) c = badN L sm s k c
 | 0, _ => rfl
 | c + 1, h => by rw [badN_s, badN_s, badN_same (fun d hd => h d (by omega)), goodB_s, h c (by omega), Bool.or_false]
theorem badN_less {L : List Fr} {sm : Nat} {s : Int} {k d : Nat} (hg : gdS sm (fe L k) = true) (hs : (fe L k).1 = s) (hd : (fe L k).2.1 = d) (hno : goodB L sm s k d = false) : ∀ {c : Nat}, badN L sm s (k + 1) c + (if d < c then 1 else 0) = badN L sm s k c
 | 0 => by rw [if_neg (Nat.not_lt_zero d)]; rfl
 | c + 1 => by
  have ih := badN_less hg hs hd hno (c := c)
  rw [badN_s, badN_s, goodB_s, hg, Bool.true_and]
  unfold mtB
  rw [decide_eq_true hs, Bool.true_and, hd]
  by_cases hdc : d = c
  ·subst hdc
   rw [if_neg (Nat.lt_irrefl d)] at ih
   rw [hno, if_pos (Nat.lt_succ_self d), decide_eq_true (rfl : (d : Int) = d)]
   simp
   omega
  ·rw [decide_eq_false (show ¬ ((d : Int) = (c : Int)) by omega), Bool.or_false]
   by_cases h3 : d < c
   ·rw [if_pos h3] at ih
    rw [if_pos (show d < c + 1 by omega)]; omega
   ·rw [if_neg h3] at ih
    rw [if_neg (show ¬ d < c + 1 by omega)]; omega
theorem bad_good {L : List Fr} {sm n : Nat} {s : Int} (h : rlK L n = true) (c : Nat) : ∀ k, k <= n -> badN L sm s k c + gqN L c sm k s = c
 | 0, _ => by
  show badN L sm s 0 c + 0 = c
  induction c with
  | zero => rfl
  | succ c ih => rw [badN_s, show goodB L sm s 0 c = false from rfl]; simp at *; omega
 | k + 1, hk => by
  have ih := bad_good (sm := sm) (s := s) h c k (by omega)
  have hb := frB_bd (rlK_fr h (show k < n by omega))
  unfold gqN at *
  rw [gq_s, gdF_eq]
  by_cases hq : (decide ((fe L k).2.1 < c) && gdS sm (fe L k)) = true /\ s = (fe L k).1
  ·rw [if_pos hq, Option.getD_some]
   obtain ⟨h1, h2⟩ := hq
   simp only [Bool.and_eq_true, decide_eq_true_eq] at h1
   obtain ⟨d, hd⟩ : ∃ d : Nat, (fe L k).2.1 = d := ⟨(fe L k).2.1.toNat, by omega⟩
   have hno : goodB L sm s k d = false := goodB_no fun j hj => by
    cases hmj : mtB s d (fe L j) with
    | false => rfl
    | true =>
     have hmk : mtB s d (fe L k) = true := by unfold mtB; rw [decide_eq_true h2.symm, decide_eq_true hd]; rfl
     have := mt_key hmj hmk
     have := rlK_lt h hj (show k < n by omega)
     omega
   have hl := badN_less h1.2 h2.symm hd hno (c := c)
   rw [if_pos (by omega)] at hl
   omega
  ·rw [if_neg hq]
   rw [badN_same]
   ·exact ih
   ·intro d hd
    cases hgs : gdS sm (fe L k) with
    | false => rfl
    | true =>
     rw [hgs, Bool.and_true, decide_eq_true_eq] at hq
     unfold mtB
     rw [Bool.true_and]
     by_cases h5 : (fe L k).1 = s
     ·rw [decide_eq_true h5, Bool.true_and, decide_eq_false_iff_not]
      intro h6
      exact hq ⟨by omega, h5.symm⟩
     ·rw [decide_eq_false h5]; rfl
theorem pq_eq {L : List Fr} {w : Wn} {s : Int} (h : rlK L L.length = true) (hw : wnB w = true) : pq L w s = decide (badN L w.2.2.2.1.toNat s L.length w.2.2.1.toNat > w.2.2.2.2) := by
 have hb := wnB_bd hw
 have := bad_good (sm := w.2.2.2.1.toNat) (s := s) h w.2.2.1.toNat L.length (Nat.le_refl _)
 rw [show ((w.2.2.1.toNat : Nat) : Int) = w.2.2.1 by omega] at this
 unfold pq
 rw [show w.2.2.1 - gqN L w.2.2.1 w.2.2.2.1.toNat L.length s = badN L w.2.2.2.1.toNat s L.length w.2.2.1.toNat by omega]
def FsV1 (M : Mem) (a : Option (Nat × Nat)) (L : List Fr) : Prop := L = [] ∨ ∃ i o, a = some (i, o) /\ ∀ k (hk : k < L.length), ∃ b g, Rd M i (o + k * 3) 3 [I L[k].1, I L[k].2.1, .slice b L[k].2.2.length g 1] /\ SlI M b L[k].2.2
theorem FsV1.grow {M M' : Mem} {a : Option (Nat × Nat)} {L : List Fr} (h : FsV1 M a L) (hg : Grow M M') : FsV1 M' a L :=
 h.imp id fun ⟨i, o, h1, h2⟩ => ⟨i, o, h1, fun k hk => by
  obtain ⟨b, g, h3, h4⟩ := h2 k hk
  exact ⟨b, g, h3.grow hg, h4.grow hg⟩⟩
theorem FsV1.rd {M : Mem} {a : Option (Nat × Nat)} {L : List Fr} (h : FsV1 M a L) {k : Nat} (hk : k < L.length) : ∃ i o b g, a = some (i, o) /\ Rd M i (o + k * 3) 3 [I (fe L k).1, I (fe L k).2.1, .slice b (fe L k).2.2.length g 1] /\ SlI M b (fe L k).2.2 := by
 rcases h with rfl | ⟨i, o, h1, h2⟩
 ·exact absurd hk (Nat.not_lt_zero _)
 ·obtain ⟨b, g, h3, h4⟩ := h2 k hk
  rw [<- fe_lt hk] at h3 h4
  exact ⟨i, o, b, g, h1, h3, h4⟩
def RlV1 (M : Mem) (v : LV) (r : Rl) : Prop := ∃ a f e, v = .agg [.str r.1, .slice a r.2.length f e] /\ FsV1 M a r.2
theorem RlV1.grow {M M' : Mem} {v : LV} {r : Rl} (h : RlV1 M v r) (hg : Grow M M') : RlV1 M' v r := by
 obtain ⟨a, f, e, h1, h2⟩ := h
 exact ⟨a, f, e, h1, h2.grow hg⟩
theorem FsV1.to {M : Mem} {a : Option (Nat × Nat)} {L : List Fr} (h : FsV1 M a L) : FsV M a L :=
 h.imp id fun ⟨i, o, h1, h2⟩ => ⟨i, o, h1, fun k hk => by
  obtain ⟨b, g, h3, h4⟩ := h2 k hk
  exact ⟨b, g, 1, h3, h4⟩⟩
theorem RlV1.to {M : Mem} {v : LV} {r : Rl} (h : RlV1 M v r) : RlV M v r := by
 obtain ⟨a, f, e, h1, h2⟩ := h
 exact ⟨a, f, e, h1, h2.to⟩
theorem enc_rl1 {m : Mem} {r : Rl} {cs : List LV} (h : Enc m rlSh r cs) : RlV1 m (.agg cs) r := by
 obtain ⟨c1, d1, rfl, ⟨rfl, hb1⟩, a, f, rfl, h2, h3⟩ := h
 by_cases hl : r.2 = []
 ·exact ⟨a, f, _, rfl, .inl hl⟩
 ·obtain ⟨i, o, g1, g2, _, g3⟩ := h3 hl
  refine ⟨a, f, _, rfl, .inr ⟨i, o, g1, fun k hk => ?_⟩⟩
  obtain ⟨c, g4, c1, d1, rfl, ⟨rfl, _⟩, c2, d2, rfl, ⟨rfl, _⟩, h5⟩ := g3 k hk
  obtain ⟨b, g, rfl, h6, _⟩ := enc_ints h5
  exact ⟨b, g, ⟨g4, g2⟩, h6⟩
end Go.Proofs.YtbfnnllgdioccaaGreatDoor.C
end
section
open Go PvL Go.Proofs
set_option linter.unusedSimpArgs false
set_option linter.unusedVariables false
namespace Go.Proofs.YtbfnnllgdioccaaGreatDoor.C
theorem c_within (n a b : Int) (M : Mem) : CallOk Tryz.prog 44 [I n, I a, I b] M (fun w M' => w = .bool (btB n a b) /\ M' = M) := by
 refine call_in k44 rfl ?_
 dsimp only [x44, zipE, Nat.reduceAdd]
 (repeat' (first | (with_reducible intro _) | refine sv ?_ | (refine sc ?_ ?_ <;> (intro h; try first | exact h.elim | exact absurd rfl h | (exfalso; omega))) | (refine sg ?_ ?_ <;> (intro h; (fail_if_success (have : True := h)); try first | exact h.elim | exact absurd rfl h | (exfalso; omega))) | assumption | exact xm | exact rfl))
 ·((with_reducible first | apply k_fun | apply k_fun_norm); exact rx)
  refine ⟨?_, rfl⟩
  simp [packed, btB]; omega
 ·((with_reducible first | apply k_fun | apply k_fun_norm); exact rx)
  refine ⟨?_, rfl⟩
  simp [packed, btB]; omega
theorem c_btw (n a b : Int) (M : Mem) : CallOk Tryz.prog 49 [I n, I a, I b] M (fun w M' => w = .bool (btB n a b) /\ M' = M) := c_Between n a b M
theorem c_known (n : Int) (M : Mem) : CallOk Tryz.prog 47 [I n] M (fun w M' => w = .bool (knB n) /\ M' = M) := by
 refine call_in k47 rfl ?_
 dsimp only [x47, zipE, Nat.reduceAdd]
 (repeat' (first | (with_reducible intro _) | refine sv ?_ | (refine sc ?_ ?_ <;> (intro h; try first | exact h.elim | exact absurd rfl h | (exfalso; omega))) | ((with_reducible first | apply x_same | apply d_same | apply d_same0); exact gd; exact rfl; exact rfl; (first | exact c_within _ _ _ _)) | (refine sg ?_ ?_ <;> (intro h; (fail_if_success (have : True := h)); try first | exact h.elim | exact absurd rfl h | (exfalso; omega))) | assumption | exact xm | exact rfl))
 ((with_reducible first | apply k_fun | apply k_fun_norm); exact rx)
 exact ⟨rfl, rfl⟩
theorem c_knownR (n : Int) (M : Mem) : CallOk Tryz.prog 50 [I n] M (fun w M' => w = .bool (knB n) /\ M' = M) := by
 refine call_in k50 rfl ?_
 dsimp only [x50, zipE, Nat.reduceAdd]
 (repeat' (first | (with_reducible intro _) | refine sv ?_ | (refine sc ?_ ?_ <;> (intro h; try first | exact h.elim | exact absurd rfl h | (exfalso; omega))) | ((with_reducible first | apply x_same | apply d_same | apply d_same0); exact gd; exact rfl; exact rfl; (first | exact c_btw _ _ _ _)) | (refine sg ?_ ?_ <;> (intro h; (fail_if_success (have : True := h)); try first | exact h.elim | exact absurd rfl h | (exfalso; omega))) | assumption | exact xm | exact rfl))
 ((with_reducible first | apply k_fun | apply k_fun_norm); exact rx)
 exact ⟨rfl, rfl⟩
theorem c_sample (n : Int) (M : Mem) : CallOk Tryz.prog 117 [I n] M (fun w M' => w = .bool (smB n) /\ M' = M) := by
 refine call_in k117 rfl ?_
 dsimp only [x117, zipE, Nat.reduceAdd]
 unfold smB
 cases hk : knB n with
 | true =>
  have hc : ∀ M, CallOk Tryz.prog 47 [I n] M (fun w M' => w = .bool true /\ M' = M) := fun M => by rw [<- hk]; exact c_known n M
  (repeat' (first | (with_reducible intro _) | refine sv ?_ | (refine sc ?_ ?_ <;> (intro h; try first | exact h.elim | exact absurd rfl h | (exfalso; omega))) | ((with_reducible first | apply x_same | apply d_same | apply d_same0); exact gd; exact rfl; exact rfl; (first | exact hc _)) | (refine sg ?_ ?_ <;> (intro h; (fail_if_success (have : True := h)); try first | exact h.elim | exact absurd rfl h | (exfalso; omega))) | assumption | exact xm | exact rfl))
  ((with_reducible first | apply k_fun | apply k_fun_norm); exact rx)
  exact ⟨rfl, rfl⟩
 | false =>
  have hc : ∀ M, CallOk Tryz.prog 47 [I n] M (fun w M' => w = .bool false /\ M' = M) := fun M => by rw [<- hk]; exact c_known n M
  (repeat' (first | (with_reducible intro _) | refine sv ?_ | (refine sc ?_ ?_ <;> (intro h; try first | exact h.elim | exact absurd rfl h | (exfalso; omega))) | ((with_reducible first | apply x_same | apply d_same | apply d_same0); exact gd; exact rfl; exact rfl; (first | exact hc _)) | (refine sg ?_ ?_ <;> (intro h; (fail_if_success (have : True := h)); try first | exact h.elim | exact absurd rfl h | (exfalso; omega))) | assumption | exact xm | exact rfl))
  all_goals (((with_reducible first | apply k_fun | apply k_fun_norm); exact rx); refine ⟨?_, rfl⟩; simp [packed]; try omega)
theorem c_CheckFrame1 (n : Int) (M : Mem) : CallOk Tryz.prog 116 [I n] M (fun w M' => w = .bool (!smB n) /\ M' = M) := by
 refine call_in k116 rfl ?_
 dsimp only [x116, zipE, Nat.reduceAdd]
 (repeat' (first | (with_reducible intro _) | refine sv ?_ | (refine sc ?_ ?_ <;> (intro h; try first | exact h.elim | exact absurd rfl h | (exfalso; omega))) | ((with_reducible first | apply x_same | apply d_same | apply d_same0); exact gd; exact rfl; exact rfl; (first | exact c_sample _ _)) | (refine sg ?_ ?_ <;> (intro h; (fail_if_success (have : True := h)); try first | exact h.elim | exact absurd rfl h | (exfalso; omega))) | assumption | exact xm | exact rfl))
 ((with_reducible first | apply k_fun | apply k_fun_norm); exact rx)
 exact ⟨rfl, rfl⟩
theorem anyR_iff {n : Nat} {p : Nat -> Bool} : (List.range n).any p = true ↔ ∃ j, j < n /\ p j = true := by
 rw [List.any_eq_true]
 exact ⟨fun ⟨j, h1, h2⟩ => ⟨j, List.mem_range.1 h1, h2⟩, fun ⟨j, h1, h2⟩ => ⟨j, List.mem_range.2 h1, h2⟩⟩
set_option maxHeartbeats 1000000 in
theorem c_IndexFunc {a : Option (Nat × Nat)} {n : Nat} {f : Bool} {e : Nat} {g : FuncId} {fi ca : List LV} {M : Mem} (elem : Nat -> LV) (p : Nat -> Bool) (hn : n <= 1000000000000000)
  (hread : ∀ k, k < n -> ∃ i o, a = some (i, o) /\ Rd1 M i (o + k * 1) (elem k)) (hp : ∀ k, k < n -> ∀ M', Grow M M' -> CallOk Tryz.prog g (fi ++ [elem k] ++ ca) M' (fun w M'' => w = .bool (p k) /\ M'' = M')) :
  CallOk Tryz.prog 98 [.slice a n f e, .func (.func g) fi ca] M (fun w M' => ∃ r : Int, w = I r /\ (0 <= r ↔ (List.range n).any p = true) /\ M' = M) := by
 refine call_in k98 rfl ?_
 dsimp only [x98, zipE, Nat.reduceAdd]
 (repeat' (first | (with_reducible intro _) | refine sv ?_ | (refine sc ?_ ?_ <;> (intro h; try first | exact h.elim | exact absurd rfl h | (exfalso; omega))) | (refine sg ?_ ?_ <;> (intro h; (fail_if_success (have : True := h)); try first | exact h.elim | exact absurd rfl h | (exfalso; omega))) | assumption | exact xm | exact rfl))
 refine w_loop_ind (fun m E ms M' => ∃ k : Nat, m = n - k /\ k <= n /\ ms = [] /\ Has E [(0, .slice a n f e), (1, .func (.func g) fi ca), (7, I n), (8, I k)] /\ M' = M /\ ∀ j, j < k -> p j = false)
  ?_ n _ _ _ ⟨0, by omega, by omega, rfl, .cons rfl (.cons rfl (.cons rfl (.cons rfl .nil))), rfl, fun j hj => absurd hj (Nat.not_lt_zero _)⟩
 rintro m E ms M1 ⟨k, rfl, hk, rfl, hE, rfl, hall⟩
 refine w_has hE ?_
 by_cases hlast : k = n
 ·subst hlast
  (repeat' (first | (with_reducible intro _) | refine sv ?_ | (refine sc ?_ ?_ <;> (intro h; try first | exact h.elim | exact absurd rfl h | (exfalso; omega))) | (refine sg ?_ ?_ <;> (intro h; (fail_if_success (have : True := h)); try first | exact h.elim | exact absurd rfl h | (exfalso; omega))) | assumption | exact xm | exact rfl))
  ((with_reducible first | apply k_fun | apply k_fun_norm); exact rx)
  refine ⟨-1, rfl, ?_, rfl⟩
  rw [anyR_iff]
  exact ⟨fun h => by omega, fun ⟨j, h1, h2⟩ => by rw [hall j h1] at h2; cases h2⟩
 have hlt : k < n := by omega
 obtain ⟨i, o, rfl, hr⟩ := hread k hlt
 have hc := hp k hlt M1 (Grow.refl _)
 cases hpk : p k with
 | true =>
  rw [hpk] at hc
  (have hrd0 := hr; repeat' (first | (with_reducible intro _) | refine sv ?_ | (refine sc ?_ ?_ <;> (intro h; try first | exact h.elim | exact absurd rfl h | (exfalso; omega))) | ((with_reducible first | apply x_same | apply d_same | apply d_same0); exact gd; exact rfl; exact rfl; (first | exact hc)) | (refine sg ?_ ?_ <;> (intro h; (fail_if_success (have : True := h)); try first | exact h.elim | exact absurd rfl h | (exfalso; omega))) | assumption | exact xm | exact rfl))
  ((with_reducible first | apply k_fun | apply k_fun_norm); exact rx)
  refine ⟨k, rfl, ?_, rfl⟩
  rw [anyR_iff]
  exact ⟨fun _ => ⟨k, hlt, hpk⟩, fun _ => by omega⟩
 | false =>
  rw [hpk] at hc
  (have hrd0 := hr; repeat' (first | (with_reducible intro _) | refine sv ?_ | (refine sc ?_ ?_ <;> (intro h; try first | exact h.elim | exact absurd rfl h | (exfalso; omega))) | ((with_reducible first | apply x_same | apply d_same | apply d_same0); exact gd; exact rfl; exact rfl; (first | exact hc)) | (refine sg ?_ ?_ <;> (intro h; (fail_if_success (have : True := h)); try first | exact h.elim | exact absurd rfl h | (exfalso; omega))) | assumption | exact xm | exact rfl))
  refine k_step (n - (k + 1)) (by omega) ⟨k + 1, rfl, by omega, rfl, .cons rfl (.cons rfl (.cons rfl (.cons rfl .nil))), rfl, fun j hj => ?_⟩
  by_cases hjk : j = k
  ·subst hjk; exact hpk
  ·exact hall j (by omega)
theorem c_ContainsFunc {a : Option (Nat × Nat)} {n : Nat} {f : Bool} {e : Nat} {g : FuncId} {fi ca : List LV} {M : Mem} (elem : Nat -> LV) (p : Nat -> Bool) (hn : n <= 1000000000000000)
  (hread : ∀ k, k < n -> ∃ i o, a = some (i, o) /\ Rd1 M i (o + k * 1) (elem k)) (hp : ∀ k, k < n -> ∀ M', Grow M M' -> CallOk Tryz.prog g (fi ++ [elem k] ++ ca) M' (fun w M'' => w = .bool (p k) /\ M'' = M')) :
  CallOk Tryz.prog 45 [.slice a n f e, .func (.func g) fi ca] M (fun w M' => w = .bool ((List.range n).any p) /\ M' = M) := by
 refine call_in k45 rfl ?_
 dsimp only [x45, zipE, Nat.reduceAdd]
 have hc := c_IndexFunc (f := f) (e := e) elem p hn hread hp
 (repeat' (first | (with_reducible intro _) | refine sv ?_ | (refine sc ?_ ?_ <;> (intro h; try first | exact h.elim | exact absurd rfl h | (exfalso; omega))) | ((with_reducible first | apply x_call | apply d_call | apply x_call0); exact gd; exact rfl; exact rfl; (first | exact hc)) | (refine sg ?_ ?_ <;> (intro h; (fail_if_success (have : True := h)); try first | exact h.elim | exact absurd rfl h | (exfalso; omega))) | assumption | exact xm | exact rfl))
 rename_i hq
 obtain ⟨r, rfl, hr, rfl⟩ := hq
 (repeat' (first | (with_reducible intro _) | refine sv ?_ | (refine sc ?_ ?_ <;> (intro h; try first | exact h.elim | exact absurd rfl h | (exfalso; omega))) | (refine sg ?_ ?_ <;> (intro h; (fail_if_success (have : True := h)); try first | exact h.elim | exact absurd rfl h | (exfalso; omega))) | assumption | exact xm | exact rfl))
 ((with_reducible first | apply k_fun | apply k_fun_norm); exact rx)
 refine ⟨?_, rfl⟩
 exact congrArg LV.bool (by rw [Bool.eq_iff_iff, decide_eq_true_iff]; exact hr)
theorem c_Contains {a : Option (Nat × Nat)} {l : List Int} {f : Bool} {e : Nat} {g : FuncId} {fi ca : List LV} {M : Mem} (p : Int -> Bool) (hn : l.length <= 1000000000000000) (hs : SlI M a l)
  (hp : ∀ n ∈ l, CallOk Tryz.prog g (fi ++ [I n] ++ ca) M (fun w M'' => w = .bool (p n) /\ M'' = M)) (hp' : ∀ n ∈ l, ∀ M', Grow M M' -> CallOk Tryz.prog g (fi ++ [I n] ++ ca) M' (fun w M'' => w = .bool (p n) /\ M'' = M')) :
  CallOk Tryz.prog 45 [.slice a l.length f e, .func (.func g) fi ca] M (fun w M' => w = .bool (l.any p) /\ M' = M) := by
 have := c_ContainsFunc (f := f) (e := e) (g := g) (fi := fi) (ca := ca) (M := M) (a := a) (n := l.length) (fun k => I (l.getD k 0)) (fun k => p (l.getD k 0)) hn (fun k hk => by
  obtain ⟨i, o, h1, h2⟩ := hs.rd hk
  exact ⟨i, o, h1, by rw [List.getD_eq_getElem?_getD, List.getElem?_eq_getElem hk]; exact h2⟩) (fun k hk M' hg => hp' _ (by rw [List.getD_eq_getElem?_getD, List.getElem?_eq_getElem hk]; exact List.getElem_mem hk) M' hg)
 have e1 : (List.range l.length).any (fun k => p (l.getD k 0)) = l.any p := by
  rw [Bool.eq_iff_iff, anyR_iff, List.any_eq_true]
  constructor
  ·rintro ⟨j, h1, h2⟩
   refine ⟨l[j], List.getElem_mem h1, ?_⟩
   rw [List.getD_eq_getElem?_getD, List.getElem?_eq_getElem h1] at h2; exact h2
  ·rintro ⟨x, h1, h2⟩
   obtain ⟨j, h3, rfl⟩ := List.getElem_of_mem h1
   exact ⟨j, h3, by rw [List.getD_eq_getElem?_getD, List.getElem?_eq_getElem h3]; exact h2⟩
 rw [e1] at this; exact this
theorem any_not {l : List Int} {p : Int -> Bool} : l.any (fun n => !p n) = !l.all p := by
 induction l with
 | nil => rfl
 | cons x xs ih => simp only [List.any_cons, List.all_cons, ih]; cases p x <;> simp
set_option maxHeartbeats 1000000 in
theorem c_CheckFrame {M : Mem} {v : LV} {x : Fr} (hv : FrV M v x) (hin : FrIn x) : CallOk Tryz.prog 67 [v] M (fun w M' => w = I (errF x) /\ Grow M M') := by
 obtain ⟨a, f, e, rfl, hs⟩ := hv
 refine call_in k67 rfl ?_
 dsimp only [x67, zipE, Nat.reduceAdd]
 have hc : ∀ M', Grow M M' -> CallOk Tryz.prog 45 [.slice a x.2.2.length f e, .func (.func 116) [] []] M' (fun w M'' => w = .bool (!x.2.2.all smB) /\ M'' = M') := fun M' hg => by
  have := c_Contains (f := f) (e := e) (g := 116) (fi := []) (ca := []) (M := M') (fun n => !smB n) hin.2.2.1 (hs.grow hg) (fun n _ => c_CheckFrame1 n M') (fun n _ M2 _ => c_CheckFrame1 n M2)
  rw [any_not] at this; exact this
 (repeat' (first | (with_reducible intro _) | refine sv ?_ | (refine sc ?_ ?_ <;> (intro h; try first | exact h.elim | exact absurd rfl h | (exfalso; omega))) | ((with_reducible first | apply x_same | apply d_same | apply d_same0); exact gd; exact rfl; exact rfl; (first | exact c_within _ _ _ _ | exact hc _ (xg))) | (refine sg ?_ ?_ <;> (intro h; (fail_if_success (have : True := h)); try first | exact h.elim | exact absurd rfl h | (exfalso; omega))) | assumption | exact xm | exact rfl))
 all_goals (((with_reducible first | apply k_fun | apply k_fun_norm); exact rx); refine ⟨?_, xg⟩; simp_all [packed, errF, frB, smsB])
set_option maxHeartbeats 1000000 in
theorem c_samplesR {M : Mem} {a : Option (Nat × Nat)} {f : Bool} {e : Nat} {l : List Int} (hs : SlI M a l) (hn : l.length <= 1000000000000000) :
  CallOk Tryz.prog 134 [.slice a l.length f e] M (fun w M' => w = .bool (smsB l) /\ M' = M) := by
 refine call_in k134 rfl ?_
 dsimp only [x134, zipE, Nat.reduceAdd]
 (repeat' (first | (with_reducible intro _) | refine sv ?_ | (refine sc ?_ ?_ <;> (intro h; try first | exact h.elim | exact absurd rfl h | (exfalso; omega))) | ((with_reducible first | apply x_same | apply d_same | apply d_same0); exact gd; exact rfl; exact rfl; (first | exact c_btw _ _ _ _)) | (refine sg ?_ ?_ <;> (intro h; (fail_if_success (have : True := h)); try first | exact h.elim | exact absurd rfl h | (exfalso; omega))) | assumption | exact xm | exact rfl))
 refine w_loop_ind (fun m E ms M' => ∃ k : Nat, m = l.length - k /\ k <= l.length /\ ms = [] /\ M' = M /\ Has E [(0, .slice a l.length f e), (3, .bool (btB l.length 1 64 && (l.take k).all smB)), (4, I k)])
  ?_ l.length _ _ _ ⟨0, by omega, by omega, rfl, rfl, .cons rfl (.cons (by show some (LV.bool _) = some (LV.bool _); simp) (.cons rfl .nil))⟩
 rintro n E ms M' ⟨k, rfl, hk, rfl, rfl, hE⟩
 refine w_has hE ?_
 by_cases hlast : k = l.length
 ·subst hlast
  (repeat' (first | (with_reducible intro _) | refine sv ?_ | (refine sc ?_ ?_ <;> (intro h; try first | exact h.elim | exact absurd rfl h | (exfalso; omega))) | (refine sg ?_ ?_ <;> (intro h; (fail_if_success (have : True := h)); try first | exact h.elim | exact absurd rfl h | (exfalso; omega))) | assumption | exact xm | exact rfl))
  ((with_reducible first | apply k_fun | apply k_fun_norm); exact rx)
  rw [List.take_length]; exact ⟨rfl, rfl⟩
 ·have hlt : k < l.length := by omega
  obtain ⟨i, o, rfl, hr⟩ := hs.rd hlt
  have htake : (l.take (k + 1)).all smB = ((l.take k).all smB && smB l[k]) := by rw [List.take_succ_eq_append_getElem hlt, List.all_append]; simp
  generalize hq : (btB l.length 1 64 && (l.take k).all smB) = q
  have hq' : (btB l.length 1 64 && (l.take (k + 1)).all smB) = (q && smB l[k]) := by rw [htake, <- Bool.and_assoc, hq]
  have hsm : smB l[k] = (knB l[k] || (decide (l[k] = 40000) || decide (l[k] = 40001))) := rfl
  cases q with
  | false =>
   (have hrd0 := hr; repeat' (first | (with_reducible intro _) | refine sv ?_ | (refine sc ?_ ?_ <;> (intro h; try first | exact h.elim | exact absurd rfl h | (exfalso; omega))) | (refine sg ?_ ?_ <;> (intro h; (fail_if_success (have : True := h)); try first | exact h.elim | exact absurd rfl h | (exfalso; omega))) | assumption | exact xm | exact rfl))
   refine k_step (l.length - (k + 1)) (by omega) ⟨k + 1, rfl, by omega, rfl, rfl, .cons rfl (.cons ?_ (.cons rfl .nil))⟩
   rw [hq']; rfl
  | true =>
   cases hk1 : knB l[k] with
   | true =>
    have hc : ∀ M, CallOk Tryz.prog 50 [I l[k]] M (fun w M' => w = .bool true /\ M' = M) := fun M => by rw [<- hk1]; exact c_knownR _ M
    (have hrd0 := hr; repeat' (first | (with_reducible intro _) | refine sv ?_ | (refine sc ?_ ?_ <;> (intro h; try first | exact h.elim | exact absurd rfl h | (exfalso; omega))) | ((with_reducible first | apply x_same | apply d_same | apply d_same0); exact gd; exact rfl; exact rfl; (first | exact hc _)) | (refine sg ?_ ?_ <;> (intro h; (fail_if_success (have : True := h)); try first | exact h.elim | exact absurd rfl h | (exfalso; omega))) | assumption | exact xm | exact rfl))
    refine k_step (l.length - (k + 1)) (by omega) ⟨k + 1, rfl, by omega, rfl, rfl, .cons rfl (.cons ?_ (.cons rfl .nil))⟩
    rw [hq', hsm, hk1]; rfl
   | false =>
    have hc : ∀ M, CallOk Tryz.prog 50 [I l[k]] M (fun w M' => w = .bool false /\ M' = M) := fun M => by rw [<- hk1]; exact c_knownR _ M
    (have hrd0 := hr; repeat' (first | (with_reducible intro _) | refine sv ?_ | (refine sc ?_ ?_ <;> (intro h; try first | exact h.elim | exact absurd rfl h | (exfalso; omega))) | ((with_reducible first | apply x_same | apply d_same | apply d_same0); exact gd; exact rfl; exact rfl; (first | exact hc _)) | (refine sg ?_ ?_ <;> (intro h; (fail_if_success (have : True := h)); try first | exact h.elim | exact absurd rfl h | (exfalso; omega))) | assumption | exact xm | exact rfl))
    all_goals (refine k_step (l.length - (k + 1)) (by omega) ⟨k + 1, rfl, by omega, rfl, rfl, .cons rfl (.cons ?_ (.cons rfl .nil))⟩; rw [hq', hsm, hk1]; simp_all; first | done | rfl)
set_option maxHeartbeats 1000000 in
theorem c_CheckFrameR {M : Mem} {v : LV} {x : Fr} (hv : FrV M v x) (hin : FrIn x) : CallOk Tryz.prog 99 [v] M (fun w M' => w = I (errF x) /\ Grow M M') := by
 obtain ⟨a, f, e, rfl, hs⟩ := hv
 refine call_in k99 rfl ?_
 dsimp only [x99, zipE, Nat.reduceAdd]
 have hc : ∀ M', Grow M M' -> CallOk Tryz.prog 134 [.slice a x.2.2.length f e] M' (fun w M'' => w = .bool (smsB x.2.2) /\ M'' = M') := fun M' hg => c_samplesR (hs.grow hg) hin.2.2.1
 (repeat' (first | (with_reducible intro _) | refine sv ?_ | (refine sc ?_ ?_ <;> (intro h; try first | exact h.elim | exact absurd rfl h | (exfalso; omega))) | ((with_reducible first | apply x_same | apply d_same | apply d_same0); exact gd; exact rfl; exact rfl; (first | exact c_btw _ _ _ _ | exact hc _ (xg))) | (refine sg ?_ ?_ <;> (intro h; (fail_if_success (have : True := h)); try first | exact h.elim | exact absurd rfl h | (exfalso; omega))) | assumption | exact xm | exact rfl))
 all_goals (((with_reducible first | apply k_fun | apply k_fun_norm); exact rx); refine ⟨?_, xg⟩; simp_all [packed, errF, frB])
end Go.Proofs.YtbfnnllgdioccaaGreatDoor.C
end
