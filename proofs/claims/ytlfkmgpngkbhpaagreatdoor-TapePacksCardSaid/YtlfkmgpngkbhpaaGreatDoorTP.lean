/-
 Part of the proof of TapePacks: what functions of the program and of the statement come to, walked by the rules. No condition beyond those in each theorem.
-/
import Derived.Test.YtlfkmgpngkbhpaaGreatDoorPvG
import Derived.Test.YtlfkmgpngkbhpaaGreatDoorTW
import Derived.Test.YtlfkmgpngkbhpaaGreatDoorTX
import Derived.Test.YtlfkmgpngkbhpaaGreatDoorPvH
section
open PvL
set_option linter.unusedVariables false
namespace Go.Proofs.YtlfkmgpngkbhpaaGreatDoor.C
def stepB (c : Int) : Int := if 65535 < shlZ c 1 then xorZ (andZ (shlZ c 1) 65535) 4129 else shlZ c 1
def stepN : Nat -> Int -> Int
 | 0, c => c
 | n + 1, c => stepB (stepN n c)
def byteC (c : Int) (b : Nat) : Int := stepN 8 (xorZ c (shlZ (b : Int) 8))
def crcK (s : ByteArray) : Nat -> Int
 | 0 => 65535
 | k + 1 => byteC (crcK s k) (byteAt s k)
theorem shl1 (c : Int) : shlZ c 1 = 2 * c := by unfold shlZ; show c * ((2 ^ 1 : Nat) : Int) = _; omega
theorem shl8 (c : Int) : shlZ c 8 = 256 * c := by unfold shlZ; show c * ((2 ^ 8 : Nat) : Int) = _; omega
theorem xorZ_bd {a b : Int} (ha : 0 <= a /\ a <= 65535) (hb : 0 <= b /\ b <= 65535) : 0 <= xorZ a b /\ xorZ a b <= 65535 := by
 have : a.toNat ^^^ b.toNat < 65536 := Nat.xor_lt_two_pow (n := 16) (by omega) (by omega)
 unfold xorZ; omega
theorem andZ_bd {a b : Int} (hb : 0 <= b) : 0 <= andZ a b /\ andZ a b <= b := by
 have : a.toNat &&& b.toNat <= b.toNat := Nat.and_le_right
 unfold andZ; omega
theorem stepB_bd {c : Int} (h : 0 <= c /\ c <= 65535) : 0 <= stepB c /\ stepB c <= 65535 := by
 unfold stepB
 have e := shl1 c
 split
 ·exact xorZ_bd (andZ_bd (by omega)) (by omega)
 ·omega
theorem stepN_bd {c : Int} (h : 0 <= c /\ c <= 65535) : ∀ n, 0 <= stepN n c /\ stepN n c <= 65535
 | 0 => h
 | n + 1 => stepB_bd (stepN_bd h n)
theorem byteC_bd {c : Int} (h : 0 <= c /\ c <= 65535) {b : Nat} (hb : b < 256) : 0 <= byteC c b /\ byteC c b <= 65535 := by
 have := shl8 (b : Int)
 exact stepN_bd (xorZ_bd h (by omega)) 8
theorem crcK_bd (s : ByteArray) : ∀ k, 0 <= crcK s k /\ crcK s k <= 65535
 | 0 => by unfold crcK; omega
 | k + 1 => byteC_bd (crcK_bd s k) (byteAt_lt s k)
end Go.Proofs.YtlfkmgpngkbhpaaGreatDoor.C
end
section
open Go PvL Go.Proofs
set_option linter.unusedSimpArgs false
set_option linter.unusedVariables false
namespace Go.Proofs.YtlfkmgpngkbhpaaGreatDoor.C
theorem c_Between (n a b : Int) (M : Mem) : CallOk Tryz.prog 45 [I n, I a, I b] M (fun w M' => w = .bool (decide (a <= n /\ n <= b)) /\ M' = M) := by
 refine call_in k45 rfl ?_
 dsimp only [x45, zipE, Nat.reduceAdd]
 (repeat' (first | (with_reducible intro _) | refine sv ?_ | (refine sc ?_ ?_ <;> (intro h; try first | exact h.elim | exact absurd rfl h | (exfalso; omega))) | (refine sg ?_ ?_ <;> (intro h; (fail_if_success (have : True := h)); try first | exact h.elim | exact absurd rfl h | (exfalso; omega))) | assumption | exact xm | exact rfl))
 ·((with_reducible first | apply k_fun | apply k_fun_norm); exact rx)
  refine ⟨?_, rfl⟩
  simp [packed]; omega
 ·((with_reducible first | apply k_fun | apply k_fun_norm); exact rx)
  refine ⟨?_, rfl⟩
  simp [packed]; omega
set_option maxHeartbeats 1000000 in
theorem c_Crc (s : ByteArray) (hs : s.size <= 140737488355328) (M : Mem) : CallOk Tryz.prog 35 [.str s] M (fun w M' => w = I (crcK s s.size) /\ M' = M) := by
 refine call_in k35 rfl ?_
 dsimp only [x35, zipE, Nat.reduceAdd]
 (repeat' (first | (with_reducible intro _) | refine sv ?_ | (refine sc ?_ ?_ <;> (intro h; try first | exact h.elim | exact absurd rfl h | (exfalso; omega))) | (refine sg ?_ ?_ <;> (intro h; (fail_if_success (have : True := h)); try first | exact h.elim | exact absurd rfl h | (exfalso; omega))) | assumption | exact xm | exact rfl))
 refine w_loop_ind (fun n E ms M' => ∃ k : Nat, n = s.size - k /\ k <= s.size /\ ms = [] /\ M' = M /\ Has E [(0, .str s), (3, I (crcK s k)), (6, I s.size), (7, I k)])
  ?_ s.size _ _ _ ⟨0, by omega, by omega, rfl, rfl, .cons rfl (.cons rfl (.cons rfl (.cons rfl .nil)))⟩
 rintro n E ms M' ⟨k, rfl, hk, rfl, rfl, hE⟩
 refine w_has hE ?_
 have hb := crcK_bd s k
 have hb2 := byteAt_lt s k
 have h8 := shl8 ((byteAt s k : Nat) : Int)
 by_cases hlast : k = s.size
 ·subst hlast
  (repeat' (first | (with_reducible intro _) | refine sv ?_ | (refine sc ?_ ?_ <;> (intro h; try first | exact h.elim | exact absurd rfl h | (exfalso; omega))) | (refine sg ?_ ?_ <;> (intro h; (fail_if_success (have : True := h)); try first | exact h.elim | exact absurd rfl h | (exfalso; omega))) | assumption | exact xm | exact rfl))
  ((with_reducible first | apply k_fun | apply k_fun_norm); exact rx)
  exact ⟨rfl, rfl⟩
 ·have hlt : k < s.size := by omega
  (repeat' (first | (with_reducible intro _) | refine sv ?_ | (refine sc ?_ ?_ <;> (intro h; try first | exact h.elim | exact absurd rfl h | (exfalso; omega))) | (refine sg ?_ ?_ <;> (intro h; (fail_if_success (have : True := h)); try first | exact h.elim | exact absurd rfl h | (exfalso; omega))) | assumption | exact xm | exact rfl))
  have hc0 := xorZ_bd (a := crcK s k) (b := shlZ ((byteAt s k : Nat) : Int) 8) hb (by omega)
  generalize hg : xorZ (crcK s k) (shlZ ((byteAt s k : Nat) : Int) 8) = c0 at hc0 ⊢
  refine w_loop_ind (fun n E ms M2 => ∃ j : Nat, n = 8 - j /\ j <= 8 /\ ms = [] /\ M2 = M' /\ Has E [(0, .str s), (3, I (stepN j c0)), (6, I s.size), (7, I k), (17, I j)])
   ?_ 8 _ _ _ ⟨0, by omega, by omega, rfl, rfl, .cons rfl (.cons rfl (.cons rfl (.cons rfl (.cons rfl .nil))))⟩
  rintro n E ms M' ⟨j, rfl, hj, rfl, rfl, hE⟩
  refine w_has hE ?_
  have hb3 := stepN_bd hc0 j
  have h1 := shl1 (stepN j c0)
  have ha := andZ_bd (a := shlZ (stepN j c0) 1) (b := 65535) (by omega)
  by_cases hj8 : j = 8
  ·subst hj8
   (repeat' (first | (with_reducible intro _) | refine sv ?_ | (refine sc ?_ ?_ <;> (intro h; try first | exact h.elim | exact absurd rfl h | (exfalso; omega))) | (refine sg ?_ ?_ <;> (intro h; (fail_if_success (have : True := h)); try first | exact h.elim | exact absurd rfl h | (exfalso; omega))) | assumption | exact xm | exact rfl))
   refine k_step (s.size - (k + 1)) (by omega) ⟨k + 1, rfl, by omega, rfl, rfl, .cons rfl (.cons ?_ (.cons rfl (.cons rfl .nil)))⟩
   show some (I (stepN 8 c0)) = some (I (byteC (crcK s k) (byteAt s k)))
   unfold byteC
   rw [hg]
  ·have hlt8 : j < 8 := by omega
   (repeat' (first | (with_reducible intro _) | refine sv ?_ | (refine sc ?_ ?_ <;> (intro h; try first | exact h.elim | exact absurd rfl h | (exfalso; omega))) | (refine sg ?_ ?_ <;> (intro h; (fail_if_success (have : True := h)); try first | exact h.elim | exact absurd rfl h | (exfalso; omega))) | assumption | exact xm | exact rfl))
   ·refine k_step (8 - (j + 1)) (by omega) ⟨j + 1, rfl, by omega, rfl, rfl, .cons rfl (.cons ?_ (.cons rfl (.cons rfl (.cons rfl .nil))))⟩
    show some (I _) = some (I (stepB (stepN j c0)))
    unfold stepB
    rw [if_pos (by assumption)]
   ·refine k_step (8 - (j + 1)) (by omega) ⟨j + 1, rfl, by omega, rfl, rfl, .cons rfl (.cons ?_ (.cons rfl (.cons rfl (.cons rfl .nil))))⟩
    show some (I _) = some (I (stepB (stepN j c0)))
    unfold stepB
    rw [if_neg (by omega)]
end Go.Proofs.YtlfkmgpngkbhpaaGreatDoor.C
end
section
open PvL Go
set_option linter.unusedVariables false
namespace Go.Proofs.YtlfkmgpngkbhpaaGreatDoor.C
def SlI (M : Mem) (a : Option (Nat × Nat)) (l : List Int) : Prop := l = [] ∨ ∃ i o, a = some (i, o) /\ ∀ k (hk : k < l.length), Rd1 M i (o + k * 1) (I l[k])
theorem SlI.grow {M M' : Mem} {a : Option (Nat × Nat)} {l : List Int} (h : SlI M a l) (hg : Grow M M') : SlI M' a l :=
 h.imp id fun ⟨i, o, h1, h2⟩ => ⟨i, o, h1, fun k hk => (h2 k hk).grow hg⟩
theorem SlI.rd {M : Mem} {a : Option (Nat × Nat)} {l : List Int} (h : SlI M a l) {k : Nat} (hk : k < l.length) : ∃ i o, a = some (i, o) /\ Rd1 M i (o + k * 1) (I l[k]) := by
 rcases h with rfl | ⟨i, o, h1, h2⟩
 ·exact absurd hk (Nat.not_lt_zero _)
 ·exact ⟨i, o, h1, h2 k hk⟩
abbrev intc (n : Int) : List LV := [I n]
theorem rd_one {M : Mem} {i o : Nat} {v : LV} (h : Rd M i o 1 [v]) : Rd1 M i o v := by
 have := Rd.nth (j := 0) h (v := v) rfl
 simpa using this
abbrev frSh : Sh := .pair (.int .i64) (.pair (.int .i64) (.sl (.int .i64) 8))
abbrev Fr := Int × Int × List Int
theorem enc_ints {m : Mem} {b : Nat} {l : List Int} {cs : List LV} (h : Enc m (.sl (.int .i64) b) l cs) : ∃ a f, cs = [.slice a l.length f 1] /\ SlI m a l /\ l.length <= reachBytes /\ ∀ x ∈ l, IntKind.min .i64 <= x /\ x <= IntKind.max .i64 := by
 obtain ⟨a, f, h1, h2, h3⟩ := h
 by_cases hl : l = []
 ·subst hl
  exact ⟨a, f, h1, .inl rfl, h2.1, fun x hx => nomatch hx⟩
 ·obtain ⟨i, o, g1, g2, _, g3⟩ := h3 hl
  have key : ∀ k (hk : k < l.length), Rd1 m i (o + k * 1) (I l[k]) /\ IntKind.min .i64 <= l[k] /\ l[k] <= IntKind.max .i64 := fun k hk => by
   obtain ⟨c, g4, g5, g6⟩ := g3 k hk
   rw [g5] at g4
   exact ⟨rd_one ⟨g4, g2⟩, g6⟩
  refine ⟨a, f, h1, .inr ⟨i, o, g1, fun k hk => (key k hk).1⟩, h2.1, fun x hx => ?_⟩
  obtain ⟨k, hk, rfl⟩ := List.getElem_of_mem hx
  exact (key k hk).2
def FrV (M : Mem) (v : LV) (x : Fr) : Prop := ∃ a f e, v = .agg [I x.1, I x.2.1, .slice a x.2.2.length f e] /\ SlI M a x.2.2
def I64 (n : Int) : Prop := -9223372036854775808 <= n /\ n <= 9223372036854775807
def FrIn (x : Fr) : Prop := I64 x.1 /\ I64 x.2.1 /\ x.2.2.length <= 1000000000000000 /\ ∀ n ∈ x.2.2, I64 n
theorem enc_fr {m : Mem} {x : Fr} {cs : List LV} (h : Enc m frSh x cs) : FrV m (.agg cs) x /\ FrIn x := by
 obtain ⟨c1, d1, rfl, ⟨rfl, hb1⟩, c2, d2, rfl, ⟨rfl, hb2⟩, h3⟩ := h
 obtain ⟨a, f, rfl, h4, h5, h6⟩ := enc_ints h3
 have h5 : x.2.2.length <= 140737488351232 := h5
 exact ⟨⟨a, f, 1, rfl, h4⟩, hb1, hb2, by omega, h6⟩
theorem FrV.grow {M M' : Mem} {v : LV} {x : Fr} (h : FrV M v x) (hg : Grow M M') : FrV M' v x := by
 obtain ⟨a, f, e, h1, h2⟩ := h
 exact ⟨a, f, e, h1, h2.grow hg⟩
def knB (n : Int) : Bool := decide (-32767 <= n /\ n <= 32767)
def smB (n : Int) : Bool := knB n || (decide (n = 40000) || decide (n = 40001))
def btB (n a b : Int) : Bool := decide (a <= n /\ n <= b)
def smsB (l : List Int) : Bool := btB l.length 1 64 && l.all smB
def frB (x : Fr) : Bool := btB x.1 0 60000 && (btB x.2.1 0 23 && smsB x.2.2)
def errF (x : Fr) : Int := if frB x then 0 else 80
end Go.Proofs.YtlfkmgpngkbhpaaGreatDoor.C
end
section
open PvL Go
set_option linter.unusedVariables false
namespace Go.Proofs.YtlfkmgpngkbhpaaGreatDoor.C
section
variable {α : Type} {b q : Nat} {ty : TypeId} {enc : α -> List LV} {M : Mem} {v : LV} {l l' : List α} {P : Program} [Orc P] {sz : Nat} {E : Env} {K : Env -> Mem -> Prop} {ll : List XG} {d : Nat} {g : Option (Nat × Bool)} {s x : XO} {st : List Mem} {k : Nat} {xs : List (Nat × Nat × (Mem -> Prop))} {ld : List (XG × XK)} {by' : Nat} {z : List LV} {xv : LV}
end
def SlB (b : Nat) (M : Mem) (a : Option (Nat × Nat)) (l : List Int) : Prop := l = [] ∨ ∃ i o, a = some (i, o) /\ b <= i /\ ∀ k (hk : k < l.length), Rd1 M i (o + k * 1) (I l[k])
theorem SlB.sl {b : Nat} {M : Mem} {a : Option (Nat × Nat)} {l : List Int} (h : SlB b M a l) : SlI M a l := h.imp id fun ⟨i, o, h1, _, h2⟩ => ⟨i, o, h1, h2⟩
theorem SlB.keep {b : Nat} {M M' : Mem} {F : Nat -> Prop} {a : Option (Nat × Nat)} {l : List Int} (h : SlB b M a l) (hk : Keep F M M') (hF : ∀ i, F i -> i < b) : SlB b M' a l :=
 h.imp id fun ⟨i, o, h1, h2, h3⟩ => ⟨i, o, h1, h2, fun k hk' => (h3 k hk').keep hk (fun hf => by have := hF i hf; omega)⟩
theorem SlB.weaken {b b' : Nat} {M : Mem} {a : Option (Nat × Nat)} {l : List Int} (h : SlB b M a l) (hb : b' <= b) : SlB b' M a l := h.imp id fun ⟨i, o, h1, h2, h3⟩ => ⟨i, o, h1, by omega, h3⟩
theorem SlB.grow {b : Nat} {M M' : Mem} {a : Option (Nat × Nat)} {l : List Int} (h : SlB b M a l) (hg : Grow M M') : SlB b M' a l :=
 h.imp id fun ⟨i, o, h1, h2, h3⟩ => ⟨i, o, h1, h2, fun k hk => (h3 k hk).grow hg⟩
def FrB (b : Nat) (M : Mem) (v : LV) (x : Fr) : Prop := ∃ a f e, v = .agg [I x.1, I x.2.1, .slice a x.2.2.length f e] /\ SlB b M a x.2.2
theorem FrB.fr {b : Nat} {M : Mem} {v : LV} {x : Fr} (h : FrB b M v x) : FrV M v x := by
 obtain ⟨a, f, e, h1, h2⟩ := h
 exact ⟨a, f, e, h1, h2.sl⟩
def joinI (a b : Int) : Int := if a = b ∨ b = 40000 then a else if a = 40000 then b else 40001
def getG (l : List Int) (k : Nat) : Int := l.getD k 40000
def bothL (a b : List Int) : List Int := (List.range (max a.length b.length)).map fun k => joinI (getG a k) (getG b k)
theorem getG_lt {l : List Int} {k : Nat} (h : k < l.length) : getG l k = l[k] := by unfold getG; rw [List.getD_eq_getElem?_getD, List.getElem?_eq_getElem h]; rfl
end Go.Proofs.YtlfkmgpngkbhpaaGreatDoor.C
end
section
open PvL Go
set_option linter.unusedVariables false
namespace Go.Proofs.YtlfkmgpngkbhpaaGreatDoor.C
def ltB (c : Nat) : Bool := decide (97 <= c /\ c <= 122)
def dgB (c : Nat) : Bool := decide (c = 95) || decide (48 <= c /\ c <= 57)
def nmK (s : ByteArray) : Nat -> Bool
 | 0 => true
 | k + 1 => nmK s k && (ltB (byteAt s k) || (decide (k ≠ 0) && dgB (byteAt s k)))
def nmB (s : ByteArray) : Bool := nmK s s.size && btB s.size 1 16
theorem nmK_s (s : ByteArray) (k : Nat) : nmK s (k + 1) = (nmK s k && (ltB (byteAt s k) || (decide (k ≠ 0) && dgB (byteAt s k)))) := rfl
theorem nmK_no {s : ByteArray} : ∀ {n k : Nat}, k <= n -> nmK s k = false -> nmK s n = false
 | 0, k, h, hk => by obtain rfl : k = 0 := by omega
                     exact hk
 | n + 1, k, h, hk => by
  by_cases he : k = n + 1
  ·subst he; exact hk
  ·rw [nmK_s, nmK_no (n := n) (by omega) hk]; rfl
theorem nmB_no {s : ByteArray} {k : Nat} (h : k <= s.size) (hk : nmK s k = false) : nmB s = false := by unfold nmB; rw [nmK_no h hk]; rfl
abbrev Rl := ByteArray × List Fr
def FsV (M : Mem) (a : Option (Nat × Nat)) (L : List Fr) : Prop := L = [] ∨ ∃ i o, a = some (i, o) /\ ∀ k (hk : k < L.length), ∃ b g u, Rd M i (o + k * 3) 3 [I L[k].1, I L[k].2.1, .slice b L[k].2.2.length g u] /\ SlI M b L[k].2.2
theorem FsV.grow {M M' : Mem} {a : Option (Nat × Nat)} {L : List Fr} (h : FsV M a L) (hg : Grow M M') : FsV M' a L :=
 h.imp id fun ⟨i, o, h1, h2⟩ => ⟨i, o, h1, fun k hk => by
  obtain ⟨b, g, u, h3, h4⟩ := h2 k hk
  exact ⟨b, g, u, h3.grow hg, h4.grow hg⟩⟩
def zFr0 : Fr := (0, 0, [])
def fe (L : List Fr) (k : Nat) : Fr := L.getD k zFr0
theorem fe_lt {L : List Fr} {k : Nat} (h : k < L.length) : fe L k = L[k] := by unfold fe; rw [List.getD_eq_getElem?_getD, List.getElem?_eq_getElem h]; rfl
theorem FsV.rd {M : Mem} {a : Option (Nat × Nat)} {L : List Fr} (h : FsV M a L) {k : Nat} (hk : k < L.length) : ∃ i o b g u, a = some (i, o) /\ Rd M i (o + k * 3) 3 [I (fe L k).1, I (fe L k).2.1, .slice b (fe L k).2.2.length g u] /\ FrV M (.agg [I (fe L k).1, I (fe L k).2.1, .slice b (fe L k).2.2.length g u]) (fe L k) := by
 rcases h with rfl | ⟨i, o, h1, h2⟩
 ·exact absurd hk (Nat.not_lt_zero _)
 ·obtain ⟨b, g, u, h3, h4⟩ := h2 k hk
  rw [<- fe_lt hk] at h3 h4
  exact ⟨i, o, b, g, u, h1, h3, b, g, u, rfl, h4⟩
def RlV (M : Mem) (v : LV) (r : Rl) : Prop := ∃ a f e, v = .agg [.str r.1, .slice a r.2.length f e] /\ FsV M a r.2
theorem RlV.grow {M M' : Mem} {v : LV} {r : Rl} (h : RlV M v r) (hg : Grow M M') : RlV M' v r := by
 obtain ⟨a, f, e, h1, h2⟩ := h
 exact ⟨a, f, e, h1, h2.grow hg⟩
def RlIn (r : Rl) : Prop := r.1.size <= 1000000000000000 /\ r.2.length <= 1000000000000000 /\ ∀ x ∈ r.2, FrIn x
theorem RlIn.fr {r : Rl} (h : RlIn r) {k : Nat} (hk : k < r.2.length) : FrIn (fe r.2 k) := by rw [fe_lt hk]; exact h.2.2 _ (List.getElem_mem hk)
abbrev rlSh : Sh := .pair .str (.sl frSh 40)
theorem enc_rl {m : Mem} {r : Rl} {cs : List LV} (h : Enc m rlSh r cs) : RlV m (.agg cs) r /\ RlIn r := by
 obtain ⟨c1, d1, rfl, ⟨rfl, hb1⟩, a, f, rfl, h2, h3⟩ := h
 have hb1 : r.1.size <= 140737488351232 := hb1
 have h2 : r.2.length <= 140737488351232 := h2.1
 by_cases hl : r.2 = []
 ·refine ⟨⟨a, f, _, rfl, .inl hl⟩, by omega, by omega, fun x hx => ?_⟩
  rw [hl] at hx; cases hx
 ·obtain ⟨i, o, g1, g2, _, g3⟩ := h3 hl
  have key : ∀ k (hk : k < r.2.length), (∃ b g u, Rd m i (o + k * 3) 3 [I r.2[k].1, I r.2[k].2.1, .slice b r.2[k].2.2.length g u] /\ SlI m b r.2[k].2.2) /\ FrIn r.2[k] := fun k hk => by
   obtain ⟨c, g4, g5⟩ := g3 k hk
   obtain ⟨⟨b, g, u, g6, g7⟩, g8⟩ := enc_fr g5
   injection g6 with g6
   subst g6
   exact ⟨⟨b, g, u, ⟨g4, g2⟩, g7⟩, g8⟩
  refine ⟨⟨a, f, _, rfl, .inr ⟨i, o, g1, fun k hk => (key k hk).1⟩⟩, by omega, by omega, fun x hx => ?_⟩
  obtain ⟨k, hk, rfl⟩ := List.getElem_of_mem hx
  exact (key k hk).2
def keyI (x : Fr) : Int := 24 * x.1 + x.2.1
def rlK (L : List Fr) : Nat -> Bool
 | 0 => true
 | k + 1 => rlK L k && (frB (fe L k) && (decide (k = 0) || decide (keyI (fe L (k - 1)) < keyI (fe L k))))
def rlB (r : Rl) : Bool := (nmB r.1 && decide (r.2.length <= 128)) && rlK r.2 r.2.length
def errRl (r : Rl) : Int := if rlB r then 0 else 81
theorem rlK_s (L : List Fr) (k : Nat) : rlK L (k + 1) = (rlK L k && (frB (fe L k) && (decide (k = 0) || decide (keyI (fe L (k - 1)) < keyI (fe L k))))) := rfl
theorem rlK_no {L : List Fr} : ∀ {n k : Nat}, k <= n -> rlK L k = false -> rlK L n = false
 | 0, k, h, hk => by obtain rfl : k = 0 := by omega
                     exact hk
 | n + 1, k, h, hk => by
  by_cases he : k = n + 1
  ·subst he; exact hk
  ·rw [rlK_s, rlK_no (n := n) (by omega) hk]; rfl
theorem rlK_fr {L : List Fr} {k i : Nat} (h : rlK L k = true) (hi : i < k) : frB (fe L i) = true := by
 cases hq : frB (fe L i) with
 | true => rfl
 | false =>
  rw [rlK_no (n := k) (k := i + 1) (by omega) (by rw [rlK_s, hq]; simp)] at h
  cases h
theorem errRl_no {r : Rl} {k : Nat} (h : k <= r.2.length) (hk : rlK r.2 k = false) : errRl r = 81 := by unfold errRl rlB; rw [rlK_no h hk, Bool.and_false]; rfl
theorem frB_bd {x : Fr} (h : frB x = true) : 0 <= x.1 /\ x.1 <= 60000 /\ 0 <= x.2.1 /\ x.2.1 <= 23 /\ smsB x.2.2 = true := by
 unfold frB btB at h
 simp only [Bool.and_eq_true, decide_eq_true_eq] at h
 exact ⟨h.1.1, h.1.2, h.2.1.1, h.2.1.2, h.2.2⟩
def cmpI8 (a b : Int) : Int := if a < b then -1 else if b < a then 1 else 0
def cmpK (a b : Int × Int) : Int := if cmpI8 a.1 b.1 ≠ 0 then cmpI8 a.1 b.1 else cmpI8 a.2 b.2
theorem cmpK_ge {x y : Fr} (hx : frB x = true) (hy : frB y = true) : decide (cmpK (x.1, x.2.1) (y.1, y.2.1) >= 0) = !decide (keyI x < keyI y) := by
 have h1 := frB_bd hx
 have h2 := frB_bd hy
 unfold cmpK cmpI8 keyI
 dsimp only
 rw [<- decide_not]
 refine decide_eq_decide.2 ?_
 split <;> split <;> (try split) <;> (try split) <;> omega
def u8 (n : Nat) : UInt8 := UInt8.ofNat n
theorem u8_n {n : Nat} (h : n < 256) : (u8 n).toNat = n := by unfold u8; simp; omega
def strL (l : List UInt8) : ByteArray := ⟨⟨l⟩⟩
theorem strL_app (a b : List UInt8) : strL a ++ strL b = strL (a ++ b) := by
 unfold strL
 apply ByteArray.ext
 simp
theorem strL_size (l : List UInt8) : (strL l).size = l.length := rfl
def twoL (n : Nat) : List UInt8 := [u8 (n / 256), u8 (n % 256)]
def cdF : Nat -> Nat -> List UInt8
 | 0, _ => []
 | f + 1, n => if 128 <= n then u8 (n % 128 + 128) :: cdF f (n / 128) else [u8 n]
theorem cdF_fuel : ∀ (f g n : Nat), n < f -> n < g -> cdF f n = cdF g n
 | 0, _, n, h, _ => absurd h (Nat.not_lt_zero _)
 | _, 0, n, _, h => absurd h (Nat.not_lt_zero _)
 | f + 1, g + 1, n, h1, h2 => by
  unfold cdF
  split
  ·rename_i hc
   rw [cdF_fuel f g (n / 128) (by omega) (by omega)]
  ·rfl
def cdN (n : Nat) : List UInt8 := cdF (n + 1) n
theorem cdN_ge {n : Nat} (h : 128 <= n) : cdN n = u8 (n % 128 + 128) :: cdN (n / 128) := by
 unfold cdN
 show (if 128 <= n then _ else _) = _
 rw [if_pos h, cdF_fuel n (n / 128 + 1) (n / 128) (by omega) (by omega)]
theorem cdN_lt {n : Nat} (h : n < 128) : cdN n = [u8 n] := by
 unfold cdN
 show (if 128 <= n then _ else _) = _
 rw [if_neg (by omega)]
def cdS (n last : Int) : Int × Int := if n = 40001 then (1, last) else if knB n then (if n - last < 0 then 1 - 2 * (n - last) else 2 * (n - last) + 2, n) else (0, last)
def lsA (l : List Int) : Nat -> Int
 | 0 => 0
 | k + 1 => (cdS (getG l k) (lsA l k)).2
def cdA (l : List Int) (k : Nat) : Int := (cdS (getG l k) (lsA l k)).1
theorem lsA_bd (l : List Int) : ∀ k, -32767 <= lsA l k /\ lsA l k <= 32767
 | 0 => by unfold lsA; omega
 | k + 1 => by
  have h := lsA_bd l k
  unfold lsA cdS
  split
  ·exact h
  ·split
   ·rename_i hk
    exact of_decide_eq_true hk
   ·exact h
theorem cdA_bd (l : List Int) (k : Nat) : 0 <= cdA l k /\ cdA l k <= 131070 := by
 have h := lsA_bd l k
 unfold cdA cdS
 split
 ·dsimp only; omega
 ·split
  ·rename_i hk
   have hk : -32767 <= getG l k /\ getG l k <= 32767 := of_decide_eq_true hk
   dsimp only
   split <;> omega
  ·dsimp only; omega
def cdsL (l : List Int) (k : Nat) : List UInt8 := (List.range k).flatMap fun i => cdN (cdA l i).toNat
theorem cdsL_s (l : List Int) (k : Nat) : cdsL l (k + 1) = cdsL l k ++ cdN (cdA l k).toNat := by unfold cdsL; rw [List.range_succ, List.flatMap_append]; simp
theorem cdN_len : ∀ (n : Nat), (cdN n).length <= n / 128 + 1
 | n => by
  by_cases h : 128 <= n
  ·rw [cdN_ge h, List.length_cons]
   have := cdN_len (n / 128)
   omega
  ·rw [cdN_lt (by omega)]; simp
theorem cdsL_len (l : List Int) : ∀ k, (cdsL l k).length <= 1100 * k
 | 0 => by unfold cdsL; simp
 | k + 1 => by
  rw [cdsL_s, List.length_append]
  have h1 := cdsL_len l k
  have h2 := cdN_len (cdA l k).toNat
  have h3 := cdA_bd l k
  omega
def hdL (x : Fr) : List UInt8 := [165, 90] ++ twoL x.1.toNat ++ [u8 x.2.1.toNat, u8 x.2.2.length]
def bodyL (x : Fr) : List UInt8 := hdL x ++ cdsL x.2.2 x.2.2.length
def chkL (l : List UInt8) : List UInt8 := l ++ twoL (crcK (strL l) l.length).toNat
def pkL (x : Fr) : List UInt8 := chkL (bodyL x)
theorem pkL_len {x : Fr} (h : x.2.2.length <= 64) : (pkL x).length <= 100000 := by
 have := cdsL_len x.2.2 x.2.2.length
 unfold pkL chkL bodyL hdL twoL
 simp only [List.length_append, List.length_cons, List.length_nil]
 omega
def rhL (r : Rl) : List UInt8 := [80, 65, 82, 65, 86, 65, 78, 69] ++ [u8 r.1.size] ++ r.1.data.toList ++ [u8 r.2.length]
def rpL (r : Rl) : List UInt8 := chkL (rhL r) ++ r.2.flatMap pkL
end Go.Proofs.YtlfkmgpngkbhpaaGreatDoor.C
end
section
open Go PvL Go.Proofs
set_option linter.unusedSimpArgs false
set_option linter.unusedVariables false
namespace Go.Proofs.YtlfkmgpngkbhpaaGreatDoor.C
theorem c_within (n a b : Int) (M : Mem) : CallOk Tryz.prog 59 [I n, I a, I b] M (fun w M' => w = .bool (btB n a b) /\ M' = M) := by
 refine call_in k59 rfl ?_
 dsimp only [x59, zipE, Nat.reduceAdd]
 (repeat' (first | (with_reducible intro _) | refine sv ?_ | (refine sc ?_ ?_ <;> (intro h; try first | exact h.elim | exact absurd rfl h | (exfalso; omega))) | (refine sg ?_ ?_ <;> (intro h; (fail_if_success (have : True := h)); try first | exact h.elim | exact absurd rfl h | (exfalso; omega))) | assumption | exact xm | exact rfl))
 ·((with_reducible first | apply k_fun | apply k_fun_norm); exact rx)
  refine ⟨?_, rfl⟩
  simp [packed, btB]; omega
 ·((with_reducible first | apply k_fun | apply k_fun_norm); exact rx)
  refine ⟨?_, rfl⟩
  simp [packed, btB]; omega
theorem c_btw (n a b : Int) (M : Mem) : CallOk Tryz.prog 45 [I n, I a, I b] M (fun w M' => w = .bool (btB n a b) /\ M' = M) := c_Between n a b M
theorem c_known (n : Int) (M : Mem) : CallOk Tryz.prog 79 [I n] M (fun w M' => w = .bool (knB n) /\ M' = M) := by
 refine call_in k79 rfl ?_
 dsimp only [x79, zipE, Nat.reduceAdd]
 (repeat' (first | (with_reducible intro _) | refine sv ?_ | (refine sc ?_ ?_ <;> (intro h; try first | exact h.elim | exact absurd rfl h | (exfalso; omega))) | ((with_reducible first | apply x_same | apply d_same | apply d_same0); exact gd; exact rfl; exact rfl; (first | exact c_within _ _ _ _)) | (refine sg ?_ ?_ <;> (intro h; (fail_if_success (have : True := h)); try first | exact h.elim | exact absurd rfl h | (exfalso; omega))) | assumption | exact xm | exact rfl))
 ((with_reducible first | apply k_fun | apply k_fun_norm); exact rx)
 exact ⟨rfl, rfl⟩
theorem c_knownR (n : Int) (M : Mem) : CallOk Tryz.prog 92 [I n] M (fun w M' => w = .bool (knB n) /\ M' = M) := by
 refine call_in k92 rfl ?_
 dsimp only [x92, zipE, Nat.reduceAdd]
 (repeat' (first | (with_reducible intro _) | refine sv ?_ | (refine sc ?_ ?_ <;> (intro h; try first | exact h.elim | exact absurd rfl h | (exfalso; omega))) | ((with_reducible first | apply x_same | apply d_same | apply d_same0); exact gd; exact rfl; exact rfl; (first | exact c_btw _ _ _ _)) | (refine sg ?_ ?_ <;> (intro h; (fail_if_success (have : True := h)); try first | exact h.elim | exact absurd rfl h | (exfalso; omega))) | assumption | exact xm | exact rfl))
 ((with_reducible first | apply k_fun | apply k_fun_norm); exact rx)
 exact ⟨rfl, rfl⟩
theorem c_sample (n : Int) (M : Mem) : CallOk Tryz.prog 62 [I n] M (fun w M' => w = .bool (smB n) /\ M' = M) := by
 refine call_in k62 rfl ?_
 dsimp only [x62, zipE, Nat.reduceAdd]
 unfold smB
 cases hk : knB n with
 | true =>
  have hc : ∀ M, CallOk Tryz.prog 79 [I n] M (fun w M' => w = .bool true /\ M' = M) := fun M => by rw [<- hk]; exact c_known n M
  (repeat' (first | (with_reducible intro _) | refine sv ?_ | (refine sc ?_ ?_ <;> (intro h; try first | exact h.elim | exact absurd rfl h | (exfalso; omega))) | ((with_reducible first | apply x_same | apply d_same | apply d_same0); exact gd; exact rfl; exact rfl; (first | exact hc _)) | (refine sg ?_ ?_ <;> (intro h; (fail_if_success (have : True := h)); try first | exact h.elim | exact absurd rfl h | (exfalso; omega))) | assumption | exact xm | exact rfl))
  ((with_reducible first | apply k_fun | apply k_fun_norm); exact rx)
  exact ⟨rfl, rfl⟩
 | false =>
  have hc : ∀ M, CallOk Tryz.prog 79 [I n] M (fun w M' => w = .bool false /\ M' = M) := fun M => by rw [<- hk]; exact c_known n M
  (repeat' (first | (with_reducible intro _) | refine sv ?_ | (refine sc ?_ ?_ <;> (intro h; try first | exact h.elim | exact absurd rfl h | (exfalso; omega))) | ((with_reducible first | apply x_same | apply d_same | apply d_same0); exact gd; exact rfl; exact rfl; (first | exact hc _)) | (refine sg ?_ ?_ <;> (intro h; (fail_if_success (have : True := h)); try first | exact h.elim | exact absurd rfl h | (exfalso; omega))) | assumption | exact xm | exact rfl))
  all_goals (((with_reducible first | apply k_fun | apply k_fun_norm); exact rx); refine ⟨?_, rfl⟩; simp [packed]; try omega)
theorem c_CheckFrame1 (n : Int) (M : Mem) : CallOk Tryz.prog 61 [I n] M (fun w M' => w = .bool (!smB n) /\ M' = M) := by
 refine call_in k61 rfl ?_
 dsimp only [x61, zipE, Nat.reduceAdd]
 (repeat' (first | (with_reducible intro _) | refine sv ?_ | (refine sc ?_ ?_ <;> (intro h; try first | exact h.elim | exact absurd rfl h | (exfalso; omega))) | ((with_reducible first | apply x_same | apply d_same | apply d_same0); exact gd; exact rfl; exact rfl; (first | exact c_sample _ _)) | (refine sg ?_ ?_ <;> (intro h; (fail_if_success (have : True := h)); try first | exact h.elim | exact absurd rfl h | (exfalso; omega))) | assumption | exact xm | exact rfl))
 ((with_reducible first | apply k_fun | apply k_fun_norm); exact rx)
 exact ⟨rfl, rfl⟩
theorem anyR_iff {n : Nat} {p : Nat -> Bool} : (List.range n).any p = true ↔ ∃ j, j < n /\ p j = true := by
 rw [List.any_eq_true]
 exact ⟨fun ⟨j, h1, h2⟩ => ⟨j, List.mem_range.1 h1, h2⟩, fun ⟨j, h1, h2⟩ => ⟨j, List.mem_range.2 h1, h2⟩⟩
set_option maxHeartbeats 1000000 in
theorem c_IndexFunc {a : Option (Nat × Nat)} {n : Nat} {f : Bool} {e : Nat} {g : FuncId} {fi ca : List LV} {M : Mem} (elem : Nat -> LV) (p : Nat -> Bool) (hn : n <= 1000000000000000)
  (hread : ∀ k, k < n -> ∃ i o, a = some (i, o) /\ Rd1 M i (o + k * 1) (elem k)) (hp : ∀ k, k < n -> ∀ M', Grow M M' -> CallOk Tryz.prog g (fi ++ [elem k] ++ ca) M' (fun w M'' => w = .bool (p k) /\ M'' = M')) :
  CallOk Tryz.prog 101 [.slice a n f e, .func (.func g) fi ca] M (fun w M' => ∃ r : Int, w = I r /\ (0 <= r ↔ (List.range n).any p = true) /\ M' = M) := by
 refine call_in k101 rfl ?_
 dsimp only [x101, zipE, Nat.reduceAdd]
 (repeat' (first | (with_reducible intro _) | refine sv ?_ | (refine sc ?_ ?_ <;> (intro h; try first | exact h.elim | exact absurd rfl h | (exfalso; omega))) | (refine sg ?_ ?_ <;> (intro h; (fail_if_success (have : True := h)); try first | exact h.elim | exact absurd rfl h | (exfalso; omega))) | assumption | exact xm | exact rfl))
 refine w_loop_ind (fun m E ms M' => ∃ k : Nat, m = n - k /\ k <= n /\ ms = [] /\ Has E [(0, .slice a n f e), (1, .func (.func g) fi ca), (7, I n), (8, I k)] /\ M' = M /\ ∀ j, j < k -> p j = false)
  ?_ n _ _ _ ⟨0, by omega, by omega, rfl, .cons rfl (.cons rfl (.cons rfl (.cons rfl .nil))), rfl, fun j hj => absurd hj (Nat.not_lt_zero _)⟩
 rintro m E ms M1 ⟨k, rfl, hk, rfl, hE, rfl, hall⟩
 refine w_has hE ?_
 by_cases hlast : k = n
 ·subst hlast
  (repeat' (first | (with_reducible intro _) | refine sv ?_ | (refine sc ?_ ?_ <;> (intro h; try first | exact h.elim | exact absurd rfl h | (exfalso; omega))) | (refine sg ?_ ?_ <;> (intro h; (fail_if_success (have : True := h)); try first | exact h.elim | exact absurd rfl h | (exfalso; omega))) | assumption | exact xm | exact rfl))
  ((with_reducible first | apply k_fun | apply k_fun_norm); exact rx)
  refine ⟨-1, rfl, ?_, rfl⟩
  rw [anyR_iff]
  exact ⟨fun h => by omega, fun ⟨j, h1, h2⟩ => by rw [hall j h1] at h2; cases h2⟩
 have hlt : k < n := by omega
 obtain ⟨i, o, rfl, hr⟩ := hread k hlt
 have hc := hp k hlt M1 (Grow.refl _)
 cases hpk : p k with
 | true =>
  rw [hpk] at hc
  (have hrd0 := hr; repeat' (first | (with_reducible intro _) | refine sv ?_ | (refine sc ?_ ?_ <;> (intro h; try first | exact h.elim | exact absurd rfl h | (exfalso; omega))) | ((with_reducible first | apply x_same | apply d_same | apply d_same0); exact gd; exact rfl; exact rfl; (first | exact hc)) | (refine sg ?_ ?_ <;> (intro h; (fail_if_success (have : True := h)); try first | exact h.elim | exact absurd rfl h | (exfalso; omega))) | assumption | exact xm | exact rfl))
  ((with_reducible first | apply k_fun | apply k_fun_norm); exact rx)
  refine ⟨k, rfl, ?_, rfl⟩
  rw [anyR_iff]
  exact ⟨fun _ => ⟨k, hlt, hpk⟩, fun _ => by omega⟩
 | false =>
  rw [hpk] at hc
  (have hrd0 := hr; repeat' (first | (with_reducible intro _) | refine sv ?_ | (refine sc ?_ ?_ <;> (intro h; try first | exact h.elim | exact absurd rfl h | (exfalso; omega))) | ((with_reducible first | apply x_same | apply d_same | apply d_same0); exact gd; exact rfl; exact rfl; (first | exact hc)) | (refine sg ?_ ?_ <;> (intro h; (fail_if_success (have : True := h)); try first | exact h.elim | exact absurd rfl h | (exfalso; omega))) | assumption | exact xm | exact rfl))
  refine k_step (n - (k + 1)) (by omega) ⟨k + 1, rfl, by omega, rfl, .cons rfl (.cons rfl (.cons rfl (.cons rfl .nil))), rfl, fun j hj => ?_⟩
  by_cases hjk : j = k
  ·subst hjk; exact hpk
  ·exact hall j (by omega)
theorem c_ContainsFunc {a : Option (Nat × Nat)} {n : Nat} {f : Bool} {e : Nat} {g : FuncId} {fi ca : List LV} {M : Mem} (elem : Nat -> LV) (p : Nat -> Bool) (hn : n <= 1000000000000000)
  (hread : ∀ k, k < n -> ∃ i o, a = some (i, o) /\ Rd1 M i (o + k * 1) (elem k)) (hp : ∀ k, k < n -> ∀ M', Grow M M' -> CallOk Tryz.prog g (fi ++ [elem k] ++ ca) M' (fun w M'' => w = .bool (p k) /\ M'' = M')) :
  CallOk Tryz.prog 60 [.slice a n f e, .func (.func g) fi ca] M (fun w M' => w = .bool ((List.range n).any p) /\ M' = M) := by
 refine call_in k60 rfl ?_
 dsimp only [x60, zipE, Nat.reduceAdd]
 have hc := c_IndexFunc (f := f) (e := e) elem p hn hread hp
 (repeat' (first | (with_reducible intro _) | refine sv ?_ | (refine sc ?_ ?_ <;> (intro h; try first | exact h.elim | exact absurd rfl h | (exfalso; omega))) | ((with_reducible first | apply x_call | apply d_call | apply x_call0); exact gd; exact rfl; exact rfl; (first | exact hc)) | (refine sg ?_ ?_ <;> (intro h; (fail_if_success (have : True := h)); try first | exact h.elim | exact absurd rfl h | (exfalso; omega))) | assumption | exact xm | exact rfl))
 rename_i hq
 obtain ⟨r, rfl, hr, rfl⟩ := hq
 (repeat' (first | (with_reducible intro _) | refine sv ?_ | (refine sc ?_ ?_ <;> (intro h; try first | exact h.elim | exact absurd rfl h | (exfalso; omega))) | (refine sg ?_ ?_ <;> (intro h; (fail_if_success (have : True := h)); try first | exact h.elim | exact absurd rfl h | (exfalso; omega))) | assumption | exact xm | exact rfl))
 ((with_reducible first | apply k_fun | apply k_fun_norm); exact rx)
 refine ⟨?_, rfl⟩
 exact congrArg LV.bool (by rw [Bool.eq_iff_iff, decide_eq_true_iff]; exact hr)
theorem c_Contains {a : Option (Nat × Nat)} {l : List Int} {f : Bool} {e : Nat} {g : FuncId} {fi ca : List LV} {M : Mem} (p : Int -> Bool) (hn : l.length <= 1000000000000000) (hs : SlI M a l)
  (hp : ∀ n ∈ l, CallOk Tryz.prog g (fi ++ [I n] ++ ca) M (fun w M'' => w = .bool (p n) /\ M'' = M)) (hp' : ∀ n ∈ l, ∀ M', Grow M M' -> CallOk Tryz.prog g (fi ++ [I n] ++ ca) M' (fun w M'' => w = .bool (p n) /\ M'' = M')) :
  CallOk Tryz.prog 60 [.slice a l.length f e, .func (.func g) fi ca] M (fun w M' => w = .bool (l.any p) /\ M' = M) := by
 have := c_ContainsFunc (f := f) (e := e) (g := g) (fi := fi) (ca := ca) (M := M) (a := a) (n := l.length) (fun k => I (l.getD k 0)) (fun k => p (l.getD k 0)) hn (fun k hk => by
  obtain ⟨i, o, h1, h2⟩ := hs.rd hk
  exact ⟨i, o, h1, by rw [List.getD_eq_getElem?_getD, List.getElem?_eq_getElem hk]; exact h2⟩) (fun k hk M' hg => hp' _ (by rw [List.getD_eq_getElem?_getD, List.getElem?_eq_getElem hk]; exact List.getElem_mem hk) M' hg)
 have e1 : (List.range l.length).any (fun k => p (l.getD k 0)) = l.any p := by
  rw [Bool.eq_iff_iff, anyR_iff, List.any_eq_true]
  constructor
  ·rintro ⟨j, h1, h2⟩
   refine ⟨l[j], List.getElem_mem h1, ?_⟩
   rw [List.getD_eq_getElem?_getD, List.getElem?_eq_getElem h1] at h2; exact h2
  ·rintro ⟨x, h1, h2⟩
   obtain ⟨j, h3, rfl⟩ := List.getElem_of_mem h1
   exact ⟨j, h3, by rw [List.getD_eq_getElem?_getD, List.getElem?_eq_getElem h3]; exact h2⟩
 rw [e1] at this; exact this
theorem any_not {l : List Int} {p : Int -> Bool} : l.any (fun n => !p n) = !l.all p := by
 induction l with
 | nil => rfl
 | cons x xs ih => simp only [List.any_cons, List.all_cons, ih]; cases p x <;> simp
set_option maxHeartbeats 1000000 in
theorem c_CheckFrame {M : Mem} {v : LV} {x : Fr} (hv : FrV M v x) (hin : FrIn x) : CallOk Tryz.prog 16 [v] M (fun w M' => w = I (errF x) /\ Grow M M') := by
 obtain ⟨a, f, e, rfl, hs⟩ := hv
 refine call_in k16 rfl ?_
 dsimp only [x16, zipE, Nat.reduceAdd]
 have hc : ∀ M', Grow M M' -> CallOk Tryz.prog 60 [.slice a x.2.2.length f e, .func (.func 61) [] []] M' (fun w M'' => w = .bool (!x.2.2.all smB) /\ M'' = M') := fun M' hg => by
  have := c_Contains (f := f) (e := e) (g := 61) (fi := []) (ca := []) (M := M') (fun n => !smB n) hin.2.2.1 (hs.grow hg) (fun n _ => c_CheckFrame1 n M') (fun n _ M2 _ => c_CheckFrame1 n M2)
  rw [any_not] at this; exact this
 (repeat' (first | (with_reducible intro _) | refine sv ?_ | (refine sc ?_ ?_ <;> (intro h; try first | exact h.elim | exact absurd rfl h | (exfalso; omega))) | ((with_reducible first | apply x_same | apply d_same | apply d_same0); exact gd; exact rfl; exact rfl; (first | exact c_within _ _ _ _ | exact hc _ (xg))) | (refine sg ?_ ?_ <;> (intro h; (fail_if_success (have : True := h)); try first | exact h.elim | exact absurd rfl h | (exfalso; omega))) | assumption | exact xm | exact rfl))
 all_goals (((with_reducible first | apply k_fun | apply k_fun_norm); exact rx); refine ⟨?_, xg⟩; simp_all [packed, errF, frB, smsB])
set_option maxHeartbeats 1000000 in
theorem c_samplesR {M : Mem} {a : Option (Nat × Nat)} {f : Bool} {e : Nat} {l : List Int} (hs : SlI M a l) (hn : l.length <= 1000000000000000) :
  CallOk Tryz.prog 85 [.slice a l.length f e] M (fun w M' => w = .bool (smsB l) /\ M' = M) := by
 refine call_in k85 rfl ?_
 dsimp only [x85, zipE, Nat.reduceAdd]
 (repeat' (first | (with_reducible intro _) | refine sv ?_ | (refine sc ?_ ?_ <;> (intro h; try first | exact h.elim | exact absurd rfl h | (exfalso; omega))) | ((with_reducible first | apply x_same | apply d_same | apply d_same0); exact gd; exact rfl; exact rfl; (first | exact c_btw _ _ _ _)) | (refine sg ?_ ?_ <;> (intro h; (fail_if_success (have : True := h)); try first | exact h.elim | exact absurd rfl h | (exfalso; omega))) | assumption | exact xm | exact rfl))
 refine w_loop_ind (fun m E ms M' => ∃ k : Nat, m = l.length - k /\ k <= l.length /\ ms = [] /\ M' = M /\ Has E [(0, .slice a l.length f e), (3, .bool (btB l.length 1 64 && (l.take k).all smB)), (4, I k)])
  ?_ l.length _ _ _ ⟨0, by omega, by omega, rfl, rfl, .cons rfl (.cons (by show some (LV.bool _) = some (LV.bool _); simp) (.cons rfl .nil))⟩
 rintro n E ms M' ⟨k, rfl, hk, rfl, rfl, hE⟩
 refine w_has hE ?_
 by_cases hlast : k = l.length
 ·subst hlast
  (repeat' (first | (with_reducible intro _) | refine sv ?_ | (refine sc ?_ ?_ <;> (intro h; try first | exact h.elim | exact absurd rfl h | (exfalso; omega))) | (refine sg ?_ ?_ <;> (intro h; (fail_if_success (have : True := h)); try first | exact h.elim | exact absurd rfl h | (exfalso; omega))) | assumption | exact xm | exact rfl))
  ((with_reducible first | apply k_fun | apply k_fun_norm); exact rx)
  rw [List.take_length]; exact ⟨rfl, rfl⟩
 ·have hlt : k < l.length := by omega
  obtain ⟨i, o, rfl, hr⟩ := hs.rd hlt
  have htake : (l.take (k + 1)).all smB = ((l.take k).all smB && smB l[k]) := by rw [List.take_succ_eq_append_getElem hlt, List.all_append]; simp
  generalize hq : (btB l.length 1 64 && (l.take k).all smB) = q
  have hq' : (btB l.length 1 64 && (l.take (k + 1)).all smB) = (q && smB l[k]) := by rw [htake, <- Bool.and_assoc, hq]
  have hsm : smB l[k] = (knB l[k] || (decide (l[k] = 40000) || decide (l[k] = 40001))) := rfl
  cases q with
  | false =>
   (have hrd0 := hr; repeat' (first | (with_reducible intro _) | refine sv ?_ | (refine sc ?_ ?_ <;> (intro h; try first | exact h.elim | exact absurd rfl h | (exfalso; omega))) | (refine sg ?_ ?_ <;> (intro h; (fail_if_success (have : True := h)); try first | exact h.elim | exact absurd rfl h | (exfalso; omega))) | assumption | exact xm | exact rfl))
   refine k_step (l.length - (k + 1)) (by omega) ⟨k + 1, rfl, by omega, rfl, rfl, .cons rfl (.cons ?_ (.cons rfl .nil))⟩
   rw [hq']; rfl
  | true =>
   cases hk1 : knB l[k] with
   | true =>
    have hc : ∀ M, CallOk Tryz.prog 92 [I l[k]] M (fun w M' => w = .bool true /\ M' = M) := fun M => by rw [<- hk1]; exact c_knownR _ M
    (have hrd0 := hr; repeat' (first | (with_reducible intro _) | refine sv ?_ | (refine sc ?_ ?_ <;> (intro h; try first | exact h.elim | exact absurd rfl h | (exfalso; omega))) | ((with_reducible first | apply x_same | apply d_same | apply d_same0); exact gd; exact rfl; exact rfl; (first | exact hc _)) | (refine sg ?_ ?_ <;> (intro h; (fail_if_success (have : True := h)); try first | exact h.elim | exact absurd rfl h | (exfalso; omega))) | assumption | exact xm | exact rfl))
    refine k_step (l.length - (k + 1)) (by omega) ⟨k + 1, rfl, by omega, rfl, rfl, .cons rfl (.cons ?_ (.cons rfl .nil))⟩
    rw [hq', hsm, hk1]; rfl
   | false =>
    have hc : ∀ M, CallOk Tryz.prog 92 [I l[k]] M (fun w M' => w = .bool false /\ M' = M) := fun M => by rw [<- hk1]; exact c_knownR _ M
    (have hrd0 := hr; repeat' (first | (with_reducible intro _) | refine sv ?_ | (refine sc ?_ ?_ <;> (intro h; try first | exact h.elim | exact absurd rfl h | (exfalso; omega))) | ((with_reducible first | apply x_same | apply d_same | apply d_same0); exact gd; exact rfl; exact rfl; (first | exact hc _)) | (refine sg ?_ ?_ <;> (intro h; (fail_if_success (have : True := h)); try first | exact h.elim | exact absurd rfl h | (exfalso; omega))) | assumption | exact xm | exact rfl))
    all_goals (refine k_step (l.length - (k + 1)) (by omega) ⟨k + 1, rfl, by omega, rfl, rfl, .cons rfl (.cons ?_ (.cons rfl .nil))⟩; rw [hq', hsm, hk1]; simp_all; first | done | rfl)
set_option maxHeartbeats 1000000 in
theorem c_CheckFrameR {M : Mem} {v : LV} {x : Fr} (hv : FrV M v x) (hin : FrIn x) : CallOk Tryz.prog 33 [v] M (fun w M' => w = I (errF x) /\ Grow M M') := by
 obtain ⟨a, f, e, rfl, hs⟩ := hv
 refine call_in k33 rfl ?_
 dsimp only [x33, zipE, Nat.reduceAdd]
 have hc : ∀ M', Grow M M' -> CallOk Tryz.prog 85 [.slice a x.2.2.length f e] M' (fun w M'' => w = .bool (smsB x.2.2) /\ M'' = M') := fun M' hg => c_samplesR (hs.grow hg) hin.2.2.1
 (repeat' (first | (with_reducible intro _) | refine sv ?_ | (refine sc ?_ ?_ <;> (intro h; try first | exact h.elim | exact absurd rfl h | (exfalso; omega))) | ((with_reducible first | apply x_same | apply d_same | apply d_same0); exact gd; exact rfl; exact rfl; (first | exact c_btw _ _ _ _ | exact hc _ (xg))) | (refine sg ?_ ?_ <;> (intro h; (fail_if_success (have : True := h)); try first | exact h.elim | exact absurd rfl h | (exfalso; omega))) | assumption | exact xm | exact rfl))
 all_goals (((with_reducible first | apply k_fun | apply k_fun_norm); exact rx); refine ⟨?_, xg⟩; simp_all [packed, errF, frB])
end Go.Proofs.YtlfkmgpngkbhpaaGreatDoor.C
end
