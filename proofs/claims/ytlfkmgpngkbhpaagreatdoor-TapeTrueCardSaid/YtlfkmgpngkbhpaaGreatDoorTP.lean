/-
 Part of the proof of TapeTrue: what functions of the program and of the statement come to, walked by the rules. No condition beyond those in each theorem.
-/
import Derived.Test.YtlfkmgpngkbhpaaGreatDoorPvG
import Derived.Test.YtlfkmgpngkbhpaaGreatDoorTW
import Derived.Test.YtlfkmgpngkbhpaaGreatDoorTX
import Derived.Test.YtlfkmgpngkbhpaaGreatDoorPvH
section
open PvL
set_option linter.unusedVariables false
namespace Go.Proofs.YtlfkmgpngkbhpaaGreatDoor.C
def stepB (c : Int) : Int := if 65535 < shlZ c 1 then xorZ (andZ (shlZ c 1) 65535) 4129 else shlZ c 1
def stepN : Nat -> Int -> Int
 | 0, c => c
 | n + 1, c => stepB (stepN n c)
def byteC (c : Int) (b : Nat) : Int := stepN 8 (xorZ c (shlZ (b : Int) 8))
def crcK (s : ByteArray) : Nat -> Int
 | 0 => 65535
 | k + 1 => byteC (crcK s k) (byteAt s k)
end Go.Proofs.YtlfkmgpngkbhpaaGreatDoor.C
end
section
open Go PvL Go.Proofs
set_option linter.unusedSimpArgs false
set_option linter.unusedVariables false
namespace Go.Proofs.YtlfkmgpngkbhpaaGreatDoor.C
theorem c_Between (n a b : Int) (M : Mem) : CallOk Tryz.prog 45 [I n, I a, I b] M (fun w M' => w = .bool (decide (a <= n /\ n <= b)) /\ M' = M) := by
 refine call_in k45 rfl ?_
 dsimp only [x45, zipE, Nat.reduceAdd]
 (repeat' (first | (with_reducible intro _) | refine sv ?_ | (refine sc ?_ ?_ <;> (intro h; try first | exact h.elim | exact absurd rfl h | (exfalso; omega))) | (refine sg ?_ ?_ <;> (intro h; (fail_if_success (have : True := h)); try first | exact h.elim | exact absurd rfl h | (exfalso; omega))) | assumption | exact xm | exact rfl))
 ·((with_reducible first | apply k_fun | apply k_fun_norm); exact rx)
  refine ⟨?_, rfl⟩
  simp [packed]; omega
 ·((with_reducible first | apply k_fun | apply k_fun_norm); exact rx)
  refine ⟨?_, rfl⟩
  simp [packed]; omega
end Go.Proofs.YtlfkmgpngkbhpaaGreatDoor.C
end
section
open PvL Go
set_option linter.unusedVariables false
namespace Go.Proofs.YtlfkmgpngkbhpaaGreatDoor.C
def SlI (M : Mem) (a : Option (Nat × Nat)) (l : List Int) : Prop := l = [] ∨ ∃ i o, a = some (i, o) /\ ∀ k (hk : k < l.length), Rd1 M i (o + k * 1) (I l[k])
theorem SlI.grow {M M' : Mem} {a : Option (Nat × Nat)} {l : List Int} (h : SlI M a l) (hg : Grow M M') : SlI M' a l :=
 h.imp id fun ⟨i, o, h1, h2⟩ => ⟨i, o, h1, fun k hk => (h2 k hk).grow hg⟩
theorem SlI.rd {M : Mem} {a : Option (Nat × Nat)} {l : List Int} (h : SlI M a l) {k : Nat} (hk : k < l.length) : ∃ i o, a = some (i, o) /\ Rd1 M i (o + k * 1) (I l[k]) := by
 rcases h with rfl | ⟨i, o, h1, h2⟩
 ·exact absurd hk (Nat.not_lt_zero _)
 ·exact ⟨i, o, h1, h2 k hk⟩
abbrev intc (n : Int) : List LV := [I n]
theorem rd_one {M : Mem} {i o : Nat} {v : LV} (h : Rd M i o 1 [v]) : Rd1 M i o v := by
 have := Rd.nth (j := 0) h (v := v) rfl
 simpa using this
theorem SlI.vec {M : Mem} {b : Nat} {ty : TypeId} {v : LV} {l : List Int} (h : Vec b 1 ty intc M v l) : ∃ a f e, v = .slice a l.length f e /\ SlI M a l := by
 obtain ⟨a, f, e, h1, h2⟩ := h.rd (fun _ _ => rfl)
 refine ⟨a, f, e, h1, h2.imp id fun ⟨i, o, h3, h4⟩ => ⟨i, o, h3, fun k hk => rd_one (h4 k hk)⟩⟩
abbrev frSh : Sh := .pair (.int .i64) (.pair (.int .i64) (.sl (.int .i64) 8))
abbrev Fr := Int × Int × List Int
theorem enc_ints {m : Mem} {b : Nat} {l : List Int} {cs : List LV} (h : Enc m (.sl (.int .i64) b) l cs) : ∃ a f, cs = [.slice a l.length f 1] /\ SlI m a l /\ l.length <= reachBytes /\ ∀ x ∈ l, IntKind.min .i64 <= x /\ x <= IntKind.max .i64 := by
 obtain ⟨a, f, h1, h2, h3⟩ := h
 by_cases hl : l = []
 ·subst hl
  exact ⟨a, f, h1, .inl rfl, h2.1, fun x hx => nomatch hx⟩
 ·obtain ⟨i, o, g1, g2, _, g3⟩ := h3 hl
  have key : ∀ k (hk : k < l.length), Rd1 m i (o + k * 1) (I l[k]) /\ IntKind.min .i64 <= l[k] /\ l[k] <= IntKind.max .i64 := fun k hk => by
   obtain ⟨c, g4, g5, g6⟩ := g3 k hk
   rw [g5] at g4
   exact ⟨rd_one ⟨g4, g2⟩, g6⟩
  refine ⟨a, f, h1, .inr ⟨i, o, g1, fun k hk => (key k hk).1⟩, h2.1, fun x hx => ?_⟩
  obtain ⟨k, hk, rfl⟩ := List.getElem_of_mem hx
  exact (key k hk).2
def FrV (M : Mem) (v : LV) (x : Fr) : Prop := ∃ a f e, v = .agg [I x.1, I x.2.1, .slice a x.2.2.length f e] /\ SlI M a x.2.2
def I64 (n : Int) : Prop := -9223372036854775808 <= n /\ n <= 9223372036854775807
def FrIn (x : Fr) : Prop := I64 x.1 /\ I64 x.2.1 /\ x.2.2.length <= 1000000000000000 /\ ∀ n ∈ x.2.2, I64 n
theorem FrV.grow {M M' : Mem} {v : LV} {x : Fr} (h : FrV M v x) (hg : Grow M M') : FrV M' v x := by
 obtain ⟨a, f, e, h1, h2⟩ := h
 exact ⟨a, f, e, h1, h2.grow hg⟩
def knB (n : Int) : Bool := decide (-32767 <= n /\ n <= 32767)
def smB (n : Int) : Bool := knB n || (decide (n = 40000) || decide (n = 40001))
def btB (n a b : Int) : Bool := decide (a <= n /\ n <= b)
def smsB (l : List Int) : Bool := btB l.length 1 64 && l.all smB
def frB (x : Fr) : Bool := btB x.1 0 60000 && (btB x.2.1 0 23 && smsB x.2.2)
def errF (x : Fr) : Int := if frB x then 0 else 80
end Go.Proofs.YtlfkmgpngkbhpaaGreatDoor.C
end
section
open PvL Go
set_option linter.unusedVariables false
namespace Go.Proofs.YtlfkmgpngkbhpaaGreatDoor.C
section
variable {α : Type} {b q : Nat} {ty : TypeId} {enc : α -> List LV} {M : Mem} {v : LV} {l l' : List α} {P : Program} [Orc P] {sz : Nat} {E : Env} {K : Env -> Mem -> Prop} {ll : List XG} {d : Nat} {g : Option (Nat × Bool)} {s x : XO} {st : List Mem} {k : Nat} {xs : List (Nat × Nat × (Mem -> Prop))} {ld : List (XG × XK)} {by' : Nat} {z : List LV} {xv : LV}
theorem x_vec_app (hg : GOn E g) (hv : Vec b q ty enc M v l) (hs : xval E s = some v) (hx : xval E x = some xv) (hn : lenOfL xv = some l'.length) (h0 : 0 < l'.length) (hb : (2 * (l.length + l'.length) + 2048) * by' <= 140737488355328) (hz : (Nat.ble 1 q && (Nat.ble 1 by' && Nat.beq z.length q)) = true) (hw : firstL q l'.length xv M = some (l'.flatMap enc))
  (henc : ∀ x, (enc x).length = q) (hfl : ∀ x, allFlat (enc x) = true) (hbM : b <= M.next) (hk : ∀ v' M', Vec b q ty enc M' v' (l ++ l') -> M'.next = M.next + 1 -> Keep (fun i => b <= i /\ ∃ o n f e, v = .slice (some (i, o)) n f e) M M' -> XW P sz ll ((d, v') :: E) M' K) : XW P sz (⟨some d, .app ty q by' z s x, g⟩ :: ll) E M K := by
 obtain ⟨v', M', h1, h2, h3, h4⟩ := hv.app (P := P) hs hx hn h0 hb hz hw henc hfl hbM
 exact x_gen hg h1 (hk v' M' h2 h3 h4)
end
def SlB (b : Nat) (M : Mem) (a : Option (Nat × Nat)) (l : List Int) : Prop := l = [] ∨ ∃ i o, a = some (i, o) /\ b <= i /\ ∀ k (hk : k < l.length), Rd1 M i (o + k * 1) (I l[k])
theorem SlB.sl {b : Nat} {M : Mem} {a : Option (Nat × Nat)} {l : List Int} (h : SlB b M a l) : SlI M a l := h.imp id fun ⟨i, o, h1, _, h2⟩ => ⟨i, o, h1, h2⟩
theorem SlB.keep {b : Nat} {M M' : Mem} {F : Nat -> Prop} {a : Option (Nat × Nat)} {l : List Int} (h : SlB b M a l) (hk : Keep F M M') (hF : ∀ i, F i -> i < b) : SlB b M' a l :=
 h.imp id fun ⟨i, o, h1, h2, h3⟩ => ⟨i, o, h1, h2, fun k hk' => (h3 k hk').keep hk (fun hf => by have := hF i hf; omega)⟩
theorem SlB.weaken {b b' : Nat} {M : Mem} {a : Option (Nat × Nat)} {l : List Int} (h : SlB b M a l) (hb : b' <= b) : SlB b' M a l := h.imp id fun ⟨i, o, h1, h2, h3⟩ => ⟨i, o, h1, by omega, h3⟩
theorem SlB.grow {b : Nat} {M M' : Mem} {a : Option (Nat × Nat)} {l : List Int} (h : SlB b M a l) (hg : Grow M M') : SlB b M' a l :=
 h.imp id fun ⟨i, o, h1, h2, h3⟩ => ⟨i, o, h1, h2, fun k hk => (h3 k hk).grow hg⟩
theorem SlB.vec {M : Mem} {b : Nat} {ty : TypeId} {v : LV} {l : List Int} (h : Vec b 1 ty intc M v l) : ∃ a f e, v = .slice a l.length f e /\ SlB b M a l := by
 rcases h with ⟨rfl, rfl⟩ | ⟨i, rfl, h2, h3⟩
 ·exact ⟨_, _, _, rfl, .inl rfl⟩
 ·exact ⟨_, _, _, rfl, .inr ⟨i, 0, rfl, h3, fun k hk => rd_one (rd_flat (enc := intc) h2 (fun _ _ => rfl) hk)⟩⟩
def FrB (b : Nat) (M : Mem) (v : LV) (x : Fr) : Prop := ∃ a f e, v = .agg [I x.1, I x.2.1, .slice a x.2.2.length f e] /\ SlB b M a x.2.2
theorem FrB.fr {b : Nat} {M : Mem} {v : LV} {x : Fr} (h : FrB b M v x) : FrV M v x := by
 obtain ⟨a, f, e, h1, h2⟩ := h
 exact ⟨a, f, e, h1, h2.sl⟩
def joinI (a b : Int) : Int := if a = b ∨ b = 40000 then a else if a = 40000 then b else 40001
def getG (l : List Int) (k : Nat) : Int := l.getD k 40000
def bothL (a b : List Int) : List Int := (List.range (max a.length b.length)).map fun k => joinI (getG a k) (getG b k)
theorem getG_lt {l : List Int} {k : Nat} (h : k < l.length) : getG l k = l[k] := by unfold getG; rw [List.getD_eq_getElem?_getD, List.getElem?_eq_getElem h]; rfl
theorem getG_ge {l : List Int} {k : Nat} (h : l.length <= k) : getG l k = 40000 := by unfold getG; rw [List.getD_eq_getElem?_getD, List.getElem?_eq_none h]; rfl
end Go.Proofs.YtlfkmgpngkbhpaaGreatDoor.C
end
section
open Go PvL Go.Proofs
set_option linter.unusedSimpArgs false
set_option linter.unusedVariables false
namespace Go.Proofs.YtlfkmgpngkbhpaaGreatDoor.C
theorem c_within (n a b : Int) (M : Mem) : CallOk Tryz.prog 59 [I n, I a, I b] M (fun w M' => w = .bool (btB n a b) /\ M' = M) := by
 refine call_in k59 rfl ?_
 dsimp only [x59, zipE, Nat.reduceAdd]
 (repeat' (first | (with_reducible intro _) | refine sv ?_ | (refine sc ?_ ?_ <;> (intro h; try first | exact h.elim | exact absurd rfl h | (exfalso; omega))) | (refine sg ?_ ?_ <;> (intro h; (fail_if_success (have : True := h)); try first | exact h.elim | exact absurd rfl h | (exfalso; omega))) | assumption | exact xm | exact rfl))
 ·((with_reducible first | apply k_fun | apply k_fun_norm); exact rx)
  refine ⟨?_, rfl⟩
  simp [packed, btB]; omega
 ·((with_reducible first | apply k_fun | apply k_fun_norm); exact rx)
  refine ⟨?_, rfl⟩
  simp [packed, btB]; omega
theorem c_btw (n a b : Int) (M : Mem) : CallOk Tryz.prog 45 [I n, I a, I b] M (fun w M' => w = .bool (btB n a b) /\ M' = M) := c_Between n a b M
theorem c_known (n : Int) (M : Mem) : CallOk Tryz.prog 79 [I n] M (fun w M' => w = .bool (knB n) /\ M' = M) := by
 refine call_in k79 rfl ?_
 dsimp only [x79, zipE, Nat.reduceAdd]
 (repeat' (first | (with_reducible intro _) | refine sv ?_ | (refine sc ?_ ?_ <;> (intro h; try first | exact h.elim | exact absurd rfl h | (exfalso; omega))) | ((with_reducible first | apply x_same | apply d_same | apply d_same0); exact gd; exact rfl; exact rfl; (first | exact c_within _ _ _ _)) | (refine sg ?_ ?_ <;> (intro h; (fail_if_success (have : True := h)); try first | exact h.elim | exact absurd rfl h | (exfalso; omega))) | assumption | exact xm | exact rfl))
 ((with_reducible first | apply k_fun | apply k_fun_norm); exact rx)
 exact ⟨rfl, rfl⟩
theorem c_sample (n : Int) (M : Mem) : CallOk Tryz.prog 62 [I n] M (fun w M' => w = .bool (smB n) /\ M' = M) := by
 refine call_in k62 rfl ?_
 dsimp only [x62, zipE, Nat.reduceAdd]
 unfold smB
 cases hk : knB n with
 | true =>
  have hc : ∀ M, CallOk Tryz.prog 79 [I n] M (fun w M' => w = .bool true /\ M' = M) := fun M => by rw [<- hk]; exact c_known n M
  (repeat' (first | (with_reducible intro _) | refine sv ?_ | (refine sc ?_ ?_ <;> (intro h; try first | exact h.elim | exact absurd rfl h | (exfalso; omega))) | ((with_reducible first | apply x_same | apply d_same | apply d_same0); exact gd; exact rfl; exact rfl; (first | exact hc _)) | (refine sg ?_ ?_ <;> (intro h; (fail_if_success (have : True := h)); try first | exact h.elim | exact absurd rfl h | (exfalso; omega))) | assumption | exact xm | exact rfl))
  ((with_reducible first | apply k_fun | apply k_fun_norm); exact rx)
  exact ⟨rfl, rfl⟩
 | false =>
  have hc : ∀ M, CallOk Tryz.prog 79 [I n] M (fun w M' => w = .bool false /\ M' = M) := fun M => by rw [<- hk]; exact c_known n M
  (repeat' (first | (with_reducible intro _) | refine sv ?_ | (refine sc ?_ ?_ <;> (intro h; try first | exact h.elim | exact absurd rfl h | (exfalso; omega))) | ((with_reducible first | apply x_same | apply d_same | apply d_same0); exact gd; exact rfl; exact rfl; (first | exact hc _)) | (refine sg ?_ ?_ <;> (intro h; (fail_if_success (have : True := h)); try first | exact h.elim | exact absurd rfl h | (exfalso; omega))) | assumption | exact xm | exact rfl))
  all_goals (((with_reducible first | apply k_fun | apply k_fun_norm); exact rx); refine ⟨?_, rfl⟩; simp [packed]; try omega)
theorem c_CheckFrame1 (n : Int) (M : Mem) : CallOk Tryz.prog 61 [I n] M (fun w M' => w = .bool (!smB n) /\ M' = M) := by
 refine call_in k61 rfl ?_
 dsimp only [x61, zipE, Nat.reduceAdd]
 (repeat' (first | (with_reducible intro _) | refine sv ?_ | (refine sc ?_ ?_ <;> (intro h; try first | exact h.elim | exact absurd rfl h | (exfalso; omega))) | ((with_reducible first | apply x_same | apply d_same | apply d_same0); exact gd; exact rfl; exact rfl; (first | exact c_sample _ _)) | (refine sg ?_ ?_ <;> (intro h; (fail_if_success (have : True := h)); try first | exact h.elim | exact absurd rfl h | (exfalso; omega))) | assumption | exact xm | exact rfl))
 ((with_reducible first | apply k_fun | apply k_fun_norm); exact rx)
 exact ⟨rfl, rfl⟩
theorem anyR_iff {n : Nat} {p : Nat -> Bool} : (List.range n).any p = true ↔ ∃ j, j < n /\ p j = true := by
 rw [List.any_eq_true]
 exact ⟨fun ⟨j, h1, h2⟩ => ⟨j, List.mem_range.1 h1, h2⟩, fun ⟨j, h1, h2⟩ => ⟨j, List.mem_range.2 h1, h2⟩⟩
set_option maxHeartbeats 1000000 in
theorem c_IndexFunc {a : Option (Nat × Nat)} {n : Nat} {f : Bool} {e : Nat} {g : FuncId} {fi ca : List LV} {M : Mem} (elem : Nat -> LV) (p : Nat -> Bool) (hn : n <= 1000000000000000)
  (hread : ∀ k, k < n -> ∃ i o, a = some (i, o) /\ Rd1 M i (o + k * 1) (elem k)) (hp : ∀ k, k < n -> ∀ M', Grow M M' -> CallOk Tryz.prog g (fi ++ [elem k] ++ ca) M' (fun w M'' => w = .bool (p k) /\ M'' = M')) :
  CallOk Tryz.prog 101 [.slice a n f e, .func (.func g) fi ca] M (fun w M' => ∃ r : Int, w = I r /\ (0 <= r ↔ (List.range n).any p = true) /\ M' = M) := by
 refine call_in k101 rfl ?_
 dsimp only [x101, zipE, Nat.reduceAdd]
 (repeat' (first | (with_reducible intro _) | refine sv ?_ | (refine sc ?_ ?_ <;> (intro h; try first | exact h.elim | exact absurd rfl h | (exfalso; omega))) | (refine sg ?_ ?_ <;> (intro h; (fail_if_success (have : True := h)); try first | exact h.elim | exact absurd rfl h | (exfalso; omega))) | assumption | exact xm | exact rfl))
 refine w_loop_ind (fun m E ms M' => ∃ k : Nat, m = n - k /\ k <= n /\ ms = [] /\ Has E [(0, .slice a n f e), (1, .func (.func g) fi ca), (7, I n), (8, I k)] /\ M' = M /\ ∀ j, j < k -> p j = false)
  ?_ n _ _ _ ⟨0, by omega, by omega, rfl, .cons rfl (.cons rfl (.cons rfl (.cons rfl .nil))), rfl, fun j hj => absurd hj (Nat.not_lt_zero _)⟩
 rintro m E ms M1 ⟨k, rfl, hk, rfl, hE, rfl, hall⟩
 refine w_has hE ?_
 by_cases hlast : k = n
 ·subst hlast
  (repeat' (first | (with_reducible intro _) | refine sv ?_ | (refine sc ?_ ?_ <;> (intro h; try first | exact h.elim | exact absurd rfl h | (exfalso; omega))) | (refine sg ?_ ?_ <;> (intro h; (fail_if_success (have : True := h)); try first | exact h.elim | exact absurd rfl h | (exfalso; omega))) | assumption | exact xm | exact rfl))
  ((with_reducible first | apply k_fun | apply k_fun_norm); exact rx)
  refine ⟨-1, rfl, ?_, rfl⟩
  rw [anyR_iff]
  exact ⟨fun h => by omega, fun ⟨j, h1, h2⟩ => by rw [hall j h1] at h2; cases h2⟩
 have hlt : k < n := by omega
 obtain ⟨i, o, rfl, hr⟩ := hread k hlt
 have hc := hp k hlt M1 (Grow.refl _)
 cases hpk : p k with
 | true =>
  rw [hpk] at hc
  (have hrd0 := hr; repeat' (first | (with_reducible intro _) | refine sv ?_ | (refine sc ?_ ?_ <;> (intro h; try first | exact h.elim | exact absurd rfl h | (exfalso; omega))) | ((with_reducible first | apply x_same | apply d_same | apply d_same0); exact gd; exact rfl; exact rfl; (first | exact hc)) | (refine sg ?_ ?_ <;> (intro h; (fail_if_success (have : True := h)); try first | exact h.elim | exact absurd rfl h | (exfalso; omega))) | assumption | exact xm | exact rfl))
  ((with_reducible first | apply k_fun | apply k_fun_norm); exact rx)
  refine ⟨k, rfl, ?_, rfl⟩
  rw [anyR_iff]
  exact ⟨fun _ => ⟨k, hlt, hpk⟩, fun _ => by omega⟩
 | false =>
  rw [hpk] at hc
  (have hrd0 := hr; repeat' (first | (with_reducible intro _) | refine sv ?_ | (refine sc ?_ ?_ <;> (intro h; try first | exact h.elim | exact absurd rfl h | (exfalso; omega))) | ((with_reducible first | apply x_same | apply d_same | apply d_same0); exact gd; exact rfl; exact rfl; (first | exact hc)) | (refine sg ?_ ?_ <;> (intro h; (fail_if_success (have : True := h)); try first | exact h.elim | exact absurd rfl h | (exfalso; omega))) | assumption | exact xm | exact rfl))
  refine k_step (n - (k + 1)) (by omega) ⟨k + 1, rfl, by omega, rfl, .cons rfl (.cons rfl (.cons rfl (.cons rfl .nil))), rfl, fun j hj => ?_⟩
  by_cases hjk : j = k
  ·subst hjk; exact hpk
  ·exact hall j (by omega)
theorem c_ContainsFunc {a : Option (Nat × Nat)} {n : Nat} {f : Bool} {e : Nat} {g : FuncId} {fi ca : List LV} {M : Mem} (elem : Nat -> LV) (p : Nat -> Bool) (hn : n <= 1000000000000000)
  (hread : ∀ k, k < n -> ∃ i o, a = some (i, o) /\ Rd1 M i (o + k * 1) (elem k)) (hp : ∀ k, k < n -> ∀ M', Grow M M' -> CallOk Tryz.prog g (fi ++ [elem k] ++ ca) M' (fun w M'' => w = .bool (p k) /\ M'' = M')) :
  CallOk Tryz.prog 60 [.slice a n f e, .func (.func g) fi ca] M (fun w M' => w = .bool ((List.range n).any p) /\ M' = M) := by
 refine call_in k60 rfl ?_
 dsimp only [x60, zipE, Nat.reduceAdd]
 have hc := c_IndexFunc (f := f) (e := e) elem p hn hread hp
 (repeat' (first | (with_reducible intro _) | refine sv ?_ | (refine sc ?_ ?_ <;> (intro h; try first | exact h.elim | exact absurd rfl h | (exfalso; omega))) | ((with_reducible first | apply x_call | apply d_call | apply x_call0); exact gd; exact rfl; exact rfl; (first | exact hc)) | (refine sg ?_ ?_ <;> (intro h; (fail_if_success (have : True := h)); try first | exact h.elim | exact absurd rfl h | (exfalso; omega))) | assumption | exact xm | exact rfl))
 rename_i hq
 obtain ⟨r, rfl, hr, rfl⟩ := hq
 (repeat' (first | (with_reducible intro _) | refine sv ?_ | (refine sc ?_ ?_ <;> (intro h; try first | exact h.elim | exact absurd rfl h | (exfalso; omega))) | (refine sg ?_ ?_ <;> (intro h; (fail_if_success (have : True := h)); try first | exact h.elim | exact absurd rfl h | (exfalso; omega))) | assumption | exact xm | exact rfl))
 ((with_reducible first | apply k_fun | apply k_fun_norm); exact rx)
 refine ⟨?_, rfl⟩
 exact congrArg LV.bool (by rw [Bool.eq_iff_iff, decide_eq_true_iff]; exact hr)
theorem c_Contains {a : Option (Nat × Nat)} {l : List Int} {f : Bool} {e : Nat} {g : FuncId} {fi ca : List LV} {M : Mem} (p : Int -> Bool) (hn : l.length <= 1000000000000000) (hs : SlI M a l)
  (hp : ∀ n ∈ l, CallOk Tryz.prog g (fi ++ [I n] ++ ca) M (fun w M'' => w = .bool (p n) /\ M'' = M)) (hp' : ∀ n ∈ l, ∀ M', Grow M M' -> CallOk Tryz.prog g (fi ++ [I n] ++ ca) M' (fun w M'' => w = .bool (p n) /\ M'' = M')) :
  CallOk Tryz.prog 60 [.slice a l.length f e, .func (.func g) fi ca] M (fun w M' => w = .bool (l.any p) /\ M' = M) := by
 have := c_ContainsFunc (f := f) (e := e) (g := g) (fi := fi) (ca := ca) (M := M) (a := a) (n := l.length) (fun k => I (l.getD k 0)) (fun k => p (l.getD k 0)) hn (fun k hk => by
  obtain ⟨i, o, h1, h2⟩ := hs.rd hk
  exact ⟨i, o, h1, by rw [List.getD_eq_getElem?_getD, List.getElem?_eq_getElem hk]; exact h2⟩) (fun k hk M' hg => hp' _ (by rw [List.getD_eq_getElem?_getD, List.getElem?_eq_getElem hk]; exact List.getElem_mem hk) M' hg)
 have e1 : (List.range l.length).any (fun k => p (l.getD k 0)) = l.any p := by
  rw [Bool.eq_iff_iff, anyR_iff, List.any_eq_true]
  constructor
  ·rintro ⟨j, h1, h2⟩
   refine ⟨l[j], List.getElem_mem h1, ?_⟩
   rw [List.getD_eq_getElem?_getD, List.getElem?_eq_getElem h1] at h2; exact h2
  ·rintro ⟨x, h1, h2⟩
   obtain ⟨j, h3, rfl⟩ := List.getElem_of_mem h1
   exact ⟨j, h3, by rw [List.getD_eq_getElem?_getD, List.getElem?_eq_getElem h3]; exact h2⟩
 rw [e1] at this; exact this
theorem any_not {l : List Int} {p : Int -> Bool} : l.any (fun n => !p n) = !l.all p := by
 induction l with
 | nil => rfl
 | cons x xs ih => simp only [List.any_cons, List.all_cons, ih]; cases p x <;> simp
set_option maxHeartbeats 1000000 in
theorem c_CheckFrame {M : Mem} {v : LV} {x : Fr} (hv : FrV M v x) (hin : FrIn x) : CallOk Tryz.prog 16 [v] M (fun w M' => w = I (errF x) /\ Grow M M') := by
 obtain ⟨a, f, e, rfl, hs⟩ := hv
 refine call_in k16 rfl ?_
 dsimp only [x16, zipE, Nat.reduceAdd]
 have hc : ∀ M', Grow M M' -> CallOk Tryz.prog 60 [.slice a x.2.2.length f e, .func (.func 61) [] []] M' (fun w M'' => w = .bool (!x.2.2.all smB) /\ M'' = M') := fun M' hg => by
  have := c_Contains (f := f) (e := e) (g := 61) (fi := []) (ca := []) (M := M') (fun n => !smB n) hin.2.2.1 (hs.grow hg) (fun n _ => c_CheckFrame1 n M') (fun n _ M2 _ => c_CheckFrame1 n M2)
  rw [any_not] at this; exact this
 (repeat' (first | (with_reducible intro _) | refine sv ?_ | (refine sc ?_ ?_ <;> (intro h; try first | exact h.elim | exact absurd rfl h | (exfalso; omega))) | ((with_reducible first | apply x_same | apply d_same | apply d_same0); exact gd; exact rfl; exact rfl; (first | exact c_within _ _ _ _ | exact hc _ (xg))) | (refine sg ?_ ?_ <;> (intro h; (fail_if_success (have : True := h)); try first | exact h.elim | exact absurd rfl h | (exfalso; omega))) | assumption | exact xm | exact rfl))
 all_goals (((with_reducible first | apply k_fun | apply k_fun_norm); exact rx); refine ⟨?_, xg⟩; simp_all [packed, errF, frB, smsB])
end Go.Proofs.YtlfkmgpngkbhpaaGreatDoor.C
end
