/-
 Part of the proof of TapeDearer: what functions of the program and of the statement come to, walked by the rules. No condition beyond those in each theorem.
-/
import Derived.Test.YtlfkmgpngkbhpaaGreatDoorPvG
import Derived.Test.YtlfkmgpngkbhpaaGreatDoorTW
import Derived.Test.YtlfkmgpngkbhpaaGreatDoorTX
import Derived.Test.YtlfkmgpngkbhpaaGreatDoorPvH
section
open PvL
set_option linter.unusedVariables false
namespace Go.Proofs.YtlfkmgpngkbhpaaGreatDoor.C
def stepB (c : Int) : Int := if 65535 < shlZ c 1 then xorZ (andZ (shlZ c 1) 65535) 4129 else shlZ c 1
def stepN : Nat -> Int -> Int
 | 0, c => c
 | n + 1, c => stepB (stepN n c)
def byteC (c : Int) (b : Nat) : Int := stepN 8 (xorZ c (shlZ (b : Int) 8))
def crcK (s : ByteArray) : Nat -> Int
 | 0 => 65535
 | k + 1 => byteC (crcK s k) (byteAt s k)
end Go.Proofs.YtlfkmgpngkbhpaaGreatDoor.C
end
section
open Go PvL Go.Proofs
set_option linter.unusedSimpArgs false
set_option linter.unusedVariables false
namespace Go.Proofs.YtlfkmgpngkbhpaaGreatDoor.C
end Go.Proofs.YtlfkmgpngkbhpaaGreatDoor.C
end
section
open PvL Go
set_option linter.unusedVariables false
namespace Go.Proofs.YtlfkmgpngkbhpaaGreatDoor.C
def SlI (M : Mem) (a : Option (Nat × Nat)) (l : List Int) : Prop := l = [] ∨ ∃ i o, a = some (i, o) /\ ∀ k (hk : k < l.length), Rd1 M i (o + k * 1) (I l[k])
theorem SlI.grow {M M' : Mem} {a : Option (Nat × Nat)} {l : List Int} (h : SlI M a l) (hg : Grow M M') : SlI M' a l :=
 h.imp id fun ⟨i, o, h1, h2⟩ => ⟨i, o, h1, fun k hk => (h2 k hk).grow hg⟩
theorem SlI.rd {M : Mem} {a : Option (Nat × Nat)} {l : List Int} (h : SlI M a l) {k : Nat} (hk : k < l.length) : ∃ i o, a = some (i, o) /\ Rd1 M i (o + k * 1) (I l[k]) := by
 rcases h with rfl | ⟨i, o, h1, h2⟩
 ·exact absurd hk (Nat.not_lt_zero _)
 ·exact ⟨i, o, h1, h2 k hk⟩
abbrev intc (n : Int) : List LV := [I n]
theorem rd_one {M : Mem} {i o : Nat} {v : LV} (h : Rd M i o 1 [v]) : Rd1 M i o v := by
 have := Rd.nth (j := 0) h (v := v) rfl
 simpa using this
theorem SlI.vec {M : Mem} {b : Nat} {ty : TypeId} {v : LV} {l : List Int} (h : Vec b 1 ty intc M v l) : ∃ a f e, v = .slice a l.length f e /\ SlI M a l := by
 obtain ⟨a, f, e, h1, h2⟩ := h.rd (fun _ _ => rfl)
 refine ⟨a, f, e, h1, h2.imp id fun ⟨i, o, h3, h4⟩ => ⟨i, o, h3, fun k hk => rd_one (h4 k hk)⟩⟩
abbrev frSh : Sh := .pair (.int .i64) (.pair (.int .i64) (.sl (.int .i64) 8))
abbrev Fr := Int × Int × List Int
theorem enc_ints {m : Mem} {b : Nat} {l : List Int} {cs : List LV} (h : Enc m (.sl (.int .i64) b) l cs) : ∃ a f, cs = [.slice a l.length f 1] /\ SlI m a l /\ l.length <= reachBytes /\ ∀ x ∈ l, IntKind.min .i64 <= x /\ x <= IntKind.max .i64 := by
 obtain ⟨a, f, h1, h2, h3⟩ := h
 by_cases hl : l = []
 ·subst hl
  exact ⟨a, f, h1, .inl rfl, h2.1, fun x hx => nomatch hx⟩
 ·obtain ⟨i, o, g1, g2, _, g3⟩ := h3 hl
  have key : ∀ k (hk : k < l.length), Rd1 m i (o + k * 1) (I l[k]) /\ IntKind.min .i64 <= l[k] /\ l[k] <= IntKind.max .i64 := fun k hk => by
   obtain ⟨c, g4, g5, g6⟩ := g3 k hk
   rw [g5] at g4
   exact ⟨rd_one ⟨g4, g2⟩, g6⟩
  refine ⟨a, f, h1, .inr ⟨i, o, g1, fun k hk => (key k hk).1⟩, h2.1, fun x hx => ?_⟩
  obtain ⟨k, hk, rfl⟩ := List.getElem_of_mem hx
  exact (key k hk).2
def FrV (M : Mem) (v : LV) (x : Fr) : Prop := ∃ a f e, v = .agg [I x.1, I x.2.1, .slice a x.2.2.length f e] /\ SlI M a x.2.2
def I64 (n : Int) : Prop := -9223372036854775808 <= n /\ n <= 9223372036854775807
def FrIn (x : Fr) : Prop := I64 x.1 /\ I64 x.2.1 /\ x.2.2.length <= 1000000000000000 /\ ∀ n ∈ x.2.2, I64 n
theorem FrV.grow {M M' : Mem} {v : LV} {x : Fr} (h : FrV M v x) (hg : Grow M M') : FrV M' v x := by
 obtain ⟨a, f, e, h1, h2⟩ := h
 exact ⟨a, f, e, h1, h2.grow hg⟩
def knB (n : Int) : Bool := decide (-32767 <= n /\ n <= 32767)
def smB (n : Int) : Bool := knB n || (decide (n = 40000) || decide (n = 40001))
def btB (n a b : Int) : Bool := decide (a <= n /\ n <= b)
def smsB (l : List Int) : Bool := btB l.length 1 64 && l.all smB
def frB (x : Fr) : Bool := btB x.1 0 60000 && (btB x.2.1 0 23 && smsB x.2.2)
def errF (x : Fr) : Int := if frB x then 0 else 80
end Go.Proofs.YtlfkmgpngkbhpaaGreatDoor.C
end
section
open PvL Go
set_option linter.unusedVariables false
namespace Go.Proofs.YtlfkmgpngkbhpaaGreatDoor.C
section
variable {α : Type} {b q : Nat} {ty : TypeId} {enc : α -> List LV} {M : Mem} {v : LV} {l l' : List α} {P : Program} [Orc P] {sz : Nat} {E : Env} {K : Env -> Mem -> Prop} {ll : List XG} {d : Nat} {g : Option (Nat × Bool)} {s x : XO} {st : List Mem} {k : Nat} {xs : List (Nat × Nat × (Mem -> Prop))} {ld : List (XG × XK)} {by' : Nat} {z : List LV} {xv : LV}
theorem d_vec_app (hg : GOn E g) (hv : Vec b q ty enc M v l) (hs : xval E s = some v) (hx : xval E x = some xv) (hn : lenOfL xv = some l'.length) (h0 : 0 < l'.length) (hb : (2 * (l.length + l'.length) + 2048) * by' <= 140737488355328) (hz : (Nat.ble 1 q && (Nat.ble 1 by' && Nat.beq z.length q)) = true) (hw : firstL q l'.length xv M = some (l'.flatMap enc))
  (henc : ∀ x, (enc x).length = q) (hfl : ∀ x, allFlat (enc x) = true) (hbM : b <= M.next) (hk : ∀ v' M', Vec b q ty enc M' v' (l ++ l') -> M'.next = M.next + 1 -> Keep (fun i => b <= i /\ ∃ o n f e, v = .slice (some (i, o)) n f e) M M' -> XD P sz ld ((d, v') :: E) M' (M' :: st) (k + 1) xs K) : XD P sz ((⟨some d, .app ty q by' z s x, g⟩, .anchor) :: ld) E M st k xs K := by
 obtain ⟨v', M', h1, h2, h3, h4⟩ := hv.app (P := P) hs hx hn h0 hb hz hw henc hfl hbM
 exact d_anch hg h1 (hk v' M' h2 h3 h4)
end
def SlB (b : Nat) (M : Mem) (a : Option (Nat × Nat)) (l : List Int) : Prop := l = [] ∨ ∃ i o, a = some (i, o) /\ b <= i /\ ∀ k (hk : k < l.length), Rd1 M i (o + k * 1) (I l[k])
theorem SlB.sl {b : Nat} {M : Mem} {a : Option (Nat × Nat)} {l : List Int} (h : SlB b M a l) : SlI M a l := h.imp id fun ⟨i, o, h1, _, h2⟩ => ⟨i, o, h1, h2⟩
theorem SlB.keep {b : Nat} {M M' : Mem} {F : Nat -> Prop} {a : Option (Nat × Nat)} {l : List Int} (h : SlB b M a l) (hk : Keep F M M') (hF : ∀ i, F i -> i < b) : SlB b M' a l :=
 h.imp id fun ⟨i, o, h1, h2, h3⟩ => ⟨i, o, h1, h2, fun k hk' => (h3 k hk').keep hk (fun hf => by have := hF i hf; omega)⟩
theorem SlB.weaken {b b' : Nat} {M : Mem} {a : Option (Nat × Nat)} {l : List Int} (h : SlB b M a l) (hb : b' <= b) : SlB b' M a l := h.imp id fun ⟨i, o, h1, h2, h3⟩ => ⟨i, o, h1, by omega, h3⟩
theorem SlB.grow {b : Nat} {M M' : Mem} {a : Option (Nat × Nat)} {l : List Int} (h : SlB b M a l) (hg : Grow M M') : SlB b M' a l :=
 h.imp id fun ⟨i, o, h1, h2, h3⟩ => ⟨i, o, h1, h2, fun k hk => (h3 k hk).grow hg⟩
theorem SlB.vec {M : Mem} {b : Nat} {ty : TypeId} {v : LV} {l : List Int} (h : Vec b 1 ty intc M v l) : ∃ a f e, v = .slice a l.length f e /\ SlB b M a l := by
 rcases h with ⟨rfl, rfl⟩ | ⟨i, rfl, h2, h3⟩
 ·exact ⟨_, _, _, rfl, .inl rfl⟩
 ·exact ⟨_, _, _, rfl, .inr ⟨i, 0, rfl, h3, fun k hk => rd_one (rd_flat (enc := intc) h2 (fun _ _ => rfl) hk)⟩⟩
def FrB (b : Nat) (M : Mem) (v : LV) (x : Fr) : Prop := ∃ a f e, v = .agg [I x.1, I x.2.1, .slice a x.2.2.length f e] /\ SlB b M a x.2.2
theorem FrB.fr {b : Nat} {M : Mem} {v : LV} {x : Fr} (h : FrB b M v x) : FrV M v x := by
 obtain ⟨a, f, e, h1, h2⟩ := h
 exact ⟨a, f, e, h1, h2.sl⟩
def joinI (a b : Int) : Int := if a = b ∨ b = 40000 then a else if a = 40000 then b else 40001
def getG (l : List Int) (k : Nat) : Int := l.getD k 40000
def bothL (a b : List Int) : List Int := (List.range (max a.length b.length)).map fun k => joinI (getG a k) (getG b k)
end Go.Proofs.YtlfkmgpngkbhpaaGreatDoor.C
end
section
open Go PvL Go.Proofs
set_option linter.unusedSimpArgs false
set_option linter.unusedVariables false
namespace Go.Proofs.YtlfkmgpngkbhpaaGreatDoor.C
theorem c_within (n a b : Int) (M : Mem) : CallOk Tryz.prog 59 [I n, I a, I b] M (fun w M' => w = .bool (btB n a b) /\ M' = M) := by
 refine call_in k59 rfl ?_
 dsimp only [x59, zipE, Nat.reduceAdd]
 (repeat' (first | (with_reducible intro _) | refine sv ?_ | (refine sc ?_ ?_ <;> (intro h; try first | exact h.elim | exact absurd rfl h | (exfalso; omega))) | (refine sg ?_ ?_ <;> (intro h; (fail_if_success (have : True := h)); try first | exact h.elim | exact absurd rfl h | (exfalso; omega))) | assumption | exact xm | exact rfl))
 ·((with_reducible first | apply k_fun | apply k_fun_norm); exact rx)
  refine ⟨?_, rfl⟩
  simp [packed, btB]; omega
 ·((with_reducible first | apply k_fun | apply k_fun_norm); exact rx)
  refine ⟨?_, rfl⟩
  simp [packed, btB]; omega
end Go.Proofs.YtlfkmgpngkbhpaaGreatDoor.C
end
