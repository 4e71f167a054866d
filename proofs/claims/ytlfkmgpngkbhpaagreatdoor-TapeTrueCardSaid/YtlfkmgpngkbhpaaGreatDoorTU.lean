/-
 Part of the proof of TapeTrue: what functions of the program and of the statement come to, walked by the rules. No condition beyond those in each theorem.
-/
import Derived.Test.YtlfkmgpngkbhpaaGreatDoorTR
import Derived.Test.YtlfkmgpngkbhpaaGreatDoorTS
import Derived.Test.YtlfkmgpngkbhpaaGreatDoorTX
section
open Go PvL Go.Proofs
set_option linter.unusedSimpArgs false
set_option linter.unusedVariables false
namespace Go.Proofs.YtlfkmgpngkbhpaaGreatDoor.C
theorem setList_nil : ∀ l : List LV, setList l 0 [] = some l
 | [] => rfl
 | _ :: _ => rfl
theorem setList_pre : ∀ (vs rest ws : List LV), ws.length = vs.length -> setList (vs ++ rest) 0 ws = some (ws ++ rest)
 | [], rest, [], _ => by rw [List.nil_append]; exact setList_nil _
 | v :: vs, rest, w :: ws, h => by
  show ob (setList (vs ++ rest) 0 ws) (fun l => some (w :: l)) = _
  rw [setList_pre vs rest ws (by simpa using h)]
  rfl
theorem setList_app : ∀ (pre l vs : List LV) (k : Nat) (r : List LV), setList l k vs = some r -> vs ≠ [] -> setList (pre ++ l) (pre.length + k) vs = some (pre ++ r)
 | [], l, vs, k, r, h, _ => by rw [List.length_nil, Nat.zero_add]; exact h
 | p :: pre, l, [], k, r, h, hv => absurd rfl hv
 | p :: pre, l, v :: vs, k, r, h, hv => by
  rw [show (p :: pre).length + k = (pre.length + k) + 1 from by rw [List.length_cons]; omega]
  show ob (setList (pre ++ l) (pre.length + k) (v :: vs)) (fun l => some (p :: l)) = _
  rw [setList_app pre l (v :: vs) k r h hv]
  rfl
theorem setList_flat {α : Type} {enc : α -> List LV} {sz : Nat} (henc : ∀ x, (enc x).length = sz) (h0 : 0 < sz) : ∀ (l : List α) (k : Nat) (v : α), k < l.length -> setList (l.flatMap enc) (k * sz) (enc v) = some ((l.set k v).flatMap enc)
 | [], k, v, h => absurd h (Nat.not_lt_zero _)
 | x :: l, 0, v, h => by
  rw [Nat.zero_mul, List.set_cons_zero, List.flatMap_cons, List.flatMap_cons]
  exact setList_pre _ _ _ (by rw [henc, henc])
 | x :: l, k + 1, v, h => by
  rw [List.set_cons_succ, List.flatMap_cons, List.flatMap_cons, show (k + 1) * sz = (enc x).length + k * sz from by rw [henc, Nat.add_mul, Nat.one_mul, Nat.add_comm]]
  refine setList_app _ _ _ _ _ (setList_flat henc h0 l k v (by simpa using h)) fun he => ?_
  have := henc v
  rw [he] at this
  simp at this
  omega
def tabL {α : Type} (enc : α -> List LV) (G : Nat -> α) (n : Nat) : List LV := ((List.range n).map G).flatMap enc
abbrev rsc (r : Rst) : List LV := [I r.1, I r.2.1, I r.2.2]
def tt (s : List Int) (a b : Int) (m j t : Nat) : Rst := if t + (m + 1) = s.length then pk s a b (tb s a b m) t j else tb s a b m t
end Go.Proofs.YtlfkmgpngkbhpaaGreatDoor.C
end
section
open Go PvL Go.Proofs
set_option linter.unusedVariables false
set_option linter.unusedSimpArgs false
namespace Go.Proofs.YtlfkmgpngkbhpaaGreatDoor.C
section
variable {α : Type} {b q : Nat} {ty : TypeId} {enc : α -> List LV} {M : Mem} {v : LV} {l l' : List α} {P : Program} [Orc P] {sz : Nat} {E : Env} {K : Env -> Mem -> Prop} {ll : List XG} {d : Nat} {g : Option (Nat × Bool)} {s x : XO} {st : List Mem} {k : Nat} {xs : List (Nat × Nat × (Mem -> Prop))} {ld : List (XG × XK)} {by' : Nat} {z : List LV} {xv : LV}
end
abbrev PlE := LV × Int × Bool
abbrev plc (r : PlE) : List LV := [r.1, I r.2.1, .bool r.2.2]
abbrev nil0 : LV := .slice none 0 true 0
def ps (s : List Int) (a b : Int) (Q : Nat -> LV) (m t : Nat) : PlE := (Q t, (tb s a b m t).1, decide (s.length <= t + m))
def blL (s : List Int) (a b : Int) (r : Rst) (i j : Nat) : List (Int × Int) := if j = 0 then [] else (el s i, el s r.2.2) :: plan s a b (r.2.2 + 1)
end Go.Proofs.YtlfkmgpngkbhpaaGreatDoor.C
end
