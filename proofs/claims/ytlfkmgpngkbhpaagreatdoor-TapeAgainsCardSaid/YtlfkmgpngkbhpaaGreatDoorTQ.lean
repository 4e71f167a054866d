/-
 Part of the proof of TapeAgains: what functions of the program and of the statement come to, walked by the rules. No condition beyond those in each theorem.
-/
import Derived.Test.YtlfkmgpngkbhpaaGreatDoorTP
import Derived.Test.YtlfkmgpngkbhpaaGreatDoorTW
section
open Go PvL Go.Proofs
set_option linter.unusedSimpArgs false
set_option linter.unusedVariables false
namespace Go.Proofs.YtlfkmgpngkbhpaaGreatDoor.C
theorem eqV_2int {P : Program} {t e : TypeId} (hu : P.underlying t = some (.array 2 e)) (hi : P.underlying e = some (.int .i64)) (hg : P.eqGuardType P.depth t = false) (hs : szOf P e = some 1) (ha : aggSz P e = some none) (a b c d : Int) :
  eqV P t (.agg [I a, I b]) (.agg [I c, I d]) = some (decide (a = c) && decide (b = d)) := by
 have he : ∀ x y : Int, eqL P (Op.maxDepth - 1) e (I x) (I y) = some (decide (x = y)) := fun x y => by
  show eqL P (Op.maxDepth - 2 + 1) e (I x) (I y) = _
  unfold eqL
  rw [hi]
  show guard' (kEq .i64 .i64) (some (ieq x y)) = _
  rw [kEq_iff.2 rfl, guard'_true, ieq_eq]
  rfl
 have hp : ∀ (i : Nat) (xs ys : List LV) (x y : Int), nth xs i = some (I x) -> nth ys i = some (I y) -> eqPart P (eqL P (Op.maxDepth - 1)) e i xs ys = some (decide (x = y)) := fun i xs ys x y h1 h2 => by
  unfold eqPart
  rw [ha, ob_some, oe_none, h1, ob_some, h2, ob_some]; exact he x y
 unfold eqV
 show ifb (ifb true (P.eqGuardType P.depth t) false) none _ = _
 rw [ifb_true, hg, ifb_false]
 show eqL P (Op.maxDepth - 1 + 1) t _ _ = _
 unfold eqL
 rw [hu]
 show ob (szOf P e) _ = _
 rw [hs, ob_some]
 show andO (eqPart P (eqL P (Op.maxDepth - 1)) e 0 [I a, I b] [I c, I d]) (andO (eqPart P (eqL P (Op.maxDepth - 1)) e 1 [I a, I b] [I c, I d]) (some true)) = _
 rw [hp 0 _ _ a c rfl rfl, hp 1 _ _ b d rfl rfl]
 unfold andO
 rw [ob_some, ob_some]
 by_cases h1 : a = c <;> by_cases h2 : b = d <;> simp [h1, h2, ifb]
abbrev zFr : Fr := (0, 0, [])
def joinF (x y : Fr) : Fr × Int :=
 if errF x = 0 then (if errF y = 0 then (if x.1 = y.1 /\ x.2.1 = y.2.1 then ((x.1, x.2.1, bothL x.2.2 y.2.2), 0) else (zFr, 2)) else (zFr, errF y)) else (zFr, errF x)
end Go.Proofs.YtlfkmgpngkbhpaaGreatDoor.C
end
