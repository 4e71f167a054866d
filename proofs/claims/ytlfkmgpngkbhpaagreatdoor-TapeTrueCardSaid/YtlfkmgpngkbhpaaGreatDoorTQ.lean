/-
 Part of the proof of TapeTrue: what functions of the program and of the statement come to, walked by the rules. No condition beyond those in each theorem.
-/
import Derived.Test.YtlfkmgpngkbhpaaGreatDoorTP
import Derived.Test.YtlfkmgpngkbhpaaGreatDoorTW
section
open Go PvL Go.Proofs
set_option linter.unusedSimpArgs false
set_option linter.unusedVariables false
namespace Go.Proofs.YtlfkmgpngkbhpaaGreatDoor.C
abbrev zFr : Fr := (0, 0, [])
def joinF (x y : Fr) : Fr × Int :=
 if errF x = 0 then (if errF y = 0 then (if x.1 = y.1 /\ x.2.1 = y.2.1 then ((x.1, x.2.1, bothL x.2.2 y.2.2), 0) else (zFr, 2)) else (zFr, errF y)) else (zFr, errF x)
end Go.Proofs.YtlfkmgpngkbhpaaGreatDoor.C
end
