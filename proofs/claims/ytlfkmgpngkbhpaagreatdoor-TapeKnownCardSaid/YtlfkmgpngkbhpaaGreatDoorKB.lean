/-
 Part of the proof of TapeKnown: what functions of the program and of the statement come to, walked by the rules. No condition beyond those in each theorem.
-/
import Derived.Test.YtlfkmgpngkbhpaaGreatDoorKA
section
open Go PvL Go.Proofs
namespace Go.Proofs.YtlfkmgpngkbhpaaGreatDoor.C
def e1 : Entry := ⟨3, [], 64, tabs, .bool true, 638, []⟩
set_option maxRecDepth 100000 in
theorem c1 : chk Tryz.prog [] 100000 e1 = true := by kernel_rfl
theorem k1 : e1.Ok Tryz.prog := entry_ok mix (fun e h => by cases h) c1
end Go.Proofs.YtlfkmgpngkbhpaaGreatDoor.C
end
