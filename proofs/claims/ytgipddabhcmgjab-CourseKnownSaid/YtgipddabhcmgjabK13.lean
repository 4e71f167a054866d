/-
  Part of the proof of CourseKnown: what functions of the program and of the statement come to, walked by the rules. No condition beyond those in each theorem.
-/
import Derived.Test.YtgipddabhcmgjabProg
import Derived.KernelRfl
import Derived.Test.YtgipddabhcmgjabPvC
import Derived.Test.YtgipddabhcmgjabK10
import Derived.Test.YtgipddabhcmgjabK11
import Derived.Test.YtgipddabhcmgjabK12
import Derived.Test.YtgipddabhcmgjabK9
open Go PvL Go.Proofs
namespace Go.Proofs.Ytgipddabhcmgjab.C
def e13 : Entry := ⟨9, [], 21497, [], (.bool true), 37510, []⟩
theorem mix13 : Try.prog.follows .mixedOrders = true := by kernel_rfl
set_option maxRecDepth 100000 in
theorem c13 : chk Try.prog [e10, e11, e12, e9] 100000 e13 = true := by kernel_rfl
theorem a13 : ∀ e ∈ ([e10, e11, e12, e9] : List Entry), e.Ok Try.prog := fun e h => by
  rcases List.mem_cons.1 h with rfl | h
  · exact k10
  rcases List.mem_cons.1 h with rfl | h
  · exact k11
  rcases List.mem_cons.1 h with rfl | h
  · exact k12
  rcases List.mem_cons.1 h with rfl | h
  · exact k9
  cases h
theorem k13 : e13.Ok Try.prog := entry_ok mix13 a13 c13
end Go.Proofs.Ytgipddabhcmgjab.C
