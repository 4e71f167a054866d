/-
  Part of the proof of CourseKnown: what functions of the program and of the statement come to, walked by the rules. No condition beyond those in each theorem.
-/
import Derived.Test.YtgipddabhcmgjabProg
import Derived.KernelRfl
import Derived.Test.YtgipddabhcmgjabPvC
import Derived.Test.YtgipddabhcmgjabK1
import Derived.Test.YtgipddabhcmgjabK2
import Derived.Test.YtgipddabhcmgjabK3
import Derived.Test.YtgipddabhcmgjabK4
import Derived.Test.YtgipddabhcmgjabK5
import Derived.Test.YtgipddabhcmgjabK0
import Derived.Test.YtgipddabhcmgjabK6
import Derived.Test.YtgipddabhcmgjabK7
import Derived.Test.YtgipddabhcmgjabK8
import Derived.Test.YtgipddabhcmgjabK13
open Go PvL Go.Proofs
namespace Go.Proofs.Ytgipddabhcmgjab.C
def e14 : Entry := ⟨6, [], 0, [], (.bool true), 37510, []⟩
theorem mix14 : Try.prog.follows .mixedOrders = true := by kernel_rfl
set_option maxRecDepth 100000 in
theorem c14 : chk Try.prog [e1, e2, e3, e4, e5, e0, e6, e7, e8, e13] 100000 e14 = true := by kernel_rfl
theorem a14 : ∀ e ∈ ([e1, e2, e3, e4, e5, e0, e6, e7, e8, e13] : List Entry), e.Ok Try.prog := fun e h => by
  rcases List.mem_cons.1 h with rfl | h
  · exact k1
  rcases List.mem_cons.1 h with rfl | h
  · exact k2
  rcases List.mem_cons.1 h with rfl | h
  · exact k3
  rcases List.mem_cons.1 h with rfl | h
  · exact k4
  rcases List.mem_cons.1 h with rfl | h
  · exact k5
  rcases List.mem_cons.1 h with rfl | h
  · exact k0
  rcases List.mem_cons.1 h with rfl | h
  · exact k6
  rcases List.mem_cons.1 h with rfl | h
  · exact k7
  rcases List.mem_cons.1 h with rfl | h
  · exact k8
  rcases List.mem_cons.1 h with rfl | h
  · exact k13
  cases h
theorem k14 : e14.Ok Try.prog := entry_ok mix14 a14 c14
end Go.Proofs.Ytgipddabhcmgjab.C
