/-
  Part of the proof of CourseRounds: what functions of the program and of the statement come to, walked by the rules. No condition beyond those in each theorem.
-/
import Derived.Test.YtgipddabhcmgjaaProg
import Derived.KernelRfl
import Derived.Test.YtgipddabhcmgjaaPvC
import Derived.Test.YtgipddabhcmgjaaZ16
import Derived.Test.YtgipddabhcmgjaaZ17
import Derived.Test.YtgipddabhcmgjaaZ18
open Go PvL Go.Proofs
namespace Go.Proofs.Ytgipddabhcmgjaa.C
def e6 : Entry := ⟨6, [], 0, [], (.bool true), 16013, []⟩
theorem mix : Try.prog.follows .mixedOrders = true := by kernel_rfl
set_option maxRecDepth 100000 in
theorem c6 : chk Try.prog [e16, e17, e18] 100000 e6 = true := by kernel_rfl
theorem none_ok : ∀ e ∈ ([] : List Entry), e.Ok Try.prog := fun _ h => absurd h List.not_mem_nil
theorem ke16 : e16.Ok Try.prog := entry_ok mix none_ok c16
theorem ke17 : e17.Ok Try.prog := entry_ok mix none_ok c17
theorem ke18 : e18.Ok Try.prog := entry_ok mix none_ok c18
theorem all_ok : ∀ e ∈ [e16, e17, e18], e.Ok Try.prog := fun e h => by
  rcases List.mem_cons.1 h with rfl | h
  · exact ke16
  rcases List.mem_cons.1 h with rfl | h
  · exact ke17
  rcases List.mem_cons.1 h with rfl | h
  · exact ke18
  cases h
theorem ke6 : e6.Ok Try.prog := entry_ok mix all_ok c6
end Go.Proofs.Ytgipddabhcmgjaa.C
