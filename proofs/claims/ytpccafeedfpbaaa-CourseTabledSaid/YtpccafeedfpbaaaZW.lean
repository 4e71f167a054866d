/-
  Part of the proof of CourseTabled: what functions of the program and of the statement come to, walked by the rules. No condition beyond those in each theorem.
-/
import Derived.Test.YtpccafeedfpbaaaProg
import Derived.KernelRfl
import Derived.Test.YtpccafeedfpbaaaPvC
import Derived.Test.YtpccafeedfpbaaaZ9
import Derived.Test.YtpccafeedfpbaaaZ11
import Derived.Test.YtpccafeedfpbaaaZ13
open Go PvL Go.Proofs
namespace Go.Proofs.Ytpccafeedfpbaaa.C
def e8 : Entry := ⟨8, [], 0, [], (.bool true), 16013, []⟩
theorem mix : Try.prog.follows .mixedOrders = true := by kernel_rfl
set_option maxRecDepth 100000 in
theorem c8 : chk Try.prog [e9, e11, e13] 100000 e8 = true := by kernel_rfl
theorem none_ok : ∀ e ∈ ([] : List Entry), e.Ok Try.prog := fun _ h => absurd h List.not_mem_nil
theorem ke9 : e9.Ok Try.prog := entry_ok mix none_ok c9
theorem ke11 : e11.Ok Try.prog := entry_ok mix none_ok c11
theorem ke13 : e13.Ok Try.prog := entry_ok mix none_ok c13
theorem all_ok : ∀ e ∈ [e9, e11, e13], e.Ok Try.prog := fun e h => by
  rcases List.mem_cons.1 h with rfl | h
  · exact ke9
  rcases List.mem_cons.1 h with rfl | h
  · exact ke11
  rcases List.mem_cons.1 h with rfl | h
  · exact ke13
  cases h
theorem ke8 : e8.Ok Try.prog := entry_ok mix all_ok c8
end Go.Proofs.Ytpccafeedfpbaaa.C
