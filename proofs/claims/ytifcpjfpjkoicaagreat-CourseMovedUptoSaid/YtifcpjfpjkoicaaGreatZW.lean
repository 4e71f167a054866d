/-
 Part of the proof of CourseMovedUpto: what functions of the program and of the statement come to, walked by the rules. No condition beyond those in each theorem.
-/
import Derived.Test.YtifcpjfpjkoicaaGreatProg
import Derived.KernelRfl
import Derived.Test.YtifcpjfpjkoicaaGreatPvC
import Derived.Test.YtifcpjfpjkoicaaGreatZ7
import Derived.Test.YtifcpjfpjkoicaaGreatZ8
import Derived.Test.YtifcpjfpjkoicaaGreatZ22
import Derived.Test.YtifcpjfpjkoicaaGreatZ21
section
open Go PvL Go.Proofs
namespace Go.Proofs.YtifcpjfpjkoicaaGreat.C
def e6 : Entry := ⟨6, [], 0, [], (.bool true), 16013, []⟩
theorem mix : Tryz.prog.follows .mixedOrders = true := by kernel_rfl
set_option maxRecDepth 100000 in
theorem c6 : chk Tryz.prog [e7, e8, e22, e21] 100000 e6 = true := by kernel_rfl
theorem none_ok : ∀ e ∈ ([] : List Entry), e.Ok Tryz.prog := fun _ h => absurd h List.not_mem_nil
theorem ke7 : e7.Ok Tryz.prog := entry_ok mix none_ok c7
theorem ke8 : e8.Ok Tryz.prog := entry_ok mix none_ok c8
theorem ke22 : e22.Ok Tryz.prog := entry_ok mix none_ok c22
theorem ke21 : e21.Ok Tryz.prog := entry_ok mix none_ok c21
theorem all_ok : ∀ e ∈ [e7, e8, e22, e21], e.Ok Tryz.prog := fun e h => by
 rcases List.mem_cons.1 h with rfl | h
 ·exact ke7
 rcases List.mem_cons.1 h with rfl | h
 ·exact ke8
 rcases List.mem_cons.1 h with rfl | h
 ·exact ke22
 rcases List.mem_cons.1 h with rfl | h
 ·exact ke21
 cases h
theorem ke6 : e6.Ok Tryz.prog := entry_ok mix all_ok c6
end Go.Proofs.YtifcpjfpjkoicaaGreat.C
end
