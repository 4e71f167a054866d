/-
  Part of the proof of CourseShots: what functions of the program and of the statement come to, walked by the rules. No condition beyond those in each theorem.
-/
import Derived.Test.YtgipddabhcmgjaaGreatProg
import Derived.KernelRfl
import Derived.Test.YtgipddabhcmgjaaGreatPvC
import Derived.Test.YtgipddabhcmgjaaGreatZ31
import Derived.Test.YtgipddabhcmgjaaGreatZ33
import Derived.Test.YtgipddabhcmgjaaGreatZ37
open Go PvL Go.Proofs
namespace Go.Proofs.YtgipddabhcmgjaaGreat.C
def e17 : Entry := ⟨17, [], 0, [], (.bool true), 16013, []⟩
theorem mix : Tryz.prog.follows .mixedOrders = true := by kernel_rfl
set_option maxRecDepth 100000 in
theorem c17 : chk Tryz.prog [e31, e33, e37] 100000 e17 = true := by kernel_rfl
theorem none_ok : ∀ e ∈ ([] : List Entry), e.Ok Tryz.prog := fun _ h => absurd h List.not_mem_nil
theorem ke31 : e31.Ok Tryz.prog := entry_ok mix none_ok c31
theorem ke33 : e33.Ok Tryz.prog := entry_ok mix none_ok c33
theorem ke37 : e37.Ok Tryz.prog := entry_ok mix none_ok c37
theorem all_ok : ∀ e ∈ [e31, e33, e37], e.Ok Tryz.prog := fun e h => by
  rcases List.mem_cons.1 h with rfl | h
  · exact ke31
  rcases List.mem_cons.1 h with rfl | h
  · exact ke33
  rcases List.mem_cons.1 h with rfl | h
  · exact ke37
  cases h
theorem ke17 : e17.Ok Tryz.prog := entry_ok mix all_ok c17
end Go.Proofs.YtgipddabhcmgjaaGreat.C
