/-
  Part of the proof of CourseSwept: what functions of the program and of the statement come to, walked by the rules. No condition beyond those in each theorem.
-/
import Derived.Test.YtgipddabhcmgjabGreatProg
import Derived.KernelRfl
import Derived.Test.YtgipddabhcmgjabGreatPvC
import Derived.Test.YtgipddabhcmgjabGreatZ18
import Derived.Test.YtgipddabhcmgjabGreatZ21
import Derived.Test.YtgipddabhcmgjabGreatZ16
open Go PvL Go.Proofs
namespace Go.Proofs.YtgipddabhcmgjabGreat.C
def e9 : Entry := ⟨9, [], 0, [], (.bool true), 16013, []⟩
theorem mix : Tryz.prog.follows .mixedOrders = true := by kernel_rfl
set_option maxRecDepth 100000 in
theorem c9 : chk Tryz.prog [e18, e21, e16] 100000 e9 = true := by kernel_rfl
theorem none_ok : ∀ e ∈ ([] : List Entry), e.Ok Tryz.prog := fun _ h => absurd h List.not_mem_nil
theorem ke18 : e18.Ok Tryz.prog := entry_ok mix none_ok c18
theorem ke21 : e21.Ok Tryz.prog := entry_ok mix none_ok c21
theorem ke16 : e16.Ok Tryz.prog := entry_ok mix none_ok c16
theorem all_ok : ∀ e ∈ [e18, e21, e16], e.Ok Tryz.prog := fun e h => by
  rcases List.mem_cons.1 h with rfl | h
  · exact ke18
  rcases List.mem_cons.1 h with rfl | h
  · exact ke21
  rcases List.mem_cons.1 h with rfl | h
  · exact ke16
  cases h
theorem ke9 : e9.Ok Tryz.prog := entry_ok mix all_ok c9
end Go.Proofs.YtgipddabhcmgjabGreat.C
