/-
  The function works (number 9) returns true, from any world, and turns nothing that stood. No condition.
-/
import Derived.Test.YtkkcpebemcbomaaGreatProg
import Derived.KernelRfl
import Derived.Test.YtkkcpebemcbomaaGreatPvT
import Derived.Test.YtkkcpebemcbomaaGreatSeg22
import Derived.Test.YtkkcpebemcbomaaGreatSeg23
import Derived.Test.YtkkcpebemcbomaaGreatSeg24
open Go PvL Go.Proofs
namespace Go.Proofs.YtkkcpebemcbomaaGreat.pv
def e9 : Entry := ⟨9, [], 0, [], (.bool true), 16013, []⟩
theorem mix : Tryz.prog.follows .mixedOrders = true := by kernel_rfl
set_option maxRecDepth 100000 in
theorem c9 : chk Tryz.prog [e22, e23, e24] 100000 e9 = true := by kernel_rfl
theorem none_ok : ∀ e ∈ ([] : List Entry), e.Ok Tryz.prog := fun _ h => absurd h List.not_mem_nil
theorem k22 : e22.Ok Tryz.prog := entry_ok mix none_ok c22
theorem k23 : e23.Ok Tryz.prog := entry_ok mix none_ok c23
theorem k24 : e24.Ok Tryz.prog := entry_ok mix none_ok c24
theorem all_ok : ∀ e ∈ [e22, e23, e24], e.Ok Tryz.prog := fun e h => by
  rcases List.mem_cons.1 h with rfl | h
  · exact k22
  rcases List.mem_cons.1 h with rfl | h
  · exact k23
  rcases List.mem_cons.1 h with rfl | h
  · exact k24
  cases h
theorem k9 : e9.Ok Tryz.prog := entry_ok mix all_ok c9
theorem works (w : World) : Calls Tryz.prog 9 #[] w fun e w' => e = .returned (.bool true) ∧ RowKit.Grown w w' := true_calls k9 rfl rfl rfl rfl w
end Go.Proofs.YtkkcpebemcbomaaGreat.pv
