/-
  Part of the proof of CourseKnown: what functions of the program and of the statement come to, walked by the rules. No condition beyond those in each theorem.
-/
import Derived.Test.YtgipddabhcmgjabProg
import Derived.KernelRfl
import Derived.Test.YtgipddabhcmgjabPvC
open Go PvL Go.Proofs
namespace Go.Proofs.Ytgipddabhcmgjab.C
def e8 : Entry := ⟨17, [(.agg [(.slice (some (18365, 0)) 2 true 4), (.slice (some (18371, 0)) 1 true 1), (.slice (some (18373, 0)) 1 true 2), (.int .i64 (.ofNat 0)), (.int .i64 (.ofNat 0)), (.int .i64 (.ofNat 0)), (.int .i64 (.ofNat 0)), (.int .i64 (.ofNat 0)), (.int .i64 (.ofNat 0)), (.int .i64 (.ofNat 0)), (.int .i64 (.ofNat 0)), (.int .i64 (.ofNat 0)), (.int .i64 (.ofNat 0)), (.int .i64 (.ofNat 0)), (.int .i64 (.ofNat 2)), (.int .i64 (.ofNat 3)), (.slice (some (18368, 0)) 2 true 1)]), (.agg [(.int .i64 (.ofNat 0)), (.int .i64 (.ofNat 0)), (.int .i64 (.ofNat 2))]), (.agg [(.int .i64 (.ofNat 0)), (.int .i64 (.ofNat 0)), (.int .i64 (.ofNat 7))])], 20428, [(18365, [(.int .i64 (.ofNat 0)), (.int .i64 (.ofNat 0)), (.int .i64 (.ofNat 10)), (.int .i64 (.ofNat 0)), (.int .i64 (.ofNat 0)), (.int .i64 (.ofNat 4)), (.int .i64 (.ofNat 10)), (.int .i64 (.ofNat 4))], 56), (18371, [(.slice (some (18370, 0)) 4 true 2)], 24), (18370, [(.int .i64 (.ofNat 4)), (.int .i64 (.negSucc 0)), (.int .i64 (.ofNat 6)), (.int .i64 (.negSucc 0)), (.int .i64 (.ofNat 6)), (.int .i64 (.ofNat 1)), (.int .i64 (.ofNat 4)), (.int .i64 (.ofNat 1))], 30), (18373, [(.int .i64 (.ofNat 5)), (.int .i64 (.ofNat 3))], 30), (18368, [(.slice (some (18366, 0)) 1 true 2), (.slice (some (18367, 0)) 2 true 2)], 40), (18366, [(.int .i64 (.ofNat 0)), (.int .i64 (.ofNat 100))], 26), (18367, [(.int .i64 (.ofNat 20)), (.int .i64 (.ofNat 30)), (.int .i64 (.ofNat 40)), (.int .i64 (.ofNat 60))], 26)], (.tup [(.slice (some (20580, 0)) 1 false 2), (.int .i64 (.ofNat 9)), (.int .i64 (.ofNat 0))]), 21495, [(20580, [(.int .i64 (.ofNat 0)), (.int .i64 (.ofNat 0))], 30)]⟩
theorem mix8 : Try.prog.follows .mixedOrders = true := by kernel_rfl
set_option maxRecDepth 100000 in
theorem c8 : chk Try.prog [] 100000 e8 = true := by kernel_rfl
theorem a8 : ∀ e ∈ ([] : List Entry), e.Ok Try.prog := fun e h => by
  cases h
theorem k8 : e8.Ok Try.prog := entry_ok mix8 a8 c8
end Go.Proofs.Ytgipddabhcmgjab.C
