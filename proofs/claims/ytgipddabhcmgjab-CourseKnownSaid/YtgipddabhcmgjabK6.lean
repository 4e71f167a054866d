/-
  Part of the proof of CourseKnown: what functions of the program and of the statement come to, walked by the rules. No condition beyond those in each theorem.
-/
import Derived.Test.YtgipddabhcmgjabProg
import Derived.KernelRfl
import Derived.Test.YtgipddabhcmgjabPvC
open Go PvL Go.Proofs
namespace Go.Proofs.Ytgipddabhcmgjab.C
def e6 : Entry := ⟨17, [(.agg [(.slice (some (18365, 0)) 2 true 4), (.slice (some (18371, 0)) 1 true 1), (.slice (some (18373, 0)) 1 true 2), (.int .i64 (.ofNat 0)), (.int .i64 (.ofNat 0)), (.int .i64 (.ofNat 0)), (.int .i64 (.ofNat 0)), (.int .i64 (.ofNat 0)), (.int .i64 (.ofNat 0)), (.int .i64 (.ofNat 0)), (.int .i64 (.ofNat 0)), (.int .i64 (.ofNat 0)), (.int .i64 (.ofNat 0)), (.int .i64 (.ofNat 0)), (.int .i64 (.ofNat 2)), (.int .i64 (.ofNat 3)), (.slice (some (18368, 0)) 2 true 1)]), (.agg [(.int .i64 (.ofNat 0)), (.int .i64 (.ofNat 0)), (.int .i64 (.ofNat 0))]), (.agg [(.int .i64 (.ofNat 10)), (.int .i64 (.ofNat 0)), (.int .i64 (.ofNat 0))])], 18374, [(18365, [(.int .i64 (.ofNat 0)), (.int .i64 (.ofNat 0)), (.int .i64 (.ofNat 10)), (.int .i64 (.ofNat 0)), (.int .i64 (.ofNat 0)), (.int .i64 (.ofNat 4)), (.int .i64 (.ofNat 10)), (.int .i64 (.ofNat 4))], 56), (18371, [(.slice (some (18370, 0)) 4 true 2)], 24), (18370, [(.int .i64 (.ofNat 4)), (.int .i64 (.negSucc 0)), (.int .i64 (.ofNat 6)), (.int .i64 (.negSucc 0)), (.int .i64 (.ofNat 6)), (.int .i64 (.ofNat 1)), (.int .i64 (.ofNat 4)), (.int .i64 (.ofNat 1))], 30), (18373, [(.int .i64 (.ofNat 5)), (.int .i64 (.ofNat 3))], 30), (18368, [(.slice (some (18366, 0)) 1 true 2), (.slice (some (18367, 0)) 2 true 2)], 40), (18366, [(.int .i64 (.ofNat 0)), (.int .i64 (.ofNat 100))], 26), (18367, [(.int .i64 (.ofNat 20)), (.int .i64 (.ofNat 30)), (.int .i64 (.ofNat 40)), (.int .i64 (.ofNat 60))], 26)], (.tup [(.slice (some (19833, 0)) 3 false 2), (.int .i64 (.ofNat 12)), (.int .i64 (.ofNat 0))]), 19837, [(19833, [(.int .i64 (.ofNat 0)), (.int .i64 (.ofNat 0)), (.int .i64 (.ofNat 5)), (.int .i64 (.ofNat 3)), (.int .i64 (.ofNat 10)), (.int .i64 (.ofNat 0))], 30)]⟩
theorem mix6 : Try.prog.follows .mixedOrders = true := by kernel_rfl
set_option maxRecDepth 100000 in
theorem c6 : chk Try.prog [] 100000 e6 = true := by kernel_rfl
theorem a6 : ∀ e ∈ ([] : List Entry), e.Ok Try.prog := fun e h => by
  cases h
theorem k6 : e6.Ok Try.prog := entry_ok mix6 a6 c6
end Go.Proofs.Ytgipddabhcmgjab.C
