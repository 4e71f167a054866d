/-
  Part of the proof of CourseKnown: what functions of the program and of the statement come to, walked by the rules. No condition beyond those in each theorem.
-/
import Derived.Test.YtgipddabhcmgjabProg
import Derived.KernelRfl
import Derived.Test.YtgipddabhcmgjabPvC
open Go PvL Go.Proofs
namespace Go.Proofs.Ytgipddabhcmgjab.C
def e7 : Entry := ⟨17, [(.agg [(.slice (some (19839, 0)) 2 true 4), (.slice (some (19845, 0)) 1 true 1), (.slice none 0 true 0), (.int .i64 (.ofNat 0)), (.int .i64 (.ofNat 0)), (.int .i64 (.ofNat 0)), (.int .i64 (.ofNat 0)), (.int .i64 (.ofNat 0)), (.int .i64 (.ofNat 0)), (.int .i64 (.ofNat 0)), (.int .i64 (.ofNat 0)), (.int .i64 (.ofNat 0)), (.int .i64 (.ofNat 0)), (.int .i64 (.ofNat 0)), (.int .i64 (.ofNat 2)), (.int .i64 (.ofNat 3)), (.slice (some (19842, 0)) 2 true 1)]), (.agg [(.int .i64 (.ofNat 0)), (.int .i64 (.ofNat 0)), (.int .i64 (.ofNat 0))]), (.agg [(.int .i64 (.ofNat 10)), (.int .i64 (.ofNat 0)), (.int .i64 (.ofNat 0))])], 19846, [(19839, [(.int .i64 (.ofNat 0)), (.int .i64 (.ofNat 0)), (.int .i64 (.ofNat 10)), (.int .i64 (.ofNat 0)), (.int .i64 (.ofNat 0)), (.int .i64 (.ofNat 4)), (.int .i64 (.ofNat 10)), (.int .i64 (.ofNat 4))], 56), (19845, [(.slice (some (19844, 0)) 4 true 2)], 24), (19844, [(.int .i64 (.ofNat 4)), (.int .i64 (.negSucc 0)), (.int .i64 (.ofNat 6)), (.int .i64 (.negSucc 0)), (.int .i64 (.ofNat 6)), (.int .i64 (.ofNat 1)), (.int .i64 (.ofNat 4)), (.int .i64 (.ofNat 1))], 30), (19842, [(.slice (some (19840, 0)) 1 true 2), (.slice (some (19841, 0)) 2 true 2)], 40), (19840, [(.int .i64 (.ofNat 0)), (.int .i64 (.ofNat 100))], 26), (19841, [(.int .i64 (.ofNat 20)), (.int .i64 (.ofNat 30)), (.int .i64 (.ofNat 40)), (.int .i64 (.ofNat 60))], 26)], (.tup [(.slice none 0 true 0), (.int .i64 (.ofNat 0)), (.int .i64 (.ofNat 4))]), 20428, []⟩
theorem mix7 : Try.prog.follows .mixedOrders = true := by kernel_rfl
set_option maxRecDepth 100000 in
theorem c7 : chk Try.prog [] 100000 e7 = true := by kernel_rfl
theorem a7 : ∀ e ∈ ([] : List Entry), e.Ok Try.prog := fun e h => by
  cases h
theorem k7 : e7.Ok Try.prog := entry_ok mix7 a7 c7
end Go.Proofs.Ytgipddabhcmgjab.C
