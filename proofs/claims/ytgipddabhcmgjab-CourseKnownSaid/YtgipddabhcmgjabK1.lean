/-
  Part of the proof of CourseKnown: what functions of the program and of the statement come to, walked by the rules. No condition beyond those in each theorem.
-/
import Derived.Test.YtgipddabhcmgjabProg
import Derived.KernelRfl
import Derived.Test.YtgipddabhcmgjabPvC
open Go PvL Go.Proofs
namespace Go.Proofs.Ytgipddabhcmgjab.C
def e1 : Entry := ⟨7, [(.agg [(.slice (some (1061, 0)) 2 true 4), (.slice (some (1067, 0)) 1 true 1), (.slice none 0 true 0), (.int .i64 (.ofNat 0)), (.int .i64 (.ofNat 0)), (.int .i64 (.ofNat 0)), (.int .i64 (.ofNat 0)), (.int .i64 (.ofNat 0)), (.int .i64 (.ofNat 0)), (.int .i64 (.ofNat 0)), (.int .i64 (.ofNat 0)), (.int .i64 (.ofNat 0)), (.int .i64 (.ofNat 0)), (.int .i64 (.ofNat 0)), (.int .i64 (.ofNat 2)), (.int .i64 (.ofNat 3)), (.slice (some (1064, 0)) 2 true 1)])], 1068, [(1061, [(.int .i64 (.ofNat 0)), (.int .i64 (.ofNat 0)), (.int .i64 (.ofNat 10)), (.int .i64 (.ofNat 0)), (.int .i64 (.ofNat 0)), (.int .i64 (.ofNat 4)), (.int .i64 (.ofNat 10)), (.int .i64 (.ofNat 4))], 56), (1067, [(.slice (some (1066, 0)) 4 true 2)], 24), (1066, [(.int .i64 (.ofNat 4)), (.int .i64 (.negSucc 0)), (.int .i64 (.ofNat 6)), (.int .i64 (.negSucc 0)), (.int .i64 (.ofNat 6)), (.int .i64 (.ofNat 1)), (.int .i64 (.ofNat 4)), (.int .i64 (.ofNat 1))], 30), (1064, [(.slice (some (1062, 0)) 1 true 2), (.slice (some (1063, 0)) 2 true 2)], 40), (1062, [(.int .i64 (.ofNat 0)), (.int .i64 (.ofNat 100))], 26), (1063, [(.int .i64 (.ofNat 20)), (.int .i64 (.ofNat 30)), (.int .i64 (.ofNat 40)), (.int .i64 (.ofNat 60))], 26)], (.tup [(.slice none 0 true 0), (.int .i64 (.ofNat 0)), (.int .i64 (.ofNat 4))]), 4690, []⟩
theorem mix1 : Try.prog.follows .mixedOrders = true := by kernel_rfl
set_option maxRecDepth 100000 in
theorem c1 : chk Try.prog [] 100000 e1 = true := by kernel_rfl
theorem a1 : ∀ e ∈ ([] : List Entry), e.Ok Try.prog := fun e h => by
  cases h
theorem k1 : e1.Ok Try.prog := entry_ok mix1 a1 c1
end Go.Proofs.Ytgipddabhcmgjab.C
