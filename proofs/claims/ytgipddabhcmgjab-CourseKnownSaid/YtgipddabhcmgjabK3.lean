/-
  Part of the proof of CourseKnown: what functions of the program and of the statement come to, walked by the rules. No condition beyond those in each theorem.
-/
import Derived.Test.YtgipddabhcmgjabProg
import Derived.KernelRfl
import Derived.Test.YtgipddabhcmgjabPvC
open Go PvL Go.Proofs
namespace Go.Proofs.Ytgipddabhcmgjab.C
def e3 : Entry := ⟨10, [(.agg [(.slice (some (193, 0)) 2 true 4), (.slice none 0 true 0), (.slice none 0 true 0), (.int .i64 (.ofNat 0)), (.int .i64 (.ofNat 0)), (.int .i64 (.ofNat 0)), (.int .i64 (.ofNat 0)), (.int .i64 (.ofNat 0)), (.int .i64 (.ofNat 0)), (.int .i64 (.ofNat 0)), (.int .i64 (.ofNat 0)), (.int .i64 (.ofNat 0)), (.int .i64 (.ofNat 0)), (.int .i64 (.ofNat 0)), (.int .i64 (.ofNat 2)), (.int .i64 (.ofNat 3)), (.slice (some (196, 0)) 2 true 1)])], 4775, [(193, [(.int .i64 (.ofNat 0)), (.int .i64 (.ofNat 0)), (.int .i64 (.ofNat 10)), (.int .i64 (.ofNat 0)), (.int .i64 (.ofNat 0)), (.int .i64 (.ofNat 4)), (.int .i64 (.ofNat 10)), (.int .i64 (.ofNat 4))], 56), (196, [(.slice (some (194, 0)) 1 true 2), (.slice (some (195, 0)) 2 true 2)], 40), (194, [(.int .i64 (.ofNat 0)), (.int .i64 (.ofNat 100))], 26), (195, [(.int .i64 (.ofNat 20)), (.int .i64 (.ofNat 30)), (.int .i64 (.ofNat 40)), (.int .i64 (.ofNat 60))], 26)], (.tup [(.slice (some (4857, 0)) 16 true 1), (.int .i64 (.ofNat 0))]), 9124, [(4857, [(.int .i64 (.negSucc 0)), (.int .i64 (.negSucc 0)), (.int .i64 (.negSucc 0)), (.int .i64 (.negSucc 0)), (.int .i64 (.ofNat 5)), (.int .i64 (.ofNat 19)), (.int .i64 (.negSucc 0)), (.int .i64 (.negSucc 0)), (.int .i64 (.negSucc 0)), (.int .i64 (.negSucc 0)), (.int .i64 (.ofNat 25)), (.int .i64 (.ofNat 25)), (.int .i64 (.ofNat 47)), (.int .i64 (.ofNat 47)), (.int .i64 (.ofNat 45)), (.int .i64 (.ofNat 25))], 3)]⟩
theorem mix3 : Try.prog.follows .mixedOrders = true := by kernel_rfl
set_option maxRecDepth 100000 in
theorem c3 : chk Try.prog [] 100000 e3 = true := by kernel_rfl
theorem a3 : ∀ e ∈ ([] : List Entry), e.Ok Try.prog := fun e h => by
  cases h
theorem k3 : e3.Ok Try.prog := entry_ok mix3 a3 c3
end Go.Proofs.Ytgipddabhcmgjab.C
