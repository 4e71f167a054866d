/-
  Part of the proof of CourseKnown: what functions of the program and of the statement come to, walked by the rules. No condition beyond those in each theorem.
-/
import Derived.Test.YtgipddabhcmgjabProg
import Derived.KernelRfl
import Derived.Test.YtgipddabhcmgjabPvC
open Go PvL Go.Proofs
namespace Go.Proofs.Ytgipddabhcmgjab.C
def e11 : Entry := ⟨10, [(.agg [(.slice (some (21498, 0)) 2 true 4), (.slice none 0 true 0), (.slice none 0 true 0), (.int .i64 (.ofNat 0)), (.int .i64 (.ofNat 0)), (.int .i64 (.ofNat 0)), (.int .i64 (.ofNat 0)), (.int .i64 (.ofNat 0)), (.int .i64 (.ofNat 0)), (.int .i64 (.ofNat 0)), (.int .i64 (.ofNat 0)), (.int .i64 (.ofNat 0)), (.int .i64 (.ofNat 0)), (.int .i64 (.ofNat 0)), (.int .i64 (.ofNat 2)), (.int .i64 (.ofNat 3)), (.slice (some (21501, 0)) 2 true 1)])], 28236, [(21498, [(.int .i64 (.ofNat 0)), (.int .i64 (.ofNat 0)), (.int .i64 (.ofNat 10)), (.int .i64 (.ofNat 0)), (.int .i64 (.ofNat 0)), (.int .i64 (.ofNat 4)), (.int .i64 (.ofNat 10)), (.int .i64 (.ofNat 4))], 56), (21501, [(.slice (some (21499, 0)) 1 true 2), (.slice (some (21500, 0)) 2 true 2)], 40), (21499, [(.int .i64 (.ofNat 0)), (.int .i64 (.ofNat 100))], 26), (21500, [(.int .i64 (.ofNat 20)), (.int .i64 (.ofNat 30)), (.int .i64 (.ofNat 40)), (.int .i64 (.ofNat 60))], 26)], (.tup [(.slice (some (28318, 0)) 16 true 1), (.int .i64 (.ofNat 0))]), 32585, [(28318, [(.int .i64 (.negSucc 0)), (.int .i64 (.negSucc 0)), (.int .i64 (.negSucc 0)), (.int .i64 (.negSucc 0)), (.int .i64 (.ofNat 5)), (.int .i64 (.ofNat 19)), (.int .i64 (.negSucc 0)), (.int .i64 (.negSucc 0)), (.int .i64 (.negSucc 0)), (.int .i64 (.negSucc 0)), (.int .i64 (.ofNat 25)), (.int .i64 (.ofNat 25)), (.int .i64 (.ofNat 47)), (.int .i64 (.ofNat 47)), (.int .i64 (.ofNat 45)), (.int .i64 (.ofNat 25))], 3)]⟩
theorem mix11 : Try.prog.follows .mixedOrders = true := by kernel_rfl
set_option maxRecDepth 100000 in
theorem c11 : chk Try.prog [] 100000 e11 = true := by kernel_rfl
theorem a11 : ∀ e ∈ ([] : List Entry), e.Ok Try.prog := fun e h => by
  cases h
theorem k11 : e11.Ok Try.prog := entry_ok mix11 a11 c11
end Go.Proofs.Ytgipddabhcmgjab.C
