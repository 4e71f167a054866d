/-
  Part of the proof of CourseKnown: what functions of the program and of the statement come to, walked by the rules. No condition beyond those in each theorem.
-/
import Derived.Test.YtgipddabhcmgjabProg
import Derived.KernelRfl
import Derived.Test.YtgipddabhcmgjabPvC
open Go PvL Go.Proofs
namespace Go.Proofs.Ytgipddabhcmgjab.C
def e12 : Entry := ⟨12, [(.agg [(.slice (some (21498, 0)) 2 true 4), (.slice none 0 true 0), (.slice none 0 true 0), (.int .i64 (.ofNat 0)), (.int .i64 (.ofNat 0)), (.int .i64 (.ofNat 0)), (.int .i64 (.ofNat 0)), (.int .i64 (.ofNat 0)), (.int .i64 (.ofNat 0)), (.int .i64 (.ofNat 0)), (.int .i64 (.ofNat 0)), (.int .i64 (.ofNat 0)), (.int .i64 (.ofNat 0)), (.int .i64 (.ofNat 0)), (.int .i64 (.ofNat 2)), (.int .i64 (.ofNat 3)), (.slice (some (21501, 0)) 2 true 1)]), (.slice (some (28318, 0)) 16 true 1), (.int .i64 (.ofNat 25))], 32585, [(21498, [(.int .i64 (.ofNat 0)), (.int .i64 (.ofNat 0)), (.int .i64 (.ofNat 10)), (.int .i64 (.ofNat 0)), (.int .i64 (.ofNat 0)), (.int .i64 (.ofNat 4)), (.int .i64 (.ofNat 10)), (.int .i64 (.ofNat 4))], 56), (21501, [(.slice (some (21499, 0)) 1 true 2), (.slice (some (21500, 0)) 2 true 2)], 40), (21499, [(.int .i64 (.ofNat 0)), (.int .i64 (.ofNat 100))], 26), (21500, [(.int .i64 (.ofNat 20)), (.int .i64 (.ofNat 30)), (.int .i64 (.ofNat 40)), (.int .i64 (.ofNat 60))], 26), (28318, [(.int .i64 (.negSucc 0)), (.int .i64 (.negSucc 0)), (.int .i64 (.negSucc 0)), (.int .i64 (.negSucc 0)), (.int .i64 (.ofNat 5)), (.int .i64 (.ofNat 19)), (.int .i64 (.negSucc 0)), (.int .i64 (.negSucc 0)), (.int .i64 (.negSucc 0)), (.int .i64 (.negSucc 0)), (.int .i64 (.ofNat 25)), (.int .i64 (.ofNat 25)), (.int .i64 (.ofNat 47)), (.int .i64 (.ofNat 47)), (.int .i64 (.ofNat 45)), (.int .i64 (.ofNat 25))], 3)], (.tup [(.bool true), (.int .i64 (.ofNat 0))]), 36937, []⟩
theorem mix12 : Try.prog.follows .mixedOrders = true := by kernel_rfl
set_option maxRecDepth 100000 in
theorem c12 : chk Try.prog [] 100000 e12 = true := by kernel_rfl
theorem a12 : ∀ e ∈ ([] : List Entry), e.Ok Try.prog := fun e h => by
  cases h
theorem k12 : e12.Ok Try.prog := entry_ok mix12 a12 c12
end Go.Proofs.Ytgipddabhcmgjab.C
