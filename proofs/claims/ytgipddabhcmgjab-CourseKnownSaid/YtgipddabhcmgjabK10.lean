/-
  Part of the proof of CourseKnown: what functions of the program and of the statement come to, walked by the rules. No condition beyond those in each theorem.
-/
import Derived.Test.YtgipddabhcmgjabProg
import Derived.KernelRfl
import Derived.Test.YtgipddabhcmgjabPvC
open Go PvL Go.Proofs
namespace Go.Proofs.Ytgipddabhcmgjab.C
def e10 : Entry := ⟨7, [(.agg [(.slice (some (21498, 0)) 2 true 4), (.slice none 0 true 0), (.slice none 0 true 0), (.int .i64 (.ofNat 0)), (.int .i64 (.ofNat 0)), (.int .i64 (.ofNat 0)), (.int .i64 (.ofNat 0)), (.int .i64 (.ofNat 0)), (.int .i64 (.ofNat 0)), (.int .i64 (.ofNat 0)), (.int .i64 (.ofNat 0)), (.int .i64 (.ofNat 0)), (.int .i64 (.ofNat 0)), (.int .i64 (.ofNat 0)), (.int .i64 (.ofNat 2)), (.int .i64 (.ofNat 3)), (.slice (some (21501, 0)) 2 true 1)])], 23733, [(21498, [(.int .i64 (.ofNat 0)), (.int .i64 (.ofNat 0)), (.int .i64 (.ofNat 10)), (.int .i64 (.ofNat 0)), (.int .i64 (.ofNat 0)), (.int .i64 (.ofNat 4)), (.int .i64 (.ofNat 10)), (.int .i64 (.ofNat 4))], 56), (21501, [(.slice (some (21499, 0)) 1 true 2), (.slice (some (21500, 0)) 2 true 2)], 40), (21499, [(.int .i64 (.ofNat 0)), (.int .i64 (.ofNat 100))], 26), (21500, [(.int .i64 (.ofNat 20)), (.int .i64 (.ofNat 30)), (.int .i64 (.ofNat 40)), (.int .i64 (.ofNat 60))], 26)], (.tup [(.slice (some (28218, 0)) 2 false 2), (.int .i64 (.ofNat 25)), (.int .i64 (.ofNat 0))]), 28236, [(28218, [(.int .i64 (.ofNat 0)), (.int .i64 (.ofNat 0)), (.int .i64 (.ofNat 1)), (.int .i64 (.ofNat 1))], 66)]⟩
theorem mix10 : Try.prog.follows .mixedOrders = true := by kernel_rfl
set_option maxRecDepth 100000 in
theorem c10 : chk Try.prog [] 100000 e10 = true := by kernel_rfl
theorem a10 : ∀ e ∈ ([] : List Entry), e.Ok Try.prog := fun e h => by
  cases h
theorem k10 : e10.Ok Try.prog := entry_ok mix10 a10 c10
end Go.Proofs.Ytgipddabhcmgjab.C
