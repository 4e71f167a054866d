/-
  What the function Best (number 22) comes to at the arguments of the chapter's example: run by the interpreter. A closed statement.
-/
import Derived.Test.YtkkcpebemcbomaaGreatProg
import Derived.KernelRfl
import Derived.Test.YtkkcpebemcbomaaGreatPvT
open Go PvL Go.Proofs
namespace Go.Proofs.YtkkcpebemcbomaaGreat.pv
def e22 : Entry := ⟨22, [(.agg [(.slice (some (1, 0)) 2 true 4), (.slice none 0 true 0), (.slice none 0 true 0), (.int .i64 (.ofNat 0)), (.int .i64 (.ofNat 0)), (.int .i64 (.ofNat 0)), (.int .i64 (.ofNat 0)), (.int .i64 (.ofNat 0)), (.int .i64 (.ofNat 0)), (.int .i64 (.ofNat 0)), (.int .i64 (.ofNat 0)), (.int .i64 (.ofNat 0)), (.int .i64 (.ofNat 0)), (.int .i64 (.ofNat 0)), (.int .i64 (.ofNat 2)), (.int .i64 (.ofNat 3)), (.slice (some (4, 0)) 2 true 1)])], 2236, [(1, [(.int .i64 (.ofNat 0)), (.int .i64 (.ofNat 0)), (.int .i64 (.ofNat 10)), (.int .i64 (.ofNat 0)), (.int .i64 (.ofNat 0)), (.int .i64 (.ofNat 4)), (.int .i64 (.ofNat 10)), (.int .i64 (.ofNat 4))], 70), (4, [(.slice (some (2, 0)) 1 true 2), (.slice (some (3, 0)) 2 true 2)], 56), (2, [(.int .i64 (.ofNat 0)), (.int .i64 (.ofNat 100))], 39), (3, [(.int .i64 (.ofNat 20)), (.int .i64 (.ofNat 30)), (.int .i64 (.ofNat 40)), (.int .i64 (.ofNat 60))], 39)], (.tup [(.slice (some (6721, 0)) 2 false 2), (.int .i64 (.ofNat 25)), (.int .i64 (.ofNat 0))]), 6739, [(6721, [(.int .i64 (.ofNat 0)), (.int .i64 (.ofNat 0)), (.int .i64 (.ofNat 1)), (.int .i64 (.ofNat 1))], 55)]⟩
set_option maxRecDepth 100000 in
theorem c22 : chk Tryz.prog [] 100000 e22 = true := by kernel_rfl
end Go.Proofs.YtkkcpebemcbomaaGreat.pv
