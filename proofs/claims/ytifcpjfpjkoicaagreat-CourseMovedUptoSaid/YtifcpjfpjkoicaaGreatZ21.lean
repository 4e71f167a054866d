/-
 Part of the proof of CourseMovedUpto: what functions of the program and of the statement come to, walked by the rules. No condition beyond those in each theorem.
-/
import Derived.Test.YtifcpjfpjkoicaaGreatProg
import Derived.KernelRfl
import Derived.Test.YtifcpjfpjkoicaaGreatPvC
section
open Go PvL Go.Proofs
namespace Go.Proofs.YtifcpjfpjkoicaaGreat.C
def e21 : Entry := ⟨21, [(.agg [(.slice (some (1, 0)) 2 true 4), (.slice none 0 true 0), (.slice none 0 true 0), (.int .i64 (.ofNat 0)), (.int .i64 (.ofNat 0)), (.int .i64 (.ofNat 0)), (.int .i64 (.ofNat 0)), (.int .i64 (.ofNat 0)), (.int .i64 (.ofNat 0)), (.int .i64 (.ofNat 0)), (.int .i64 (.ofNat 0)), (.int .i64 (.ofNat 0)), (.int .i64 (.ofNat 0)), (.int .i64 (.ofNat 0)), (.int .i64 (.ofNat 2)), (.int .i64 (.ofNat 3)), (.slice (some (4, 0)) 2 true 1)]), (.slice (some (6821, 0)) 16 true 1), (.int .i64 (.ofNat 25))], 11088, [(1, [(.int .i64 (.ofNat 0)), (.int .i64 (.ofNat 0)), (.int .i64 (.ofNat 10)), (.int .i64 (.ofNat 0)), (.int .i64 (.ofNat 0)), (.int .i64 (.ofNat 4)), (.int .i64 (.ofNat 10)), (.int .i64 (.ofNat 4))], 56), (4, [(.slice (some (2, 0)) 1 true 2), (.slice (some (3, 0)) 2 true 2)], 68), (2, [(.int .i64 (.ofNat 0)), (.int .i64 (.ofNat 100))], 26), (3, [(.int .i64 (.ofNat 20)), (.int .i64 (.ofNat 30)), (.int .i64 (.ofNat 40)), (.int .i64 (.ofNat 60))], 26), (6821, [(.int .i64 (.negSucc 0)), (.int .i64 (.negSucc 0)), (.int .i64 (.negSucc 0)), (.int .i64 (.negSucc 0)), (.int .i64 (.ofNat 5)), (.int .i64 (.ofNat 19)), (.int .i64 (.negSucc 0)), (.int .i64 (.negSucc 0)), (.int .i64 (.negSucc 0)), (.int .i64 (.negSucc 0)), (.int .i64 (.ofNat 25)), (.int .i64 (.ofNat 25)), (.int .i64 (.ofNat 47)), (.int .i64 (.ofNat 47)), (.int .i64 (.ofNat 45)), (.int .i64 (.ofNat 25))], 3)], (.tup [(.bool true), (.int .i64 (.ofNat 0))]), 15440, []⟩
set_option maxRecDepth 100000 in
theorem c21 : chk Tryz.prog [] 100000 e21 = true := by kernel_rfl
end Go.Proofs.YtifcpjfpjkoicaaGreat.C
end
