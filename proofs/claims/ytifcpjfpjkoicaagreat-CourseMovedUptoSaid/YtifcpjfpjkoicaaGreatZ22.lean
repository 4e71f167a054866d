/-
 Part of the proof of CourseMovedUpto: what functions of the program and of the statement come to, walked by the rules. No condition beyond those in each theorem.
-/
import Derived.Test.YtifcpjfpjkoicaaGreatProg
import Derived.KernelRfl
import Derived.Test.YtifcpjfpjkoicaaGreatPvC
section
open Go PvL Go.Proofs
namespace Go.Proofs.YtifcpjfpjkoicaaGreat.C
def e22 : Entry := ⟨22, [(.agg [(.slice (some (15442, 0)) 2 true 4), (.slice (some (15448, 0)) 1 true 1), (.slice none 0 true 0), (.int .i64 (.ofNat 0)), (.int .i64 (.ofNat 0)), (.int .i64 (.ofNat 0)), (.int .i64 (.ofNat 0)), (.int .i64 (.ofNat 0)), (.int .i64 (.ofNat 0)), (.int .i64 (.ofNat 0)), (.int .i64 (.ofNat 0)), (.int .i64 (.ofNat 0)), (.int .i64 (.ofNat 0)), (.int .i64 (.ofNat 0)), (.int .i64 (.ofNat 2)), (.int .i64 (.ofNat 3)), (.slice (some (15445, 0)) 2 true 1)]), (.agg [(.int .i64 (.ofNat 0)), (.int .i64 (.ofNat 0))]), (.agg [(.int .i64 (.ofNat 10)), (.int .i64 (.ofNat 0))])], 15449, [(15442, [(.int .i64 (.ofNat 0)), (.int .i64 (.ofNat 0)), (.int .i64 (.ofNat 10)), (.int .i64 (.ofNat 0)), (.int .i64 (.ofNat 0)), (.int .i64 (.ofNat 4)), (.int .i64 (.ofNat 10)), (.int .i64 (.ofNat 4))], 56), (15448, [(.slice (some (15447, 0)) 4 true 2)], 24), (15447, [(.int .i64 (.ofNat 4)), (.int .i64 (.negSucc 0)), (.int .i64 (.ofNat 6)), (.int .i64 (.negSucc 0)), (.int .i64 (.ofNat 6)), (.int .i64 (.ofNat 1)), (.int .i64 (.ofNat 4)), (.int .i64 (.ofNat 1))], 30), (15445, [(.slice (some (15443, 0)) 1 true 2), (.slice (some (15444, 0)) 2 true 2)], 68), (15443, [(.int .i64 (.ofNat 0)), (.int .i64 (.ofNat 100))], 26), (15444, [(.int .i64 (.ofNat 20)), (.int .i64 (.ofNat 30)), (.int .i64 (.ofNat 40)), (.int .i64 (.ofNat 60))], 26)], (.tup [(.bool false), (.int .i64 (.ofNat 0))]), 16013, []⟩
set_option maxRecDepth 100000 in
theorem c22 : chk Tryz.prog [] 100000 e22 = true := by kernel_rfl
end Go.Proofs.YtifcpjfpjkoicaaGreat.C
end
