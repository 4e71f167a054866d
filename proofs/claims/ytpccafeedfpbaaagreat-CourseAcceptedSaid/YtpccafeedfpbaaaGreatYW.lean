/-
 Part of the proof of CourseAccepted: what functions of the program and of the statement come to,walked by the rules. No condition beyond those in each theorem.
-/
import Derived.Test.YtpccafeedfpbaaaGreatProg
import Derived.KernelRfl
import Derived.Test.YtpccafeedfpbaaaGreatQvC
import Derived.Test.YtpccafeedfpbaaaGreatY19
import Derived.Test.YtpccafeedfpbaaaGreatY21
import Derived.Test.YtpccafeedfpbaaaGreatY25
section
open Go PvL Go.Proofs
namespace Go.Proofs.YtpccafeedfpbaaaGreat.C
def e16:Entry:=⟨16,[],0,[],(.bool true),16013,[]⟩
theorem mix:Tryz.prog.follows .mixedOrders=true:=by kernel_rfl
set_option maxRecDepth 100000 in
theorem c16:chk Tryz.prog [e19,e21,e25] 100000 e16=true:=by kernel_rfl
theorem zcs:∀ e ∈ ([]:List Entry),e.Ok Tryz.prog:=fun _ h=>absurd h List.not_mem_nil
theorem ke19:e19.Ok Tryz.prog:=z5z mix zcs c19
theorem ke21:e21.Ok Tryz.prog:=z5z mix zcs c21
theorem ke25:e25.Ok Tryz.prog:=z5z mix zcs c25
theorem zns:∀ e ∈ [e19,e21,e25],e.Ok Tryz.prog:=fun e h=>by
 rcases List.mem_cons.1 h with rfl|h
 ·exact ke19
 rcases List.mem_cons.1 h with rfl|h
 ·exact ke21
 rcases List.mem_cons.1 h with rfl|h
 ·exact ke25
 cases h
theorem ke16:e16.Ok Tryz.prog:=z5z mix zns c16
end Go.Proofs.YtpccafeedfpbaaaGreat.C
end
