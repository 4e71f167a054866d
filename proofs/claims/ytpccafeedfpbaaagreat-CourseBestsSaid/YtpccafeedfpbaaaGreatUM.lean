/-
 Part of the proof of CourseBests: what functions of the program and of the statement come to, walked by the rules. No condition beyond those in each theorem.
-/
import Derived.Test.YtpccafeedfpbaaaGreatUL
import Derived.Test.YtpccafeedfpbaaaGreatUK
section
open Go PvL Go.Proofs
set_option linter.unusedSimpArgs false
set_option linter.unusedVariables false
namespace Go.Proofs.YtpccafeedfpbaaaGreat.C
end Go.Proofs.YtpccafeedfpbaaaGreat.C
end
