/-
 Part of the proof of CourseProves: what functions of the program and of the statement come to, walked by the rules. No condition beyond those in each theorem.
-/
import Derived.Test.YtpccafeedfpbaaaGreatTJ
import Derived.Test.YtpccafeedfpbaaaGreatTE
import Derived.Test.YtpccafeedfpbaaaGreatTD
section
open Go PvL Go.Proofs
set_option linter.unusedSimpArgs false
set_option linter.unusedVariables false
namespace Go.Proofs.YtpccafeedfpbaaaGreat.C
open Classical in
noncomputable def TableF (s : Cr) : List Int × Int := if CrOk s then (tabF s, 0) else ([], 40)
def IntV (b : Nat) (M : Mem) (v : LV) (l : List Int) : Prop := (l = [] /\ v = .slice none 0 true 0) ∨ ∃ i, v = .slice (some (i, 0)) l.length true 1 /\ At M i (.cells true (l.flatMap intz) 3) /\ b <= i
abbrev shtc (x : Int × Int) : List LV := [I x.1, I x.2]
def metN (l : List (Int × Int)) : Nat := l.foldl (fun m x => m ||| 2 ^ x.1.toNat) 0
def swF (q : Pt × Pt) (w : Int) : Pt × Pt := if w = 1 then (q.2, q.1) else q
end Go.Proofs.YtpccafeedfpbaaaGreat.C
end
