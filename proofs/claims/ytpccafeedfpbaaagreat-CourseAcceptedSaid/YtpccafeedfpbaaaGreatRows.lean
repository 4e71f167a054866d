/-
  No cell of these rows narrows 'for every input' (looked for: loops, veiled, ifaces, maps, wideKeys, modest, calm, conditions, laid).
  DERIVED. THE GIVEN ROWS OF THIS SEAT. 10 by the template 'for every input the law returns true; each argument reads behind the call as it read before'; 0 by the template 'total and deterministic' (their statements: YtpccafeedfpbaaaGreatTotals.lean).
  GIVEN WITH THE SEED: the statements are not yours to turn. If you find one false, say at which input.
  Laid BY PROGRAM, IN A SANDBOX (cutbox-rows.mjs): the forced cells as the released guide's own fill.sh prints them over the translation e54a505d8c786ae4… (all of the seat's roots in one cut). By AI agents, Wed Nov 11 2026. No macro, syntax, notation, axiom, sorry.
-/
import Derived.Test.YtpccafeedfpbaaaGreatChecked
import GoSem.Claim
import GoSem.ClaimJoined
import GoSem.ClaimMapViews
import Derived.JoinedTies
import Derived.KernelRfl
namespace Go.Proofs.YtpccafeedfpbaaaGreat
/- THE CELL 'sum', in the pinned program and in every row, IS THE sha256 OF THE DUMP (.gsa) THAT YtpccafeedfpbaaaGreatProg.lean LOADS. Nothing in Lean hashes anything: it is a label: what it is worth is what the hold of that sum in a sandbox is worth. -/
noncomputable def Tryz.pinned : Pinned := { name := "ytpccafeedfpbaaagreat", sum := "e54a505d8c786ae46a83bfe261e925b46dd644f6e38bec53e73dbaed5814e708", checked := Tryz.checked }
namespace Rows
def none {H : Type} : Left H := { results := [], args := [] }

/-- 'paravanelaw04.CoursePassages': WHATEVER THE INPUT: true; the input reads as it did. -/
def coursePassagesSpec : ChangeSpec := { name := "coursePassages", fn := fun _ => fun
  | [d1, d2, d3] => { results := [.lit (.bool true)], args := [d1, d2, d3] }
  | _ => none }
def coursePassagesRow : OpenClaim := { program := "ytpccafeedfpbaaagreat", sum := "e54a505d8c786ae46a83bfe261e925b46dd644f6e38bec53e73dbaed5814e708", func := "paravane/paravanelaw04.CoursePassages", spec := "coursePassages", unfollowed := true, recurses := true, plainKeys := false, apart := false }
def CoursePassagesSaid : Prop := coursePassagesRow.holds Tryz.pinned (OpenSpec.ofChange coursePassagesSpec)

/-- ITS FALSE NEIGHBOUR: 'it returns false'. Refute it at one input. -/
def coursePassagesWrong : ChangeSpec := { name := "coursePassages", fn := fun _ => fun
  | [d1, d2, d3] => { results := [.lit (.bool false)], args := [d1, d2, d3] }
  | _ => none }
def CoursePassagesWrongFalsely : Prop := coursePassagesRow.holds Tryz.pinned (OpenSpec.ofChange coursePassagesWrong)

/-- 'paravanelaw04.CourseTimes': WHATEVER THE INPUT: true; the input reads as it did. -/
def courseTimesSpec : ChangeSpec := { name := "courseTimes", fn := fun _ => fun
  | [d1, d2] => { results := [.lit (.bool true)], args := [d1, d2] }
  | _ => none }
def courseTimesRow : OpenClaim := { program := "ytpccafeedfpbaaagreat", sum := "e54a505d8c786ae46a83bfe261e925b46dd644f6e38bec53e73dbaed5814e708", func := "paravane/paravanelaw04.CourseTimes", spec := "courseTimes", unfollowed := true, recurses := true, plainKeys := false, apart := false }
def CourseTimesSaid : Prop := courseTimesRow.holds Tryz.pinned (OpenSpec.ofChange courseTimesSpec)

/-- ITS FALSE NEIGHBOUR: 'it returns false'. Refute it at one input. -/
def courseTimesWrong : ChangeSpec := { name := "courseTimes", fn := fun _ => fun
  | [d1, d2] => { results := [.lit (.bool false)], args := [d1, d2] }
  | _ => none }
def CourseTimesWrongFalsely : Prop := courseTimesRow.holds Tryz.pinned (OpenSpec.ofChange courseTimesWrong)

/-- 'paravanelaw04.CourseBests': WHATEVER THE INPUT: true; the input reads as it did. -/
def courseBestsSpec : ChangeSpec := { name := "courseBests", fn := fun _ => fun
  | [d] => { results := [.lit (.bool true)], args := [d] }
  | _ => none }
def courseBestsRow : OpenClaim := { program := "ytpccafeedfpbaaagreat", sum := "e54a505d8c786ae46a83bfe261e925b46dd644f6e38bec53e73dbaed5814e708", func := "paravane/paravanelaw04.CourseBests", spec := "courseBests", unfollowed := true, recurses := true, plainKeys := false, apart := false }
def CourseBestsSaid : Prop := courseBestsRow.holds Tryz.pinned (OpenSpec.ofChange courseBestsSpec)

/-- ITS FALSE NEIGHBOUR: 'it returns false'. Refute it at one input. -/
def courseBestsWrong : ChangeSpec := { name := "courseBests", fn := fun _ => fun
  | [d] => { results := [.lit (.bool false)], args := [d] }
  | _ => none }
def CourseBestsWrongFalsely : Prop := courseBestsRow.holds Tryz.pinned (OpenSpec.ofChange courseBestsWrong)

/-- 'paravanelaw04.CourseTables': WHATEVER THE INPUT: true; the input reads as it did. -/
def courseTablesSpec : ChangeSpec := { name := "courseTables", fn := fun _ => fun
  | [d] => { results := [.lit (.bool true)], args := [d] }
  | _ => none }
def courseTablesRow : OpenClaim := { program := "ytpccafeedfpbaaagreat", sum := "e54a505d8c786ae46a83bfe261e925b46dd644f6e38bec53e73dbaed5814e708", func := "paravane/paravanelaw04.CourseTables", spec := "courseTables", unfollowed := true, recurses := true, plainKeys := false, apart := false }
def CourseTablesSaid : Prop := courseTablesRow.holds Tryz.pinned (OpenSpec.ofChange courseTablesSpec)

/-- ITS FALSE NEIGHBOUR: 'it returns false'. Refute it at one input. -/
def courseTablesWrong : ChangeSpec := { name := "courseTables", fn := fun _ => fun
  | [d] => { results := [.lit (.bool false)], args := [d] }
  | _ => none }
def CourseTablesWrongFalsely : Prop := courseTablesRow.holds Tryz.pinned (OpenSpec.ofChange courseTablesWrong)

/-- 'paravanelaw04.CourseProves': WHATEVER THE INPUT: true; the input reads as it did. -/
def courseProvesSpec : ChangeSpec := { name := "courseProves", fn := fun _ => fun
  | [d1, d2] => { results := [.lit (.bool true)], args := [d1, d2] }
  | _ => none }
def courseProvesRow : OpenClaim := { program := "ytpccafeedfpbaaagreat", sum := "e54a505d8c786ae46a83bfe261e925b46dd644f6e38bec53e73dbaed5814e708", func := "paravane/paravanelaw04.CourseProves", spec := "courseProves", unfollowed := true, recurses := true, plainKeys := false, apart := false }
def CourseProvesSaid : Prop := courseProvesRow.holds Tryz.pinned (OpenSpec.ofChange courseProvesSpec)

/-- ITS FALSE NEIGHBOUR: 'it returns false'. Refute it at one input. -/
def courseProvesWrong : ChangeSpec := { name := "courseProves", fn := fun _ => fun
  | [d1, d2] => { results := [.lit (.bool false)], args := [d1, d2] }
  | _ => none }
def CourseProvesWrongFalsely : Prop := courseProvesRow.holds Tryz.pinned (OpenSpec.ofChange courseProvesWrong)

/-- 'paravanelaw04.CourseCheapest': WHATEVER THE INPUT: true; the input reads as it did. -/
def courseCheapestSpec : ChangeSpec := { name := "courseCheapest", fn := fun _ => fun
  | [d1, d2, d3] => { results := [.lit (.bool true)], args := [d1, d2, d3] }
  | _ => none }
def courseCheapestRow : OpenClaim := { program := "ytpccafeedfpbaaagreat", sum := "e54a505d8c786ae46a83bfe261e925b46dd644f6e38bec53e73dbaed5814e708", func := "paravane/paravanelaw04.CourseCheapest", spec := "courseCheapest", unfollowed := true, recurses := true, plainKeys := false, apart := false }
def CourseCheapestSaid : Prop := courseCheapestRow.holds Tryz.pinned (OpenSpec.ofChange courseCheapestSpec)

/-- ITS FALSE NEIGHBOUR: 'it returns false'. Refute it at one input. -/
def courseCheapestWrong : ChangeSpec := { name := "courseCheapest", fn := fun _ => fun
  | [d1, d2, d3] => { results := [.lit (.bool false)], args := [d1, d2, d3] }
  | _ => none }
def CourseCheapestWrongFalsely : Prop := courseCheapestRow.holds Tryz.pinned (OpenSpec.ofChange courseCheapestWrong)

/-- 'paravanelaw04.CourseTimely': WHATEVER THE INPUT: true; the input reads as it did. -/
def courseTimelySpec : ChangeSpec := { name := "courseTimely", fn := fun _ => fun
  | [d1, d2] => { results := [.lit (.bool true)], args := [d1, d2] }
  | _ => none }
def courseTimelyRow : OpenClaim := { program := "ytpccafeedfpbaaagreat", sum := "e54a505d8c786ae46a83bfe261e925b46dd644f6e38bec53e73dbaed5814e708", func := "paravane/paravanelaw04.CourseTimely", spec := "courseTimely", unfollowed := true, recurses := true, plainKeys := false, apart := false }
def CourseTimelySaid : Prop := courseTimelyRow.holds Tryz.pinned (OpenSpec.ofChange courseTimelySpec)

/-- ITS FALSE NEIGHBOUR: 'it returns false'. Refute it at one input. -/
def courseTimelyWrong : ChangeSpec := { name := "courseTimely", fn := fun _ => fun
  | [d1, d2] => { results := [.lit (.bool false)], args := [d1, d2] }
  | _ => none }
def CourseTimelyWrongFalsely : Prop := courseTimelyRow.holds Tryz.pinned (OpenSpec.ofChange courseTimelyWrong)

/-- 'paravanelaw04.CourseAccepted': WHATEVER THE INPUT: true; the input reads as it did. -/
def courseAcceptedSpec : ChangeSpec := { name := "courseAccepted", fn := fun _ => fun
  | [d1, d2, d3] => { results := [.lit (.bool true)], args := [d1, d2, d3] }
  | _ => none }
def courseAcceptedRow : OpenClaim := { program := "ytpccafeedfpbaaagreat", sum := "e54a505d8c786ae46a83bfe261e925b46dd644f6e38bec53e73dbaed5814e708", func := "paravane/paravanelaw04.CourseAccepted", spec := "courseAccepted", unfollowed := true, recurses := true, plainKeys := false, apart := false }
def CourseAcceptedSaid : Prop := courseAcceptedRow.holds Tryz.pinned (OpenSpec.ofChange courseAcceptedSpec)

/-- ITS FALSE NEIGHBOUR: 'it returns false'. Refute it at one input. -/
def courseAcceptedWrong : ChangeSpec := { name := "courseAccepted", fn := fun _ => fun
  | [d1, d2, d3] => { results := [.lit (.bool false)], args := [d1, d2, d3] }
  | _ => none }
def CourseAcceptedWrongFalsely : Prop := courseAcceptedRow.holds Tryz.pinned (OpenSpec.ofChange courseAcceptedWrong)

/-- 'paravanelaw04.CourseMoved': WHATEVER THE INPUT: true; the input reads as it did. -/
def courseMovedSpec : ChangeSpec := { name := "courseMoved", fn := fun _ => fun
  | [d1, d2] => { results := [.lit (.bool true)], args := [d1, d2] }
  | _ => none }
def courseMovedRow : OpenClaim := { program := "ytpccafeedfpbaaagreat", sum := "e54a505d8c786ae46a83bfe261e925b46dd644f6e38bec53e73dbaed5814e708", func := "paravane/paravanelaw04.CourseMoved", spec := "courseMoved", unfollowed := true, recurses := true, plainKeys := false, apart := false }
def CourseMovedSaid : Prop := courseMovedRow.holds Tryz.pinned (OpenSpec.ofChange courseMovedSpec)

/-- ITS FALSE NEIGHBOUR: 'it returns false'. Refute it at one input. -/
def courseMovedWrong : ChangeSpec := { name := "courseMoved", fn := fun _ => fun
  | [d1, d2] => { results := [.lit (.bool false)], args := [d1, d2] }
  | _ => none }
def CourseMovedWrongFalsely : Prop := courseMovedRow.holds Tryz.pinned (OpenSpec.ofChange courseMovedWrong)

/-- 'paravanelaw04.CourseSafe': WHATEVER THE INPUT: true; the input reads as it did. -/
def courseSafeSpec : ChangeSpec := { name := "courseSafe", fn := fun _ => fun
  | [d1, d2, d3] => { results := [.lit (.bool true)], args := [d1, d2, d3] }
  | _ => none }
def courseSafeRow : OpenClaim := { program := "ytpccafeedfpbaaagreat", sum := "e54a505d8c786ae46a83bfe261e925b46dd644f6e38bec53e73dbaed5814e708", func := "paravane/paravanelaw04.CourseSafe", spec := "courseSafe", unfollowed := true, recurses := true, plainKeys := false, apart := false }
def CourseSafeSaid : Prop := courseSafeRow.holds Tryz.pinned (OpenSpec.ofChange courseSafeSpec)

/-- ITS FALSE NEIGHBOUR: 'it returns false'. Refute it at one input. -/
def courseSafeWrong : ChangeSpec := { name := "courseSafe", fn := fun _ => fun
  | [d1, d2, d3] => { results := [.lit (.bool false)], args := [d1, d2, d3] }
  | _ => none }
def CourseSafeWrongFalsely : Prop := courseSafeRow.holds Tryz.pinned (OpenSpec.ofChange courseSafeWrong)

/- THE SECOND FORM. 'bulk': how many values and letters a reading holds, each counted each time it is reached (what is shared counts as often as it is met; a slice's spare places count too). A statement '..UptoSaid' is the law's where the arguments, and the package variables that the reading takes, are together of bulk at most 1048576: NARROWER than '..Said'. Prove '..Said' where nothing that the law and all that it calls make is longer than what came in: it says more and counts as full. Else prove '..UptoSaid'. A law counts once. -/
mutual
def uptoBulk {H : Type} : DataW H → Nat
  | .lit (.string bytes) => bytes.length + 1
  | .lit _ => 1
  | .nil => 1
  | .ptr d => uptoBulk d + 1
  | .slice elems spare => uptoBulkAll elems + uptoBulkAll spare + 1
  | .agg parts => uptoBulkAll parts + 1
  | .iface _ d => uptoBulk d + 1
  | .map entries => uptoBulkEntries entries + 1
  | .held _ => 1
def uptoBulkAll {H : Type} : List (DataW H) → Nat
  | [] => 0
  | d :: r => uptoBulk d + uptoBulkAll r
def uptoBulkEntries {H : Type} : List (Lit × DataW H) → Nat
  | [] => 0
  | x :: r => uptoBulkEntry x + uptoBulkEntries r
def uptoBulkEntry {H : Type} : Lit × DataW H → Nat
  | (.string bytes, d) => bytes.length + uptoBulk d + 1
  | (_, d) => uptoBulk d + 1
 end
def uptoSmall : (H : Type) → List (DataW H) → Bool := fun _ ds => decide (uptoBulkAll ds ≤ 1048576)
def OpenSpec.upto (s : _root_.Go.ChangeSpec) : _root_.Go.OpenSpec := { _root_.Go.OpenSpec.ofChange s with cond := some uptoSmall }

/-- 'paravanelaw04.CoursePassages', WHERE WHAT IT READS IS OF BULK AT MOST 1048576: true; the input reads as it did. -/
def coursePassagesUptoRow : OpenClaim := { program := "ytpccafeedfpbaaagreat", sum := "e54a505d8c786ae46a83bfe261e925b46dd644f6e38bec53e73dbaed5814e708", func := "paravane/paravanelaw04.CoursePassages", spec := "coursePassages", unfollowed := true, recurses := true, plainKeys := false, apart := false, narrowed := true }
def CoursePassagesUptoSaid : Prop := coursePassagesUptoRow.holds Tryz.pinned (OpenSpec.upto coursePassagesSpec)

/-- 'paravanelaw04.CourseTimes', WHERE WHAT IT READS IS OF BULK AT MOST 1048576: true; the input reads as it did. -/
def courseTimesUptoRow : OpenClaim := { program := "ytpccafeedfpbaaagreat", sum := "e54a505d8c786ae46a83bfe261e925b46dd644f6e38bec53e73dbaed5814e708", func := "paravane/paravanelaw04.CourseTimes", spec := "courseTimes", unfollowed := true, recurses := true, plainKeys := false, apart := false, narrowed := true }
def CourseTimesUptoSaid : Prop := courseTimesUptoRow.holds Tryz.pinned (OpenSpec.upto courseTimesSpec)

/-- 'paravanelaw04.CourseBests', WHERE WHAT IT READS IS OF BULK AT MOST 1048576: true; the input reads as it did. -/
def courseBestsUptoRow : OpenClaim := { program := "ytpccafeedfpbaaagreat", sum := "e54a505d8c786ae46a83bfe261e925b46dd644f6e38bec53e73dbaed5814e708", func := "paravane/paravanelaw04.CourseBests", spec := "courseBests", unfollowed := true, recurses := true, plainKeys := false, apart := false, narrowed := true }
def CourseBestsUptoSaid : Prop := courseBestsUptoRow.holds Tryz.pinned (OpenSpec.upto courseBestsSpec)

/-- 'paravanelaw04.CourseTables', WHERE WHAT IT READS IS OF BULK AT MOST 1048576: true; the input reads as it did. -/
def courseTablesUptoRow : OpenClaim := { program := "ytpccafeedfpbaaagreat", sum := "e54a505d8c786ae46a83bfe261e925b46dd644f6e38bec53e73dbaed5814e708", func := "paravane/paravanelaw04.CourseTables", spec := "courseTables", unfollowed := true, recurses := true, plainKeys := false, apart := false, narrowed := true }
def CourseTablesUptoSaid : Prop := courseTablesUptoRow.holds Tryz.pinned (OpenSpec.upto courseTablesSpec)

/-- 'paravanelaw04.CourseProves', WHERE WHAT IT READS IS OF BULK AT MOST 1048576: true; the input reads as it did. -/
def courseProvesUptoRow : OpenClaim := { program := "ytpccafeedfpbaaagreat", sum := "e54a505d8c786ae46a83bfe261e925b46dd644f6e38bec53e73dbaed5814e708", func := "paravane/paravanelaw04.CourseProves", spec := "courseProves", unfollowed := true, recurses := true, plainKeys := false, apart := false, narrowed := true }
def CourseProvesUptoSaid : Prop := courseProvesUptoRow.holds Tryz.pinned (OpenSpec.upto courseProvesSpec)

/-- 'paravanelaw04.CourseCheapest', WHERE WHAT IT READS IS OF BULK AT MOST 1048576: true; the input reads as it did. -/
def courseCheapestUptoRow : OpenClaim := { program := "ytpccafeedfpbaaagreat", sum := "e54a505d8c786ae46a83bfe261e925b46dd644f6e38bec53e73dbaed5814e708", func := "paravane/paravanelaw04.CourseCheapest", spec := "courseCheapest", unfollowed := true, recurses := true, plainKeys := false, apart := false, narrowed := true }
def CourseCheapestUptoSaid : Prop := courseCheapestUptoRow.holds Tryz.pinned (OpenSpec.upto courseCheapestSpec)

/-- 'paravanelaw04.CourseTimely', WHERE WHAT IT READS IS OF BULK AT MOST 1048576: true; the input reads as it did. -/
def courseTimelyUptoRow : OpenClaim := { program := "ytpccafeedfpbaaagreat", sum := "e54a505d8c786ae46a83bfe261e925b46dd644f6e38bec53e73dbaed5814e708", func := "paravane/paravanelaw04.CourseTimely", spec := "courseTimely", unfollowed := true, recurses := true, plainKeys := false, apart := false, narrowed := true }
def CourseTimelyUptoSaid : Prop := courseTimelyUptoRow.holds Tryz.pinned (OpenSpec.upto courseTimelySpec)

/-- 'paravanelaw04.CourseAccepted', WHERE WHAT IT READS IS OF BULK AT MOST 1048576: true; the input reads as it did. -/
def courseAcceptedUptoRow : OpenClaim := { program := "ytpccafeedfpbaaagreat", sum := "e54a505d8c786ae46a83bfe261e925b46dd644f6e38bec53e73dbaed5814e708", func := "paravane/paravanelaw04.CourseAccepted", spec := "courseAccepted", unfollowed := true, recurses := true, plainKeys := false, apart := false, narrowed := true }
def CourseAcceptedUptoSaid : Prop := courseAcceptedUptoRow.holds Tryz.pinned (OpenSpec.upto courseAcceptedSpec)

/-- 'paravanelaw04.CourseMoved', WHERE WHAT IT READS IS OF BULK AT MOST 1048576: true; the input reads as it did. -/
def courseMovedUptoRow : OpenClaim := { program := "ytpccafeedfpbaaagreat", sum := "e54a505d8c786ae46a83bfe261e925b46dd644f6e38bec53e73dbaed5814e708", func := "paravane/paravanelaw04.CourseMoved", spec := "courseMoved", unfollowed := true, recurses := true, plainKeys := false, apart := false, narrowed := true }
def CourseMovedUptoSaid : Prop := courseMovedUptoRow.holds Tryz.pinned (OpenSpec.upto courseMovedSpec)

/-- 'paravanelaw04.CourseSafe', WHERE WHAT IT READS IS OF BULK AT MOST 1048576: true; the input reads as it did. -/
def courseSafeUptoRow : OpenClaim := { program := "ytpccafeedfpbaaagreat", sum := "e54a505d8c786ae46a83bfe261e925b46dd644f6e38bec53e73dbaed5814e708", func := "paravane/paravanelaw04.CourseSafe", spec := "courseSafe", unfollowed := true, recurses := true, plainKeys := false, apart := false, narrowed := true }
def CourseSafeUptoSaid : Prop := courseSafeUptoRow.holds Tryz.pinned (OpenSpec.upto courseSafeSpec)

end Rows
end Go.Proofs.YtpccafeedfpbaaaGreat
