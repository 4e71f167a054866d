/-
  No cell of these rows narrows 'for every input' (looked for: loops, veiled, ifaces, maps, wideKeys, modest, calm, conditions, laid).
  DERIVED. THE GIVEN ROWS OF THIS SEAT. 4 by the template 'for every input the law returns true; each argument reads behind the call as it read before'; 0 by the template 'total and deterministic' (their statements: YtpccafeedfpbaaaTotals.lean).
  GIVEN WITH THE SEED: the statements are not yours to turn. If you find one false, say at which input.
  Laid BY PROGRAM, IN A SANDBOX (cutbox-rows.mjs): the forced cells as the released guide's own fill.sh prints them over the translation 59ca59b54fd86942… (all of the seat's roots in one cut). By AI agents, Wed Nov 11 2026. No macro, syntax, notation, axiom, sorry.
-/
import Derived.Test.YtpccafeedfpbaaaChecked
import GoSem.Claim
import GoSem.ClaimJoined
import GoSem.ClaimMapViews
import Derived.JoinedTies
import Derived.KernelRfl
namespace Go.Proofs.Ytpccafeedfpbaaa
/- THE CELL 'sum', in the pinned program and in every row, IS THE sha256 OF THE DUMP (.gsa) THAT YtpccafeedfpbaaaProg.lean LOADS. Nothing in Lean hashes anything: it is a label: what it is worth is what the hold of that sum in a sandbox is worth. -/
noncomputable def Try.pinned : Pinned := { name := "ytpccafeedfpbaaa", sum := "59ca59b54fd86942d41966c067c54a32b4c3c1f4bc6825070e3430bf77ddb4dd", checked := Try.checked }
namespace Rows
def none {H : Type} : Left H := { results := [], args := [] }

/-- 'paravanelaw04.CourseEasier': WHATEVER THE INPUT: true; the input reads as it did. -/
def courseEasierSpec : ChangeSpec := { name := "courseEasier", fn := fun _ => fun
  | [d1, d2, d3] => { results := [.lit (.bool true)], args := [d1, d2, d3] }
  | _ => none }
def courseEasierRow : OpenClaim := { program := "ytpccafeedfpbaaa", sum := "59ca59b54fd86942d41966c067c54a32b4c3c1f4bc6825070e3430bf77ddb4dd", func := "paravane/paravanelaw04.CourseEasier", spec := "courseEasier", unfollowed := true, recurses := true, plainKeys := false, apart := false }
def CourseEasierSaid : Prop := courseEasierRow.holds Try.pinned (OpenSpec.ofChange courseEasierSpec)

/-- ITS FALSE NEIGHBOUR: 'it returns false'. Refute it at one input. -/
def courseEasierWrong : ChangeSpec := { name := "courseEasier", fn := fun _ => fun
  | [d1, d2, d3] => { results := [.lit (.bool false)], args := [d1, d2, d3] }
  | _ => none }
def CourseEasierWrongFalsely : Prop := courseEasierRow.holds Try.pinned (OpenSpec.ofChange courseEasierWrong)

/-- 'paravanelaw04.CourseFirst': WHATEVER THE INPUT: true; the input reads as it did. -/
def courseFirstSpec : ChangeSpec := { name := "courseFirst", fn := fun _ => fun
  | [d1, d2] => { results := [.lit (.bool true)], args := [d1, d2] }
  | _ => none }
def courseFirstRow : OpenClaim := { program := "ytpccafeedfpbaaa", sum := "59ca59b54fd86942d41966c067c54a32b4c3c1f4bc6825070e3430bf77ddb4dd", func := "paravane/paravanelaw04.CourseFirst", spec := "courseFirst", unfollowed := true, recurses := true, plainKeys := false, apart := false }
def CourseFirstSaid : Prop := courseFirstRow.holds Try.pinned (OpenSpec.ofChange courseFirstSpec)

/-- ITS FALSE NEIGHBOUR: 'it returns false'. Refute it at one input. -/
def courseFirstWrong : ChangeSpec := { name := "courseFirst", fn := fun _ => fun
  | [d1, d2] => { results := [.lit (.bool false)], args := [d1, d2] }
  | _ => none }
def CourseFirstWrongFalsely : Prop := courseFirstRow.holds Try.pinned (OpenSpec.ofChange courseFirstWrong)

/-- 'paravanelaw04.CourseWider': WHATEVER THE INPUT: true; the input reads as it did. -/
def courseWiderSpec : ChangeSpec := { name := "courseWider", fn := fun _ => fun
  | [d] => { results := [.lit (.bool true)], args := [d] }
  | _ => none }
def courseWiderRow : OpenClaim := { program := "ytpccafeedfpbaaa", sum := "59ca59b54fd86942d41966c067c54a32b4c3c1f4bc6825070e3430bf77ddb4dd", func := "paravane/paravanelaw04.CourseWider", spec := "courseWider", unfollowed := true, recurses := true, plainKeys := false, apart := false }
def CourseWiderSaid : Prop := courseWiderRow.holds Try.pinned (OpenSpec.ofChange courseWiderSpec)

/-- ITS FALSE NEIGHBOUR: 'it returns false'. Refute it at one input. -/
def courseWiderWrong : ChangeSpec := { name := "courseWider", fn := fun _ => fun
  | [d] => { results := [.lit (.bool false)], args := [d] }
  | _ => none }
def CourseWiderWrongFalsely : Prop := courseWiderRow.holds Try.pinned (OpenSpec.ofChange courseWiderWrong)

/-- 'paravanelaw04.CourseTabled': WHATEVER THE INPUT: true; the input reads as it did. -/
def courseTabledSpec : ChangeSpec := { name := "courseTabled", fn := fun _ => fun
  | [d1, d2] => { results := [.lit (.bool true)], args := [d1, d2] }
  | _ => none }
def courseTabledRow : OpenClaim := { program := "ytpccafeedfpbaaa", sum := "59ca59b54fd86942d41966c067c54a32b4c3c1f4bc6825070e3430bf77ddb4dd", func := "paravane/paravanelaw04.CourseTabled", spec := "courseTabled", unfollowed := true, recurses := true, plainKeys := false, apart := false }
def CourseTabledSaid : Prop := courseTabledRow.holds Try.pinned (OpenSpec.ofChange courseTabledSpec)

/-- ITS FALSE NEIGHBOUR: 'it returns false'. Refute it at one input. -/
def courseTabledWrong : ChangeSpec := { name := "courseTabled", fn := fun _ => fun
  | [d1, d2] => { results := [.lit (.bool false)], args := [d1, d2] }
  | _ => none }
def CourseTabledWrongFalsely : Prop := courseTabledRow.holds Try.pinned (OpenSpec.ofChange courseTabledWrong)

/- THE SECOND FORM. 'bulk': how many values and letters a reading holds, each counted each time it is reached (what is shared counts as often as it is met; a slice's spare places count too). A statement '..UptoSaid' is the law's where the arguments, and the package variables that the reading takes, are together of bulk at most 1048576: NARROWER than '..Said'. Prove '..Said' where nothing that the law and all that it calls make is longer than what came in: it says more and counts as full. Else prove '..UptoSaid'. A law counts once. -/
mutual
def uptoBulk {H : Type} : DataW H → Nat
  | .lit (.string bytes) => bytes.length + 1
  | .lit _ => 1
  | .nil => 1
  | .ptr d => uptoBulk d + 1
  | .slice elems spare => uptoBulkAll elems + uptoBulkAll spare + 1
  | .agg parts => uptoBulkAll parts + 1
  | .iface _ d => uptoBulk d + 1
  | .map entries => uptoBulkEntries entries + 1
  | .held _ => 1
def uptoBulkAll {H : Type} : List (DataW H) → Nat
  | [] => 0
  | d :: r => uptoBulk d + uptoBulkAll r
def uptoBulkEntries {H : Type} : List (Lit × DataW H) → Nat
  | [] => 0
  | x :: r => uptoBulkEntry x + uptoBulkEntries r
def uptoBulkEntry {H : Type} : Lit × DataW H → Nat
  | (.string bytes, d) => bytes.length + uptoBulk d + 1
  | (_, d) => uptoBulk d + 1
 end
def uptoSmall : (H : Type) → List (DataW H) → Bool := fun _ ds => decide (uptoBulkAll ds ≤ 1048576)
def OpenSpec.upto (s : _root_.Go.ChangeSpec) : _root_.Go.OpenSpec := { _root_.Go.OpenSpec.ofChange s with cond := some uptoSmall }

/-- 'paravanelaw04.CourseEasier', WHERE WHAT IT READS IS OF BULK AT MOST 1048576: true; the input reads as it did. -/
def courseEasierUptoRow : OpenClaim := { program := "ytpccafeedfpbaaa", sum := "59ca59b54fd86942d41966c067c54a32b4c3c1f4bc6825070e3430bf77ddb4dd", func := "paravane/paravanelaw04.CourseEasier", spec := "courseEasier", unfollowed := true, recurses := true, plainKeys := false, apart := false, narrowed := true }
def CourseEasierUptoSaid : Prop := courseEasierUptoRow.holds Try.pinned (OpenSpec.upto courseEasierSpec)

/-- 'paravanelaw04.CourseFirst', WHERE WHAT IT READS IS OF BULK AT MOST 1048576: true; the input reads as it did. -/
def courseFirstUptoRow : OpenClaim := { program := "ytpccafeedfpbaaa", sum := "59ca59b54fd86942d41966c067c54a32b4c3c1f4bc6825070e3430bf77ddb4dd", func := "paravane/paravanelaw04.CourseFirst", spec := "courseFirst", unfollowed := true, recurses := true, plainKeys := false, apart := false, narrowed := true }
def CourseFirstUptoSaid : Prop := courseFirstUptoRow.holds Try.pinned (OpenSpec.upto courseFirstSpec)

/-- 'paravanelaw04.CourseWider', WHERE WHAT IT READS IS OF BULK AT MOST 1048576: true; the input reads as it did. -/
def courseWiderUptoRow : OpenClaim := { program := "ytpccafeedfpbaaa", sum := "59ca59b54fd86942d41966c067c54a32b4c3c1f4bc6825070e3430bf77ddb4dd", func := "paravane/paravanelaw04.CourseWider", spec := "courseWider", unfollowed := true, recurses := true, plainKeys := false, apart := false, narrowed := true }
def CourseWiderUptoSaid : Prop := courseWiderUptoRow.holds Try.pinned (OpenSpec.upto courseWiderSpec)

/-- 'paravanelaw04.CourseTabled', WHERE WHAT IT READS IS OF BULK AT MOST 1048576: true; the input reads as it did. -/
def courseTabledUptoRow : OpenClaim := { program := "ytpccafeedfpbaaa", sum := "59ca59b54fd86942d41966c067c54a32b4c3c1f4bc6825070e3430bf77ddb4dd", func := "paravane/paravanelaw04.CourseTabled", spec := "courseTabled", unfollowed := true, recurses := true, plainKeys := false, apart := false, narrowed := true }
def CourseTabledUptoSaid : Prop := courseTabledUptoRow.holds Try.pinned (OpenSpec.upto courseTabledSpec)

end Rows
end Go.Proofs.Ytpccafeedfpbaaa
