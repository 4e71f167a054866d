/-
  No cell of these rows narrows 'for every input' (looked for: loops, veiled, ifaces, maps, wideKeys, modest, calm, conditions, laid).
  DERIVED. THE GIVEN ROWS OF THIS SEAT. 4 by the template 'for every input the law returns true; each argument reads behind the call as it read before'; 0 by the template 'total and deterministic' (their statements: YtgipddabhcmgjabTotals.lean).
  GIVEN WITH THE SEED: the statements are not yours to turn. If you find one false, say at which input.
  Laid BY PROGRAM, IN A SANDBOX (cutbox-rows.mjs): the forced cells as the released guide's own fill.sh prints them over the translation 6cd0918346244fb7… (all of the seat's roots in one cut). By AI agents, Wed Nov 11 2026. No macro, syntax, notation, axiom, sorry.
-/
import Derived.Test.YtgipddabhcmgjabChecked
import GoSem.Claim
import GoSem.ClaimJoined
import GoSem.ClaimMapViews
import Derived.JoinedTies
import Derived.KernelRfl
namespace Go.Proofs.Ytgipddabhcmgjab
/- THE CELL 'sum', in the pinned program and in every row, IS THE sha256 OF THE DUMP (.gsa) THAT YtgipddabhcmgjabProg.lean LOADS. Nothing in Lean hashes anything: it is a label: what it is worth is what the hold of that sum in a sandbox is worth. -/
noncomputable def Try.pinned : Pinned := { name := "ytgipddabhcmgjab", sum := "6cd0918346244fb753f2440fe2c7b1c4324e4d1670eb6a47f2dc864e4c519207", checked := Try.checked }
namespace Rows
def none {H : Type} : Left H := { results := [], args := [] }

/-- 'paravanelaw04.CourseFirst': WHATEVER THE INPUT: true; the input reads as it did. -/
def courseFirstSpec : ChangeSpec := { name := "courseFirst", fn := fun _ => fun
  | [d1, d2] => { results := [.lit (.bool true)], args := [d1, d2] }
  | _ => none }
def courseFirstRow : OpenClaim := { program := "ytgipddabhcmgjab", sum := "6cd0918346244fb753f2440fe2c7b1c4324e4d1670eb6a47f2dc864e4c519207", func := "paravane/paravanelaw04.CourseFirst", spec := "courseFirst", unfollowed := true, recurses := true, plainKeys := false, apart := false }
def CourseFirstSaid : Prop := courseFirstRow.holds Try.pinned (OpenSpec.ofChange courseFirstSpec)

/-- ITS FALSE NEIGHBOUR: 'it returns false'. Refute it at one input. -/
def courseFirstWrong : ChangeSpec := { name := "courseFirst", fn := fun _ => fun
  | [d1, d2] => { results := [.lit (.bool false)], args := [d1, d2] }
  | _ => none }
def CourseFirstWrongFalsely : Prop := courseFirstRow.holds Try.pinned (OpenSpec.ofChange courseFirstWrong)

/-- 'paravanelaw04.CourseWider': WHATEVER THE INPUT: true; the input reads as it did. -/
def courseWiderSpec : ChangeSpec := { name := "courseWider", fn := fun _ => fun
  | [d] => { results := [.lit (.bool true)], args := [d] }
  | _ => none }
def courseWiderRow : OpenClaim := { program := "ytgipddabhcmgjab", sum := "6cd0918346244fb753f2440fe2c7b1c4324e4d1670eb6a47f2dc864e4c519207", func := "paravane/paravanelaw04.CourseWider", spec := "courseWider", unfollowed := true, recurses := true, plainKeys := false, apart := false }
def CourseWiderSaid : Prop := courseWiderRow.holds Try.pinned (OpenSpec.ofChange courseWiderSpec)

/-- ITS FALSE NEIGHBOUR: 'it returns false'. Refute it at one input. -/
def courseWiderWrong : ChangeSpec := { name := "courseWider", fn := fun _ => fun
  | [d] => { results := [.lit (.bool false)], args := [d] }
  | _ => none }
def CourseWiderWrongFalsely : Prop := courseWiderRow.holds Try.pinned (OpenSpec.ofChange courseWiderWrong)

/-- 'paravanelaw04.CourseTabled': WHATEVER THE INPUT: true; the input reads as it did. -/
def courseTabledSpec : ChangeSpec := { name := "courseTabled", fn := fun _ => fun
  | [d1, d2] => { results := [.lit (.bool true)], args := [d1, d2] }
  | _ => none }
def courseTabledRow : OpenClaim := { program := "ytgipddabhcmgjab", sum := "6cd0918346244fb753f2440fe2c7b1c4324e4d1670eb6a47f2dc864e4c519207", func := "paravane/paravanelaw04.CourseTabled", spec := "courseTabled", unfollowed := true, recurses := true, plainKeys := false, apart := false }
def CourseTabledSaid : Prop := courseTabledRow.holds Try.pinned (OpenSpec.ofChange courseTabledSpec)

/-- ITS FALSE NEIGHBOUR: 'it returns false'. Refute it at one input. -/
def courseTabledWrong : ChangeSpec := { name := "courseTabled", fn := fun _ => fun
  | [d1, d2] => { results := [.lit (.bool false)], args := [d1, d2] }
  | _ => none }
def CourseTabledWrongFalsely : Prop := courseTabledRow.holds Try.pinned (OpenSpec.ofChange courseTabledWrong)

/-- 'paravanelaw04.CourseKnown': WHATEVER THE INPUT: true; the input reads as it did. -/
def courseKnownSpec : ChangeSpec := { name := "courseKnown", fn := fun _ => fun
  | [] => { results := [.lit (.bool true)], args := [] }
  | _ => none }
def courseKnownRow : OpenClaim := { program := "ytgipddabhcmgjab", sum := "6cd0918346244fb753f2440fe2c7b1c4324e4d1670eb6a47f2dc864e4c519207", func := "paravane/paravanelaw04.CourseKnown", spec := "courseKnown", unfollowed := true, recurses := true, plainKeys := false, apart := false }
def CourseKnownSaid : Prop := courseKnownRow.holds Try.pinned (OpenSpec.ofChange courseKnownSpec)

/-- ITS FALSE NEIGHBOUR: 'it returns false'. Refute it at one input. -/
def courseKnownWrong : ChangeSpec := { name := "courseKnown", fn := fun _ => fun
  | [] => { results := [.lit (.bool false)], args := [] }
  | _ => none }
def CourseKnownWrongFalsely : Prop := courseKnownRow.holds Try.pinned (OpenSpec.ofChange courseKnownWrong)

/- THE SECOND FORM. 'bulk': how many values and letters a reading holds, each counted each time it is reached (what is shared counts as often as it is met; a slice's spare places count too). A statement '..UptoSaid' is the law's where the arguments, and the package variables that the reading takes, are together of bulk at most 1048576: NARROWER than '..Said'. Prove '..Said' where nothing that the law and all that it calls make is longer than what came in: it says more and counts as full. Else prove '..UptoSaid'. A law counts once. -/
mutual
def uptoBulk {H : Type} : DataW H → Nat
  | .lit (.string bytes) => bytes.length + 1
  | .lit _ => 1
  | .nil => 1
  | .ptr d => uptoBulk d + 1
  | .slice elems spare => uptoBulkAll elems + uptoBulkAll spare + 1
  | .agg parts => uptoBulkAll parts + 1
  | .iface _ d => uptoBulk d + 1
  | .map entries => uptoBulkEntries entries + 1
  | .held _ => 1
def uptoBulkAll {H : Type} : List (DataW H) → Nat
  | [] => 0
  | d :: r => uptoBulk d + uptoBulkAll r
def uptoBulkEntries {H : Type} : List (Lit × DataW H) → Nat
  | [] => 0
  | x :: r => uptoBulkEntry x + uptoBulkEntries r
def uptoBulkEntry {H : Type} : Lit × DataW H → Nat
  | (.string bytes, d) => bytes.length + uptoBulk d + 1
  | (_, d) => uptoBulk d + 1
 end
def uptoSmall : (H : Type) → List (DataW H) → Bool := fun _ ds => decide (uptoBulkAll ds ≤ 1048576)
def OpenSpec.upto (s : _root_.Go.ChangeSpec) : _root_.Go.OpenSpec := { _root_.Go.OpenSpec.ofChange s with cond := some uptoSmall }

/-- 'paravanelaw04.CourseFirst', WHERE WHAT IT READS IS OF BULK AT MOST 1048576: true; the input reads as it did. -/
def courseFirstUptoRow : OpenClaim := { program := "ytgipddabhcmgjab", sum := "6cd0918346244fb753f2440fe2c7b1c4324e4d1670eb6a47f2dc864e4c519207", func := "paravane/paravanelaw04.CourseFirst", spec := "courseFirst", unfollowed := true, recurses := true, plainKeys := false, apart := false, narrowed := true }
def CourseFirstUptoSaid : Prop := courseFirstUptoRow.holds Try.pinned (OpenSpec.upto courseFirstSpec)

/-- 'paravanelaw04.CourseWider', WHERE WHAT IT READS IS OF BULK AT MOST 1048576: true; the input reads as it did. -/
def courseWiderUptoRow : OpenClaim := { program := "ytgipddabhcmgjab", sum := "6cd0918346244fb753f2440fe2c7b1c4324e4d1670eb6a47f2dc864e4c519207", func := "paravane/paravanelaw04.CourseWider", spec := "courseWider", unfollowed := true, recurses := true, plainKeys := false, apart := false, narrowed := true }
def CourseWiderUptoSaid : Prop := courseWiderUptoRow.holds Try.pinned (OpenSpec.upto courseWiderSpec)

/-- 'paravanelaw04.CourseTabled', WHERE WHAT IT READS IS OF BULK AT MOST 1048576: true; the input reads as it did. -/
def courseTabledUptoRow : OpenClaim := { program := "ytgipddabhcmgjab", sum := "6cd0918346244fb753f2440fe2c7b1c4324e4d1670eb6a47f2dc864e4c519207", func := "paravane/paravanelaw04.CourseTabled", spec := "courseTabled", unfollowed := true, recurses := true, plainKeys := false, apart := false, narrowed := true }
def CourseTabledUptoSaid : Prop := courseTabledUptoRow.holds Try.pinned (OpenSpec.upto courseTabledSpec)

/-- 'paravanelaw04.CourseKnown', WHERE WHAT IT READS IS OF BULK AT MOST 1048576: true; the input reads as it did. -/
def courseKnownUptoRow : OpenClaim := { program := "ytgipddabhcmgjab", sum := "6cd0918346244fb753f2440fe2c7b1c4324e4d1670eb6a47f2dc864e4c519207", func := "paravane/paravanelaw04.CourseKnown", spec := "courseKnown", unfollowed := true, recurses := true, plainKeys := false, apart := false, narrowed := true }
def CourseKnownUptoSaid : Prop := courseKnownUptoRow.holds Try.pinned (OpenSpec.upto courseKnownSpec)

end Rows
end Go.Proofs.Ytgipddabhcmgjab
