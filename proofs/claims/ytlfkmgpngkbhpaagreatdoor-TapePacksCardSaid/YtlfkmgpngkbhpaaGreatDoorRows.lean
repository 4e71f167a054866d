/-
  NARROWER THAN 'FOR EVERY INPUT', by the rows' own cells (each row's printed sentence says how): TapeKnown: laid · TapePacks: laid · TapeJoins: laid · TapeFills: laid · TapePriced: laid · TapeChecked: laid · TapeAlike: laid · TapeTrue: laid · TapeCheapest: laid · TapeDearer: laid · TapeAgains: laid · TapeMarks: laid.
  DERIVED. THE GIVEN ROWS OF THIS SEAT. 12 by the template 'for every input the law returns true; each argument reads behind the call as it read before'; 0 by the template 'total and deterministic' (their statements: YtlfkmgpngkbhpaaGreatDoorTotals.lean).
  GIVEN WITH THE SEED: the statements are not yours to turn. If you find one false, say at which input.
  Laid BY PROGRAM, IN A SANDBOX (cutbox-rows.mjs): the forced cells as the released guide's own fill.sh prints them over the translation 45b4497db37c787c… (all of the seat's roots in one cut). By AI agents, Wed Nov 11 2026. No macro, syntax, notation, axiom, sorry.
-/
import Derived.Test.YtlfkmgpngkbhpaaGreatDoorChecked
import GoSem.Claim
import GoSem.ClaimJoined
import GoSem.ClaimMapViews
import Derived.JoinedTies
import Derived.KernelRfl
namespace Go.Proofs.YtlfkmgpngkbhpaaGreatDoor
/- THE CELL 'sum', in the pinned program and in every row, IS THE sha256 OF THE DUMP (.gsa) THAT YtlfkmgpngkbhpaaGreatDoorProg.lean LOADS. Nothing in Lean hashes anything: it is a label: what it is worth is what the hold of that sum in a sandbox is worth. -/
noncomputable def Tryz.pinned : Pinned := { name := "ytlfkmgpngkbhpaagreatdoor", sum := "45b4497db37c787c3b27569da5d5f87951fff953d1fa5bab34f0cd69622169ae", checked := Tryz.checked }
namespace Rows
def none {H : Type} : Left H := { results := [], args := [] }

/- WHAT THE LISTED PACKAGE-LEVEL VARIABLES READ AS WHEN THE CALL BEGINS. Each datum BY PROGRAM (the guide's laid-datum.mjs) off the statement by which the dump's own 'gosem.cut.vars' lays the variable. In a bare row this is a premise. The card (YtlfkmgpngkbhpaaGreatDoorCards.lean) ties it to the program's text. -/
def laid_math_bits_deBruijn32tab {H : Type} : DataW H := .agg [.lit (.int .u8 0), .lit (.int .u8 1), .lit (.int .u8 28), .lit (.int .u8 2), .lit (.int .u8 29), .lit (.int .u8 14), .lit (.int .u8 24), .lit (.int .u8 3), .lit (.int .u8 30), .lit (.int .u8 22), .lit (.int .u8 20), .lit (.int .u8 15), .lit (.int .u8 25), .lit (.int .u8 17), .lit (.int .u8 4), .lit (.int .u8 8), .lit (.int .u8 31), .lit (.int .u8 27), .lit (.int .u8 13), .lit (.int .u8 23), .lit (.int .u8 21), .lit (.int .u8 19), .lit (.int .u8 16), .lit (.int .u8 7), .lit (.int .u8 26), .lit (.int .u8 12), .lit (.int .u8 18), .lit (.int .u8 6), .lit (.int .u8 11), .lit (.int .u8 5), .lit (.int .u8 10), .lit (.int .u8 9)]
def laid_math_bits_deBruijn64tab {H : Type} : DataW H := .agg [.lit (.int .u8 0), .lit (.int .u8 1), .lit (.int .u8 56), .lit (.int .u8 2), .lit (.int .u8 57), .lit (.int .u8 49), .lit (.int .u8 28), .lit (.int .u8 3), .lit (.int .u8 61), .lit (.int .u8 58), .lit (.int .u8 42), .lit (.int .u8 50), .lit (.int .u8 38), .lit (.int .u8 29), .lit (.int .u8 17), .lit (.int .u8 4), .lit (.int .u8 62), .lit (.int .u8 47), .lit (.int .u8 59), .lit (.int .u8 36), .lit (.int .u8 45), .lit (.int .u8 43), .lit (.int .u8 51), .lit (.int .u8 22), .lit (.int .u8 53), .lit (.int .u8 39), .lit (.int .u8 33), .lit (.int .u8 30), .lit (.int .u8 24), .lit (.int .u8 18), .lit (.int .u8 12), .lit (.int .u8 5), .lit (.int .u8 63), .lit (.int .u8 55), .lit (.int .u8 48), .lit (.int .u8 27), .lit (.int .u8 60), .lit (.int .u8 41), .lit (.int .u8 37), .lit (.int .u8 16), .lit (.int .u8 46), .lit (.int .u8 35), .lit (.int .u8 44), .lit (.int .u8 21), .lit (.int .u8 52), .lit (.int .u8 32), .lit (.int .u8 23), .lit (.int .u8 11), .lit (.int .u8 54), .lit (.int .u8 26), .lit (.int .u8 40), .lit (.int .u8 15), .lit (.int .u8 34), .lit (.int .u8 20), .lit (.int .u8 31), .lit (.int .u8 10), .lit (.int .u8 25), .lit (.int .u8 14), .lit (.int .u8 19), .lit (.int .u8 9), .lit (.int .u8 13), .lit (.int .u8 8), .lit (.int .u8 7), .lit (.int .u8 6)]
def laid_internal_strconv_uint64pow10 {H : Type} : DataW H := .agg [.lit (.int .u64 1), .lit (.int .u64 10), .lit (.int .u64 100), .lit (.int .u64 1000), .lit (.int .u64 10000), .lit (.int .u64 100000), .lit (.int .u64 1000000), .lit (.int .u64 10000000), .lit (.int .u64 100000000), .lit (.int .u64 1000000000), .lit (.int .u64 10000000000), .lit (.int .u64 100000000000), .lit (.int .u64 1000000000000), .lit (.int .u64 10000000000000), .lit (.int .u64 100000000000000), .lit (.int .u64 1000000000000000), .lit (.int .u64 10000000000000000), .lit (.int .u64 100000000000000000), .lit (.int .u64 1000000000000000000), .lit (.int .u64 10000000000000000000)]
def laid_strconv_ErrRange {H : Type} : DataW H := .iface "*errors.errorString" (.ptr (.agg [.lit (.string [118, 97, 108, 117, 101, 32, 111, 117, 116, 32, 111, 102, 32, 114, 97, 110, 103, 101])]))
def laid_strconv_ErrSyntax {H : Type} : DataW H := .iface "*errors.errorString" (.ptr (.agg [.lit (.string [105, 110, 118, 97, 108, 105, 100, 32, 115, 121, 110, 116, 97, 120])]))

/-- 'paravanelaw08.TapeKnown': WHATEVER THE INPUT: true; the input reads as it did. -/
def tapeKnownSpec : ChangeSpec := { name := "tapeKnown", fn := fun _ => fun
  | [] => { results := [.lit (.bool true)], args := [] }
  | _ => none }
def tapeKnownRow : OpenClaim := { program := "ytlfkmgpngkbhpaagreatdoor", sum := "45b4497db37c787c3b27569da5d5f87951fff953d1fa5bab34f0cd69622169ae", func := "paravane/paravanelaw08.TapeKnown", spec := "tapeKnown", inPlace := ["internal/abi.NoEscape", "internal/bytealg.MakeNoZero"], unfollowed := true, recurses := true, named := ["internal/strconv.uint64pow10", "math/bits.deBruijn32tab", "math/bits.deBruijn64tab", "strconv.ErrSyntax", "strconv.ErrRange"], plainKeys := false, apart := false, laid := [("math/bits.deBruijn32tab", laid_math_bits_deBruijn32tab), ("math/bits.deBruijn64tab", laid_math_bits_deBruijn64tab), ("internal/strconv.uint64pow10", laid_internal_strconv_uint64pow10), ("strconv.ErrRange", laid_strconv_ErrRange), ("strconv.ErrSyntax", laid_strconv_ErrSyntax)] }
def TapeKnownSaid : Prop := tapeKnownRow.holds Tryz.pinned (OpenSpec.ofChange tapeKnownSpec)

/-- ITS FALSE NEIGHBOUR: 'it returns false'. Refute it at one input. -/
def tapeKnownWrong : ChangeSpec := { name := "tapeKnown", fn := fun _ => fun
  | [] => { results := [.lit (.bool false)], args := [] }
  | _ => none }
def TapeKnownWrongFalsely : Prop := tapeKnownRow.holds Tryz.pinned (OpenSpec.ofChange tapeKnownWrong)

/-- 'paravanelaw08.TapePacks': WHATEVER THE INPUT: true; the input reads as it did. -/
def tapePacksSpec : ChangeSpec := { name := "tapePacks", fn := fun _ => fun
  | [d1, d2, d3] => { results := [.lit (.bool true)], args := [d1, d2, d3] }
  | _ => none }
def tapePacksRow : OpenClaim := { program := "ytlfkmgpngkbhpaagreatdoor", sum := "45b4497db37c787c3b27569da5d5f87951fff953d1fa5bab34f0cd69622169ae", func := "paravane/paravanelaw08.TapePacks", spec := "tapePacks", inPlace := ["internal/abi.NoEscape", "internal/bytealg.MakeNoZero"], unfollowed := true, recurses := true, named := ["internal/strconv.uint64pow10", "math/bits.deBruijn32tab", "math/bits.deBruijn64tab"], plainKeys := false, apart := false, laid := [("math/bits.deBruijn32tab", laid_math_bits_deBruijn32tab), ("math/bits.deBruijn64tab", laid_math_bits_deBruijn64tab), ("internal/strconv.uint64pow10", laid_internal_strconv_uint64pow10)] }
def TapePacksSaid : Prop := tapePacksRow.holds Tryz.pinned (OpenSpec.ofChange tapePacksSpec)

/-- ITS FALSE NEIGHBOUR: 'it returns false'. Refute it at one input. -/
def tapePacksWrong : ChangeSpec := { name := "tapePacks", fn := fun _ => fun
  | [d1, d2, d3] => { results := [.lit (.bool false)], args := [d1, d2, d3] }
  | _ => none }
def TapePacksWrongFalsely : Prop := tapePacksRow.holds Tryz.pinned (OpenSpec.ofChange tapePacksWrong)

/-- 'paravanelaw08.TapeJoins': WHATEVER THE INPUT: true; the input reads as it did. -/
def tapeJoinsSpec : ChangeSpec := { name := "tapeJoins", fn := fun _ => fun
  | [d1, d2] => { results := [.lit (.bool true)], args := [d1, d2] }
  | _ => none }
def tapeJoinsRow : OpenClaim := { program := "ytlfkmgpngkbhpaagreatdoor", sum := "45b4497db37c787c3b27569da5d5f87951fff953d1fa5bab34f0cd69622169ae", func := "paravane/paravanelaw08.TapeJoins", spec := "tapeJoins", inPlace := ["internal/abi.NoEscape", "internal/bytealg.MakeNoZero"], unfollowed := true, recurses := true, named := ["internal/strconv.uint64pow10", "math/bits.deBruijn32tab", "math/bits.deBruijn64tab"], plainKeys := false, apart := false, laid := [("math/bits.deBruijn32tab", laid_math_bits_deBruijn32tab), ("math/bits.deBruijn64tab", laid_math_bits_deBruijn64tab), ("internal/strconv.uint64pow10", laid_internal_strconv_uint64pow10)] }
def TapeJoinsSaid : Prop := tapeJoinsRow.holds Tryz.pinned (OpenSpec.ofChange tapeJoinsSpec)

/-- ITS FALSE NEIGHBOUR: 'it returns false'. Refute it at one input. -/
def tapeJoinsWrong : ChangeSpec := { name := "tapeJoins", fn := fun _ => fun
  | [d1, d2] => { results := [.lit (.bool false)], args := [d1, d2] }
  | _ => none }
def TapeJoinsWrongFalsely : Prop := tapeJoinsRow.holds Tryz.pinned (OpenSpec.ofChange tapeJoinsWrong)

/-- 'paravanelaw08.TapeFills': WHATEVER THE INPUT: true; the input reads as it did. -/
def tapeFillsSpec : ChangeSpec := { name := "tapeFills", fn := fun _ => fun
  | [d1, d2] => { results := [.lit (.bool true)], args := [d1, d2] }
  | _ => none }
def tapeFillsRow : OpenClaim := { program := "ytlfkmgpngkbhpaagreatdoor", sum := "45b4497db37c787c3b27569da5d5f87951fff953d1fa5bab34f0cd69622169ae", func := "paravane/paravanelaw08.TapeFills", spec := "tapeFills", inPlace := ["internal/abi.NoEscape", "internal/bytealg.MakeNoZero"], unfollowed := true, recurses := true, named := ["internal/strconv.uint64pow10", "math/bits.deBruijn32tab", "math/bits.deBruijn64tab"], plainKeys := false, apart := false, laid := [("math/bits.deBruijn32tab", laid_math_bits_deBruijn32tab), ("math/bits.deBruijn64tab", laid_math_bits_deBruijn64tab), ("internal/strconv.uint64pow10", laid_internal_strconv_uint64pow10)] }
def TapeFillsSaid : Prop := tapeFillsRow.holds Tryz.pinned (OpenSpec.ofChange tapeFillsSpec)

/-- ITS FALSE NEIGHBOUR: 'it returns false'. Refute it at one input. -/
def tapeFillsWrong : ChangeSpec := { name := "tapeFills", fn := fun _ => fun
  | [d1, d2] => { results := [.lit (.bool false)], args := [d1, d2] }
  | _ => none }
def TapeFillsWrongFalsely : Prop := tapeFillsRow.holds Tryz.pinned (OpenSpec.ofChange tapeFillsWrong)

/-- 'paravanelaw08.TapePriced': WHATEVER THE INPUT: true; the input reads as it did. -/
def tapePricedSpec : ChangeSpec := { name := "tapePriced", fn := fun _ => fun
  | [d1, d2, d3] => { results := [.lit (.bool true)], args := [d1, d2, d3] }
  | _ => none }
def tapePricedRow : OpenClaim := { program := "ytlfkmgpngkbhpaagreatdoor", sum := "45b4497db37c787c3b27569da5d5f87951fff953d1fa5bab34f0cd69622169ae", func := "paravane/paravanelaw08.TapePriced", spec := "tapePriced", inPlace := ["internal/abi.NoEscape", "internal/bytealg.MakeNoZero"], unfollowed := true, recurses := true, named := ["internal/strconv.uint64pow10", "math/bits.deBruijn32tab", "math/bits.deBruijn64tab"], plainKeys := false, apart := false, laid := [("math/bits.deBruijn32tab", laid_math_bits_deBruijn32tab), ("math/bits.deBruijn64tab", laid_math_bits_deBruijn64tab), ("internal/strconv.uint64pow10", laid_internal_strconv_uint64pow10)] }
def TapePricedSaid : Prop := tapePricedRow.holds Tryz.pinned (OpenSpec.ofChange tapePricedSpec)

/-- ITS FALSE NEIGHBOUR: 'it returns false'. Refute it at one input. -/
def tapePricedWrong : ChangeSpec := { name := "tapePriced", fn := fun _ => fun
  | [d1, d2, d3] => { results := [.lit (.bool false)], args := [d1, d2, d3] }
  | _ => none }
def TapePricedWrongFalsely : Prop := tapePricedRow.holds Tryz.pinned (OpenSpec.ofChange tapePricedWrong)

/-- 'paravanelaw08.TapeChecked': WHATEVER THE INPUT: true; the input reads as it did. -/
def tapeCheckedSpec : ChangeSpec := { name := "tapeChecked", fn := fun _ => fun
  | [d] => { results := [.lit (.bool true)], args := [d] }
  | _ => none }
def tapeCheckedRow : OpenClaim := { program := "ytlfkmgpngkbhpaagreatdoor", sum := "45b4497db37c787c3b27569da5d5f87951fff953d1fa5bab34f0cd69622169ae", func := "paravane/paravanelaw08.TapeChecked", spec := "tapeChecked", inPlace := ["internal/abi.NoEscape", "internal/bytealg.MakeNoZero"], unfollowed := true, recurses := true, named := ["internal/strconv.uint64pow10", "math/bits.deBruijn32tab", "math/bits.deBruijn64tab"], plainKeys := false, apart := false, laid := [("math/bits.deBruijn32tab", laid_math_bits_deBruijn32tab), ("math/bits.deBruijn64tab", laid_math_bits_deBruijn64tab), ("internal/strconv.uint64pow10", laid_internal_strconv_uint64pow10)] }
def TapeCheckedSaid : Prop := tapeCheckedRow.holds Tryz.pinned (OpenSpec.ofChange tapeCheckedSpec)

/-- ITS FALSE NEIGHBOUR: 'it returns false'. Refute it at one input. -/
def tapeCheckedWrong : ChangeSpec := { name := "tapeChecked", fn := fun _ => fun
  | [d] => { results := [.lit (.bool false)], args := [d] }
  | _ => none }
def TapeCheckedWrongFalsely : Prop := tapeCheckedRow.holds Tryz.pinned (OpenSpec.ofChange tapeCheckedWrong)

/-- 'paravanelaw08.TapeAlike': WHATEVER THE INPUT: true; the input reads as it did. -/
def tapeAlikeSpec : ChangeSpec := { name := "tapeAlike", fn := fun _ => fun
  | [d1, d2, d3] => { results := [.lit (.bool true)], args := [d1, d2, d3] }
  | _ => none }
def tapeAlikeRow : OpenClaim := { program := "ytlfkmgpngkbhpaagreatdoor", sum := "45b4497db37c787c3b27569da5d5f87951fff953d1fa5bab34f0cd69622169ae", func := "paravane/paravanelaw08.TapeAlike", spec := "tapeAlike", inPlace := ["internal/abi.NoEscape", "internal/bytealg.MakeNoZero"], unfollowed := true, recurses := true, named := ["internal/strconv.uint64pow10", "math/bits.deBruijn32tab", "math/bits.deBruijn64tab"], plainKeys := false, apart := false, laid := [("math/bits.deBruijn32tab", laid_math_bits_deBruijn32tab), ("math/bits.deBruijn64tab", laid_math_bits_deBruijn64tab), ("internal/strconv.uint64pow10", laid_internal_strconv_uint64pow10)] }
def TapeAlikeSaid : Prop := tapeAlikeRow.holds Tryz.pinned (OpenSpec.ofChange tapeAlikeSpec)

/-- ITS FALSE NEIGHBOUR: 'it returns false'. Refute it at one input. -/
def tapeAlikeWrong : ChangeSpec := { name := "tapeAlike", fn := fun _ => fun
  | [d1, d2, d3] => { results := [.lit (.bool false)], args := [d1, d2, d3] }
  | _ => none }
def TapeAlikeWrongFalsely : Prop := tapeAlikeRow.holds Tryz.pinned (OpenSpec.ofChange tapeAlikeWrong)

/-- 'paravanelaw08.TapeTrue': WHATEVER THE INPUT: true; the input reads as it did. -/
def tapeTrueSpec : ChangeSpec := { name := "tapeTrue", fn := fun _ => fun
  | [d1, d2, d3] => { results := [.lit (.bool true)], args := [d1, d2, d3] }
  | _ => none }
def tapeTrueRow : OpenClaim := { program := "ytlfkmgpngkbhpaagreatdoor", sum := "45b4497db37c787c3b27569da5d5f87951fff953d1fa5bab34f0cd69622169ae", func := "paravane/paravanelaw08.TapeTrue", spec := "tapeTrue", inPlace := ["internal/abi.NoEscape", "internal/bytealg.MakeNoZero"], unfollowed := true, recurses := true, named := ["internal/strconv.uint64pow10", "math/bits.deBruijn32tab", "math/bits.deBruijn64tab"], plainKeys := false, apart := false, laid := [("math/bits.deBruijn32tab", laid_math_bits_deBruijn32tab), ("math/bits.deBruijn64tab", laid_math_bits_deBruijn64tab), ("internal/strconv.uint64pow10", laid_internal_strconv_uint64pow10)] }
def TapeTrueSaid : Prop := tapeTrueRow.holds Tryz.pinned (OpenSpec.ofChange tapeTrueSpec)

/-- ITS FALSE NEIGHBOUR: 'it returns false'. Refute it at one input. -/
def tapeTrueWrong : ChangeSpec := { name := "tapeTrue", fn := fun _ => fun
  | [d1, d2, d3] => { results := [.lit (.bool false)], args := [d1, d2, d3] }
  | _ => none }
def TapeTrueWrongFalsely : Prop := tapeTrueRow.holds Tryz.pinned (OpenSpec.ofChange tapeTrueWrong)

/-- 'paravanelaw08.TapeCheapest': WHATEVER THE INPUT: true; the input reads as it did. -/
def tapeCheapestSpec : ChangeSpec := { name := "tapeCheapest", fn := fun _ => fun
  | [d1, d2, d3] => { results := [.lit (.bool true)], args := [d1, d2, d3] }
  | _ => none }
def tapeCheapestRow : OpenClaim := { program := "ytlfkmgpngkbhpaagreatdoor", sum := "45b4497db37c787c3b27569da5d5f87951fff953d1fa5bab34f0cd69622169ae", func := "paravane/paravanelaw08.TapeCheapest", spec := "tapeCheapest", inPlace := ["internal/abi.NoEscape", "internal/bytealg.MakeNoZero"], unfollowed := true, recurses := true, named := ["internal/strconv.uint64pow10", "math/bits.deBruijn32tab", "math/bits.deBruijn64tab"], plainKeys := false, apart := false, laid := [("math/bits.deBruijn32tab", laid_math_bits_deBruijn32tab), ("math/bits.deBruijn64tab", laid_math_bits_deBruijn64tab), ("internal/strconv.uint64pow10", laid_internal_strconv_uint64pow10)] }
def TapeCheapestSaid : Prop := tapeCheapestRow.holds Tryz.pinned (OpenSpec.ofChange tapeCheapestSpec)

/-- ITS FALSE NEIGHBOUR: 'it returns false'. Refute it at one input. -/
def tapeCheapestWrong : ChangeSpec := { name := "tapeCheapest", fn := fun _ => fun
  | [d1, d2, d3] => { results := [.lit (.bool false)], args := [d1, d2, d3] }
  | _ => none }
def TapeCheapestWrongFalsely : Prop := tapeCheapestRow.holds Tryz.pinned (OpenSpec.ofChange tapeCheapestWrong)

/-- 'paravanelaw08.TapeDearer': WHATEVER THE INPUT: true; the input reads as it did. -/
def tapeDearerSpec : ChangeSpec := { name := "tapeDearer", fn := fun _ => fun
  | [d1, d2, d3] => { results := [.lit (.bool true)], args := [d1, d2, d3] }
  | _ => none }
def tapeDearerRow : OpenClaim := { program := "ytlfkmgpngkbhpaagreatdoor", sum := "45b4497db37c787c3b27569da5d5f87951fff953d1fa5bab34f0cd69622169ae", func := "paravane/paravanelaw08.TapeDearer", spec := "tapeDearer", inPlace := ["internal/abi.NoEscape", "internal/bytealg.MakeNoZero"], unfollowed := true, recurses := true, named := ["internal/strconv.uint64pow10", "math/bits.deBruijn32tab", "math/bits.deBruijn64tab"], plainKeys := false, apart := false, laid := [("math/bits.deBruijn32tab", laid_math_bits_deBruijn32tab), ("math/bits.deBruijn64tab", laid_math_bits_deBruijn64tab), ("internal/strconv.uint64pow10", laid_internal_strconv_uint64pow10)] }
def TapeDearerSaid : Prop := tapeDearerRow.holds Tryz.pinned (OpenSpec.ofChange tapeDearerSpec)

/-- ITS FALSE NEIGHBOUR: 'it returns false'. Refute it at one input. -/
def tapeDearerWrong : ChangeSpec := { name := "tapeDearer", fn := fun _ => fun
  | [d1, d2, d3] => { results := [.lit (.bool false)], args := [d1, d2, d3] }
  | _ => none }
def TapeDearerWrongFalsely : Prop := tapeDearerRow.holds Tryz.pinned (OpenSpec.ofChange tapeDearerWrong)

/-- 'paravanelaw08.TapeAgains': WHATEVER THE INPUT: true; the input reads as it did. -/
def tapeAgainsSpec : ChangeSpec := { name := "tapeAgains", fn := fun _ => fun
  | [d1, d2, d3] => { results := [.lit (.bool true)], args := [d1, d2, d3] }
  | _ => none }
def tapeAgainsRow : OpenClaim := { program := "ytlfkmgpngkbhpaagreatdoor", sum := "45b4497db37c787c3b27569da5d5f87951fff953d1fa5bab34f0cd69622169ae", func := "paravane/paravanelaw08.TapeAgains", spec := "tapeAgains", inPlace := ["internal/abi.NoEscape", "internal/bytealg.MakeNoZero"], unfollowed := true, recurses := true, named := ["internal/strconv.uint64pow10", "math/bits.deBruijn32tab", "math/bits.deBruijn64tab"], plainKeys := false, apart := false, laid := [("math/bits.deBruijn32tab", laid_math_bits_deBruijn32tab), ("math/bits.deBruijn64tab", laid_math_bits_deBruijn64tab), ("internal/strconv.uint64pow10", laid_internal_strconv_uint64pow10)] }
def TapeAgainsSaid : Prop := tapeAgainsRow.holds Tryz.pinned (OpenSpec.ofChange tapeAgainsSpec)

/-- ITS FALSE NEIGHBOUR: 'it returns false'. Refute it at one input. -/
def tapeAgainsWrong : ChangeSpec := { name := "tapeAgains", fn := fun _ => fun
  | [d1, d2, d3] => { results := [.lit (.bool false)], args := [d1, d2, d3] }
  | _ => none }
def TapeAgainsWrongFalsely : Prop := tapeAgainsRow.holds Tryz.pinned (OpenSpec.ofChange tapeAgainsWrong)

/-- 'paravanelaw08.TapeMarks': WHATEVER THE INPUT: true; the input reads as it did. -/
def tapeMarksSpec : ChangeSpec := { name := "tapeMarks", fn := fun _ => fun
  | [d1, d2] => { results := [.lit (.bool true)], args := [d1, d2] }
  | _ => none }
def tapeMarksRow : OpenClaim := { program := "ytlfkmgpngkbhpaagreatdoor", sum := "45b4497db37c787c3b27569da5d5f87951fff953d1fa5bab34f0cd69622169ae", func := "paravane/paravanelaw08.TapeMarks", spec := "tapeMarks", inPlace := ["internal/abi.NoEscape", "internal/bytealg.MakeNoZero"], unfollowed := true, recurses := true, named := ["internal/strconv.uint64pow10", "math/bits.deBruijn32tab", "math/bits.deBruijn64tab", "strconv.ErrSyntax", "strconv.ErrRange"], plainKeys := false, apart := false, laid := [("math/bits.deBruijn32tab", laid_math_bits_deBruijn32tab), ("math/bits.deBruijn64tab", laid_math_bits_deBruijn64tab), ("internal/strconv.uint64pow10", laid_internal_strconv_uint64pow10), ("strconv.ErrRange", laid_strconv_ErrRange), ("strconv.ErrSyntax", laid_strconv_ErrSyntax)] }
def TapeMarksSaid : Prop := tapeMarksRow.holds Tryz.pinned (OpenSpec.ofChange tapeMarksSpec)

/-- ITS FALSE NEIGHBOUR: 'it returns false'. Refute it at one input. -/
def tapeMarksWrong : ChangeSpec := { name := "tapeMarks", fn := fun _ => fun
  | [d1, d2] => { results := [.lit (.bool false)], args := [d1, d2] }
  | _ => none }
def TapeMarksWrongFalsely : Prop := tapeMarksRow.holds Tryz.pinned (OpenSpec.ofChange tapeMarksWrong)

/- THE SECOND FORM. 'bulk': how many values and letters a reading holds, each counted each time it is reached (what is shared counts as often as it is met; a slice's spare places count too). A statement '..UptoSaid' is the law's where the arguments, and the package variables that the reading takes, are together of bulk at most 1048576: NARROWER than '..Said'. Prove '..Said' where nothing that the law and all that it calls make is longer than what came in: it says more and counts as full. Else prove '..UptoSaid'. A law counts once. -/
mutual
def uptoBulk {H : Type} : DataW H → Nat
  | .lit (.string bytes) => bytes.length + 1
  | .lit _ => 1
  | .nil => 1
  | .ptr d => uptoBulk d + 1
  | .slice elems spare => uptoBulkAll elems + uptoBulkAll spare + 1
  | .agg parts => uptoBulkAll parts + 1
  | .iface _ d => uptoBulk d + 1
  | .map entries => uptoBulkEntries entries + 1
  | .held _ => 1
def uptoBulkAll {H : Type} : List (DataW H) → Nat
  | [] => 0
  | d :: r => uptoBulk d + uptoBulkAll r
def uptoBulkEntries {H : Type} : List (Lit × DataW H) → Nat
  | [] => 0
  | x :: r => uptoBulkEntry x + uptoBulkEntries r
def uptoBulkEntry {H : Type} : Lit × DataW H → Nat
  | (.string bytes, d) => bytes.length + uptoBulk d + 1
  | (_, d) => uptoBulk d + 1
 end
def uptoSmall : (H : Type) → List (DataW H) → Bool := fun _ ds => decide (uptoBulkAll ds ≤ 1048576)
def OpenSpec.upto (s : _root_.Go.ChangeSpec) : _root_.Go.OpenSpec := { _root_.Go.OpenSpec.ofChange s with cond := some uptoSmall }

/-- 'paravanelaw08.TapeKnown', WHERE WHAT IT READS IS OF BULK AT MOST 1048576: true; the input reads as it did. -/
def tapeKnownUptoRow : OpenClaim := { program := "ytlfkmgpngkbhpaagreatdoor", sum := "45b4497db37c787c3b27569da5d5f87951fff953d1fa5bab34f0cd69622169ae", func := "paravane/paravanelaw08.TapeKnown", spec := "tapeKnown", inPlace := ["internal/abi.NoEscape", "internal/bytealg.MakeNoZero"], unfollowed := true, recurses := true, named := ["internal/strconv.uint64pow10", "math/bits.deBruijn32tab", "math/bits.deBruijn64tab", "strconv.ErrSyntax", "strconv.ErrRange"], plainKeys := false, apart := false, laid := [("math/bits.deBruijn32tab", laid_math_bits_deBruijn32tab), ("math/bits.deBruijn64tab", laid_math_bits_deBruijn64tab), ("internal/strconv.uint64pow10", laid_internal_strconv_uint64pow10), ("strconv.ErrRange", laid_strconv_ErrRange), ("strconv.ErrSyntax", laid_strconv_ErrSyntax)], narrowed := true }
def TapeKnownUptoSaid : Prop := tapeKnownUptoRow.holds Tryz.pinned (OpenSpec.upto tapeKnownSpec)

/-- 'paravanelaw08.TapePacks', WHERE WHAT IT READS IS OF BULK AT MOST 1048576: true; the input reads as it did. -/
def tapePacksUptoRow : OpenClaim := { program := "ytlfkmgpngkbhpaagreatdoor", sum := "45b4497db37c787c3b27569da5d5f87951fff953d1fa5bab34f0cd69622169ae", func := "paravane/paravanelaw08.TapePacks", spec := "tapePacks", inPlace := ["internal/abi.NoEscape", "internal/bytealg.MakeNoZero"], unfollowed := true, recurses := true, named := ["internal/strconv.uint64pow10", "math/bits.deBruijn32tab", "math/bits.deBruijn64tab"], plainKeys := false, apart := false, laid := [("math/bits.deBruijn32tab", laid_math_bits_deBruijn32tab), ("math/bits.deBruijn64tab", laid_math_bits_deBruijn64tab), ("internal/strconv.uint64pow10", laid_internal_strconv_uint64pow10)], narrowed := true }
def TapePacksUptoSaid : Prop := tapePacksUptoRow.holds Tryz.pinned (OpenSpec.upto tapePacksSpec)

/-- 'paravanelaw08.TapeJoins', WHERE WHAT IT READS IS OF BULK AT MOST 1048576: true; the input reads as it did. -/
def tapeJoinsUptoRow : OpenClaim := { program := "ytlfkmgpngkbhpaagreatdoor", sum := "45b4497db37c787c3b27569da5d5f87951fff953d1fa5bab34f0cd69622169ae", func := "paravane/paravanelaw08.TapeJoins", spec := "tapeJoins", inPlace := ["internal/abi.NoEscape", "internal/bytealg.MakeNoZero"], unfollowed := true, recurses := true, named := ["internal/strconv.uint64pow10", "math/bits.deBruijn32tab", "math/bits.deBruijn64tab"], plainKeys := false, apart := false, laid := [("math/bits.deBruijn32tab", laid_math_bits_deBruijn32tab), ("math/bits.deBruijn64tab", laid_math_bits_deBruijn64tab), ("internal/strconv.uint64pow10", laid_internal_strconv_uint64pow10)], narrowed := true }
def TapeJoinsUptoSaid : Prop := tapeJoinsUptoRow.holds Tryz.pinned (OpenSpec.upto tapeJoinsSpec)

/-- 'paravanelaw08.TapeFills', WHERE WHAT IT READS IS OF BULK AT MOST 1048576: true; the input reads as it did. -/
def tapeFillsUptoRow : OpenClaim := { program := "ytlfkmgpngkbhpaagreatdoor", sum := "45b4497db37c787c3b27569da5d5f87951fff953d1fa5bab34f0cd69622169ae", func := "paravane/paravanelaw08.TapeFills", spec := "tapeFills", inPlace := ["internal/abi.NoEscape", "internal/bytealg.MakeNoZero"], unfollowed := true, recurses := true, named := ["internal/strconv.uint64pow10", "math/bits.deBruijn32tab", "math/bits.deBruijn64tab"], plainKeys := false, apart := false, laid := [("math/bits.deBruijn32tab", laid_math_bits_deBruijn32tab), ("math/bits.deBruijn64tab", laid_math_bits_deBruijn64tab), ("internal/strconv.uint64pow10", laid_internal_strconv_uint64pow10)], narrowed := true }
def TapeFillsUptoSaid : Prop := tapeFillsUptoRow.holds Tryz.pinned (OpenSpec.upto tapeFillsSpec)

/-- 'paravanelaw08.TapePriced', WHERE WHAT IT READS IS OF BULK AT MOST 1048576: true; the input reads as it did. -/
def tapePricedUptoRow : OpenClaim := { program := "ytlfkmgpngkbhpaagreatdoor", sum := "45b4497db37c787c3b27569da5d5f87951fff953d1fa5bab34f0cd69622169ae", func := "paravane/paravanelaw08.TapePriced", spec := "tapePriced", inPlace := ["internal/abi.NoEscape", "internal/bytealg.MakeNoZero"], unfollowed := true, recurses := true, named := ["internal/strconv.uint64pow10", "math/bits.deBruijn32tab", "math/bits.deBruijn64tab"], plainKeys := false, apart := false, laid := [("math/bits.deBruijn32tab", laid_math_bits_deBruijn32tab), ("math/bits.deBruijn64tab", laid_math_bits_deBruijn64tab), ("internal/strconv.uint64pow10", laid_internal_strconv_uint64pow10)], narrowed := true }
def TapePricedUptoSaid : Prop := tapePricedUptoRow.holds Tryz.pinned (OpenSpec.upto tapePricedSpec)

/-- 'paravanelaw08.TapeChecked', WHERE WHAT IT READS IS OF BULK AT MOST 1048576: true; the input reads as it did. -/
def tapeCheckedUptoRow : OpenClaim := { program := "ytlfkmgpngkbhpaagreatdoor", sum := "45b4497db37c787c3b27569da5d5f87951fff953d1fa5bab34f0cd69622169ae", func := "paravane/paravanelaw08.TapeChecked", spec := "tapeChecked", inPlace := ["internal/abi.NoEscape", "internal/bytealg.MakeNoZero"], unfollowed := true, recurses := true, named := ["internal/strconv.uint64pow10", "math/bits.deBruijn32tab", "math/bits.deBruijn64tab"], plainKeys := false, apart := false, laid := [("math/bits.deBruijn32tab", laid_math_bits_deBruijn32tab), ("math/bits.deBruijn64tab", laid_math_bits_deBruijn64tab), ("internal/strconv.uint64pow10", laid_internal_strconv_uint64pow10)], narrowed := true }
def TapeCheckedUptoSaid : Prop := tapeCheckedUptoRow.holds Tryz.pinned (OpenSpec.upto tapeCheckedSpec)

/-- 'paravanelaw08.TapeAlike', WHERE WHAT IT READS IS OF BULK AT MOST 1048576: true; the input reads as it did. -/
def tapeAlikeUptoRow : OpenClaim := { program := "ytlfkmgpngkbhpaagreatdoor", sum := "45b4497db37c787c3b27569da5d5f87951fff953d1fa5bab34f0cd69622169ae", func := "paravane/paravanelaw08.TapeAlike", spec := "tapeAlike", inPlace := ["internal/abi.NoEscape", "internal/bytealg.MakeNoZero"], unfollowed := true, recurses := true, named := ["internal/strconv.uint64pow10", "math/bits.deBruijn32tab", "math/bits.deBruijn64tab"], plainKeys := false, apart := false, laid := [("math/bits.deBruijn32tab", laid_math_bits_deBruijn32tab), ("math/bits.deBruijn64tab", laid_math_bits_deBruijn64tab), ("internal/strconv.uint64pow10", laid_internal_strconv_uint64pow10)], narrowed := true }
def TapeAlikeUptoSaid : Prop := tapeAlikeUptoRow.holds Tryz.pinned (OpenSpec.upto tapeAlikeSpec)

/-- 'paravanelaw08.TapeTrue', WHERE WHAT IT READS IS OF BULK AT MOST 1048576: true; the input reads as it did. -/
def tapeTrueUptoRow : OpenClaim := { program := "ytlfkmgpngkbhpaagreatdoor", sum := "45b4497db37c787c3b27569da5d5f87951fff953d1fa5bab34f0cd69622169ae", func := "paravane/paravanelaw08.TapeTrue", spec := "tapeTrue", inPlace := ["internal/abi.NoEscape", "internal/bytealg.MakeNoZero"], unfollowed := true, recurses := true, named := ["internal/strconv.uint64pow10", "math/bits.deBruijn32tab", "math/bits.deBruijn64tab"], plainKeys := false, apart := false, laid := [("math/bits.deBruijn32tab", laid_math_bits_deBruijn32tab), ("math/bits.deBruijn64tab", laid_math_bits_deBruijn64tab), ("internal/strconv.uint64pow10", laid_internal_strconv_uint64pow10)], narrowed := true }
def TapeTrueUptoSaid : Prop := tapeTrueUptoRow.holds Tryz.pinned (OpenSpec.upto tapeTrueSpec)

/-- 'paravanelaw08.TapeCheapest', WHERE WHAT IT READS IS OF BULK AT MOST 1048576: true; the input reads as it did. -/
def tapeCheapestUptoRow : OpenClaim := { program := "ytlfkmgpngkbhpaagreatdoor", sum := "45b4497db37c787c3b27569da5d5f87951fff953d1fa5bab34f0cd69622169ae", func := "paravane/paravanelaw08.TapeCheapest", spec := "tapeCheapest", inPlace := ["internal/abi.NoEscape", "internal/bytealg.MakeNoZero"], unfollowed := true, recurses := true, named := ["internal/strconv.uint64pow10", "math/bits.deBruijn32tab", "math/bits.deBruijn64tab"], plainKeys := false, apart := false, laid := [("math/bits.deBruijn32tab", laid_math_bits_deBruijn32tab), ("math/bits.deBruijn64tab", laid_math_bits_deBruijn64tab), ("internal/strconv.uint64pow10", laid_internal_strconv_uint64pow10)], narrowed := true }
def TapeCheapestUptoSaid : Prop := tapeCheapestUptoRow.holds Tryz.pinned (OpenSpec.upto tapeCheapestSpec)

/-- 'paravanelaw08.TapeDearer', WHERE WHAT IT READS IS OF BULK AT MOST 1048576: true; the input reads as it did. -/
def tapeDearerUptoRow : OpenClaim := { program := "ytlfkmgpngkbhpaagreatdoor", sum := "45b4497db37c787c3b27569da5d5f87951fff953d1fa5bab34f0cd69622169ae", func := "paravane/paravanelaw08.TapeDearer", spec := "tapeDearer", inPlace := ["internal/abi.NoEscape", "internal/bytealg.MakeNoZero"], unfollowed := true, recurses := true, named := ["internal/strconv.uint64pow10", "math/bits.deBruijn32tab", "math/bits.deBruijn64tab"], plainKeys := false, apart := false, laid := [("math/bits.deBruijn32tab", laid_math_bits_deBruijn32tab), ("math/bits.deBruijn64tab", laid_math_bits_deBruijn64tab), ("internal/strconv.uint64pow10", laid_internal_strconv_uint64pow10)], narrowed := true }
def TapeDearerUptoSaid : Prop := tapeDearerUptoRow.holds Tryz.pinned (OpenSpec.upto tapeDearerSpec)

/-- 'paravanelaw08.TapeAgains', WHERE WHAT IT READS IS OF BULK AT MOST 1048576: true; the input reads as it did. -/
def tapeAgainsUptoRow : OpenClaim := { program := "ytlfkmgpngkbhpaagreatdoor", sum := "45b4497db37c787c3b27569da5d5f87951fff953d1fa5bab34f0cd69622169ae", func := "paravane/paravanelaw08.TapeAgains", spec := "tapeAgains", inPlace := ["internal/abi.NoEscape", "internal/bytealg.MakeNoZero"], unfollowed := true, recurses := true, named := ["internal/strconv.uint64pow10", "math/bits.deBruijn32tab", "math/bits.deBruijn64tab"], plainKeys := false, apart := false, laid := [("math/bits.deBruijn32tab", laid_math_bits_deBruijn32tab), ("math/bits.deBruijn64tab", laid_math_bits_deBruijn64tab), ("internal/strconv.uint64pow10", laid_internal_strconv_uint64pow10)], narrowed := true }
def TapeAgainsUptoSaid : Prop := tapeAgainsUptoRow.holds Tryz.pinned (OpenSpec.upto tapeAgainsSpec)

/-- 'paravanelaw08.TapeMarks', WHERE WHAT IT READS IS OF BULK AT MOST 1048576: true; the input reads as it did. -/
def tapeMarksUptoRow : OpenClaim := { program := "ytlfkmgpngkbhpaagreatdoor", sum := "45b4497db37c787c3b27569da5d5f87951fff953d1fa5bab34f0cd69622169ae", func := "paravane/paravanelaw08.TapeMarks", spec := "tapeMarks", inPlace := ["internal/abi.NoEscape", "internal/bytealg.MakeNoZero"], unfollowed := true, recurses := true, named := ["internal/strconv.uint64pow10", "math/bits.deBruijn32tab", "math/bits.deBruijn64tab", "strconv.ErrSyntax", "strconv.ErrRange"], plainKeys := false, apart := false, laid := [("math/bits.deBruijn32tab", laid_math_bits_deBruijn32tab), ("math/bits.deBruijn64tab", laid_math_bits_deBruijn64tab), ("internal/strconv.uint64pow10", laid_internal_strconv_uint64pow10), ("strconv.ErrRange", laid_strconv_ErrRange), ("strconv.ErrSyntax", laid_strconv_ErrSyntax)], narrowed := true }
def TapeMarksUptoSaid : Prop := tapeMarksUptoRow.holds Tryz.pinned (OpenSpec.upto tapeMarksSpec)

end Rows
end Go.Proofs.YtlfkmgpngkbhpaaGreatDoor
