/-
  DERIVED. GIVEN WITH THE SEED: THE CARDS: each row of YtbfnnllgdioccaaGreatDoorRows.lean that lists a variable, with what it lists TIED to the program's text (the seventh form; the later family's looks); each row that meets fmt, with fmt's text TOLD by the authors' own Lean function (tested against real Go, not proved from fmt's source: count such statements apart). THE CARD IS WHAT COUNTS. Prove the row's statement (the work); the ties are given (YtbfnnllgdioccaaGreatDoorTie.lean); close each card by the builder's one call (the guide's Derived/Test/ToyasCard.lean, 'card_holds'). Laid BY PROGRAM, IN A SANDBOX (cutbox-door.mjs). By AI agents, Wed Nov 11 2026. No macro, syntax, notation, axiom, sorry.
-/
import Derived.Test.YtbfnnllgdioccaaGreatDoorRows
import GoSem.ClaimSeven
namespace Go.Proofs.YtbfnnllgdioccaaGreatDoor
namespace Rows

/-- THE TIED CARD OF 'paravanelaw08.TapeLacks'. -/
def tapeLacksCard : Claim7 := { stood := { row := tapeLacksRow, standIns := [], harness := (true, "a240f5f33159a631faad939b4292caabc3116cce3bb5dcc867bd8b6cbbcf258b"), looks := true }, kinds := [], alts := [], laidByText := true, laidKinds := [.data, .data, .data], laidTests := true, laidLooks := .later }
def TapeLacksCardSaid : Prop := Claim7.holds Tryz.pinned (.plain (OpenSpec.ofChange tapeLacksSpec)) tapeLacksCard

/-- THE TIED CARD OF 'paravanelaw08.TapeMarksBack'. -/
def tapeMarksBackCard : Claim7 := { stood := { row := tapeMarksBackRow, standIns := [], harness := (true, "a240f5f33159a631faad939b4292caabc3116cce3bb5dcc867bd8b6cbbcf258b"), looks := true }, kinds := [], alts := [], laidByText := true, laidKinds := [.data, .data, .data, .sentinel, .sentinel], laidTests := true, laidLooks := .later }
def TapeMarksBackCardSaid : Prop := Claim7.holds Tryz.pinned (.plain (OpenSpec.ofChange tapeMarksBackSpec)) tapeMarksBackCard

/-- THE TIED CARD OF 'paravanelaw08.TapeMerges'. -/
def tapeMergesCard : Claim7 := { stood := { row := tapeMergesRow, standIns := [], harness := (true, "a240f5f33159a631faad939b4292caabc3116cce3bb5dcc867bd8b6cbbcf258b"), looks := true }, kinds := [], alts := [], laidByText := true, laidKinds := [.data, .data, .data], laidTests := true, laidLooks := .later }
def TapeMergesCardSaid : Prop := Claim7.holds Tryz.pinned (.plain (OpenSpec.ofChange tapeMergesSpec)) tapeMergesCard

/-- THE TIED CARD OF 'paravanelaw08.TapeOne'. -/
def tapeOneCard : Claim7 := { stood := { row := tapeOneRow, standIns := [], harness := (true, "a240f5f33159a631faad939b4292caabc3116cce3bb5dcc867bd8b6cbbcf258b"), looks := true }, kinds := [], alts := [], laidByText := true, laidKinds := [.data, .data, .data], laidTests := true, laidLooks := .later }
def TapeOneCardSaid : Prop := Claim7.holds Tryz.pinned (.plain (OpenSpec.ofChange tapeOneSpec)) tapeOneCard

/-- THE TIED CARD OF 'paravanelaw08.TapeRicher'. -/
def tapeRicherCard : Claim7 := { stood := { row := tapeRicherRow, standIns := [], harness := (true, "a240f5f33159a631faad939b4292caabc3116cce3bb5dcc867bd8b6cbbcf258b"), looks := true }, kinds := [], alts := [], laidByText := true, laidKinds := [.data, .data, .data], laidTests := true, laidLooks := .later }
def TapeRicherCardSaid : Prop := Claim7.holds Tryz.pinned (.plain (OpenSpec.ofChange tapeRicherSpec)) tapeRicherCard

/-- THE TIED CARD OF 'paravanelaw08.TapeUnpacks'. -/
def tapeUnpacksCard : Claim7 := { stood := { row := tapeUnpacksRow, standIns := [], harness := (true, "a240f5f33159a631faad939b4292caabc3116cce3bb5dcc867bd8b6cbbcf258b"), looks := true }, kinds := [], alts := [], laidByText := true, laidKinds := [.data, .data, .data], laidTests := true, laidLooks := .later }
def TapeUnpacksCardSaid : Prop := Claim7.holds Tryz.pinned (.plain (OpenSpec.ofChange tapeUnpacksSpec)) tapeUnpacksCard

/-- THE TIED CARD OF 'paravanelaw08.TapeBack'. -/
def tapeBackCard : Claim7 := { stood := { row := tapeBackRow, standIns := [], harness := (true, "a240f5f33159a631faad939b4292caabc3116cce3bb5dcc867bd8b6cbbcf258b"), looks := true }, kinds := [], alts := [], laidByText := true, laidKinds := [.data, .data, .data], laidTests := true, laidLooks := .later }
def TapeBackCardSaid : Prop := Claim7.holds Tryz.pinned (.plain (OpenSpec.ofChange tapeBackSpec)) tapeBackCard

/-- THE TIED CARD OF 'paravanelaw08.TapeWhole'. -/
def tapeWholeCard : Claim7 := { stood := { row := tapeWholeRow, standIns := [], harness := (true, "a240f5f33159a631faad939b4292caabc3116cce3bb5dcc867bd8b6cbbcf258b"), looks := true }, kinds := [], alts := [], laidByText := true, laidKinds := [.data, .data, .data], laidTests := true, laidLooks := .later }
def TapeWholeCardSaid : Prop := Claim7.holds Tryz.pinned (.plain (OpenSpec.ofChange tapeWholeSpec)) tapeWholeCard

/-- THE TIED CARD OF 'paravanelaw08.TapeRepairs'. -/
def tapeRepairsCard : Claim7 := { stood := { row := tapeRepairsRow, standIns := [], harness := (true, "a240f5f33159a631faad939b4292caabc3116cce3bb5dcc867bd8b6cbbcf258b"), looks := true }, kinds := [], alts := [], laidByText := true, laidKinds := [.data, .data, .data], laidTests := true, laidLooks := .later }
def TapeRepairsCardSaid : Prop := Claim7.holds Tryz.pinned (.plain (OpenSpec.ofChange tapeRepairsSpec)) tapeRepairsCard

/-- THE TIED CARD OF 'paravanelaw08.TapeMended'. -/
def tapeMendedCard : Claim7 := { stood := { row := tapeMendedRow, standIns := [], harness := (true, "a240f5f33159a631faad939b4292caabc3116cce3bb5dcc867bd8b6cbbcf258b"), looks := true }, kinds := [], alts := [], laidByText := true, laidKinds := [.data, .data, .data], laidTests := true, laidLooks := .later }
def TapeMendedCardSaid : Prop := Claim7.holds Tryz.pinned (.plain (OpenSpec.ofChange tapeMendedSpec)) tapeMendedCard

/-- THE TIED CARD OF 'paravanelaw08.TapePlaces'. -/
def tapePlacesCard : Claim7 := { stood := { row := tapePlacesRow, standIns := [], harness := (true, "a240f5f33159a631faad939b4292caabc3116cce3bb5dcc867bd8b6cbbcf258b"), looks := true }, kinds := [], alts := [], laidByText := true, laidKinds := [.data, .data, .data, .sentinel, .sentinel], laidTests := true, laidLooks := .later }
def TapePlacesCardSaid : Prop := Claim7.holds Tryz.pinned (.plain (OpenSpec.ofChange tapePlacesSpec)) tapePlacesCard

/-- THE SECOND FORM's CARD OF 'paravanelaw08.TapeLacks'. -/
def tapeLacksUptoCard : Claim7 := { stood := { row := tapeLacksUptoRow, standIns := [], harness := (true, "a240f5f33159a631faad939b4292caabc3116cce3bb5dcc867bd8b6cbbcf258b"), looks := true }, kinds := [], alts := [], laidByText := true, laidKinds := [.data, .data, .data], laidTests := true, laidLooks := .later }
def TapeLacksUptoCardSaid : Prop := Claim7.holds Tryz.pinned (.plain (OpenSpec.upto tapeLacksSpec)) tapeLacksUptoCard

/-- THE SECOND FORM's CARD OF 'paravanelaw08.TapeMarksBack'. -/
def tapeMarksBackUptoCard : Claim7 := { stood := { row := tapeMarksBackUptoRow, standIns := [], harness := (true, "a240f5f33159a631faad939b4292caabc3116cce3bb5dcc867bd8b6cbbcf258b"), looks := true }, kinds := [], alts := [], laidByText := true, laidKinds := [.data, .data, .data, .sentinel, .sentinel], laidTests := true, laidLooks := .later }
def TapeMarksBackUptoCardSaid : Prop := Claim7.holds Tryz.pinned (.plain (OpenSpec.upto tapeMarksBackSpec)) tapeMarksBackUptoCard

/-- THE SECOND FORM's CARD OF 'paravanelaw08.TapeMerges'. -/
def tapeMergesUptoCard : Claim7 := { stood := { row := tapeMergesUptoRow, standIns := [], harness := (true, "a240f5f33159a631faad939b4292caabc3116cce3bb5dcc867bd8b6cbbcf258b"), looks := true }, kinds := [], alts := [], laidByText := true, laidKinds := [.data, .data, .data], laidTests := true, laidLooks := .later }
def TapeMergesUptoCardSaid : Prop := Claim7.holds Tryz.pinned (.plain (OpenSpec.upto tapeMergesSpec)) tapeMergesUptoCard

/-- THE SECOND FORM's CARD OF 'paravanelaw08.TapeOne'. -/
def tapeOneUptoCard : Claim7 := { stood := { row := tapeOneUptoRow, standIns := [], harness := (true, "a240f5f33159a631faad939b4292caabc3116cce3bb5dcc867bd8b6cbbcf258b"), looks := true }, kinds := [], alts := [], laidByText := true, laidKinds := [.data, .data, .data], laidTests := true, laidLooks := .later }
def TapeOneUptoCardSaid : Prop := Claim7.holds Tryz.pinned (.plain (OpenSpec.upto tapeOneSpec)) tapeOneUptoCard

/-- THE SECOND FORM's CARD OF 'paravanelaw08.TapeRicher'. -/
def tapeRicherUptoCard : Claim7 := { stood := { row := tapeRicherUptoRow, standIns := [], harness := (true, "a240f5f33159a631faad939b4292caabc3116cce3bb5dcc867bd8b6cbbcf258b"), looks := true }, kinds := [], alts := [], laidByText := true, laidKinds := [.data, .data, .data], laidTests := true, laidLooks := .later }
def TapeRicherUptoCardSaid : Prop := Claim7.holds Tryz.pinned (.plain (OpenSpec.upto tapeRicherSpec)) tapeRicherUptoCard

/-- THE SECOND FORM's CARD OF 'paravanelaw08.TapeUnpacks'. -/
def tapeUnpacksUptoCard : Claim7 := { stood := { row := tapeUnpacksUptoRow, standIns := [], harness := (true, "a240f5f33159a631faad939b4292caabc3116cce3bb5dcc867bd8b6cbbcf258b"), looks := true }, kinds := [], alts := [], laidByText := true, laidKinds := [.data, .data, .data], laidTests := true, laidLooks := .later }
def TapeUnpacksUptoCardSaid : Prop := Claim7.holds Tryz.pinned (.plain (OpenSpec.upto tapeUnpacksSpec)) tapeUnpacksUptoCard

/-- THE SECOND FORM's CARD OF 'paravanelaw08.TapeBack'. -/
def tapeBackUptoCard : Claim7 := { stood := { row := tapeBackUptoRow, standIns := [], harness := (true, "a240f5f33159a631faad939b4292caabc3116cce3bb5dcc867bd8b6cbbcf258b"), looks := true }, kinds := [], alts := [], laidByText := true, laidKinds := [.data, .data, .data], laidTests := true, laidLooks := .later }
def TapeBackUptoCardSaid : Prop := Claim7.holds Tryz.pinned (.plain (OpenSpec.upto tapeBackSpec)) tapeBackUptoCard

/-- THE SECOND FORM's CARD OF 'paravanelaw08.TapeWhole'. -/
def tapeWholeUptoCard : Claim7 := { stood := { row := tapeWholeUptoRow, standIns := [], harness := (true, "a240f5f33159a631faad939b4292caabc3116cce3bb5dcc867bd8b6cbbcf258b"), looks := true }, kinds := [], alts := [], laidByText := true, laidKinds := [.data, .data, .data], laidTests := true, laidLooks := .later }
def TapeWholeUptoCardSaid : Prop := Claim7.holds Tryz.pinned (.plain (OpenSpec.upto tapeWholeSpec)) tapeWholeUptoCard

/-- THE SECOND FORM's CARD OF 'paravanelaw08.TapeRepairs'. -/
def tapeRepairsUptoCard : Claim7 := { stood := { row := tapeRepairsUptoRow, standIns := [], harness := (true, "a240f5f33159a631faad939b4292caabc3116cce3bb5dcc867bd8b6cbbcf258b"), looks := true }, kinds := [], alts := [], laidByText := true, laidKinds := [.data, .data, .data], laidTests := true, laidLooks := .later }
def TapeRepairsUptoCardSaid : Prop := Claim7.holds Tryz.pinned (.plain (OpenSpec.upto tapeRepairsSpec)) tapeRepairsUptoCard

/-- THE SECOND FORM's CARD OF 'paravanelaw08.TapeMended'. -/
def tapeMendedUptoCard : Claim7 := { stood := { row := tapeMendedUptoRow, standIns := [], harness := (true, "a240f5f33159a631faad939b4292caabc3116cce3bb5dcc867bd8b6cbbcf258b"), looks := true }, kinds := [], alts := [], laidByText := true, laidKinds := [.data, .data, .data], laidTests := true, laidLooks := .later }
def TapeMendedUptoCardSaid : Prop := Claim7.holds Tryz.pinned (.plain (OpenSpec.upto tapeMendedSpec)) tapeMendedUptoCard

/-- THE SECOND FORM's CARD OF 'paravanelaw08.TapePlaces'. -/
def tapePlacesUptoCard : Claim7 := { stood := { row := tapePlacesUptoRow, standIns := [], harness := (true, "a240f5f33159a631faad939b4292caabc3116cce3bb5dcc867bd8b6cbbcf258b"), looks := true }, kinds := [], alts := [], laidByText := true, laidKinds := [.data, .data, .data, .sentinel, .sentinel], laidTests := true, laidLooks := .later }
def TapePlacesUptoCardSaid : Prop := Claim7.holds Tryz.pinned (.plain (OpenSpec.upto tapePlacesSpec)) tapePlacesUptoCard
end Rows
end Go.Proofs.YtbfnnllgdioccaaGreatDoor
