/-
  DERIVED. GIVEN WITH THE SEED: THE CARDS: each row of YtlfkmgpngkbhpaaGreatDoorRows.lean that lists a variable, with what it lists TIED to the program's text (the seventh form; the later family's looks); each row that meets fmt, with fmt's text TOLD by the authors' own Lean function (tested against real Go, not proved from fmt's source: count such statements apart). THE CARD IS WHAT COUNTS. Prove the row's statement (the work); the ties are given (YtlfkmgpngkbhpaaGreatDoorTie.lean); close each card by the builder's one call (the guide's Derived/Test/ToyasCard.lean, 'card_holds'). Laid BY PROGRAM, IN A SANDBOX (cutbox-door.mjs). By AI agents, Wed Nov 11 2026. No macro, syntax, notation, axiom, sorry.
-/
import Derived.Test.YtlfkmgpngkbhpaaGreatDoorRows
import GoSem.ClaimSeven
namespace Go.Proofs.YtlfkmgpngkbhpaaGreatDoor
namespace Rows

/-- THE TIED CARD OF 'paravanelaw08.TapeKnown'. -/
def tapeKnownCard : Claim7 := { stood := { row := tapeKnownRow, standIns := [], harness := (true, "98953e6f8e3863e63e059d328c029a1e6f18e37d595f25ff01b7ec5ff9823151"), looks := true }, kinds := [], alts := [], laidByText := true, laidKinds := [.data, .data, .data, .sentinel, .sentinel], laidTests := true, laidLooks := .later }
def TapeKnownCardSaid : Prop := Claim7.holds Tryz.pinned (.plain (OpenSpec.ofChange tapeKnownSpec)) tapeKnownCard

/-- THE TIED CARD OF 'paravanelaw08.TapePacks'. -/
def tapePacksCard : Claim7 := { stood := { row := tapePacksRow, standIns := [], harness := (true, "98953e6f8e3863e63e059d328c029a1e6f18e37d595f25ff01b7ec5ff9823151"), looks := true }, kinds := [], alts := [], laidByText := true, laidKinds := [.data, .data, .data], laidTests := true, laidLooks := .later }
def TapePacksCardSaid : Prop := Claim7.holds Tryz.pinned (.plain (OpenSpec.ofChange tapePacksSpec)) tapePacksCard

/-- THE TIED CARD OF 'paravanelaw08.TapeJoins'. -/
def tapeJoinsCard : Claim7 := { stood := { row := tapeJoinsRow, standIns := [], harness := (true, "98953e6f8e3863e63e059d328c029a1e6f18e37d595f25ff01b7ec5ff9823151"), looks := true }, kinds := [], alts := [], laidByText := true, laidKinds := [.data, .data, .data], laidTests := true, laidLooks := .later }
def TapeJoinsCardSaid : Prop := Claim7.holds Tryz.pinned (.plain (OpenSpec.ofChange tapeJoinsSpec)) tapeJoinsCard

/-- THE TIED CARD OF 'paravanelaw08.TapeFills'. -/
def tapeFillsCard : Claim7 := { stood := { row := tapeFillsRow, standIns := [], harness := (true, "98953e6f8e3863e63e059d328c029a1e6f18e37d595f25ff01b7ec5ff9823151"), looks := true }, kinds := [], alts := [], laidByText := true, laidKinds := [.data, .data, .data], laidTests := true, laidLooks := .later }
def TapeFillsCardSaid : Prop := Claim7.holds Tryz.pinned (.plain (OpenSpec.ofChange tapeFillsSpec)) tapeFillsCard

/-- THE TIED CARD OF 'paravanelaw08.TapePriced'. -/
def tapePricedCard : Claim7 := { stood := { row := tapePricedRow, standIns := [], harness := (true, "98953e6f8e3863e63e059d328c029a1e6f18e37d595f25ff01b7ec5ff9823151"), looks := true }, kinds := [], alts := [], laidByText := true, laidKinds := [.data, .data, .data], laidTests := true, laidLooks := .later }
def TapePricedCardSaid : Prop := Claim7.holds Tryz.pinned (.plain (OpenSpec.ofChange tapePricedSpec)) tapePricedCard

/-- THE TIED CARD OF 'paravanelaw08.TapeChecked'. -/
def tapeCheckedCard : Claim7 := { stood := { row := tapeCheckedRow, standIns := [], harness := (true, "98953e6f8e3863e63e059d328c029a1e6f18e37d595f25ff01b7ec5ff9823151"), looks := true }, kinds := [], alts := [], laidByText := true, laidKinds := [.data, .data, .data], laidTests := true, laidLooks := .later }
def TapeCheckedCardSaid : Prop := Claim7.holds Tryz.pinned (.plain (OpenSpec.ofChange tapeCheckedSpec)) tapeCheckedCard

/-- THE TIED CARD OF 'paravanelaw08.TapeAlike'. -/
def tapeAlikeCard : Claim7 := { stood := { row := tapeAlikeRow, standIns := [], harness := (true, "98953e6f8e3863e63e059d328c029a1e6f18e37d595f25ff01b7ec5ff9823151"), looks := true }, kinds := [], alts := [], laidByText := true, laidKinds := [.data, .data, .data], laidTests := true, laidLooks := .later }
def TapeAlikeCardSaid : Prop := Claim7.holds Tryz.pinned (.plain (OpenSpec.ofChange tapeAlikeSpec)) tapeAlikeCard

/-- THE TIED CARD OF 'paravanelaw08.TapeTrue'. -/
def tapeTrueCard : Claim7 := { stood := { row := tapeTrueRow, standIns := [], harness := (true, "98953e6f8e3863e63e059d328c029a1e6f18e37d595f25ff01b7ec5ff9823151"), looks := true }, kinds := [], alts := [], laidByText := true, laidKinds := [.data, .data, .data], laidTests := true, laidLooks := .later }
def TapeTrueCardSaid : Prop := Claim7.holds Tryz.pinned (.plain (OpenSpec.ofChange tapeTrueSpec)) tapeTrueCard

/-- THE TIED CARD OF 'paravanelaw08.TapeCheapest'. -/
def tapeCheapestCard : Claim7 := { stood := { row := tapeCheapestRow, standIns := [], harness := (true, "98953e6f8e3863e63e059d328c029a1e6f18e37d595f25ff01b7ec5ff9823151"), looks := true }, kinds := [], alts := [], laidByText := true, laidKinds := [.data, .data, .data], laidTests := true, laidLooks := .later }
def TapeCheapestCardSaid : Prop := Claim7.holds Tryz.pinned (.plain (OpenSpec.ofChange tapeCheapestSpec)) tapeCheapestCard

/-- THE TIED CARD OF 'paravanelaw08.TapeDearer'. -/
def tapeDearerCard : Claim7 := { stood := { row := tapeDearerRow, standIns := [], harness := (true, "98953e6f8e3863e63e059d328c029a1e6f18e37d595f25ff01b7ec5ff9823151"), looks := true }, kinds := [], alts := [], laidByText := true, laidKinds := [.data, .data, .data], laidTests := true, laidLooks := .later }
def TapeDearerCardSaid : Prop := Claim7.holds Tryz.pinned (.plain (OpenSpec.ofChange tapeDearerSpec)) tapeDearerCard

/-- THE TIED CARD OF 'paravanelaw08.TapeAgains'. -/
def tapeAgainsCard : Claim7 := { stood := { row := tapeAgainsRow, standIns := [], harness := (true, "98953e6f8e3863e63e059d328c029a1e6f18e37d595f25ff01b7ec5ff9823151"), looks := true }, kinds := [], alts := [], laidByText := true, laidKinds := [.data, .data, .data], laidTests := true, laidLooks := .later }
def TapeAgainsCardSaid : Prop := Claim7.holds Tryz.pinned (.plain (OpenSpec.ofChange tapeAgainsSpec)) tapeAgainsCard

/-- THE TIED CARD OF 'paravanelaw08.TapeMarks'. -/
def tapeMarksCard : Claim7 := { stood := { row := tapeMarksRow, standIns := [], harness := (true, "98953e6f8e3863e63e059d328c029a1e6f18e37d595f25ff01b7ec5ff9823151"), looks := true }, kinds := [], alts := [], laidByText := true, laidKinds := [.data, .data, .data, .sentinel, .sentinel], laidTests := true, laidLooks := .later }
def TapeMarksCardSaid : Prop := Claim7.holds Tryz.pinned (.plain (OpenSpec.ofChange tapeMarksSpec)) tapeMarksCard

/-- THE SECOND FORM's CARD OF 'paravanelaw08.TapeKnown'. -/
def tapeKnownUptoCard : Claim7 := { stood := { row := tapeKnownUptoRow, standIns := [], harness := (true, "98953e6f8e3863e63e059d328c029a1e6f18e37d595f25ff01b7ec5ff9823151"), looks := true }, kinds := [], alts := [], laidByText := true, laidKinds := [.data, .data, .data, .sentinel, .sentinel], laidTests := true, laidLooks := .later }
def TapeKnownUptoCardSaid : Prop := Claim7.holds Tryz.pinned (.plain (OpenSpec.upto tapeKnownSpec)) tapeKnownUptoCard

/-- THE SECOND FORM's CARD OF 'paravanelaw08.TapePacks'. -/
def tapePacksUptoCard : Claim7 := { stood := { row := tapePacksUptoRow, standIns := [], harness := (true, "98953e6f8e3863e63e059d328c029a1e6f18e37d595f25ff01b7ec5ff9823151"), looks := true }, kinds := [], alts := [], laidByText := true, laidKinds := [.data, .data, .data], laidTests := true, laidLooks := .later }
def TapePacksUptoCardSaid : Prop := Claim7.holds Tryz.pinned (.plain (OpenSpec.upto tapePacksSpec)) tapePacksUptoCard

/-- THE SECOND FORM's CARD OF 'paravanelaw08.TapeJoins'. -/
def tapeJoinsUptoCard : Claim7 := { stood := { row := tapeJoinsUptoRow, standIns := [], harness := (true, "98953e6f8e3863e63e059d328c029a1e6f18e37d595f25ff01b7ec5ff9823151"), looks := true }, kinds := [], alts := [], laidByText := true, laidKinds := [.data, .data, .data], laidTests := true, laidLooks := .later }
def TapeJoinsUptoCardSaid : Prop := Claim7.holds Tryz.pinned (.plain (OpenSpec.upto tapeJoinsSpec)) tapeJoinsUptoCard

/-- THE SECOND FORM's CARD OF 'paravanelaw08.TapeFills'. -/
def tapeFillsUptoCard : Claim7 := { stood := { row := tapeFillsUptoRow, standIns := [], harness := (true, "98953e6f8e3863e63e059d328c029a1e6f18e37d595f25ff01b7ec5ff9823151"), looks := true }, kinds := [], alts := [], laidByText := true, laidKinds := [.data, .data, .data], laidTests := true, laidLooks := .later }
def TapeFillsUptoCardSaid : Prop := Claim7.holds Tryz.pinned (.plain (OpenSpec.upto tapeFillsSpec)) tapeFillsUptoCard

/-- THE SECOND FORM's CARD OF 'paravanelaw08.TapePriced'. -/
def tapePricedUptoCard : Claim7 := { stood := { row := tapePricedUptoRow, standIns := [], harness := (true, "98953e6f8e3863e63e059d328c029a1e6f18e37d595f25ff01b7ec5ff9823151"), looks := true }, kinds := [], alts := [], laidByText := true, laidKinds := [.data, .data, .data], laidTests := true, laidLooks := .later }
def TapePricedUptoCardSaid : Prop := Claim7.holds Tryz.pinned (.plain (OpenSpec.upto tapePricedSpec)) tapePricedUptoCard

/-- THE SECOND FORM's CARD OF 'paravanelaw08.TapeChecked'. -/
def tapeCheckedUptoCard : Claim7 := { stood := { row := tapeCheckedUptoRow, standIns := [], harness := (true, "98953e6f8e3863e63e059d328c029a1e6f18e37d595f25ff01b7ec5ff9823151"), looks := true }, kinds := [], alts := [], laidByText := true, laidKinds := [.data, .data, .data], laidTests := true, laidLooks := .later }
def TapeCheckedUptoCardSaid : Prop := Claim7.holds Tryz.pinned (.plain (OpenSpec.upto tapeCheckedSpec)) tapeCheckedUptoCard

/-- THE SECOND FORM's CARD OF 'paravanelaw08.TapeAlike'. -/
def tapeAlikeUptoCard : Claim7 := { stood := { row := tapeAlikeUptoRow, standIns := [], harness := (true, "98953e6f8e3863e63e059d328c029a1e6f18e37d595f25ff01b7ec5ff9823151"), looks := true }, kinds := [], alts := [], laidByText := true, laidKinds := [.data, .data, .data], laidTests := true, laidLooks := .later }
def TapeAlikeUptoCardSaid : Prop := Claim7.holds Tryz.pinned (.plain (OpenSpec.upto tapeAlikeSpec)) tapeAlikeUptoCard

/-- THE SECOND FORM's CARD OF 'paravanelaw08.TapeTrue'. -/
def tapeTrueUptoCard : Claim7 := { stood := { row := tapeTrueUptoRow, standIns := [], harness := (true, "98953e6f8e3863e63e059d328c029a1e6f18e37d595f25ff01b7ec5ff9823151"), looks := true }, kinds := [], alts := [], laidByText := true, laidKinds := [.data, .data, .data], laidTests := true, laidLooks := .later }
def TapeTrueUptoCardSaid : Prop := Claim7.holds Tryz.pinned (.plain (OpenSpec.upto tapeTrueSpec)) tapeTrueUptoCard

/-- THE SECOND FORM's CARD OF 'paravanelaw08.TapeCheapest'. -/
def tapeCheapestUptoCard : Claim7 := { stood := { row := tapeCheapestUptoRow, standIns := [], harness := (true, "98953e6f8e3863e63e059d328c029a1e6f18e37d595f25ff01b7ec5ff9823151"), looks := true }, kinds := [], alts := [], laidByText := true, laidKinds := [.data, .data, .data], laidTests := true, laidLooks := .later }
def TapeCheapestUptoCardSaid : Prop := Claim7.holds Tryz.pinned (.plain (OpenSpec.upto tapeCheapestSpec)) tapeCheapestUptoCard

/-- THE SECOND FORM's CARD OF 'paravanelaw08.TapeDearer'. -/
def tapeDearerUptoCard : Claim7 := { stood := { row := tapeDearerUptoRow, standIns := [], harness := (true, "98953e6f8e3863e63e059d328c029a1e6f18e37d595f25ff01b7ec5ff9823151"), looks := true }, kinds := [], alts := [], laidByText := true, laidKinds := [.data, .data, .data], laidTests := true, laidLooks := .later }
def TapeDearerUptoCardSaid : Prop := Claim7.holds Tryz.pinned (.plain (OpenSpec.upto tapeDearerSpec)) tapeDearerUptoCard

/-- THE SECOND FORM's CARD OF 'paravanelaw08.TapeAgains'. -/
def tapeAgainsUptoCard : Claim7 := { stood := { row := tapeAgainsUptoRow, standIns := [], harness := (true, "98953e6f8e3863e63e059d328c029a1e6f18e37d595f25ff01b7ec5ff9823151"), looks := true }, kinds := [], alts := [], laidByText := true, laidKinds := [.data, .data, .data], laidTests := true, laidLooks := .later }
def TapeAgainsUptoCardSaid : Prop := Claim7.holds Tryz.pinned (.plain (OpenSpec.upto tapeAgainsSpec)) tapeAgainsUptoCard

/-- THE SECOND FORM's CARD OF 'paravanelaw08.TapeMarks'. -/
def tapeMarksUptoCard : Claim7 := { stood := { row := tapeMarksUptoRow, standIns := [], harness := (true, "98953e6f8e3863e63e059d328c029a1e6f18e37d595f25ff01b7ec5ff9823151"), looks := true }, kinds := [], alts := [], laidByText := true, laidKinds := [.data, .data, .data, .sentinel, .sentinel], laidTests := true, laidLooks := .later }
def TapeMarksUptoCardSaid : Prop := Claim7.holds Tryz.pinned (.plain (OpenSpec.upto tapeMarksSpec)) tapeMarksUptoCard
end Rows
end Go.Proofs.YtlfkmgpngkbhpaaGreatDoor
