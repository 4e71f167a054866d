/-
  DERIVED. GIVEN WITH THE SEED: THE CARDS: each row of YtegiepfebnaebaaGreatDoorRows.lean that lists a variable, with what it lists TIED to the program's text (the seventh form; the later family's looks); each row that meets fmt, with fmt's text TOLD by the authors' own Lean function (tested against real Go, not proved from fmt's source: count such statements apart). THE CARD IS WHAT COUNTS. Prove the row's statement (the work); the ties are given (YtegiepfebnaebaaGreatDoorTie.lean); close each card by the builder's one call (the guide's Derived/Test/ToyasCard.lean, 'card_holds'). Laid BY PROGRAM, IN A SANDBOX (cutbox-door.mjs). By AI agents, Wed Nov 11 2026. No macro, syntax, notation, axiom, sorry.
-/
import Derived.Test.YtegiepfebnaebaaGreatDoorRows
import GoSem.ClaimSeven
namespace Go.Proofs.YtegiepfebnaebaaGreatDoor
namespace Rows

/-- THE TIED CARD OF 'paravanelaw08.TapeMarks'. -/
def tapeMarksCard : Claim7 := { stood := { row := tapeMarksRow, standIns := [], harness := (true, "9f7d801ee50d3bc03ded156f3197b9cebf1d3904b75d23da3f77e1350621c31c"), looks := true }, kinds := [], alts := [], laidByText := true, laidKinds := [.data, .data, .data, .sentinel, .sentinel], laidTests := true, laidLooks := .later }
def TapeMarksCardSaid : Prop := Claim7.holds Tryz.pinned (.plain (OpenSpec.ofChange tapeMarksSpec)) tapeMarksCard

/-- THE TIED CARD OF 'paravanelaw08.TapeMarksBack'. -/
def tapeMarksBackCard : Claim7 := { stood := { row := tapeMarksBackRow, standIns := [], harness := (true, "9f7d801ee50d3bc03ded156f3197b9cebf1d3904b75d23da3f77e1350621c31c"), looks := true }, kinds := [], alts := [], laidByText := true, laidKinds := [.data, .data, .data, .sentinel, .sentinel], laidTests := true, laidLooks := .later }
def TapeMarksBackCardSaid : Prop := Claim7.holds Tryz.pinned (.plain (OpenSpec.ofChange tapeMarksBackSpec)) tapeMarksBackCard

/-- THE TIED CARD OF 'paravanelaw08.TapePlaces'. -/
def tapePlacesCard : Claim7 := { stood := { row := tapePlacesRow, standIns := [], harness := (true, "9f7d801ee50d3bc03ded156f3197b9cebf1d3904b75d23da3f77e1350621c31c"), looks := true }, kinds := [], alts := [], laidByText := true, laidKinds := [.data, .data, .data, .sentinel, .sentinel], laidTests := true, laidLooks := .later }
def TapePlacesCardSaid : Prop := Claim7.holds Tryz.pinned (.plain (OpenSpec.ofChange tapePlacesSpec)) tapePlacesCard

/-- THE SECOND FORM's CARD OF 'paravanelaw08.TapeMarks'. -/
def tapeMarksUptoCard : Claim7 := { stood := { row := tapeMarksUptoRow, standIns := [], harness := (true, "9f7d801ee50d3bc03ded156f3197b9cebf1d3904b75d23da3f77e1350621c31c"), looks := true }, kinds := [], alts := [], laidByText := true, laidKinds := [.data, .data, .data, .sentinel, .sentinel], laidTests := true, laidLooks := .later }
def TapeMarksUptoCardSaid : Prop := Claim7.holds Tryz.pinned (.plain (OpenSpec.upto tapeMarksSpec)) tapeMarksUptoCard

/-- THE SECOND FORM's CARD OF 'paravanelaw08.TapeMarksBack'. -/
def tapeMarksBackUptoCard : Claim7 := { stood := { row := tapeMarksBackUptoRow, standIns := [], harness := (true, "9f7d801ee50d3bc03ded156f3197b9cebf1d3904b75d23da3f77e1350621c31c"), looks := true }, kinds := [], alts := [], laidByText := true, laidKinds := [.data, .data, .data, .sentinel, .sentinel], laidTests := true, laidLooks := .later }
def TapeMarksBackUptoCardSaid : Prop := Claim7.holds Tryz.pinned (.plain (OpenSpec.upto tapeMarksBackSpec)) tapeMarksBackUptoCard

/-- THE SECOND FORM's CARD OF 'paravanelaw08.TapePlaces'. -/
def tapePlacesUptoCard : Claim7 := { stood := { row := tapePlacesUptoRow, standIns := [], harness := (true, "9f7d801ee50d3bc03ded156f3197b9cebf1d3904b75d23da3f77e1350621c31c"), looks := true }, kinds := [], alts := [], laidByText := true, laidKinds := [.data, .data, .data, .sentinel, .sentinel], laidTests := true, laidLooks := .later }
def TapePlacesUptoCardSaid : Prop := Claim7.holds Tryz.pinned (.plain (OpenSpec.upto tapePlacesSpec)) tapePlacesUptoCard
end Rows
end Go.Proofs.YtegiepfebnaebaaGreatDoor
