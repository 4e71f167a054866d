/-
  DERIVED. GIVEN WITH THE SEED: THE CARDS: each row of YtpgalhbplcanhaaGreatDoorRows.lean that lists a variable, with what it lists TIED to the program's text (the seventh form; the later family's looks); each row that meets fmt, with fmt's text TOLD by the authors' own Lean function (tested against real Go, not proved from fmt's source: count such statements apart). THE CARD IS WHAT COUNTS. Prove the row's statement (the work); the ties are given (YtpgalhbplcanhaaGreatDoorTie.lean); close each card by the builder's one call (the guide's Derived/Test/ToyasCard.lean, 'card_holds'). Laid BY PROGRAM, IN A SANDBOX (cutbox-door.mjs). By AI agents, Wed Nov 11 2026. No macro, syntax, notation, axiom, sorry.
-/
import Derived.Test.YtpgalhbplcanhaaGreatDoorRows
import GoSem.ClaimSeven
namespace Go.Proofs.YtpgalhbplcanhaaGreatDoor
namespace Rows

/-- THE TIED CARD OF 'paravanetop.TopVoyage'. -/
def topVoyageCard : Claim7 := { stood := { row := topVoyageRow, standIns := [], harness := (true, "5f3639cfa1c278c251a9e0673a332e4aeb2ce1278dc51da85519884636aefc44"), looks := true }, kinds := [], alts := [], laidByText := true, laidKinds := [.data, .data, .data, .data, .data, .funcs, .sentinel, .sentinel], laidTests := true, laidLooks := .later }
def TopVoyageCardSaid : Prop := Claim7.holds Tryz.pinned (.plain (OpenSpec.ofChange topVoyageSpec)) topVoyageCard

/-- THE TIED CARD OF 'paravanetop.TopLogged'. -/
def topLoggedCard : Claim7 := { stood := { row := topLoggedRow, standIns := [], harness := (true, "5f3639cfa1c278c251a9e0673a332e4aeb2ce1278dc51da85519884636aefc44"), looks := true }, kinds := [], alts := [], laidByText := true, laidKinds := [.data, .data, .data, .data, .data, .funcs], laidTests := true, laidLooks := .later }
def TopLoggedCardSaid : Prop := Claim7.holds Tryz.pinned (.plain (OpenSpec.ofChange topLoggedSpec)) topLoggedCard

/-- THE TIED CARD OF 'paravanelaw08.TapeKept'. -/
def tapeKeptCard : Claim7 := { stood := { row := tapeKeptRow, standIns := [], harness := (true, "5f3639cfa1c278c251a9e0673a332e4aeb2ce1278dc51da85519884636aefc44"), looks := true }, kinds := [], alts := [], laidByText := true, laidKinds := [.data, .data, .data, .data, .funcs], laidTests := true, laidLooks := .later }
def TapeKeptCardSaid : Prop := Claim7.holds Tryz.pinned (.plain (OpenSpec.ofChange tapeKeptSpec)) tapeKeptCard

/-- THE TIED CARD OF 'paravanelaw08.TapeHeld'. -/
def tapeHeldCard : Claim7 := { stood := { row := tapeHeldRow, standIns := [], harness := (true, "5f3639cfa1c278c251a9e0673a332e4aeb2ce1278dc51da85519884636aefc44"), looks := true }, kinds := [], alts := [], laidByText := true, laidKinds := [.data, .data, .data, .data, .funcs], laidTests := true, laidLooks := .later }
def TapeHeldCardSaid : Prop := Claim7.holds Tryz.pinned (.plain (OpenSpec.ofChange tapeHeldSpec)) tapeHeldCard

/-- THE TIED CARD OF 'paravanetop.TopMarked'. -/
def topMarkedCard : Claim7 := { stood := { row := topMarkedRow, standIns := [], harness := (true, "5f3639cfa1c278c251a9e0673a332e4aeb2ce1278dc51da85519884636aefc44"), looks := true }, kinds := [], alts := [], laidByText := true, laidKinds := [.data, .data, .data, .data, .data, .funcs, .sentinel, .sentinel], laidTests := true, laidLooks := .later }
def TopMarkedCardSaid : Prop := Claim7.holds Tryz.pinned (.plain (OpenSpec.ofChange topMarkedSpec)) topMarkedCard

/-- THE SECOND FORM's CARD OF 'paravanetop.TopVoyage'. -/
def topVoyageUptoCard : Claim7 := { stood := { row := topVoyageUptoRow, standIns := [], harness := (true, "5f3639cfa1c278c251a9e0673a332e4aeb2ce1278dc51da85519884636aefc44"), looks := true }, kinds := [], alts := [], laidByText := true, laidKinds := [.data, .data, .data, .data, .data, .funcs, .sentinel, .sentinel], laidTests := true, laidLooks := .later }
def TopVoyageUptoCardSaid : Prop := Claim7.holds Tryz.pinned (.plain (OpenSpec.upto topVoyageSpec)) topVoyageUptoCard

/-- THE SECOND FORM's CARD OF 'paravanetop.TopLogged'. -/
def topLoggedUptoCard : Claim7 := { stood := { row := topLoggedUptoRow, standIns := [], harness := (true, "5f3639cfa1c278c251a9e0673a332e4aeb2ce1278dc51da85519884636aefc44"), looks := true }, kinds := [], alts := [], laidByText := true, laidKinds := [.data, .data, .data, .data, .data, .funcs], laidTests := true, laidLooks := .later }
def TopLoggedUptoCardSaid : Prop := Claim7.holds Tryz.pinned (.plain (OpenSpec.upto topLoggedSpec)) topLoggedUptoCard

/-- THE SECOND FORM's CARD OF 'paravanelaw08.TapeKept'. -/
def tapeKeptUptoCard : Claim7 := { stood := { row := tapeKeptUptoRow, standIns := [], harness := (true, "5f3639cfa1c278c251a9e0673a332e4aeb2ce1278dc51da85519884636aefc44"), looks := true }, kinds := [], alts := [], laidByText := true, laidKinds := [.data, .data, .data, .data, .funcs], laidTests := true, laidLooks := .later }
def TapeKeptUptoCardSaid : Prop := Claim7.holds Tryz.pinned (.plain (OpenSpec.upto tapeKeptSpec)) tapeKeptUptoCard

/-- THE SECOND FORM's CARD OF 'paravanelaw08.TapeHeld'. -/
def tapeHeldUptoCard : Claim7 := { stood := { row := tapeHeldUptoRow, standIns := [], harness := (true, "5f3639cfa1c278c251a9e0673a332e4aeb2ce1278dc51da85519884636aefc44"), looks := true }, kinds := [], alts := [], laidByText := true, laidKinds := [.data, .data, .data, .data, .funcs], laidTests := true, laidLooks := .later }
def TapeHeldUptoCardSaid : Prop := Claim7.holds Tryz.pinned (.plain (OpenSpec.upto tapeHeldSpec)) tapeHeldUptoCard

/-- THE SECOND FORM's CARD OF 'paravanetop.TopMarked'. -/
def topMarkedUptoCard : Claim7 := { stood := { row := topMarkedUptoRow, standIns := [], harness := (true, "5f3639cfa1c278c251a9e0673a332e4aeb2ce1278dc51da85519884636aefc44"), looks := true }, kinds := [], alts := [], laidByText := true, laidKinds := [.data, .data, .data, .data, .data, .funcs, .sentinel, .sentinel], laidTests := true, laidLooks := .later }
def TopMarkedUptoCardSaid : Prop := Claim7.holds Tryz.pinned (.plain (OpenSpec.upto topMarkedSpec)) topMarkedUptoCard
end Rows
end Go.Proofs.YtpgalhbplcanhaaGreatDoor
