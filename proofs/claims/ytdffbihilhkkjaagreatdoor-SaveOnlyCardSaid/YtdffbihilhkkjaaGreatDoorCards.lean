/-
  DERIVED. GIVEN WITH THE SEED: THE CARDS: each row of YtdffbihilhkkjaaGreatDoorRows.lean that lists a variable, with what it lists TIED to the program's text (the seventh form; the later family's looks); each row that meets fmt, with fmt's text TOLD by the authors' own Lean function (tested against real Go, not proved from fmt's source: count such statements apart). THE CARD IS WHAT COUNTS. Prove the row's statement (the work); the ties are given (YtdffbihilhkkjaaGreatDoorTie.lean); close each card by the builder's one call (the guide's Derived/Test/ToyasCard.lean, 'card_holds'). Laid BY PROGRAM, IN A SANDBOX (cutbox-door.mjs). By AI agents, Wed Nov 11 2026. No macro, syntax, notation, axiom, sorry.
-/
import Derived.Test.YtdffbihilhkkjaaGreatDoorRows
import GoSem.ClaimSeven
namespace Go.Proofs.YtdffbihilhkkjaaGreatDoor
namespace Rows

/-- THE TIED CARD OF 'pinnacelaw20.SaveParts'. -/
def savePartsCard : Claim7 := { stood := { row := savePartsRow, standIns := [], harness := (true, "22212839d36e6713e2720867c0a042e681751a9879edf5a229403231358e8bc0"), looks := true }, kinds := [], alts := [], laidByText := true, laidKinds := [.handle, .data, .data], laidTests := true, laidLooks := .later }
def SavePartsCardSaid : Prop := Claim7.holds Tryz.pinned (.plain (OpenSpec.ofChange savePartsSpec)) savePartsCard

/-- THE TIED CARD OF 'pinnacelaw20.SaveOnly'. -/
def saveOnlyCard : Claim7 := { stood := { row := saveOnlyRow, standIns := [], harness := (true, "22212839d36e6713e2720867c0a042e681751a9879edf5a229403231358e8bc0"), looks := true }, kinds := [], alts := [], laidByText := true, laidKinds := [.handle, .data, .data], laidTests := true, laidLooks := .later }
def SaveOnlyCardSaid : Prop := Claim7.holds Tryz.pinned (.plain (OpenSpec.ofChange saveOnlySpec)) saveOnlyCard

/-- THE TIED CARD OF 'pinnacelaw20.SavePages'. -/
def savePagesCard : Claim7 := { stood := { row := savePagesRow, standIns := [], harness := (true, "22212839d36e6713e2720867c0a042e681751a9879edf5a229403231358e8bc0"), looks := true }, kinds := [], alts := [], laidByText := true, laidKinds := [.handle, .data, .data], laidTests := true, laidLooks := .later }
def SavePagesCardSaid : Prop := Claim7.holds Tryz.pinned (.plain (OpenSpec.ofChange savePagesSpec)) savePagesCard

/-- THE TIED CARD OF 'pinnacelaw20.SaveFiles'. -/
def saveFilesCard : Claim7 := { stood := { row := saveFilesRow, standIns := [], harness := (true, "22212839d36e6713e2720867c0a042e681751a9879edf5a229403231358e8bc0"), looks := true }, kinds := [], alts := [], laidByText := true, laidKinds := [.handle, .data, .data], laidTests := true, laidLooks := .later }
def SaveFilesCardSaid : Prop := Claim7.holds Tryz.pinned (.plain (OpenSpec.ofChange saveFilesSpec)) saveFilesCard

/-- THE SECOND FORM's CARD OF 'pinnacelaw20.SaveParts'. -/
def savePartsUptoCard : Claim7 := { stood := { row := savePartsUptoRow, standIns := [], harness := (true, "22212839d36e6713e2720867c0a042e681751a9879edf5a229403231358e8bc0"), looks := true }, kinds := [], alts := [], laidByText := true, laidKinds := [.handle, .data, .data], laidTests := true, laidLooks := .later }
def SavePartsUptoCardSaid : Prop := Claim7.holds Tryz.pinned (.plain (OpenSpec.upto savePartsSpec)) savePartsUptoCard

/-- THE SECOND FORM's CARD OF 'pinnacelaw20.SaveOnly'. -/
def saveOnlyUptoCard : Claim7 := { stood := { row := saveOnlyUptoRow, standIns := [], harness := (true, "22212839d36e6713e2720867c0a042e681751a9879edf5a229403231358e8bc0"), looks := true }, kinds := [], alts := [], laidByText := true, laidKinds := [.handle, .data, .data], laidTests := true, laidLooks := .later }
def SaveOnlyUptoCardSaid : Prop := Claim7.holds Tryz.pinned (.plain (OpenSpec.upto saveOnlySpec)) saveOnlyUptoCard

/-- THE SECOND FORM's CARD OF 'pinnacelaw20.SavePages'. -/
def savePagesUptoCard : Claim7 := { stood := { row := savePagesUptoRow, standIns := [], harness := (true, "22212839d36e6713e2720867c0a042e681751a9879edf5a229403231358e8bc0"), looks := true }, kinds := [], alts := [], laidByText := true, laidKinds := [.handle, .data, .data], laidTests := true, laidLooks := .later }
def SavePagesUptoCardSaid : Prop := Claim7.holds Tryz.pinned (.plain (OpenSpec.upto savePagesSpec)) savePagesUptoCard

/-- THE SECOND FORM's CARD OF 'pinnacelaw20.SaveFiles'. -/
def saveFilesUptoCard : Claim7 := { stood := { row := saveFilesUptoRow, standIns := [], harness := (true, "22212839d36e6713e2720867c0a042e681751a9879edf5a229403231358e8bc0"), looks := true }, kinds := [], alts := [], laidByText := true, laidKinds := [.handle, .data, .data], laidTests := true, laidLooks := .later }
def SaveFilesUptoCardSaid : Prop := Claim7.holds Tryz.pinned (.plain (OpenSpec.upto saveFilesSpec)) saveFilesUptoCard
end Rows
end Go.Proofs.YtdffbihilhkkjaaGreatDoor
