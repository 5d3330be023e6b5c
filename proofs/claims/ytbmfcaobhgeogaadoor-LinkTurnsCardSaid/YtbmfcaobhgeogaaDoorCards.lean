/-
  DERIVED. GIVEN WITH THE SEED: THE CARDS: each row of YtbmfcaobhgeogaaDoorRows.lean that lists a variable, with what it lists TIED to the program's text (the seventh form; the later family's looks); each row that meets fmt, with fmt's text TOLD by the authors' own Lean function (tested against real Go, not proved from fmt's source: count such statements apart). THE CARD IS WHAT COUNTS. Prove the row's statement (the work); the ties are given (YtbmfcaobhgeogaaDoorTie.lean); close each card by the builder's one call (the guide's Derived/Test/ToyasCard.lean, 'card_holds'). Laid BY PROGRAM, IN A SANDBOX (cutbox-door.mjs). By AI agents, Wed Nov 11 2026. No macro, syntax, notation, axiom, sorry.
-/
import Derived.Test.YtbmfcaobhgeogaaDoorRows
import GoSem.ClaimSeven
namespace Go.Proofs.YtbmfcaobhgeogaaDoor
namespace Rows

/-- THE TIED CARD OF 'pinnacelaw10.ClintWrites'. -/
def clintWritesCard : Claim7 := { stood := { row := clintWritesRow, standIns := [], harness := (true, "7f4d4a6a0cc90b0d2687c1665cef4a95873b0df308418493402f6c97a55799be"), looks := true }, kinds := [], alts := [], laidByText := true, laidKinds := [.handle], laidTests := true, laidLooks := .later }
def ClintWritesCardSaid : Prop := Claim7.holds Tryd.pinned (.plain (OpenSpec.ofChange clintWritesSpec)) clintWritesCard

/-- THE TIED CARD OF 'pinnacelaw10.ClintReads'. -/
def clintReadsCard : Claim7 := { stood := { row := clintReadsRow, standIns := [], harness := (true, "7f4d4a6a0cc90b0d2687c1665cef4a95873b0df308418493402f6c97a55799be"), looks := true }, kinds := [], alts := [], laidByText := true, laidKinds := [.handle], laidTests := true, laidLooks := .later }
def ClintReadsCardSaid : Prop := Claim7.holds Tryd.pinned (.plain (OpenSpec.ofChange clintReadsSpec)) clintReadsCard

/-- THE TIED CARD OF 'pinnacelaw23.LinkOrder'. -/
def linkOrderCard : Claim7 := { stood := { row := linkOrderRow, standIns := [], harness := (true, "7f4d4a6a0cc90b0d2687c1665cef4a95873b0df308418493402f6c97a55799be"), looks := true }, kinds := [], alts := [], laidByText := true, laidKinds := [.handle], laidTests := true, laidLooks := .later }
def LinkOrderCardSaid : Prop := Claim7.holds Tryd.pinned (.plain (OpenSpec.ofChange linkOrderSpec)) linkOrderCard

/-- THE TIED CARD OF 'pinnacelaw23.LinkSends'. -/
def linkSendsCard : Claim7 := { stood := { row := linkSendsRow, standIns := [], harness := (true, "7f4d4a6a0cc90b0d2687c1665cef4a95873b0df308418493402f6c97a55799be"), looks := true }, kinds := [], alts := [], laidByText := true, laidKinds := [.handle], laidTests := true, laidLooks := .later }
def LinkSendsCardSaid : Prop := Claim7.holds Tryd.pinned (.plain (OpenSpec.ofChange linkSendsSpec)) linkSendsCard

/-- THE TIED CARD OF 'pinnacelaw23.LinkTakes'. -/
def linkTakesCard : Claim7 := { stood := { row := linkTakesRow, standIns := [], harness := (true, "7f4d4a6a0cc90b0d2687c1665cef4a95873b0df308418493402f6c97a55799be"), looks := true }, kinds := [], alts := [], laidByText := true, laidKinds := [.handle], laidTests := true, laidLooks := .later }
def LinkTakesCardSaid : Prop := Claim7.holds Tryd.pinned (.plain (OpenSpec.ofChange linkTakesSpec)) linkTakesCard

/-- THE TIED CARD OF 'pinnacelaw23.LinkTurns'. -/
def linkTurnsCard : Claim7 := { stood := { row := linkTurnsRow, standIns := [], harness := (true, "7f4d4a6a0cc90b0d2687c1665cef4a95873b0df308418493402f6c97a55799be"), looks := true }, kinds := [], alts := [], laidByText := true, laidKinds := [.handle], laidTests := true, laidLooks := .later }
def LinkTurnsCardSaid : Prop := Claim7.holds Tryd.pinned (.plain (OpenSpec.ofChange linkTurnsSpec)) linkTurnsCard

/-- THE SECOND FORM's CARD OF 'pinnacelaw10.ClintWrites'. -/
def clintWritesUptoCard : Claim7 := { stood := { row := clintWritesUptoRow, standIns := [], harness := (true, "7f4d4a6a0cc90b0d2687c1665cef4a95873b0df308418493402f6c97a55799be"), looks := true }, kinds := [], alts := [], laidByText := true, laidKinds := [.handle], laidTests := true, laidLooks := .later }
def ClintWritesUptoCardSaid : Prop := Claim7.holds Tryd.pinned (.plain (OpenSpec.upto clintWritesSpec)) clintWritesUptoCard

/-- THE SECOND FORM's CARD OF 'pinnacelaw10.ClintReads'. -/
def clintReadsUptoCard : Claim7 := { stood := { row := clintReadsUptoRow, standIns := [], harness := (true, "7f4d4a6a0cc90b0d2687c1665cef4a95873b0df308418493402f6c97a55799be"), looks := true }, kinds := [], alts := [], laidByText := true, laidKinds := [.handle], laidTests := true, laidLooks := .later }
def ClintReadsUptoCardSaid : Prop := Claim7.holds Tryd.pinned (.plain (OpenSpec.upto clintReadsSpec)) clintReadsUptoCard

/-- THE SECOND FORM's CARD OF 'pinnacelaw23.LinkOrder'. -/
def linkOrderUptoCard : Claim7 := { stood := { row := linkOrderUptoRow, standIns := [], harness := (true, "7f4d4a6a0cc90b0d2687c1665cef4a95873b0df308418493402f6c97a55799be"), looks := true }, kinds := [], alts := [], laidByText := true, laidKinds := [.handle], laidTests := true, laidLooks := .later }
def LinkOrderUptoCardSaid : Prop := Claim7.holds Tryd.pinned (.plain (OpenSpec.upto linkOrderSpec)) linkOrderUptoCard

/-- THE SECOND FORM's CARD OF 'pinnacelaw23.LinkSends'. -/
def linkSendsUptoCard : Claim7 := { stood := { row := linkSendsUptoRow, standIns := [], harness := (true, "7f4d4a6a0cc90b0d2687c1665cef4a95873b0df308418493402f6c97a55799be"), looks := true }, kinds := [], alts := [], laidByText := true, laidKinds := [.handle], laidTests := true, laidLooks := .later }
def LinkSendsUptoCardSaid : Prop := Claim7.holds Tryd.pinned (.plain (OpenSpec.upto linkSendsSpec)) linkSendsUptoCard

/-- THE SECOND FORM's CARD OF 'pinnacelaw23.LinkTakes'. -/
def linkTakesUptoCard : Claim7 := { stood := { row := linkTakesUptoRow, standIns := [], harness := (true, "7f4d4a6a0cc90b0d2687c1665cef4a95873b0df308418493402f6c97a55799be"), looks := true }, kinds := [], alts := [], laidByText := true, laidKinds := [.handle], laidTests := true, laidLooks := .later }
def LinkTakesUptoCardSaid : Prop := Claim7.holds Tryd.pinned (.plain (OpenSpec.upto linkTakesSpec)) linkTakesUptoCard

/-- THE SECOND FORM's CARD OF 'pinnacelaw23.LinkTurns'. -/
def linkTurnsUptoCard : Claim7 := { stood := { row := linkTurnsUptoRow, standIns := [], harness := (true, "7f4d4a6a0cc90b0d2687c1665cef4a95873b0df308418493402f6c97a55799be"), looks := true }, kinds := [], alts := [], laidByText := true, laidKinds := [.handle], laidTests := true, laidLooks := .later }
def LinkTurnsUptoCardSaid : Prop := Claim7.holds Tryd.pinned (.plain (OpenSpec.upto linkTurnsSpec)) linkTurnsUptoCard
end Rows
end Go.Proofs.YtbmfcaobhgeogaaDoor
