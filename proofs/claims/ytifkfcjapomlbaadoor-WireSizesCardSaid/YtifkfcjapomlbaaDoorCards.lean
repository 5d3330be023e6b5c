/-
  DERIVED. GIVEN WITH THE SEED: THE CARDS: each row of YtifkfcjapomlbaaDoorRows.lean that lists a variable, with what it lists TIED to the program's text (the seventh form; the later family's looks); each row that meets fmt, with fmt's text TOLD by the authors' own Lean function (tested against real Go, not proved from fmt's source: count such statements apart). THE CARD IS WHAT COUNTS. Prove the row's statement (the work); the ties are given (YtifkfcjapomlbaaDoorTie.lean); close each card by the builder's one call (the guide's Derived/Test/ToyasCard.lean, 'card_holds'). Laid BY PROGRAM, IN A SANDBOX (cutbox-door.mjs). By AI agents, Wed Nov 11 2026. No macro, syntax, notation, axiom, sorry.
-/
import Derived.Test.YtifkfcjapomlbaaDoorRows
import GoSem.ClaimSeven
namespace Go.Proofs.YtifkfcjapomlbaaDoor
namespace Rows

/-- THE TIED CARD OF 'pinnacelaw22.WireNear'. -/
def wireNearCard : Claim7 := { stood := { row := wireNearRow, standIns := [], harness := (true, "fffc9b8afcb838bc89db2e17643c45a0583336bbe3823b1caa1231d9a8640a93"), looks := true }, kinds := [], alts := [], laidByText := true, laidKinds := [.data], laidTests := true, laidLooks := .later }
def WireNearCardSaid : Prop := Claim7.holds Tryd.pinned (.plain (OpenSpec.ofChange wireNearSpec)) wireNearCard

/-- THE TIED CARD OF 'pinnacelaw22.WireSizes'. -/
def wireSizesCard : Claim7 := { stood := { row := wireSizesRow, standIns := [], harness := (true, "fffc9b8afcb838bc89db2e17643c45a0583336bbe3823b1caa1231d9a8640a93"), looks := true }, kinds := [], alts := [], laidByText := true, laidKinds := [.data], laidTests := true, laidLooks := .later }
def WireSizesCardSaid : Prop := Claim7.holds Tryd.pinned (.plain (OpenSpec.ofChange wireSizesSpec)) wireSizesCard

/-- THE TIED CARD OF 'pinnacelaw22.WireBack'. -/
def wireBackCard : Claim7 := { stood := { row := wireBackRow, standIns := [], harness := (true, "fffc9b8afcb838bc89db2e17643c45a0583336bbe3823b1caa1231d9a8640a93"), looks := true }, kinds := [], alts := [], laidByText := true, laidKinds := [.data], laidTests := true, laidLooks := .later }
def WireBackCardSaid : Prop := Claim7.holds Tryd.pinned (.plain (OpenSpec.ofChange wireBackSpec)) wireBackCard

/-- THE TIED CARD OF 'pinnacelaw22.WireDecodes'. -/
def wireDecodesCard : Claim7 := { stood := { row := wireDecodesRow, standIns := [], harness := (true, "fffc9b8afcb838bc89db2e17643c45a0583336bbe3823b1caa1231d9a8640a93"), looks := true }, kinds := [], alts := [], laidByText := true, laidKinds := [.handle, .data], laidTests := true, laidLooks := .later }
def WireDecodesCardSaid : Prop := Claim7.holds Tryd.pinned (.plain (OpenSpec.ofChange wireDecodesSpec)) wireDecodesCard

/-- THE TIED CARD OF 'pinnacelaw22.WireEncodes'. -/
def wireEncodesCard : Claim7 := { stood := { row := wireEncodesRow, standIns := [], harness := (true, "fffc9b8afcb838bc89db2e17643c45a0583336bbe3823b1caa1231d9a8640a93"), looks := true }, kinds := [], alts := [], laidByText := true, laidKinds := [.handle, .data], laidTests := true, laidLooks := .later }
def WireEncodesCardSaid : Prop := Claim7.holds Tryd.pinned (.plain (OpenSpec.ofChange wireEncodesSpec)) wireEncodesCard

/-- THE SECOND FORM's CARD OF 'pinnacelaw22.WireNear'. -/
def wireNearUptoCard : Claim7 := { stood := { row := wireNearUptoRow, standIns := [], harness := (true, "fffc9b8afcb838bc89db2e17643c45a0583336bbe3823b1caa1231d9a8640a93"), looks := true }, kinds := [], alts := [], laidByText := true, laidKinds := [.data], laidTests := true, laidLooks := .later }
def WireNearUptoCardSaid : Prop := Claim7.holds Tryd.pinned (.plain (OpenSpec.upto wireNearSpec)) wireNearUptoCard

/-- THE SECOND FORM's CARD OF 'pinnacelaw22.WireSizes'. -/
def wireSizesUptoCard : Claim7 := { stood := { row := wireSizesUptoRow, standIns := [], harness := (true, "fffc9b8afcb838bc89db2e17643c45a0583336bbe3823b1caa1231d9a8640a93"), looks := true }, kinds := [], alts := [], laidByText := true, laidKinds := [.data], laidTests := true, laidLooks := .later }
def WireSizesUptoCardSaid : Prop := Claim7.holds Tryd.pinned (.plain (OpenSpec.upto wireSizesSpec)) wireSizesUptoCard

/-- THE SECOND FORM's CARD OF 'pinnacelaw22.WireBack'. -/
def wireBackUptoCard : Claim7 := { stood := { row := wireBackUptoRow, standIns := [], harness := (true, "fffc9b8afcb838bc89db2e17643c45a0583336bbe3823b1caa1231d9a8640a93"), looks := true }, kinds := [], alts := [], laidByText := true, laidKinds := [.data], laidTests := true, laidLooks := .later }
def WireBackUptoCardSaid : Prop := Claim7.holds Tryd.pinned (.plain (OpenSpec.upto wireBackSpec)) wireBackUptoCard

/-- THE SECOND FORM's CARD OF 'pinnacelaw22.WireDecodes'. -/
def wireDecodesUptoCard : Claim7 := { stood := { row := wireDecodesUptoRow, standIns := [], harness := (true, "fffc9b8afcb838bc89db2e17643c45a0583336bbe3823b1caa1231d9a8640a93"), looks := true }, kinds := [], alts := [], laidByText := true, laidKinds := [.handle, .data], laidTests := true, laidLooks := .later }
def WireDecodesUptoCardSaid : Prop := Claim7.holds Tryd.pinned (.plain (OpenSpec.upto wireDecodesSpec)) wireDecodesUptoCard

/-- THE SECOND FORM's CARD OF 'pinnacelaw22.WireEncodes'. -/
def wireEncodesUptoCard : Claim7 := { stood := { row := wireEncodesUptoRow, standIns := [], harness := (true, "fffc9b8afcb838bc89db2e17643c45a0583336bbe3823b1caa1231d9a8640a93"), looks := true }, kinds := [], alts := [], laidByText := true, laidKinds := [.handle, .data], laidTests := true, laidLooks := .later }
def WireEncodesUptoCardSaid : Prop := Claim7.holds Tryd.pinned (.plain (OpenSpec.upto wireEncodesSpec)) wireEncodesUptoCard
end Rows
end Go.Proofs.YtifkfcjapomlbaaDoor
