/-
  DERIVED. GIVEN WITH THE SEED: THE CARDS: each row of YtcoiaggedipapaaDoorRows.lean that lists a variable, with what it lists TIED to the program's text (the seventh form; the later family's looks); each row that meets fmt, with fmt's text TOLD by the authors' own Lean function (tested against real Go, not proved from fmt's source: count such statements apart). THE CARD IS WHAT COUNTS. Prove the row's statement (the work); the ties are given (YtcoiaggedipapaaDoorTie.lean); close each card by the builder's one call (the guide's Derived/Test/ToyasCard.lean, 'card_holds'). Laid BY PROGRAM, IN A SANDBOX (cutbox-door.mjs). By AI agents, Wed Nov 11 2026. No macro, syntax, notation, axiom, sorry.
-/
import Derived.Test.YtcoiaggedipapaaDoorRows
import GoSem.ClaimSeven
namespace Go.Proofs.YtcoiaggedipapaaDoor
namespace Rows

/-- THE TIED CARD OF 'pinnacelaw18.SumSums'. -/
def sumSumsCard : Claim7 := { stood := { row := sumSumsRow, standIns := [], harness := (true, "316efcf7b8f63db64bbf22da87b92908e1925be04121f6a0b4c178b208d0d5d8"), looks := true }, kinds := [], alts := [], laidByText := true, laidKinds := [.data], laidTests := true, laidLooks := .later }
def SumSumsCardSaid : Prop := Claim7.holds Tryd.pinned (.plain (OpenSpec.ofChange sumSumsSpec)) sumSumsCard

/-- THE TIED CARD OF 'pinnacelaw18.SumThree'. -/
def sumThreeCard : Claim7 := { stood := { row := sumThreeRow, standIns := [], harness := (true, "316efcf7b8f63db64bbf22da87b92908e1925be04121f6a0b4c178b208d0d5d8"), looks := true }, kinds := [], alts := [], laidByText := true, laidKinds := [.data], laidTests := true, laidLooks := .later }
def SumThreeCardSaid : Prop := Claim7.holds Tryd.pinned (.plain (OpenSpec.ofChange sumThreeSpec)) sumThreeCard

/-- THE TIED CARD OF 'pinnacelaw18.SumNear'. -/
def sumNearCard : Claim7 := { stood := { row := sumNearRow, standIns := [], harness := (true, "316efcf7b8f63db64bbf22da87b92908e1925be04121f6a0b4c178b208d0d5d8"), looks := true }, kinds := [], alts := [], laidByText := true, laidKinds := [.data], laidTests := true, laidLooks := .later }
def SumNearCardSaid : Prop := Claim7.holds Tryd.pinned (.plain (OpenSpec.ofChange sumNearSpec)) sumNearCard

/-- THE TIED CARD OF 'pinnacelaw19.TlvBack'. -/
def tlvBackCard : Claim7 := { stood := { row := tlvBackRow, standIns := [], harness := (true, "316efcf7b8f63db64bbf22da87b92908e1925be04121f6a0b4c178b208d0d5d8"), looks := true }, kinds := [], alts := [], laidByText := true, laidKinds := [.data], laidTests := true, laidLooks := .later }
def TlvBackCardSaid : Prop := Claim7.holds Tryd.pinned (.plain (OpenSpec.ofChange tlvBackSpec)) tlvBackCard

/-- THE TIED CARD OF 'pinnacelaw19.TlvSpoilt'. -/
def tlvSpoiltCard : Claim7 := { stood := { row := tlvSpoiltRow, standIns := [], harness := (true, "316efcf7b8f63db64bbf22da87b92908e1925be04121f6a0b4c178b208d0d5d8"), looks := true }, kinds := [], alts := [], laidByText := true, laidKinds := [.data], laidTests := true, laidLooks := .later }
def TlvSpoiltCardSaid : Prop := Claim7.holds Tryd.pinned (.plain (OpenSpec.ofChange tlvSpoiltSpec)) tlvSpoiltCard

/-- THE TIED CARD OF 'pinnacelaw18.SumNoughts'. -/
def sumNoughtsCard : Claim7 := { stood := { row := sumNoughtsRow, standIns := [], harness := (true, "316efcf7b8f63db64bbf22da87b92908e1925be04121f6a0b4c178b208d0d5d8"), looks := true }, kinds := [], alts := [], laidByText := true, laidKinds := [.handle, .data], laidTests := true, laidLooks := .later }
def SumNoughtsCardSaid : Prop := Claim7.holds Tryd.pinned (.plain (OpenSpec.ofChange sumNoughtsSpec)) sumNoughtsCard

/-- THE TIED CARD OF 'pinnacelaw18.SumTails'. -/
def sumTailsCard : Claim7 := { stood := { row := sumTailsRow, standIns := [], harness := (true, "316efcf7b8f63db64bbf22da87b92908e1925be04121f6a0b4c178b208d0d5d8"), looks := true }, kinds := [], alts := [], laidByText := true, laidKinds := [.handle, .data], laidTests := true, laidLooks := .later }
def SumTailsCardSaid : Prop := Claim7.holds Tryd.pinned (.plain (OpenSpec.ofChange sumTailsSpec)) sumTailsCard

/-- THE TIED CARD OF 'pinnacelaw19.TlvLays'. -/
def tlvLaysCard : Claim7 := { stood := { row := tlvLaysRow, standIns := [], harness := (true, "316efcf7b8f63db64bbf22da87b92908e1925be04121f6a0b4c178b208d0d5d8"), looks := true }, kinds := [], alts := [], laidByText := true, laidKinds := [.data], laidTests := true, laidLooks := .later }
def TlvLaysCardSaid : Prop := Claim7.holds Tryd.pinned (.plain (OpenSpec.ofChange tlvLaysSpec)) tlvLaysCard

/-- THE TIED CARD OF 'pinnacelaw19.TlvDecodes'. -/
def tlvDecodesCard : Claim7 := { stood := { row := tlvDecodesRow, standIns := [], harness := (true, "316efcf7b8f63db64bbf22da87b92908e1925be04121f6a0b4c178b208d0d5d8"), looks := true }, kinds := [], alts := [], laidByText := true, laidKinds := [.handle, .data], laidTests := true, laidLooks := .later }
def TlvDecodesCardSaid : Prop := Claim7.holds Tryd.pinned (.plain (OpenSpec.ofChange tlvDecodesSpec)) tlvDecodesCard

/-- THE TIED CARD OF 'pinnacelaw19.TlvEncodes'. -/
def tlvEncodesCard : Claim7 := { stood := { row := tlvEncodesRow, standIns := [], harness := (true, "316efcf7b8f63db64bbf22da87b92908e1925be04121f6a0b4c178b208d0d5d8"), looks := true }, kinds := [], alts := [], laidByText := true, laidKinds := [.handle, .data], laidTests := true, laidLooks := .later }
def TlvEncodesCardSaid : Prop := Claim7.holds Tryd.pinned (.plain (OpenSpec.ofChange tlvEncodesSpec)) tlvEncodesCard

/-- THE TIED CARD OF 'pinnacelaw19.TlvOrder'. -/
def tlvOrderCard : Claim7 := { stood := { row := tlvOrderRow, standIns := [], harness := (true, "316efcf7b8f63db64bbf22da87b92908e1925be04121f6a0b4c178b208d0d5d8"), looks := true }, kinds := [], alts := [], laidByText := true, laidKinds := [.handle, .data], laidTests := true, laidLooks := .later }
def TlvOrderCardSaid : Prop := Claim7.holds Tryd.pinned (.plain (OpenSpec.ofChange tlvOrderSpec)) tlvOrderCard

/-- THE TIED CARD OF 'pinnacelaw19.TlvTakes'. -/
def tlvTakesCard : Claim7 := { stood := { row := tlvTakesRow, standIns := [], harness := (true, "316efcf7b8f63db64bbf22da87b92908e1925be04121f6a0b4c178b208d0d5d8"), looks := true }, kinds := [], alts := [], laidByText := true, laidKinds := [.handle, .data], laidTests := true, laidLooks := .later }
def TlvTakesCardSaid : Prop := Claim7.holds Tryd.pinned (.plain (OpenSpec.ofChange tlvTakesSpec)) tlvTakesCard

/-- THE SECOND FORM's CARD OF 'pinnacelaw18.SumSums'. -/
def sumSumsUptoCard : Claim7 := { stood := { row := sumSumsUptoRow, standIns := [], harness := (true, "316efcf7b8f63db64bbf22da87b92908e1925be04121f6a0b4c178b208d0d5d8"), looks := true }, kinds := [], alts := [], laidByText := true, laidKinds := [.data], laidTests := true, laidLooks := .later }
def SumSumsUptoCardSaid : Prop := Claim7.holds Tryd.pinned (.plain (OpenSpec.upto sumSumsSpec)) sumSumsUptoCard

/-- THE SECOND FORM's CARD OF 'pinnacelaw18.SumThree'. -/
def sumThreeUptoCard : Claim7 := { stood := { row := sumThreeUptoRow, standIns := [], harness := (true, "316efcf7b8f63db64bbf22da87b92908e1925be04121f6a0b4c178b208d0d5d8"), looks := true }, kinds := [], alts := [], laidByText := true, laidKinds := [.data], laidTests := true, laidLooks := .later }
def SumThreeUptoCardSaid : Prop := Claim7.holds Tryd.pinned (.plain (OpenSpec.upto sumThreeSpec)) sumThreeUptoCard

/-- THE SECOND FORM's CARD OF 'pinnacelaw18.SumNear'. -/
def sumNearUptoCard : Claim7 := { stood := { row := sumNearUptoRow, standIns := [], harness := (true, "316efcf7b8f63db64bbf22da87b92908e1925be04121f6a0b4c178b208d0d5d8"), looks := true }, kinds := [], alts := [], laidByText := true, laidKinds := [.data], laidTests := true, laidLooks := .later }
def SumNearUptoCardSaid : Prop := Claim7.holds Tryd.pinned (.plain (OpenSpec.upto sumNearSpec)) sumNearUptoCard

/-- THE SECOND FORM's CARD OF 'pinnacelaw19.TlvBack'. -/
def tlvBackUptoCard : Claim7 := { stood := { row := tlvBackUptoRow, standIns := [], harness := (true, "316efcf7b8f63db64bbf22da87b92908e1925be04121f6a0b4c178b208d0d5d8"), looks := true }, kinds := [], alts := [], laidByText := true, laidKinds := [.data], laidTests := true, laidLooks := .later }
def TlvBackUptoCardSaid : Prop := Claim7.holds Tryd.pinned (.plain (OpenSpec.upto tlvBackSpec)) tlvBackUptoCard

/-- THE SECOND FORM's CARD OF 'pinnacelaw19.TlvSpoilt'. -/
def tlvSpoiltUptoCard : Claim7 := { stood := { row := tlvSpoiltUptoRow, standIns := [], harness := (true, "316efcf7b8f63db64bbf22da87b92908e1925be04121f6a0b4c178b208d0d5d8"), looks := true }, kinds := [], alts := [], laidByText := true, laidKinds := [.data], laidTests := true, laidLooks := .later }
def TlvSpoiltUptoCardSaid : Prop := Claim7.holds Tryd.pinned (.plain (OpenSpec.upto tlvSpoiltSpec)) tlvSpoiltUptoCard

/-- THE SECOND FORM's CARD OF 'pinnacelaw18.SumNoughts'. -/
def sumNoughtsUptoCard : Claim7 := { stood := { row := sumNoughtsUptoRow, standIns := [], harness := (true, "316efcf7b8f63db64bbf22da87b92908e1925be04121f6a0b4c178b208d0d5d8"), looks := true }, kinds := [], alts := [], laidByText := true, laidKinds := [.handle, .data], laidTests := true, laidLooks := .later }
def SumNoughtsUptoCardSaid : Prop := Claim7.holds Tryd.pinned (.plain (OpenSpec.upto sumNoughtsSpec)) sumNoughtsUptoCard

/-- THE SECOND FORM's CARD OF 'pinnacelaw18.SumTails'. -/
def sumTailsUptoCard : Claim7 := { stood := { row := sumTailsUptoRow, standIns := [], harness := (true, "316efcf7b8f63db64bbf22da87b92908e1925be04121f6a0b4c178b208d0d5d8"), looks := true }, kinds := [], alts := [], laidByText := true, laidKinds := [.handle, .data], laidTests := true, laidLooks := .later }
def SumTailsUptoCardSaid : Prop := Claim7.holds Tryd.pinned (.plain (OpenSpec.upto sumTailsSpec)) sumTailsUptoCard

/-- THE SECOND FORM's CARD OF 'pinnacelaw19.TlvLays'. -/
def tlvLaysUptoCard : Claim7 := { stood := { row := tlvLaysUptoRow, standIns := [], harness := (true, "316efcf7b8f63db64bbf22da87b92908e1925be04121f6a0b4c178b208d0d5d8"), looks := true }, kinds := [], alts := [], laidByText := true, laidKinds := [.data], laidTests := true, laidLooks := .later }
def TlvLaysUptoCardSaid : Prop := Claim7.holds Tryd.pinned (.plain (OpenSpec.upto tlvLaysSpec)) tlvLaysUptoCard

/-- THE SECOND FORM's CARD OF 'pinnacelaw19.TlvDecodes'. -/
def tlvDecodesUptoCard : Claim7 := { stood := { row := tlvDecodesUptoRow, standIns := [], harness := (true, "316efcf7b8f63db64bbf22da87b92908e1925be04121f6a0b4c178b208d0d5d8"), looks := true }, kinds := [], alts := [], laidByText := true, laidKinds := [.handle, .data], laidTests := true, laidLooks := .later }
def TlvDecodesUptoCardSaid : Prop := Claim7.holds Tryd.pinned (.plain (OpenSpec.upto tlvDecodesSpec)) tlvDecodesUptoCard

/-- THE SECOND FORM's CARD OF 'pinnacelaw19.TlvEncodes'. -/
def tlvEncodesUptoCard : Claim7 := { stood := { row := tlvEncodesUptoRow, standIns := [], harness := (true, "316efcf7b8f63db64bbf22da87b92908e1925be04121f6a0b4c178b208d0d5d8"), looks := true }, kinds := [], alts := [], laidByText := true, laidKinds := [.handle, .data], laidTests := true, laidLooks := .later }
def TlvEncodesUptoCardSaid : Prop := Claim7.holds Tryd.pinned (.plain (OpenSpec.upto tlvEncodesSpec)) tlvEncodesUptoCard

/-- THE SECOND FORM's CARD OF 'pinnacelaw19.TlvOrder'. -/
def tlvOrderUptoCard : Claim7 := { stood := { row := tlvOrderUptoRow, standIns := [], harness := (true, "316efcf7b8f63db64bbf22da87b92908e1925be04121f6a0b4c178b208d0d5d8"), looks := true }, kinds := [], alts := [], laidByText := true, laidKinds := [.handle, .data], laidTests := true, laidLooks := .later }
def TlvOrderUptoCardSaid : Prop := Claim7.holds Tryd.pinned (.plain (OpenSpec.upto tlvOrderSpec)) tlvOrderUptoCard

/-- THE SECOND FORM's CARD OF 'pinnacelaw19.TlvTakes'. -/
def tlvTakesUptoCard : Claim7 := { stood := { row := tlvTakesUptoRow, standIns := [], harness := (true, "316efcf7b8f63db64bbf22da87b92908e1925be04121f6a0b4c178b208d0d5d8"), looks := true }, kinds := [], alts := [], laidByText := true, laidKinds := [.handle, .data], laidTests := true, laidLooks := .later }
def TlvTakesUptoCardSaid : Prop := Claim7.holds Tryd.pinned (.plain (OpenSpec.upto tlvTakesSpec)) tlvTakesUptoCard
end Rows
end Go.Proofs.YtcoiaggedipapaaDoor
