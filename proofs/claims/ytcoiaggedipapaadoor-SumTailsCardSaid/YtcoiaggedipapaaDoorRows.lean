/-
  NARROWER THAN 'FOR EVERY INPUT', by the rows' own cells (each row's printed sentence says how): SumSums: laid · SumThree: laid · SumNear: laid · TlvBack: laid · TlvSpoilt: laid · SumNoughts: laid · SumTails: laid · TlvLays: laid · TlvDecodes: laid · TlvEncodes: laid · TlvOrder: laid · TlvTakes: laid.
  DERIVED. THE GIVEN ROWS OF THIS SEAT. 12 by the template 'for every input the law returns true; each argument reads behind the call as it read before'; 0 by the template 'total and deterministic' (their statements: YtcoiaggedipapaaDoorTotals.lean).
  GIVEN WITH THE SEED: the statements are not yours to turn. If you find one false, say at which input.
  Laid BY PROGRAM, IN A SANDBOX (cutbox-rows.mjs): the forced cells as the released guide's own fill.sh prints them over the translation a1607982943f7c83… (all of the seat's roots in one cut). By AI agents, Wed Nov 11 2026. No macro, syntax, notation, axiom, sorry.
-/
import Derived.Test.YtcoiaggedipapaaDoorChecked
import GoSem.Claim
import GoSem.ClaimJoined
import GoSem.ClaimMapViews
import Derived.JoinedTies
import Derived.KernelRfl
namespace Go.Proofs.YtcoiaggedipapaaDoor
/- THE CELL 'sum', in the pinned program and in every row, IS THE sha256 OF THE DUMP (.gsa) THAT YtcoiaggedipapaaDoorProg.lean LOADS. Nothing in Lean hashes anything: it is a label: what it is worth is what the hold of that sum in a sandbox is worth. -/
noncomputable def Tryd.pinned : Pinned := { name := "ytcoiaggedipapaadoor", sum := "a1607982943f7c830f3e5235f6d5ab7df1488d7a99acc7f9ea1e3fa6cd53bcf2", checked := Tryd.checked }
namespace Rows
def none {H : Type} : Left H := { results := [], args := [] }

/- WHAT THE LISTED PACKAGE-LEVEL VARIABLES READ AS WHEN THE CALL BEGINS. Each datum BY PROGRAM (the guide's laid-datum.mjs) off the statement by which the dump's own 'gosem.cut.vars' lays the variable. In a bare row this is a premise. The card (YtcoiaggedipapaaDoorCards.lean) ties it to the program's text. -/
def laid_pinnace_sum_nibbles {H : Type} : DataW H := .agg [.lit (.int .u32 0), .lit (.int .u32 79764919), .lit (.int .u32 159529838), .lit (.int .u32 222504665), .lit (.int .u32 319059676), .lit (.int .u32 398814059), .lit (.int .u32 445009330), .lit (.int .u32 507990021), .lit (.int .u32 638119352), .lit (.int .u32 583659535), .lit (.int .u32 797628118), .lit (.int .u32 726387553), .lit (.int .u32 890018660), .lit (.int .u32 835552979), .lit (.int .u32 1015980042), .lit (.int .u32 944750013)]
def laid_errors_errorType {H : Type} : DataW H := .iface "internal/reflectlite.rtype" (.agg [.ptr (.lit (.string [101, 114, 114, 111, 114]))])

/-- 'pinnacelaw18.SumSums': WHATEVER THE INPUT: true; the input reads as it did. -/
def sumSumsSpec : ChangeSpec := { name := "sumSums", fn := fun _ => fun
  | [d1, d2] => { results := [.lit (.bool true)], args := [d1, d2] }
  | _ => none }
def sumSumsRow : OpenClaim := { program := "ytcoiaggedipapaadoor", sum := "a1607982943f7c830f3e5235f6d5ab7df1488d7a99acc7f9ea1e3fa6cd53bcf2", func := "pinnace/pinnacelaw18.SumSums", spec := "sumSums", named := ["pinnace/sum.nibbles"], apart := false, laid := [("pinnace/sum.nibbles", laid_pinnace_sum_nibbles)] }
def SumSumsSaid : Prop := sumSumsRow.holds Tryd.pinned (OpenSpec.ofChange sumSumsSpec)

/-- ITS FALSE NEIGHBOUR: 'it returns false'. Refute it at one input. -/
def sumSumsWrong : ChangeSpec := { name := "sumSums", fn := fun _ => fun
  | [d1, d2] => { results := [.lit (.bool false)], args := [d1, d2] }
  | _ => none }
def SumSumsWrongFalsely : Prop := sumSumsRow.holds Tryd.pinned (OpenSpec.ofChange sumSumsWrong)

/-- 'pinnacelaw18.SumThree': WHATEVER THE INPUT: true; the input reads as it did. -/
def sumThreeSpec : ChangeSpec := { name := "sumThree", fn := fun _ => fun
  | [d1, d2, d3] => { results := [.lit (.bool true)], args := [d1, d2, d3] }
  | _ => none }
def sumThreeRow : OpenClaim := { program := "ytcoiaggedipapaadoor", sum := "a1607982943f7c830f3e5235f6d5ab7df1488d7a99acc7f9ea1e3fa6cd53bcf2", func := "pinnace/pinnacelaw18.SumThree", spec := "sumThree", named := ["pinnace/sum.nibbles"], apart := false, laid := [("pinnace/sum.nibbles", laid_pinnace_sum_nibbles)] }
def SumThreeSaid : Prop := sumThreeRow.holds Tryd.pinned (OpenSpec.ofChange sumThreeSpec)

/-- ITS FALSE NEIGHBOUR: 'it returns false'. Refute it at one input. -/
def sumThreeWrong : ChangeSpec := { name := "sumThree", fn := fun _ => fun
  | [d1, d2, d3] => { results := [.lit (.bool false)], args := [d1, d2, d3] }
  | _ => none }
def SumThreeWrongFalsely : Prop := sumThreeRow.holds Tryd.pinned (OpenSpec.ofChange sumThreeWrong)

/-- 'pinnacelaw18.SumNear': WHATEVER THE INPUT: true; the input reads as it did. -/
def sumNearSpec : ChangeSpec := { name := "sumNear", fn := fun _ => fun
  | [d1, d2, d3] => { results := [.lit (.bool true)], args := [d1, d2, d3] }
  | _ => none }
def sumNearRow : OpenClaim := { program := "ytcoiaggedipapaadoor", sum := "a1607982943f7c830f3e5235f6d5ab7df1488d7a99acc7f9ea1e3fa6cd53bcf2", func := "pinnace/pinnacelaw18.SumNear", spec := "sumNear", named := ["pinnace/sum.nibbles"], apart := false, laid := [("pinnace/sum.nibbles", laid_pinnace_sum_nibbles)] }
def SumNearSaid : Prop := sumNearRow.holds Tryd.pinned (OpenSpec.ofChange sumNearSpec)

/-- ITS FALSE NEIGHBOUR: 'it returns false'. Refute it at one input. -/
def sumNearWrong : ChangeSpec := { name := "sumNear", fn := fun _ => fun
  | [d1, d2, d3] => { results := [.lit (.bool false)], args := [d1, d2, d3] }
  | _ => none }
def SumNearWrongFalsely : Prop := sumNearRow.holds Tryd.pinned (OpenSpec.ofChange sumNearWrong)

/-- 'pinnacelaw19.TlvBack': WHATEVER THE INPUT: true; the input reads as it did. -/
def tlvBackSpec : ChangeSpec := { name := "tlvBack", fn := fun _ => fun
  | [d1, d2, d3] => { results := [.lit (.bool true)], args := [d1, d2, d3] }
  | _ => none }
def tlvBackRow : OpenClaim := { program := "ytcoiaggedipapaadoor", sum := "a1607982943f7c830f3e5235f6d5ab7df1488d7a99acc7f9ea1e3fa6cd53bcf2", func := "pinnace/pinnacelaw19.TlvBack", spec := "tlvBack", named := ["pinnace/sum.nibbles"], apart := false, laid := [("pinnace/sum.nibbles", laid_pinnace_sum_nibbles)] }
def TlvBackSaid : Prop := tlvBackRow.holds Tryd.pinned (OpenSpec.ofChange tlvBackSpec)

/-- ITS FALSE NEIGHBOUR: 'it returns false'. Refute it at one input. -/
def tlvBackWrong : ChangeSpec := { name := "tlvBack", fn := fun _ => fun
  | [d1, d2, d3] => { results := [.lit (.bool false)], args := [d1, d2, d3] }
  | _ => none }
def TlvBackWrongFalsely : Prop := tlvBackRow.holds Tryd.pinned (OpenSpec.ofChange tlvBackWrong)

/-- 'pinnacelaw19.TlvSpoilt': WHATEVER THE INPUT: true; the input reads as it did. -/
def tlvSpoiltSpec : ChangeSpec := { name := "tlvSpoilt", fn := fun _ => fun
  | [d1, d2, d3] => { results := [.lit (.bool true)], args := [d1, d2, d3] }
  | _ => none }
def tlvSpoiltRow : OpenClaim := { program := "ytcoiaggedipapaadoor", sum := "a1607982943f7c830f3e5235f6d5ab7df1488d7a99acc7f9ea1e3fa6cd53bcf2", func := "pinnace/pinnacelaw19.TlvSpoilt", spec := "tlvSpoilt", named := ["pinnace/sum.nibbles"], apart := false, laid := [("pinnace/sum.nibbles", laid_pinnace_sum_nibbles)] }
def TlvSpoiltSaid : Prop := tlvSpoiltRow.holds Tryd.pinned (OpenSpec.ofChange tlvSpoiltSpec)

/-- ITS FALSE NEIGHBOUR: 'it returns false'. Refute it at one input. -/
def tlvSpoiltWrong : ChangeSpec := { name := "tlvSpoilt", fn := fun _ => fun
  | [d1, d2, d3] => { results := [.lit (.bool false)], args := [d1, d2, d3] }
  | _ => none }
def TlvSpoiltWrongFalsely : Prop := tlvSpoiltRow.holds Tryd.pinned (OpenSpec.ofChange tlvSpoiltWrong)

/-- 'pinnacelaw18.SumNoughts': WHATEVER THE INPUT: true; the input reads as it did. -/
def sumNoughtsSpec : ChangeSpec := { name := "sumNoughts", fn := fun _ => fun
  | [d1, d2, d3] => { results := [.lit (.bool true)], args := [d1, d2, d3] }
  | _ => none }
def sumNoughtsRow : OpenClaim := { program := "ytcoiaggedipapaadoor", sum := "a1607982943f7c830f3e5235f6d5ab7df1488d7a99acc7f9ea1e3fa6cd53bcf2", func := "pinnace/pinnacelaw18.SumNoughts", spec := "sumNoughts", inPlace := ["internal/reflectlite.ValueOf", "(internal/reflectlite.Value).Type", "(internal/reflectlite.Value).IsNil", "internal/reflectlite.TypeOf", "(internal/reflectlite.Value).Elem", "(internal/reflectlite.Value).Set"], unfollowed := true, recurses := true, named := ["errors.errorType", "pinnace/sum.nibbles"], apart := false, laid := [("errors.errorType", laid_errors_errorType), ("pinnace/sum.nibbles", laid_pinnace_sum_nibbles)] }
def SumNoughtsSaid : Prop := sumNoughtsRow.holds Tryd.pinned (OpenSpec.ofChange sumNoughtsSpec)

/-- ITS FALSE NEIGHBOUR: 'it returns false'. Refute it at one input. -/
def sumNoughtsWrong : ChangeSpec := { name := "sumNoughts", fn := fun _ => fun
  | [d1, d2, d3] => { results := [.lit (.bool false)], args := [d1, d2, d3] }
  | _ => none }
def SumNoughtsWrongFalsely : Prop := sumNoughtsRow.holds Tryd.pinned (OpenSpec.ofChange sumNoughtsWrong)

/-- 'pinnacelaw18.SumTails': WHATEVER THE INPUT: true; the input reads as it did. -/
def sumTailsSpec : ChangeSpec := { name := "sumTails", fn := fun _ => fun
  | [d] => { results := [.lit (.bool true)], args := [d] }
  | _ => none }
def sumTailsRow : OpenClaim := { program := "ytcoiaggedipapaadoor", sum := "a1607982943f7c830f3e5235f6d5ab7df1488d7a99acc7f9ea1e3fa6cd53bcf2", func := "pinnace/pinnacelaw18.SumTails", spec := "sumTails", inPlace := ["internal/reflectlite.ValueOf", "(internal/reflectlite.Value).Type", "(internal/reflectlite.Value).IsNil", "internal/reflectlite.TypeOf", "(internal/reflectlite.Value).Elem", "(internal/reflectlite.Value).Set"], unfollowed := true, recurses := true, named := ["pinnace/sum.nibbles", "errors.errorType"], apart := false, laid := [("errors.errorType", laid_errors_errorType), ("pinnace/sum.nibbles", laid_pinnace_sum_nibbles)] }
def SumTailsSaid : Prop := sumTailsRow.holds Tryd.pinned (OpenSpec.ofChange sumTailsSpec)

/-- ITS FALSE NEIGHBOUR: 'it returns false'. Refute it at one input. -/
def sumTailsWrong : ChangeSpec := { name := "sumTails", fn := fun _ => fun
  | [d] => { results := [.lit (.bool false)], args := [d] }
  | _ => none }
def SumTailsWrongFalsely : Prop := sumTailsRow.holds Tryd.pinned (OpenSpec.ofChange sumTailsWrong)

/-- 'pinnacelaw19.TlvLays': WHATEVER THE INPUT: true; the input reads as it did. -/
def tlvLaysSpec : ChangeSpec := { name := "tlvLays", fn := fun _ => fun
  | [d] => { results := [.lit (.bool true)], args := [d] }
  | _ => none }
def tlvLaysRow : OpenClaim := { program := "ytcoiaggedipapaadoor", sum := "a1607982943f7c830f3e5235f6d5ab7df1488d7a99acc7f9ea1e3fa6cd53bcf2", func := "pinnace/pinnacelaw19.TlvLays", spec := "tlvLays", named := ["pinnace/sum.nibbles"], apart := false, laid := [("pinnace/sum.nibbles", laid_pinnace_sum_nibbles)] }
def TlvLaysSaid : Prop := tlvLaysRow.holds Tryd.pinned (OpenSpec.ofChange tlvLaysSpec)

/-- ITS FALSE NEIGHBOUR: 'it returns false'. Refute it at one input. -/
def tlvLaysWrong : ChangeSpec := { name := "tlvLays", fn := fun _ => fun
  | [d] => { results := [.lit (.bool false)], args := [d] }
  | _ => none }
def TlvLaysWrongFalsely : Prop := tlvLaysRow.holds Tryd.pinned (OpenSpec.ofChange tlvLaysWrong)

/-- 'pinnacelaw19.TlvDecodes': WHATEVER THE INPUT: true; the input reads as it did. -/
def tlvDecodesSpec : ChangeSpec := { name := "tlvDecodes", fn := fun _ => fun
  | [d] => { results := [.lit (.bool true)], args := [d] }
  | _ => none }
def tlvDecodesRow : OpenClaim := { program := "ytcoiaggedipapaadoor", sum := "a1607982943f7c830f3e5235f6d5ab7df1488d7a99acc7f9ea1e3fa6cd53bcf2", func := "pinnace/pinnacelaw19.TlvDecodes", spec := "tlvDecodes", inPlace := ["internal/reflectlite.ValueOf", "(internal/reflectlite.Value).Type", "(internal/reflectlite.Value).IsNil", "internal/reflectlite.TypeOf", "(internal/reflectlite.Value).Elem", "(internal/reflectlite.Value).Set"], unfollowed := true, recurses := true, named := ["pinnace/sum.nibbles", "errors.errorType"], apart := false, laid := [("errors.errorType", laid_errors_errorType), ("pinnace/sum.nibbles", laid_pinnace_sum_nibbles)] }
def TlvDecodesSaid : Prop := tlvDecodesRow.holds Tryd.pinned (OpenSpec.ofChange tlvDecodesSpec)

/-- ITS FALSE NEIGHBOUR: 'it returns false'. Refute it at one input. -/
def tlvDecodesWrong : ChangeSpec := { name := "tlvDecodes", fn := fun _ => fun
  | [d] => { results := [.lit (.bool false)], args := [d] }
  | _ => none }
def TlvDecodesWrongFalsely : Prop := tlvDecodesRow.holds Tryd.pinned (OpenSpec.ofChange tlvDecodesWrong)

/-- 'pinnacelaw19.TlvEncodes': WHATEVER THE INPUT: true; the input reads as it did. -/
def tlvEncodesSpec : ChangeSpec := { name := "tlvEncodes", fn := fun _ => fun
  | [d1, d2, d3] => { results := [.lit (.bool true)], args := [d1, d2, d3] }
  | _ => none }
def tlvEncodesRow : OpenClaim := { program := "ytcoiaggedipapaadoor", sum := "a1607982943f7c830f3e5235f6d5ab7df1488d7a99acc7f9ea1e3fa6cd53bcf2", func := "pinnace/pinnacelaw19.TlvEncodes", spec := "tlvEncodes", inPlace := ["internal/reflectlite.ValueOf", "(internal/reflectlite.Value).Type", "(internal/reflectlite.Value).IsNil", "internal/reflectlite.TypeOf", "(internal/reflectlite.Value).Elem", "(internal/reflectlite.Value).Set"], unfollowed := true, recurses := true, named := ["pinnace/sum.nibbles", "errors.errorType"], apart := false, laid := [("errors.errorType", laid_errors_errorType), ("pinnace/sum.nibbles", laid_pinnace_sum_nibbles)] }
def TlvEncodesSaid : Prop := tlvEncodesRow.holds Tryd.pinned (OpenSpec.ofChange tlvEncodesSpec)

/-- ITS FALSE NEIGHBOUR: 'it returns false'. Refute it at one input. -/
def tlvEncodesWrong : ChangeSpec := { name := "tlvEncodes", fn := fun _ => fun
  | [d1, d2, d3] => { results := [.lit (.bool false)], args := [d1, d2, d3] }
  | _ => none }
def TlvEncodesWrongFalsely : Prop := tlvEncodesRow.holds Tryd.pinned (OpenSpec.ofChange tlvEncodesWrong)

/-- 'pinnacelaw19.TlvOrder': WHATEVER THE INPUT: true; the input reads as it did. -/
def tlvOrderSpec : ChangeSpec := { name := "tlvOrder", fn := fun _ => fun
  | [d1, d2] => { results := [.lit (.bool true)], args := [d1, d2] }
  | _ => none }
def tlvOrderRow : OpenClaim := { program := "ytcoiaggedipapaadoor", sum := "a1607982943f7c830f3e5235f6d5ab7df1488d7a99acc7f9ea1e3fa6cd53bcf2", func := "pinnace/pinnacelaw19.TlvOrder", spec := "tlvOrder", inPlace := ["internal/reflectlite.ValueOf", "(internal/reflectlite.Value).Type", "(internal/reflectlite.Value).IsNil", "internal/reflectlite.TypeOf", "(internal/reflectlite.Value).Elem", "(internal/reflectlite.Value).Set"], unfollowed := true, recurses := true, named := ["pinnace/sum.nibbles", "errors.errorType"], apart := false, laid := [("errors.errorType", laid_errors_errorType), ("pinnace/sum.nibbles", laid_pinnace_sum_nibbles)] }
def TlvOrderSaid : Prop := tlvOrderRow.holds Tryd.pinned (OpenSpec.ofChange tlvOrderSpec)

/-- ITS FALSE NEIGHBOUR: 'it returns false'. Refute it at one input. -/
def tlvOrderWrong : ChangeSpec := { name := "tlvOrder", fn := fun _ => fun
  | [d1, d2] => { results := [.lit (.bool false)], args := [d1, d2] }
  | _ => none }
def TlvOrderWrongFalsely : Prop := tlvOrderRow.holds Tryd.pinned (OpenSpec.ofChange tlvOrderWrong)

/-- 'pinnacelaw19.TlvTakes': WHATEVER THE INPUT: true; the input reads as it did. -/
def tlvTakesSpec : ChangeSpec := { name := "tlvTakes", fn := fun _ => fun
  | [d1, d2] => { results := [.lit (.bool true)], args := [d1, d2] }
  | _ => none }
def tlvTakesRow : OpenClaim := { program := "ytcoiaggedipapaadoor", sum := "a1607982943f7c830f3e5235f6d5ab7df1488d7a99acc7f9ea1e3fa6cd53bcf2", func := "pinnace/pinnacelaw19.TlvTakes", spec := "tlvTakes", inPlace := ["internal/reflectlite.ValueOf", "(internal/reflectlite.Value).Type", "(internal/reflectlite.Value).IsNil", "internal/reflectlite.TypeOf", "(internal/reflectlite.Value).Elem", "(internal/reflectlite.Value).Set"], unfollowed := true, recurses := true, named := ["errors.errorType", "pinnace/sum.nibbles"], apart := false, laid := [("errors.errorType", laid_errors_errorType), ("pinnace/sum.nibbles", laid_pinnace_sum_nibbles)] }
def TlvTakesSaid : Prop := tlvTakesRow.holds Tryd.pinned (OpenSpec.ofChange tlvTakesSpec)

/-- ITS FALSE NEIGHBOUR: 'it returns false'. Refute it at one input. -/
def tlvTakesWrong : ChangeSpec := { name := "tlvTakes", fn := fun _ => fun
  | [d1, d2] => { results := [.lit (.bool false)], args := [d1, d2] }
  | _ => none }
def TlvTakesWrongFalsely : Prop := tlvTakesRow.holds Tryd.pinned (OpenSpec.ofChange tlvTakesWrong)

/- THE SECOND FORM. 'bulk': how many values and letters a reading holds, each counted each time it is reached (what is shared counts as often as it is met; a slice's spare places count too). A statement '..UptoSaid' is the law's where the arguments, and the package variables that the reading takes, are together of bulk at most 1048576: NARROWER than '..Said'. Prove '..Said' where nothing that the law and all that it calls make is longer than what came in: it says more and counts as full. Else prove '..UptoSaid'. A law counts once. -/
mutual
def uptoBulk {H : Type} : DataW H → Nat
  | .lit (.string bytes) => bytes.length + 1
  | .lit _ => 1
  | .nil => 1
  | .ptr d => uptoBulk d + 1
  | .slice elems spare => uptoBulkAll elems + uptoBulkAll spare + 1
  | .agg parts => uptoBulkAll parts + 1
  | .iface _ d => uptoBulk d + 1
  | .map entries => uptoBulkEntries entries + 1
  | .held _ => 1
def uptoBulkAll {H : Type} : List (DataW H) → Nat
  | [] => 0
  | d :: r => uptoBulk d + uptoBulkAll r
def uptoBulkEntries {H : Type} : List (Lit × DataW H) → Nat
  | [] => 0
  | x :: r => uptoBulkEntry x + uptoBulkEntries r
def uptoBulkEntry {H : Type} : Lit × DataW H → Nat
  | (.string bytes, d) => bytes.length + uptoBulk d + 1
  | (_, d) => uptoBulk d + 1
 end
def uptoSmall : (H : Type) → List (DataW H) → Bool := fun _ ds => decide (uptoBulkAll ds ≤ 1048576)
def OpenSpec.upto (s : _root_.Go.ChangeSpec) : _root_.Go.OpenSpec := { _root_.Go.OpenSpec.ofChange s with cond := some uptoSmall }

/-- 'pinnacelaw18.SumSums', WHERE WHAT IT READS IS OF BULK AT MOST 1048576: true; the input reads as it did. -/
def sumSumsUptoRow : OpenClaim := { program := "ytcoiaggedipapaadoor", sum := "a1607982943f7c830f3e5235f6d5ab7df1488d7a99acc7f9ea1e3fa6cd53bcf2", func := "pinnace/pinnacelaw18.SumSums", spec := "sumSums", named := ["pinnace/sum.nibbles"], apart := false, laid := [("pinnace/sum.nibbles", laid_pinnace_sum_nibbles)], narrowed := true }
def SumSumsUptoSaid : Prop := sumSumsUptoRow.holds Tryd.pinned (OpenSpec.upto sumSumsSpec)

/-- 'pinnacelaw18.SumThree', WHERE WHAT IT READS IS OF BULK AT MOST 1048576: true; the input reads as it did. -/
def sumThreeUptoRow : OpenClaim := { program := "ytcoiaggedipapaadoor", sum := "a1607982943f7c830f3e5235f6d5ab7df1488d7a99acc7f9ea1e3fa6cd53bcf2", func := "pinnace/pinnacelaw18.SumThree", spec := "sumThree", named := ["pinnace/sum.nibbles"], apart := false, laid := [("pinnace/sum.nibbles", laid_pinnace_sum_nibbles)], narrowed := true }
def SumThreeUptoSaid : Prop := sumThreeUptoRow.holds Tryd.pinned (OpenSpec.upto sumThreeSpec)

/-- 'pinnacelaw18.SumNear', WHERE WHAT IT READS IS OF BULK AT MOST 1048576: true; the input reads as it did. -/
def sumNearUptoRow : OpenClaim := { program := "ytcoiaggedipapaadoor", sum := "a1607982943f7c830f3e5235f6d5ab7df1488d7a99acc7f9ea1e3fa6cd53bcf2", func := "pinnace/pinnacelaw18.SumNear", spec := "sumNear", named := ["pinnace/sum.nibbles"], apart := false, laid := [("pinnace/sum.nibbles", laid_pinnace_sum_nibbles)], narrowed := true }
def SumNearUptoSaid : Prop := sumNearUptoRow.holds Tryd.pinned (OpenSpec.upto sumNearSpec)

/-- 'pinnacelaw19.TlvBack', WHERE WHAT IT READS IS OF BULK AT MOST 1048576: true; the input reads as it did. -/
def tlvBackUptoRow : OpenClaim := { program := "ytcoiaggedipapaadoor", sum := "a1607982943f7c830f3e5235f6d5ab7df1488d7a99acc7f9ea1e3fa6cd53bcf2", func := "pinnace/pinnacelaw19.TlvBack", spec := "tlvBack", named := ["pinnace/sum.nibbles"], apart := false, laid := [("pinnace/sum.nibbles", laid_pinnace_sum_nibbles)], narrowed := true }
def TlvBackUptoSaid : Prop := tlvBackUptoRow.holds Tryd.pinned (OpenSpec.upto tlvBackSpec)

/-- 'pinnacelaw19.TlvSpoilt', WHERE WHAT IT READS IS OF BULK AT MOST 1048576: true; the input reads as it did. -/
def tlvSpoiltUptoRow : OpenClaim := { program := "ytcoiaggedipapaadoor", sum := "a1607982943f7c830f3e5235f6d5ab7df1488d7a99acc7f9ea1e3fa6cd53bcf2", func := "pinnace/pinnacelaw19.TlvSpoilt", spec := "tlvSpoilt", named := ["pinnace/sum.nibbles"], apart := false, laid := [("pinnace/sum.nibbles", laid_pinnace_sum_nibbles)], narrowed := true }
def TlvSpoiltUptoSaid : Prop := tlvSpoiltUptoRow.holds Tryd.pinned (OpenSpec.upto tlvSpoiltSpec)

/-- 'pinnacelaw18.SumNoughts', WHERE WHAT IT READS IS OF BULK AT MOST 1048576: true; the input reads as it did. -/
def sumNoughtsUptoRow : OpenClaim := { program := "ytcoiaggedipapaadoor", sum := "a1607982943f7c830f3e5235f6d5ab7df1488d7a99acc7f9ea1e3fa6cd53bcf2", func := "pinnace/pinnacelaw18.SumNoughts", spec := "sumNoughts", inPlace := ["internal/reflectlite.ValueOf", "(internal/reflectlite.Value).Type", "(internal/reflectlite.Value).IsNil", "internal/reflectlite.TypeOf", "(internal/reflectlite.Value).Elem", "(internal/reflectlite.Value).Set"], unfollowed := true, recurses := true, named := ["errors.errorType", "pinnace/sum.nibbles"], apart := false, laid := [("errors.errorType", laid_errors_errorType), ("pinnace/sum.nibbles", laid_pinnace_sum_nibbles)], narrowed := true }
def SumNoughtsUptoSaid : Prop := sumNoughtsUptoRow.holds Tryd.pinned (OpenSpec.upto sumNoughtsSpec)

/-- 'pinnacelaw18.SumTails', WHERE WHAT IT READS IS OF BULK AT MOST 1048576: true; the input reads as it did. -/
def sumTailsUptoRow : OpenClaim := { program := "ytcoiaggedipapaadoor", sum := "a1607982943f7c830f3e5235f6d5ab7df1488d7a99acc7f9ea1e3fa6cd53bcf2", func := "pinnace/pinnacelaw18.SumTails", spec := "sumTails", inPlace := ["internal/reflectlite.ValueOf", "(internal/reflectlite.Value).Type", "(internal/reflectlite.Value).IsNil", "internal/reflectlite.TypeOf", "(internal/reflectlite.Value).Elem", "(internal/reflectlite.Value).Set"], unfollowed := true, recurses := true, named := ["pinnace/sum.nibbles", "errors.errorType"], apart := false, laid := [("errors.errorType", laid_errors_errorType), ("pinnace/sum.nibbles", laid_pinnace_sum_nibbles)], narrowed := true }
def SumTailsUptoSaid : Prop := sumTailsUptoRow.holds Tryd.pinned (OpenSpec.upto sumTailsSpec)

/-- 'pinnacelaw19.TlvLays', WHERE WHAT IT READS IS OF BULK AT MOST 1048576: true; the input reads as it did. -/
def tlvLaysUptoRow : OpenClaim := { program := "ytcoiaggedipapaadoor", sum := "a1607982943f7c830f3e5235f6d5ab7df1488d7a99acc7f9ea1e3fa6cd53bcf2", func := "pinnace/pinnacelaw19.TlvLays", spec := "tlvLays", named := ["pinnace/sum.nibbles"], apart := false, laid := [("pinnace/sum.nibbles", laid_pinnace_sum_nibbles)], narrowed := true }
def TlvLaysUptoSaid : Prop := tlvLaysUptoRow.holds Tryd.pinned (OpenSpec.upto tlvLaysSpec)

/-- 'pinnacelaw19.TlvDecodes', WHERE WHAT IT READS IS OF BULK AT MOST 1048576: true; the input reads as it did. -/
def tlvDecodesUptoRow : OpenClaim := { program := "ytcoiaggedipapaadoor", sum := "a1607982943f7c830f3e5235f6d5ab7df1488d7a99acc7f9ea1e3fa6cd53bcf2", func := "pinnace/pinnacelaw19.TlvDecodes", spec := "tlvDecodes", inPlace := ["internal/reflectlite.ValueOf", "(internal/reflectlite.Value).Type", "(internal/reflectlite.Value).IsNil", "internal/reflectlite.TypeOf", "(internal/reflectlite.Value).Elem", "(internal/reflectlite.Value).Set"], unfollowed := true, recurses := true, named := ["pinnace/sum.nibbles", "errors.errorType"], apart := false, laid := [("errors.errorType", laid_errors_errorType), ("pinnace/sum.nibbles", laid_pinnace_sum_nibbles)], narrowed := true }
def TlvDecodesUptoSaid : Prop := tlvDecodesUptoRow.holds Tryd.pinned (OpenSpec.upto tlvDecodesSpec)

/-- 'pinnacelaw19.TlvEncodes', WHERE WHAT IT READS IS OF BULK AT MOST 1048576: true; the input reads as it did. -/
def tlvEncodesUptoRow : OpenClaim := { program := "ytcoiaggedipapaadoor", sum := "a1607982943f7c830f3e5235f6d5ab7df1488d7a99acc7f9ea1e3fa6cd53bcf2", func := "pinnace/pinnacelaw19.TlvEncodes", spec := "tlvEncodes", inPlace := ["internal/reflectlite.ValueOf", "(internal/reflectlite.Value).Type", "(internal/reflectlite.Value).IsNil", "internal/reflectlite.TypeOf", "(internal/reflectlite.Value).Elem", "(internal/reflectlite.Value).Set"], unfollowed := true, recurses := true, named := ["pinnace/sum.nibbles", "errors.errorType"], apart := false, laid := [("errors.errorType", laid_errors_errorType), ("pinnace/sum.nibbles", laid_pinnace_sum_nibbles)], narrowed := true }
def TlvEncodesUptoSaid : Prop := tlvEncodesUptoRow.holds Tryd.pinned (OpenSpec.upto tlvEncodesSpec)

/-- 'pinnacelaw19.TlvOrder', WHERE WHAT IT READS IS OF BULK AT MOST 1048576: true; the input reads as it did. -/
def tlvOrderUptoRow : OpenClaim := { program := "ytcoiaggedipapaadoor", sum := "a1607982943f7c830f3e5235f6d5ab7df1488d7a99acc7f9ea1e3fa6cd53bcf2", func := "pinnace/pinnacelaw19.TlvOrder", spec := "tlvOrder", inPlace := ["internal/reflectlite.ValueOf", "(internal/reflectlite.Value).Type", "(internal/reflectlite.Value).IsNil", "internal/reflectlite.TypeOf", "(internal/reflectlite.Value).Elem", "(internal/reflectlite.Value).Set"], unfollowed := true, recurses := true, named := ["pinnace/sum.nibbles", "errors.errorType"], apart := false, laid := [("errors.errorType", laid_errors_errorType), ("pinnace/sum.nibbles", laid_pinnace_sum_nibbles)], narrowed := true }
def TlvOrderUptoSaid : Prop := tlvOrderUptoRow.holds Tryd.pinned (OpenSpec.upto tlvOrderSpec)

/-- 'pinnacelaw19.TlvTakes', WHERE WHAT IT READS IS OF BULK AT MOST 1048576: true; the input reads as it did. -/
def tlvTakesUptoRow : OpenClaim := { program := "ytcoiaggedipapaadoor", sum := "a1607982943f7c830f3e5235f6d5ab7df1488d7a99acc7f9ea1e3fa6cd53bcf2", func := "pinnace/pinnacelaw19.TlvTakes", spec := "tlvTakes", inPlace := ["internal/reflectlite.ValueOf", "(internal/reflectlite.Value).Type", "(internal/reflectlite.Value).IsNil", "internal/reflectlite.TypeOf", "(internal/reflectlite.Value).Elem", "(internal/reflectlite.Value).Set"], unfollowed := true, recurses := true, named := ["errors.errorType", "pinnace/sum.nibbles"], apart := false, laid := [("errors.errorType", laid_errors_errorType), ("pinnace/sum.nibbles", laid_pinnace_sum_nibbles)], narrowed := true }
def TlvTakesUptoSaid : Prop := tlvTakesUptoRow.holds Tryd.pinned (OpenSpec.upto tlvTakesSpec)

end Rows
end Go.Proofs.YtcoiaggedipapaaDoor
