/-
  NARROWER THAN 'FOR EVERY INPUT', by the rows' own cells (each row's printed sentence says how): WireNear: laid · WireSizes: laid · WireBack: laid · WireDecodes: laid · WireEncodes: laid.
  DERIVED. THE GIVEN ROWS OF THIS SEAT. 5 by the template 'for every input the law returns true; each argument reads behind the call as it read before'; 0 by the template 'total and deterministic' (their statements: YtifkfcjapomlbaaDoorTotals.lean).
  GIVEN WITH THE SEED: the statements are not yours to turn. If you find one false, say at which input.
  Laid BY PROGRAM, IN A SANDBOX (cutbox-rows.mjs): the forced cells as the released guide's own fill.sh prints them over the translation aec940e3668aeefe… (all of the seat's roots in one cut). By AI agents, Wed Nov 11 2026. No macro, syntax, notation, axiom, sorry.
-/
import Derived.Test.YtifkfcjapomlbaaDoorChecked
import GoSem.Claim
import GoSem.ClaimJoined
import GoSem.ClaimMapViews
import Derived.JoinedTies
import Derived.KernelRfl
namespace Go.Proofs.YtifkfcjapomlbaaDoor
/- THE CELL 'sum', in the pinned program and in every row, IS THE sha256 OF THE DUMP (.gsa) THAT YtifkfcjapomlbaaDoorProg.lean LOADS. Nothing in Lean hashes anything: it is a label: what it is worth is what the hold of that sum in a sandbox is worth. -/
noncomputable def Tryd.pinned : Pinned := { name := "ytifkfcjapomlbaadoor", sum := "aec940e3668aeefe1fcc137b5780675201c474b625dc41cc265c006b0cf50a0e", checked := Tryd.checked }
namespace Rows
def none {H : Type} : Left H := { results := [], args := [] }

/- WHAT THE LISTED PACKAGE-LEVEL VARIABLES READ AS WHEN THE CALL BEGINS. Each datum BY PROGRAM (the guide's laid-datum.mjs) off the statement by which the dump's own 'gosem.cut.vars' lays the variable. In a bare row this is a premise. The card (YtifkfcjapomlbaaDoorCards.lean) ties it to the program's text. -/
def laid_pinnace_sum_nibbles {H : Type} : DataW H := .agg [.lit (.int .u32 0), .lit (.int .u32 79764919), .lit (.int .u32 159529838), .lit (.int .u32 222504665), .lit (.int .u32 319059676), .lit (.int .u32 398814059), .lit (.int .u32 445009330), .lit (.int .u32 507990021), .lit (.int .u32 638119352), .lit (.int .u32 583659535), .lit (.int .u32 797628118), .lit (.int .u32 726387553), .lit (.int .u32 890018660), .lit (.int .u32 835552979), .lit (.int .u32 1015980042), .lit (.int .u32 944750013)]
def laid_errors_errorType {H : Type} : DataW H := .iface "internal/reflectlite.rtype" (.agg [.ptr (.lit (.string [101, 114, 114, 111, 114]))])

/-- 'pinnacelaw22.WireNear': WHATEVER THE INPUT: true; the input reads as it did. -/
def wireNearSpec : ChangeSpec := { name := "wireNear", fn := fun _ => fun
  | [d1, d2, d3] => { results := [.lit (.bool true)], args := [d1, d2, d3] }
  | _ => none }
def wireNearRow : OpenClaim := { program := "ytifkfcjapomlbaadoor", sum := "aec940e3668aeefe1fcc137b5780675201c474b625dc41cc265c006b0cf50a0e", func := "pinnace/pinnacelaw22.WireNear", spec := "wireNear", named := ["pinnace/sum.nibbles"], apart := false, laid := [("pinnace/sum.nibbles", laid_pinnace_sum_nibbles)] }
def WireNearSaid : Prop := wireNearRow.holds Tryd.pinned (OpenSpec.ofChange wireNearSpec)

/-- ITS FALSE NEIGHBOUR: 'it returns false'. Refute it at one input. -/
def wireNearWrong : ChangeSpec := { name := "wireNear", fn := fun _ => fun
  | [d1, d2, d3] => { results := [.lit (.bool false)], args := [d1, d2, d3] }
  | _ => none }
def WireNearWrongFalsely : Prop := wireNearRow.holds Tryd.pinned (OpenSpec.ofChange wireNearWrong)

/-- 'pinnacelaw22.WireSizes': WHATEVER THE INPUT: true; the input reads as it did. -/
def wireSizesSpec : ChangeSpec := { name := "wireSizes", fn := fun _ => fun
  | [d1, d2, d3] => { results := [.lit (.bool true)], args := [d1, d2, d3] }
  | _ => none }
def wireSizesRow : OpenClaim := { program := "ytifkfcjapomlbaadoor", sum := "aec940e3668aeefe1fcc137b5780675201c474b625dc41cc265c006b0cf50a0e", func := "pinnace/pinnacelaw22.WireSizes", spec := "wireSizes", named := ["pinnace/sum.nibbles"], apart := false, laid := [("pinnace/sum.nibbles", laid_pinnace_sum_nibbles)] }
def WireSizesSaid : Prop := wireSizesRow.holds Tryd.pinned (OpenSpec.ofChange wireSizesSpec)

/-- ITS FALSE NEIGHBOUR: 'it returns false'. Refute it at one input. -/
def wireSizesWrong : ChangeSpec := { name := "wireSizes", fn := fun _ => fun
  | [d1, d2, d3] => { results := [.lit (.bool false)], args := [d1, d2, d3] }
  | _ => none }
def WireSizesWrongFalsely : Prop := wireSizesRow.holds Tryd.pinned (OpenSpec.ofChange wireSizesWrong)

/-- 'pinnacelaw22.WireBack': WHATEVER THE INPUT: true; the input reads as it did. -/
def wireBackSpec : ChangeSpec := { name := "wireBack", fn := fun _ => fun
  | [d1, d2] => { results := [.lit (.bool true)], args := [d1, d2] }
  | _ => none }
def wireBackRow : OpenClaim := { program := "ytifkfcjapomlbaadoor", sum := "aec940e3668aeefe1fcc137b5780675201c474b625dc41cc265c006b0cf50a0e", func := "pinnace/pinnacelaw22.WireBack", spec := "wireBack", named := ["pinnace/sum.nibbles"], apart := false, laid := [("pinnace/sum.nibbles", laid_pinnace_sum_nibbles)] }
def WireBackSaid : Prop := wireBackRow.holds Tryd.pinned (OpenSpec.ofChange wireBackSpec)

/-- ITS FALSE NEIGHBOUR: 'it returns false'. Refute it at one input. -/
def wireBackWrong : ChangeSpec := { name := "wireBack", fn := fun _ => fun
  | [d1, d2] => { results := [.lit (.bool false)], args := [d1, d2] }
  | _ => none }
def WireBackWrongFalsely : Prop := wireBackRow.holds Tryd.pinned (OpenSpec.ofChange wireBackWrong)

/-- 'pinnacelaw22.WireDecodes': WHATEVER THE INPUT: true; the input reads as it did. -/
def wireDecodesSpec : ChangeSpec := { name := "wireDecodes", fn := fun _ => fun
  | [d] => { results := [.lit (.bool true)], args := [d] }
  | _ => none }
def wireDecodesRow : OpenClaim := { program := "ytifkfcjapomlbaadoor", sum := "aec940e3668aeefe1fcc137b5780675201c474b625dc41cc265c006b0cf50a0e", func := "pinnace/pinnacelaw22.WireDecodes", spec := "wireDecodes", inPlace := ["internal/reflectlite.ValueOf", "(internal/reflectlite.Value).Type", "(internal/reflectlite.Value).IsNil", "internal/reflectlite.TypeOf", "(internal/reflectlite.Value).Elem", "(internal/reflectlite.Value).Set"], unfollowed := true, recurses := true, named := ["pinnace/sum.nibbles", "errors.errorType"], apart := false, laid := [("errors.errorType", laid_errors_errorType), ("pinnace/sum.nibbles", laid_pinnace_sum_nibbles)] }
def WireDecodesSaid : Prop := wireDecodesRow.holds Tryd.pinned (OpenSpec.ofChange wireDecodesSpec)

/-- ITS FALSE NEIGHBOUR: 'it returns false'. Refute it at one input. -/
def wireDecodesWrong : ChangeSpec := { name := "wireDecodes", fn := fun _ => fun
  | [d] => { results := [.lit (.bool false)], args := [d] }
  | _ => none }
def WireDecodesWrongFalsely : Prop := wireDecodesRow.holds Tryd.pinned (OpenSpec.ofChange wireDecodesWrong)

/-- 'pinnacelaw22.WireEncodes': WHATEVER THE INPUT: true; the input reads as it did. -/
def wireEncodesSpec : ChangeSpec := { name := "wireEncodes", fn := fun _ => fun
  | [d] => { results := [.lit (.bool true)], args := [d] }
  | _ => none }
def wireEncodesRow : OpenClaim := { program := "ytifkfcjapomlbaadoor", sum := "aec940e3668aeefe1fcc137b5780675201c474b625dc41cc265c006b0cf50a0e", func := "pinnace/pinnacelaw22.WireEncodes", spec := "wireEncodes", inPlace := ["internal/reflectlite.ValueOf", "(internal/reflectlite.Value).Type", "(internal/reflectlite.Value).IsNil", "internal/reflectlite.TypeOf", "(internal/reflectlite.Value).Elem", "(internal/reflectlite.Value).Set"], unfollowed := true, recurses := true, named := ["pinnace/sum.nibbles", "errors.errorType"], apart := false, laid := [("errors.errorType", laid_errors_errorType), ("pinnace/sum.nibbles", laid_pinnace_sum_nibbles)] }
def WireEncodesSaid : Prop := wireEncodesRow.holds Tryd.pinned (OpenSpec.ofChange wireEncodesSpec)

/-- ITS FALSE NEIGHBOUR: 'it returns false'. Refute it at one input. -/
def wireEncodesWrong : ChangeSpec := { name := "wireEncodes", fn := fun _ => fun
  | [d] => { results := [.lit (.bool false)], args := [d] }
  | _ => none }
def WireEncodesWrongFalsely : Prop := wireEncodesRow.holds Tryd.pinned (OpenSpec.ofChange wireEncodesWrong)

/- THE SECOND FORM. 'bulk': how many values and letters a reading holds, each counted each time it is reached (what is shared counts as often as it is met; a slice's spare places count too). A statement '..UptoSaid' is the law's where the arguments, and the package variables that the reading takes, are together of bulk at most 1048576: NARROWER than '..Said'. Prove '..Said' where nothing that the law and all that it calls make is longer than what came in: it says more and counts as full. Else prove '..UptoSaid'. A law counts once. -/
mutual
def uptoBulk {H : Type} : DataW H → Nat
  | .lit (.string bytes) => bytes.length + 1
  | .lit _ => 1
  | .nil => 1
  | .ptr d => uptoBulk d + 1
  | .slice elems spare => uptoBulkAll elems + uptoBulkAll spare + 1
  | .agg parts => uptoBulkAll parts + 1
  | .iface _ d => uptoBulk d + 1
  | .map entries => uptoBulkEntries entries + 1
  | .held _ => 1
def uptoBulkAll {H : Type} : List (DataW H) → Nat
  | [] => 0
  | d :: r => uptoBulk d + uptoBulkAll r
def uptoBulkEntries {H : Type} : List (Lit × DataW H) → Nat
  | [] => 0
  | x :: r => uptoBulkEntry x + uptoBulkEntries r
def uptoBulkEntry {H : Type} : Lit × DataW H → Nat
  | (.string bytes, d) => bytes.length + uptoBulk d + 1
  | (_, d) => uptoBulk d + 1
 end
def uptoSmall : (H : Type) → List (DataW H) → Bool := fun _ ds => decide (uptoBulkAll ds ≤ 1048576)
def OpenSpec.upto (s : _root_.Go.ChangeSpec) : _root_.Go.OpenSpec := { _root_.Go.OpenSpec.ofChange s with cond := some uptoSmall }

/-- 'pinnacelaw22.WireNear', WHERE WHAT IT READS IS OF BULK AT MOST 1048576: true; the input reads as it did. -/
def wireNearUptoRow : OpenClaim := { program := "ytifkfcjapomlbaadoor", sum := "aec940e3668aeefe1fcc137b5780675201c474b625dc41cc265c006b0cf50a0e", func := "pinnace/pinnacelaw22.WireNear", spec := "wireNear", named := ["pinnace/sum.nibbles"], apart := false, laid := [("pinnace/sum.nibbles", laid_pinnace_sum_nibbles)], narrowed := true }
def WireNearUptoSaid : Prop := wireNearUptoRow.holds Tryd.pinned (OpenSpec.upto wireNearSpec)

/-- 'pinnacelaw22.WireSizes', WHERE WHAT IT READS IS OF BULK AT MOST 1048576: true; the input reads as it did. -/
def wireSizesUptoRow : OpenClaim := { program := "ytifkfcjapomlbaadoor", sum := "aec940e3668aeefe1fcc137b5780675201c474b625dc41cc265c006b0cf50a0e", func := "pinnace/pinnacelaw22.WireSizes", spec := "wireSizes", named := ["pinnace/sum.nibbles"], apart := false, laid := [("pinnace/sum.nibbles", laid_pinnace_sum_nibbles)], narrowed := true }
def WireSizesUptoSaid : Prop := wireSizesUptoRow.holds Tryd.pinned (OpenSpec.upto wireSizesSpec)

/-- 'pinnacelaw22.WireBack', WHERE WHAT IT READS IS OF BULK AT MOST 1048576: true; the input reads as it did. -/
def wireBackUptoRow : OpenClaim := { program := "ytifkfcjapomlbaadoor", sum := "aec940e3668aeefe1fcc137b5780675201c474b625dc41cc265c006b0cf50a0e", func := "pinnace/pinnacelaw22.WireBack", spec := "wireBack", named := ["pinnace/sum.nibbles"], apart := false, laid := [("pinnace/sum.nibbles", laid_pinnace_sum_nibbles)], narrowed := true }
def WireBackUptoSaid : Prop := wireBackUptoRow.holds Tryd.pinned (OpenSpec.upto wireBackSpec)

/-- 'pinnacelaw22.WireDecodes', WHERE WHAT IT READS IS OF BULK AT MOST 1048576: true; the input reads as it did. -/
def wireDecodesUptoRow : OpenClaim := { program := "ytifkfcjapomlbaadoor", sum := "aec940e3668aeefe1fcc137b5780675201c474b625dc41cc265c006b0cf50a0e", func := "pinnace/pinnacelaw22.WireDecodes", spec := "wireDecodes", inPlace := ["internal/reflectlite.ValueOf", "(internal/reflectlite.Value).Type", "(internal/reflectlite.Value).IsNil", "internal/reflectlite.TypeOf", "(internal/reflectlite.Value).Elem", "(internal/reflectlite.Value).Set"], unfollowed := true, recurses := true, named := ["pinnace/sum.nibbles", "errors.errorType"], apart := false, laid := [("errors.errorType", laid_errors_errorType), ("pinnace/sum.nibbles", laid_pinnace_sum_nibbles)], narrowed := true }
def WireDecodesUptoSaid : Prop := wireDecodesUptoRow.holds Tryd.pinned (OpenSpec.upto wireDecodesSpec)

/-- 'pinnacelaw22.WireEncodes', WHERE WHAT IT READS IS OF BULK AT MOST 1048576: true; the input reads as it did. -/
def wireEncodesUptoRow : OpenClaim := { program := "ytifkfcjapomlbaadoor", sum := "aec940e3668aeefe1fcc137b5780675201c474b625dc41cc265c006b0cf50a0e", func := "pinnace/pinnacelaw22.WireEncodes", spec := "wireEncodes", inPlace := ["internal/reflectlite.ValueOf", "(internal/reflectlite.Value).Type", "(internal/reflectlite.Value).IsNil", "internal/reflectlite.TypeOf", "(internal/reflectlite.Value).Elem", "(internal/reflectlite.Value).Set"], unfollowed := true, recurses := true, named := ["pinnace/sum.nibbles", "errors.errorType"], apart := false, laid := [("errors.errorType", laid_errors_errorType), ("pinnace/sum.nibbles", laid_pinnace_sum_nibbles)], narrowed := true }
def WireEncodesUptoSaid : Prop := wireEncodesUptoRow.holds Tryd.pinned (OpenSpec.upto wireEncodesSpec)

end Rows
end Go.Proofs.YtifkfcjapomlbaaDoor
