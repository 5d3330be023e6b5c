/-
  No cell of these rows narrows 'for every input' (looked for: loops, veiled, ifaces, maps, wideKeys, modest, calm, conditions, laid).
  DERIVED. THE GIVEN ROWS OF THIS SEAT. 4 by the template 'for every input the law returns true; each argument reads behind the call as it read before'; 0 by the template 'total and deterministic' (their statements: YtbmfcaobhgeogaaTotals.lean).
  GIVEN WITH THE SEED: the statements are not yours to turn. If you find one false, say at which input.
  Laid BY PROGRAM, IN A SANDBOX (cutbox-rows.mjs): the forced cells as the released guide's own fill.sh prints them over the translation 5b321c3a5113bc64… (all of the seat's roots in one cut). By AI agents, Wed Nov 11 2026. No macro, syntax, notation, axiom, sorry.
-/
import Derived.Test.YtbmfcaobhgeogaaChecked
import GoSem.Claim
import GoSem.ClaimJoined
import GoSem.ClaimMapViews
import Derived.JoinedTies
import Derived.KernelRfl
namespace Go.Proofs.Ytbmfcaobhgeogaa
/- THE CELL 'sum', in the pinned program and in every row, IS THE sha256 OF THE DUMP (.gsa) THAT YtbmfcaobhgeogaaProg.lean LOADS. Nothing in Lean hashes anything: it is a label: what it is worth is what the hold of that sum in a sandbox is worth. -/
noncomputable def Try.pinned : Pinned := { name := "ytbmfcaobhgeogaa", sum := "5b321c3a5113bc64bd74f601aaeb69cf6466b6953ccfec71c6f19f0d99d4c4a0", checked := Try.checked }
namespace Rows
def none {H : Type} : Left H := { results := [], args := [] }

/-- 'pinnacelaw10.ClintTicks': WHATEVER THE INPUT: true; the input reads as it did. -/
def clintTicksSpec : ChangeSpec := { name := "clintTicks", fn := fun _ => fun
  | [d1, d2] => { results := [.lit (.bool true)], args := [d1, d2] }
  | _ => none }
def clintTicksRow : OpenClaim := { program := "ytbmfcaobhgeogaa", sum := "5b321c3a5113bc64bd74f601aaeb69cf6466b6953ccfec71c6f19f0d99d4c4a0", func := "pinnace/pinnacelaw10.ClintTicks", spec := "clintTicks", apart := false }
def ClintTicksSaid : Prop := clintTicksRow.holds Try.pinned (OpenSpec.ofChange clintTicksSpec)

/-- ITS FALSE NEIGHBOUR: 'it returns false'. Refute it at one input. -/
def clintTicksWrong : ChangeSpec := { name := "clintTicks", fn := fun _ => fun
  | [d1, d2] => { results := [.lit (.bool false)], args := [d1, d2] }
  | _ => none }
def ClintTicksWrongFalsely : Prop := clintTicksRow.holds Try.pinned (OpenSpec.ofChange clintTicksWrong)

/-- 'pinnacelaw10.ClintLines': WHATEVER THE INPUT: true; the input reads as it did. -/
def clintLinesSpec : ChangeSpec := { name := "clintLines", fn := fun _ => fun
  | [d] => { results := [.lit (.bool true)], args := [d] }
  | _ => none }
def clintLinesRow : OpenClaim := { program := "ytbmfcaobhgeogaa", sum := "5b321c3a5113bc64bd74f601aaeb69cf6466b6953ccfec71c6f19f0d99d4c4a0", func := "pinnace/pinnacelaw10.ClintLines", spec := "clintLines", apart := false }
def ClintLinesSaid : Prop := clintLinesRow.holds Try.pinned (OpenSpec.ofChange clintLinesSpec)

/-- ITS FALSE NEIGHBOUR: 'it returns false'. Refute it at one input. -/
def clintLinesWrong : ChangeSpec := { name := "clintLines", fn := fun _ => fun
  | [d] => { results := [.lit (.bool false)], args := [d] }
  | _ => none }
def ClintLinesWrongFalsely : Prop := clintLinesRow.holds Try.pinned (OpenSpec.ofChange clintLinesWrong)

/-- 'pinnacelaw10.ClintBack': WHATEVER THE INPUT: true; the input reads as it did. -/
def clintBackSpec : ChangeSpec := { name := "clintBack", fn := fun _ => fun
  | [d1, d2, d3] => { results := [.lit (.bool true)], args := [d1, d2, d3] }
  | _ => none }
def clintBackRow : OpenClaim := { program := "ytbmfcaobhgeogaa", sum := "5b321c3a5113bc64bd74f601aaeb69cf6466b6953ccfec71c6f19f0d99d4c4a0", func := "pinnace/pinnacelaw10.ClintBack", spec := "clintBack", apart := false }
def ClintBackSaid : Prop := clintBackRow.holds Try.pinned (OpenSpec.ofChange clintBackSpec)

/-- ITS FALSE NEIGHBOUR: 'it returns false'. Refute it at one input. -/
def clintBackWrong : ChangeSpec := { name := "clintBack", fn := fun _ => fun
  | [d1, d2, d3] => { results := [.lit (.bool false)], args := [d1, d2, d3] }
  | _ => none }
def ClintBackWrongFalsely : Prop := clintBackRow.holds Try.pinned (OpenSpec.ofChange clintBackWrong)

/-- 'pinnacelaw23.LinkKeeps': WHATEVER THE INPUT: true; the input reads as it did. -/
def linkKeepsSpec : ChangeSpec := { name := "linkKeeps", fn := fun _ => fun
  | [d] => { results := [.lit (.bool true)], args := [d] }
  | _ => none }
def linkKeepsRow : OpenClaim := { program := "ytbmfcaobhgeogaa", sum := "5b321c3a5113bc64bd74f601aaeb69cf6466b6953ccfec71c6f19f0d99d4c4a0", func := "pinnace/pinnacelaw23.LinkKeeps", spec := "linkKeeps", apart := false }
def LinkKeepsSaid : Prop := linkKeepsRow.holds Try.pinned (OpenSpec.ofChange linkKeepsSpec)

/-- ITS FALSE NEIGHBOUR: 'it returns false'. Refute it at one input. -/
def linkKeepsWrong : ChangeSpec := { name := "linkKeeps", fn := fun _ => fun
  | [d] => { results := [.lit (.bool false)], args := [d] }
  | _ => none }
def LinkKeepsWrongFalsely : Prop := linkKeepsRow.holds Try.pinned (OpenSpec.ofChange linkKeepsWrong)

/- THE SECOND FORM. 'bulk': how many values and letters a reading holds, each counted each time it is reached (what is shared counts as often as it is met; a slice's spare places count too). A statement '..UptoSaid' is the law's where the arguments, and the package variables that the reading takes, are together of bulk at most 1048576: NARROWER than '..Said'. Prove '..Said' where nothing that the law and all that it calls make is longer than what came in: it says more and counts as full. Else prove '..UptoSaid'. A law counts once. -/
mutual
def uptoBulk {H : Type} : DataW H → Nat
  | .lit (.string bytes) => bytes.length + 1
  | .lit _ => 1
  | .nil => 1
  | .ptr d => uptoBulk d + 1
  | .slice elems spare => uptoBulkAll elems + uptoBulkAll spare + 1
  | .agg parts => uptoBulkAll parts + 1
  | .iface _ d => uptoBulk d + 1
  | .map entries => uptoBulkEntries entries + 1
  | .held _ => 1
def uptoBulkAll {H : Type} : List (DataW H) → Nat
  | [] => 0
  | d :: r => uptoBulk d + uptoBulkAll r
def uptoBulkEntries {H : Type} : List (Lit × DataW H) → Nat
  | [] => 0
  | x :: r => uptoBulkEntry x + uptoBulkEntries r
def uptoBulkEntry {H : Type} : Lit × DataW H → Nat
  | (.string bytes, d) => bytes.length + uptoBulk d + 1
  | (_, d) => uptoBulk d + 1
 end
def uptoSmall : (H : Type) → List (DataW H) → Bool := fun _ ds => decide (uptoBulkAll ds ≤ 1048576)
def OpenSpec.upto (s : _root_.Go.ChangeSpec) : _root_.Go.OpenSpec := { _root_.Go.OpenSpec.ofChange s with cond := some uptoSmall }

/-- 'pinnacelaw10.ClintTicks', WHERE WHAT IT READS IS OF BULK AT MOST 1048576: true; the input reads as it did. -/
def clintTicksUptoRow : OpenClaim := { program := "ytbmfcaobhgeogaa", sum := "5b321c3a5113bc64bd74f601aaeb69cf6466b6953ccfec71c6f19f0d99d4c4a0", func := "pinnace/pinnacelaw10.ClintTicks", spec := "clintTicks", apart := false, narrowed := true }
def ClintTicksUptoSaid : Prop := clintTicksUptoRow.holds Try.pinned (OpenSpec.upto clintTicksSpec)

/-- 'pinnacelaw10.ClintLines', WHERE WHAT IT READS IS OF BULK AT MOST 1048576: true; the input reads as it did. -/
def clintLinesUptoRow : OpenClaim := { program := "ytbmfcaobhgeogaa", sum := "5b321c3a5113bc64bd74f601aaeb69cf6466b6953ccfec71c6f19f0d99d4c4a0", func := "pinnace/pinnacelaw10.ClintLines", spec := "clintLines", apart := false, narrowed := true }
def ClintLinesUptoSaid : Prop := clintLinesUptoRow.holds Try.pinned (OpenSpec.upto clintLinesSpec)

/-- 'pinnacelaw10.ClintBack', WHERE WHAT IT READS IS OF BULK AT MOST 1048576: true; the input reads as it did. -/
def clintBackUptoRow : OpenClaim := { program := "ytbmfcaobhgeogaa", sum := "5b321c3a5113bc64bd74f601aaeb69cf6466b6953ccfec71c6f19f0d99d4c4a0", func := "pinnace/pinnacelaw10.ClintBack", spec := "clintBack", apart := false, narrowed := true }
def ClintBackUptoSaid : Prop := clintBackUptoRow.holds Try.pinned (OpenSpec.upto clintBackSpec)

/-- 'pinnacelaw23.LinkKeeps', WHERE WHAT IT READS IS OF BULK AT MOST 1048576: true; the input reads as it did. -/
def linkKeepsUptoRow : OpenClaim := { program := "ytbmfcaobhgeogaa", sum := "5b321c3a5113bc64bd74f601aaeb69cf6466b6953ccfec71c6f19f0d99d4c4a0", func := "pinnace/pinnacelaw23.LinkKeeps", spec := "linkKeeps", apart := false, narrowed := true }
def LinkKeepsUptoSaid : Prop := linkKeepsUptoRow.holds Try.pinned (OpenSpec.upto linkKeepsSpec)

end Rows
end Go.Proofs.Ytbmfcaobhgeogaa
