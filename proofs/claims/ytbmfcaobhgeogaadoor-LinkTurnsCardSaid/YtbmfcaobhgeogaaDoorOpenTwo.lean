/-
  Two numbers that came in.
-/
import Derived.Test.YtbmfcaobhgeogaaDoorOpenLink
import Derived.Test.YtbmfcaobhgeogaaDoorOpen
namespace Go.Proofs.YtbmfcaobhgeogaaDoor
open Go.ChangeShapes Go.WideShapes Go.ChangeAt Go.RowKit
set_option linter.unusedVariables false
set_option linter.unusedSimpArgs false
set_option maxRecDepth 100000
theorem open_two {H : Type} {enc : TypeId × Value → H} {w : World} {base : Nat} {spare : Nat → Bool} {held : Bool} {r : Reach} {b0 : Nat} {v : Value} {d : DataW H} {p : List MemPlace}
    (hv : Value.okWide Tryd.prog w r b0 72 v) (h : DataW.Trod enc Tryd.prog w base spare held 72 v d p) : ∃ a b : Int, v = .agg #[.int .i64 a, .int .i64 b] := by
  obtain ⟨l, rfl, hl, _⟩ := open_ints (n := 2) Tryd.underlying72 Tryd.underlying3 (by kernel_rfl) (by kernel_rfl) hv h
  match l, hl with
  | [a, b], _ => exact ⟨a, b, rfl⟩
end Go.Proofs.YtbmfcaobhgeogaaDoor
