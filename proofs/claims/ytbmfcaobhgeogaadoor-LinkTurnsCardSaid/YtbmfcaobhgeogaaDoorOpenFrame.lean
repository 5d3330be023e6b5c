/-
  Arguments that came in: bytes, numbers, a frame.
-/
import Derived.Test.YtbmfcaobhgeogaaDoorOpenA
import Derived.Test.YtbmfcaobhgeogaaDoorOpenA
import Derived.Test.YtbmfcaobhgeogaaDoorRows
namespace Go.Proofs.YtbmfcaobhgeogaaDoor
open Go.ChangeShapes Go.WideShapes Go.ChangeAt Go.RowKit Go.Deep
set_option linter.unusedVariables false
set_option linter.unusedSimpArgs false
set_option maxRecDepth 100000
namespace Op
variable {H : Type} {enc : TypeId × Value → H} {w : World} {base : Nat} {spare : Nat → Bool} {held : Bool} {r : Reach} {b0 : Nat} {v : Value} {d : DataW H} {p : List MemPlace}
/-- A slice of bytes. -/
theorem open_bytes (hv : Value.okWide Tryd.prog w r b0 47 v) (h : DataW.Trod enc Tryd.prog w base spare held 47 v d p) (hs : Sz Tryd.prog 47 d) : ∃ A n c l, v = .slice A n c ∧ Bs w A n c l := by
  obtain ⟨A, n, c, rfl⟩ := okWide_slice Tryd.underlying47 hv
  obtain ⟨fuel, hf⟩ := h
  have hf' : DataW.trod enc Tryd.prog w base spare held fuel 47 [.slice A n c] = some (d, p) := hf
  exact bytes_at hf' hs
theorem open_u32 (hv : Value.okWide Tryd.prog w r b0 22 v) (h : DataW.Trod enc Tryd.prog w base spare held 22 v d p) : ∃ x : Nat, v = .int .u32 (x : Int) ∧ x < 4294967296 := by
  obtain ⟨x, rfl, _, _, wx⟩ := open_int Tryd.underlying22 hv h
  have := bd_of_wf wx
  simp [IntKind.min, IntKind.max, IntKind.signed, IntKind.bits] at this
  exact ⟨x.toNat, by rw [Int.toNat_of_nonneg this.1], by omega⟩
theorem open_i64 (hv : Value.okWide Tryd.prog w r b0 3 v) (h : DataW.Trod enc Tryd.prog w base spare held 3 v d p) : ∃ x : Int, v = .int .i64 x ∧ -9223372036854775808 ≤ x ∧ x ≤ 9223372036854775807 := by
  obtain ⟨x, rfl, _, _, wx⟩ := open_int Tryd.underlying3 hv h
  have := bd_of_wf wx
  simp [IntKind.min, IntKind.max, IntKind.signed, IntKind.bits] at this
  exact ⟨x, rfl, by omega, by omega⟩
theorem array5 {cs : Array Value} (h : cs.size = 5) : ∃ c0 c1 c2 c3 c4, cs = #[c0, c1, c2, c3, c4] := by
  obtain ⟨l⟩ := cs
  match l, h with
  | [c0, c1, c2, c3, c4], _ => exact ⟨c0, c1, c2, c3, c4, rfl⟩
end Op
end Go.Proofs.YtbmfcaobhgeogaaDoor
