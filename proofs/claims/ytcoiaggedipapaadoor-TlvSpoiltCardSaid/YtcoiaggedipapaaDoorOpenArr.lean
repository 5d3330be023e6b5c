/-
  An array of four bytes that came in.
-/
import Derived.Test.YtcoiaggedipapaaDoorOpenA
import Derived.Laws.IdiomArrays
import Derived.Lib.SmallJoins
namespace Go.Proofs.YtcoiaggedipapaaDoor
open Go.ChangeShapes Go.WideShapes Go.ChangeAt Go.RowKit Go.Deep
set_option linter.unusedVariables false
set_option linter.unusedSimpArgs false
set_option maxRecDepth 100000
namespace Op
variable {H : Type} {enc : TypeId × Value → H} {w : World} {base : Nat} {spare : Nat → Bool} {held : Bool} {r : Reach} {b0 : Nat} {v : Value} {d : DataW H} {p : List MemPlace}
theorem okWide_array {P : Program} {t e : TypeId} {n : Nat} (ht : P.underlying t = some (.array n e)) (h : Value.okWide P w r b0 t v) : ∃ cs, v = .agg cs ∧ cs.size = P.cellsOf t := by
  simp only [Value.okWide, ht] at h
  obtain ⟨cs, h1, h2, _⟩ := h
  exact ⟨cs, h1, h2⟩
theorem array4 {cs : Array Value} (h : cs.size = 4) : ∃ c0 c1 c2 c3, cs = #[c0, c1, c2, c3] := by
  obtain ⟨l⟩ := cs
  match l, h with
  | [c0, c1, c2, c3], _ => exact ⟨c0, c1, c2, c3, rfl⟩
theorem open_arr4 (hv : Value.okWide Tryd.prog w r b0 45 v) (h : DataW.Trod enc Tryd.prog w base spare held 45 v d p) :
    ∃ x0 x1 x2 x3 : Nat, v = .agg #[.int .u8 x0, .int .u8 x1, .int .u8 x2, .int .u8 x3] ∧ x0 < 256 ∧ x1 < 256 ∧ x2 < 256 ∧ x3 < 256 := by
  obtain ⟨cs, rfl, hsz⟩ := okWide_array Tryd.underlying45 hv
  have h4 : Tryd.prog.cellsOf 45 = 4 := by kernel_rfl
  rw [h4] at hsz
  obtain ⟨c0, c1, c2, c3, rfl⟩ := array4 hsz
  obtain ⟨fuel, hf⟩ := h
  have hf' : DataW.trod enc Tryd.prog w base spare held fuel 45 [c0, c1, c2, c3] = some (d, p) := hf
  obtain ⟨y0, y1, y2, y3, n, _, f0, f1, f2, f3⟩ := trod_array4 Tryd.underlying45 Tryd.cells5 hf'
  obtain ⟨z0, rfl, l0, u0⟩ := int_at Tryd.underlying5 f0
  obtain ⟨z1, rfl, l1, u1⟩ := int_at Tryd.underlying5 f1
  obtain ⟨z2, rfl, l2, u2⟩ := int_at Tryd.underlying5 f2
  obtain ⟨z3, rfl, l3, u3⟩ := int_at Tryd.underlying5 f3
  simp [IntKind.min, IntKind.max, IntKind.signed, IntKind.bits] at l0 u0 l1 u1 l2 u2 l3 u3
  exact ⟨z0.toNat, z1.toNat, z2.toNat, z3.toNat, by rw [Int.toNat_of_nonneg l0, Int.toNat_of_nonneg l1, Int.toNat_of_nonneg l2, Int.toNat_of_nonneg l3], by omega, by omega, by omega, by omega⟩
end Op
end Go.Proofs.YtcoiaggedipapaaDoor
