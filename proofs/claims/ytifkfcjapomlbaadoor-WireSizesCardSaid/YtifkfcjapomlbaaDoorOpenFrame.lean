/-
  Arguments that came in: bytes, numbers, a frame.
-/
import Derived.Test.YtifkfcjapomlbaaDoorOpenA
import Derived.Test.YtifkfcjapomlbaaDoorSum
import Derived.Test.YtifkfcjapomlbaaDoorRows
namespace Go.Proofs.YtifkfcjapomlbaaDoor
open Go.ChangeShapes Go.WideShapes Go.ChangeAt Go.RowKit Go.Deep
set_option linter.unusedVariables false
set_option linter.unusedSimpArgs false
set_option maxRecDepth 100000
namespace Op
variable {H : Type} {enc : TypeId × Value → H} {w : World} {base : Nat} {spare : Nat → Bool} {held : Bool} {r : Reach} {b0 : Nat} {v : Value} {d : DataW H} {p : List MemPlace}
/-- A slice of bytes. -/
theorem open_bytes (hv : Value.okWide Tryd.prog w r b0 23 v) (h : DataW.Trod enc Tryd.prog w base spare held 23 v d p) (hs : Sz Tryd.prog 23 d) : ∃ A n c l, v = .slice A n c ∧ Bs w A n c l := by
  obtain ⟨A, n, c, rfl⟩ := okWide_slice Tryd.underlying23 hv
  obtain ⟨fuel, hf⟩ := h
  have hf' : DataW.trod enc Tryd.prog w base spare held fuel 23 [.slice A n c] = some (d, p) := hf
  exact bytes_at hf' hs
theorem open_u32 (hv : Value.okWide Tryd.prog w r b0 22 v) (h : DataW.Trod enc Tryd.prog w base spare held 22 v d p) : ∃ x : Nat, v = .int .u32 (x : Int) ∧ x < 4294967296 := by
  obtain ⟨x, rfl, _, _, wx⟩ := open_int Tryd.underlying22 hv h
  have := bd_of_wf wx
  simp [IntKind.min, IntKind.max, IntKind.signed, IntKind.bits] at this
  exact ⟨x.toNat, by rw [Int.toNat_of_nonneg this.1], by omega⟩
theorem open_i64 (hv : Value.okWide Tryd.prog w r b0 3 v) (h : DataW.Trod enc Tryd.prog w base spare held 3 v d p) : ∃ x : Int, v = .int .i64 x ∧ -9223372036854775808 ≤ x ∧ x ≤ 9223372036854775807 := by
  obtain ⟨x, rfl, _, _, wx⟩ := open_int Tryd.underlying3 hv h
  have := bd_of_wf wx
  simp [IntKind.min, IntKind.max, IntKind.signed, IntKind.bits] at this
  exact ⟨x, rfl, by omega, by omega⟩
theorem array5 {cs : Array Value} (h : cs.size = 5) : ∃ c0 c1 c2 c3 c4, cs = #[c0, c1, c2, c3, c4] := by
  obtain ⟨l⟩ := cs
  match l, h with
  | [c0, c1, c2, c3, c4], _ => exact ⟨c0, c1, c2, c3, c4, rfl⟩
/-- A frame, by its value. -/
theorem open_frame (hv : Value.okWide Tryd.prog w r b0 25 v) (h : DataW.Trod enc Tryd.prog w base spare held 25 v d p) (hs : Sz Tryd.prog 25 d) :
    ∃ (k : Int) (s q n : Nat) (A : Option Addr) (m c : Nat) (l : List Nat), v = .agg #[.int .i64 k, .int .u32 s, .int .u32 q, .int .u32 n, .slice A m c] ∧ s < 4294967296 ∧ q < 4294967296 ∧ n < 4294967296 ∧ Bs w A m c l := by
  obtain ⟨cs, rfl, hsz⟩ := okWide_struct Tryd.underlying25 hv
  have h5 : Tryd.prog.cellsOf 25 = 5 := by kernel_rfl
  rw [h5] at hsz
  obtain ⟨c0, c1, c2, c3, c4, rfl⟩ := array5 hsz
  obtain ⟨fuel, hf⟩ := h
  have hf' : DataW.trod enc Tryd.prog w base spare held fuel 25 [c0, c1, c2, c3, c4] = some (d, p) := hf
  obtain ⟨xs, n, _, hx, _, hl, hF⟩ := DataW.trod_struct Tryd.underlying25 hf'
  obtain ⟨rfl, rfl⟩ := Prod.mk.inj hx
  match xs, hl with
  | [y0, y1, y2, y3, y4], _ =>
    have f0 := hF 0 _ rfl
    have f1 := hF 1 _ rfl
    have f2 := hF 2 _ rfl
    have f3 := hF 3 _ rfl
    have f4 := hF 4 _ rfl
    have c3' : Tryd.prog.cellsOf 3 = 1 := by kernel_rfl
    have c22' : Tryd.prog.cellsOf 22 = 1 := by kernel_rfl
    have c23' : Tryd.prog.cellsOf 23 = 1 := by kernel_rfl
    simp [c3', c22', c23'] at f0 f1 f2 f3 f4
    obtain ⟨z0, rfl, _, _⟩ := int_at Tryd.underlying3 f0
    obtain ⟨z1, rfl, l1, u1⟩ := int_at Tryd.underlying22 f1
    obtain ⟨z2, rfl, l2, u2⟩ := int_at Tryd.underlying22 f2
    obtain ⟨z3, rfl, l3, u3⟩ := int_at Tryd.underlying22 f3
    have hsz4 := sz_field Tryd.underlying25 hs (j := 4) rfl (d := y4.1) rfl
    obtain ⟨A4, n4, c4, l4, rfl, hb4⟩ := bytes_at f4 hsz4
    simp [IntKind.min, IntKind.max, IntKind.signed, IntKind.bits] at l1 u1 l2 u2 l3 u3
    exact ⟨z0, z1.toNat, z2.toNat, z3.toNat, A4, n4, c4, l4, by rw [Int.toNat_of_nonneg l1, Int.toNat_of_nonneg l2, Int.toNat_of_nonneg l3], by omega, by omega, by omega, hb4⟩
end Op
end Go.Proofs.YtifkfcjapomlbaaDoor
