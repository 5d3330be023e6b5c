/-
  Acts that came in.
-/
import Derived.Test.YtbmfcaobhgeogaaOpenA
import Derived.Test.YtbmfcaobhgeogaaKeepsHead
import Derived.Test.YtbmfcaobhgeogaaRows
namespace Go.Proofs.Ytbmfcaobhgeogaa
open Go.ChangeShapes Go.WideShapes Go.ChangeAt Go.RowKit Go.Deep
set_option linter.unusedVariables false
set_option linter.unusedSimpArgs false
set_option maxRecDepth 100000
theorem own : ownKnob Try.prog.godebug = none := by kernel_rfl
theorem laidOut : laidOutB Try.prog = true := by kernel_rfl
namespace Op
theorem Try.bytes53 : Try.prog.bytesOf 53 = 40 := by kernel_rfl
theorem Try.cells53 : Try.prog.cellsOf 53 = 5 := by kernel_rfl
theorem open_acts {H : Type} {enc : TypeId × Value → H} {w : World} {base : Nat} {spare : Nat → Bool} {held : Bool} {r : Reach} {b0 : Nat} {v : Value} {d : DataW H} {p : List MemPlace}
    (hv : Value.okWide Try.prog w r b0 45 v) (h : DataW.Trod enc Try.prog w base spare held 45 v d p) (hs : Sz Try.prog 45 d) : ∃ A n c L, v = .slice A n c ∧ Acts w A n c L := by
  obtain ⟨A, n, c, rfl⟩ := okWide_slice Try.underlying45 hv
  obtain ⟨fuel, hf⟩ := h
  rcases open_slice_fields Try.underlying45 Try.underlying53 (by kernel_rfl) Try.cells53 hf with ⟨hcs, _⟩ | ⟨a, len, cap, m, D, Pl, hcs, hb, hl, hm, hmm, hx, hi⟩
  · simp [Value.cells] at hcs
    obtain ⟨rfl, rfl, rfl⟩ := hcs
    exact ⟨none, 0, 0, [], rfl, rfl, Nat.le_refl _, by omega, (fun s h => by cases h), (fun (j : Nat) (s : ActV) (h : ([] : List ActV)[j]? = some s) => by simp at h)⟩
  · simp [Value.cells] at hcs
    obtain ⟨rfl, rfl, rfl⟩ := hcs
    obtain ⟨hx, _⟩ := Prod.mk.inj hx
    subst hx
    have hnm : n ≤ m := by rw [hmm]; split <;> omega
    have z := sz_slice Try.underlying45 hs
    rw [Try.bytes53] at z
    simp only [List.length_map, List.length_range] at z
    have hrb : reachBytes = 140737488351232 := by rfl
    have hsp : a.spot = none ∨ n = 0 := by
      rcases Nat.eq_zero_or_pos n with h0 | h0
      · exact .inr h0
      · obtain ⟨ys, q, _, _, _, hfs⟩ := hi 0 (by omega)
        obtain ⟨v, y, hc, _⟩ := hfs 0 _ rfl
        left
        simpa [Addr.add] using World.cell?_spot hc
    have hall : ∀ j, j < n → ∃ s : ActV, (s.bit < 9223372036854775808 ∧ s.b < 256) ∧ (w.cell? (a.add (j * 5)) = some (.int .i64 s.kind) ∧ w.cell? (a.add (j * 5 + 1)) = some (.int .i64 s.side) ∧ w.cell? (a.add (j * 5 + 2)) = some (.int .i64 s.at_) ∧ w.cell? (a.add (j * 5 + 3)) = some (.int .i64 s.bit) ∧ w.cell? (a.add (j * 5 + 4)) = some (.int .u8 (s.b : Nat))) := by
      intro j hj
      obtain ⟨ys, q, hD, _, hyl, hfs⟩ := hi j (by omega)
      obtain ⟨v0, y0, hc0, hy0, ht0⟩ := hfs 0 _ rfl
      obtain ⟨v1, y1, hc1, hy1, ht1⟩ := hfs 1 _ rfl
      obtain ⟨v2, y2, hc2, hy2, ht2⟩ := hfs 2 _ rfl
      obtain ⟨v3, y3, hc3, hy3, ht3⟩ := hfs 3 _ rfl
      obtain ⟨v4, y4, hc4, hy4, ht4⟩ := hfs 4 _ rfl
      obtain ⟨z0, rfl, _, _⟩ := int_at Try.underlying3 ht0
      obtain ⟨z1, rfl, _, _⟩ := int_at Try.underlying3 ht1
      obtain ⟨z2, rfl, _, _⟩ := int_at Try.underlying3 ht2
      obtain ⟨z3, rfl, hz3, hz4⟩ := int_at Try.underlying3 ht3
      obtain ⟨z4, rfl, hz1, hz2⟩ := int_at Try.underlying5 ht4
      simp [IntKind.min, IntKind.max, IntKind.signed, IntKind.bits] at hz1 hz2 hz3 hz4
      have hc4' : w.cell? (a.add (j * 5 + 4)) = some (.int .u8 z4) := hc4
      refine ⟨⟨z0, z1, z2, z3, z4.toNat⟩, ⟨by show z3 < _; omega, by show z4.toNat < _; omega⟩, hc0, hc1, hc2, hc3, ?_⟩
      rw [hc4']
      show some (Value.int .u8 z4) = some (.int .u8 ((z4.toNat : Nat) : Int))
      rw [Int.toNat_of_nonneg hz1]
    obtain ⟨L, hLl, hL⟩ := build_list n hall
    refine ⟨some a, n, c, L, rfl, hLl, hl, by omega, fun s hs => ?_, fun j s hj => ?_⟩
    · obtain ⟨j, hj⟩ := List.mem_iff_getElem?.1 hs
      exact (hL j s hj).1
    · have hjn : j < n := by have := (List.getElem?_eq_some_iff.1 hj).1; omega
      obtain ⟨_, h0, h1, h2, h3, h4⟩ := hL j s hj
      obtain ⟨b, off, spot⟩ := a
      have hspot : spot = none := by
        rcases hsp with h | h
        · exact h
        · omega
      subst hspot
      rw [add_plain] at h0 h1 h2 h3 h4
      exact ⟨b, off, rfl, h0, by rw [Nat.add_assoc]; exact h1, by rw [Nat.add_assoc]; exact h2, by rw [Nat.add_assoc]; exact h3, by rw [Nat.add_assoc]; exact h4⟩
end Op
end Go.Proofs.Ytbmfcaobhgeogaa
