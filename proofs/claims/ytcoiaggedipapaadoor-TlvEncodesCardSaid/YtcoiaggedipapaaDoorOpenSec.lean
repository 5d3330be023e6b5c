/-
  Sections that came in.
-/
import Derived.Test.YtcoiaggedipapaaDoorOpenA
import Derived.Test.YtcoiaggedipapaaDoorSec
namespace Go.Proofs.YtcoiaggedipapaaDoor
open Go.ChangeShapes Go.WideShapes Go.ChangeAt Go.RowKit Go.Deep
set_option linter.unusedVariables false
set_option linter.unusedSimpArgs false
set_option maxRecDepth 100000
namespace Op
theorem Tryd.bytes98 : Tryd.prog.bytesOf 98 = 32 := by kernel_rfl
theorem Tryd.cells98 : Tryd.prog.cellsOf 98 = 2 := by kernel_rfl
theorem open_secs {H : Type} {enc : TypeId × Value → H} {w : World} {base : Nat} {spare : Nat → Bool} {held : Bool} {r : Reach} {b0 : Nat} {v : Value} {d : DataW H} {p : List MemPlace}
    (hv : Value.okWide Tryd.prog w r b0 36 v) (h : DataW.Trod enc Tryd.prog w base spare held 36 v d p) (hs : Sz Tryd.prog 36 d) : ∃ A n c L, v = .slice A n c ∧ Secs w A n c L := by
  obtain ⟨A, n, c, rfl⟩ := okWide_slice Tryd.underlying36 hv
  obtain ⟨fuel, hf⟩ := h
  rcases open_slice_fields Tryd.underlying36 Tryd.underlying98 (by kernel_rfl) Tryd.cells98 hf with ⟨hcs, _⟩ | ⟨a, len, cap, m, D, Pl, hcs, hb, hl, hm, hmm, hx, hi⟩
  · simp [Value.cells] at hcs
    obtain ⟨rfl, rfl, rfl⟩ := hcs
    exact ⟨none, 0, 0, [], rfl, Secs.nil _⟩
  · simp [Value.cells] at hcs
    obtain ⟨rfl, rfl, rfl⟩ := hcs
    obtain ⟨hx, _⟩ := Prod.mk.inj hx
    subst hx
    have hnm : n ≤ m := by rw [hmm]; split <;> omega
    have z := sz_slice Tryd.underlying36 hs
    rw [Tryd.bytes98] at z
    simp only [List.length_map, List.length_range] at z
    have hrb : reachBytes = 140737488351232 := by rfl
    have hsp : a.spot = none ∨ n = 0 := by
      rcases Nat.eq_zero_or_pos n with h0 | h0
      · exact .inr h0
      · obtain ⟨ys, q, _, _, _, hfs⟩ := hi 0 (by omega)
        obtain ⟨v, y, hc, _⟩ := hfs 0 _ rfl
        left
        simpa [Addr.add] using World.cell?_spot hc
    have hall : ∀ j, j < n → ∃ s : SecV, s.tag < 4294967296 ∧ Bs w s.A s.n s.c s.b ∧ w.cell? (a.add (j * 2)) = some (.int .u32 (s.tag : Nat)) ∧ w.cell? (a.add (j * 2 + 1)) = some (.slice s.A s.n s.c) := by
      intro j hj
      obtain ⟨ys, q, hD, _, hyl, hfs⟩ := hi j (by omega)
      obtain ⟨v0, y0, hc0, hy0, ht0⟩ := hfs 0 _ rfl
      obtain ⟨v1, y1, hc1, hy1, ht1⟩ := hfs 1 _ rfl
      have hsz : Sz Tryd.prog 98 (D j) := sz_elem Tryd.underlying36 hs (List.mem_map.2 ⟨j, List.mem_range.2 hj, rfl⟩)
      rw [hD] at hsz
      have hsz1 := sz_field Tryd.underlying98 hsz (j := 1) rfl (d := y1.1) (by simp [hy1])
      obtain ⟨z0, rfl, hz1, hz2⟩ := int_at Tryd.underlying22 ht0
      obtain ⟨A1, n1, c1, l1, rfl, hb1⟩ := bytes_at ht1 hsz1
      simp [IntKind.min, IntKind.max, IntKind.signed, IntKind.bits] at hz1 hz2
      refine ⟨⟨z0.toNat, A1, n1, c1, l1⟩, by show z0.toNat < _; omega, hb1, ?_, hc1⟩
      have hc0' : w.cell? (a.add (j * 2)) = some (.int .u32 z0) := hc0
      rw [hc0']
      show some (Value.int .u32 z0) = some (.int .u32 ((z0.toNat : Nat) : Int))
      rw [Int.toNat_of_nonneg hz1]
    obtain ⟨L, hLl, hL⟩ := build_list n hall
    refine ⟨some a, n, c, L, rfl, hLl, hl, by omega, fun s hs => ?_, fun j s hj => ?_⟩
    · obtain ⟨j, hj⟩ := List.mem_iff_getElem?.1 hs
      have := hL j s hj
      exact ⟨this.1, this.2.1⟩
    · have hjn : j < n := by have := (List.getElem?_eq_some_iff.1 hj).1; omega
      obtain ⟨_, _, h0, h1⟩ := hL j s hj
      obtain ⟨b, off, spot⟩ := a
      have hspot : spot = none := by
        rcases hsp with h | h
        · exact h
        · omega
      subst hspot
      rw [add_plain] at h0 h1
      exact ⟨b, off, rfl, h0, by rw [Nat.add_assoc]; exact h1⟩
end Op
end Go.Proofs.YtcoiaggedipapaaDoor
