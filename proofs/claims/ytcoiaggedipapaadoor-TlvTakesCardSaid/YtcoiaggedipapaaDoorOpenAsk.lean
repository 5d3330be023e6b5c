/-
  What is asked for, that came in.
-/
import Derived.Test.YtcoiaggedipapaaDoorOpenA
import Derived.Test.YtcoiaggedipapaaDoorTakes
namespace Go.Proofs.YtcoiaggedipapaaDoor
open Go.ChangeShapes Go.WideShapes Go.ChangeAt Go.RowKit Go.Deep
set_option linter.unusedVariables false
set_option linter.unusedSimpArgs false
set_option maxRecDepth 100000
namespace Op
theorem Tryd.bytes87 : Tryd.prog.bytesOf 87 = 24 := by kernel_rfl
theorem Tryd.cells87 : Tryd.prog.cellsOf 87 = 3 := by kernel_rfl
theorem open_asks {H : Type} {enc : TypeId × Value → H} {w : World} {base : Nat} {spare : Nat → Bool} {held : Bool} {r : Reach} {b0 : Nat} {v : Value} {d : DataW H} {p : List MemPlace}
    (hv : Value.okWide Tryd.prog w r b0 83 v) (h : DataW.Trod enc Tryd.prog w base spare held 83 v d p) (hs : Sz Tryd.prog 83 d) : ∃ A n c L, v = .slice A n c ∧ Asks w A n c L := by
  obtain ⟨A, n, c, rfl⟩ := okWide_slice Tryd.underlying83 hv
  obtain ⟨fuel, hf⟩ := h
  rcases open_slice_fields Tryd.underlying83 Tryd.underlying87 (by kernel_rfl) Tryd.cells87 hf with ⟨hcs, _⟩ | ⟨a, len, cap, m, D, Pl, hcs, hb, hl, hm, hmm, hx, hi⟩
  · simp [Value.cells] at hcs
    obtain ⟨rfl, rfl, rfl⟩ := hcs
    exact ⟨none, 0, 0, [], rfl, ⟨rfl, Nat.le_refl _, by omega, (fun s h => by cases h), (fun (j : Nat) (s : AskV) (h : ([] : List AskV)[j]? = some s) => by simp at h)⟩⟩
  · simp [Value.cells] at hcs
    obtain ⟨rfl, rfl, rfl⟩ := hcs
    obtain ⟨hx, _⟩ := Prod.mk.inj hx
    subst hx
    have hnm : n ≤ m := by rw [hmm]; split <;> omega
    have z := sz_slice Tryd.underlying83 hs
    rw [Tryd.bytes87] at z
    simp only [List.length_map, List.length_range] at z
    have hrb : reachBytes = 140737488351232 := by rfl
    have hsp : a.spot = none ∨ n = 0 := by
      rcases Nat.eq_zero_or_pos n with h0 | h0
      · exact .inr h0
      · obtain ⟨ys, q, _, _, _, hfs⟩ := hi 0 (by omega)
        obtain ⟨v, y, hc, _⟩ := hfs 0 _ rfl
        left
        simpa [Addr.add] using World.cell?_spot hc
    have hall : ∀ j, j < n → ∃ s : AskV, (-9223372036854775808 ≤ s.n ∧ s.n ≤ 9223372036854775807 ∧ -9223372036854775808 ≤ s.most ∧ s.most ≤ 9223372036854775807) ∧ w.cell? (a.add (j * 3)) = some (.bool s.run) ∧ w.cell? (a.add (j * 3 + 1)) = some (.int .i64 s.n) ∧ w.cell? (a.add (j * 3 + 2)) = some (.int .i64 s.most) := by
      intro j hj
      obtain ⟨ys, q, hD, _, hyl, hfs⟩ := hi j (by omega)
      obtain ⟨v0, y0, hc0, hy0, ht0⟩ := hfs 0 _ rfl
      obtain ⟨v1, y1, hc1, hy1, ht1⟩ := hfs 1 _ rfl
      obtain ⟨v2, y2, hc2, hy2, ht2⟩ := hfs 2 _ rfl
      obtain ⟨b, hb0, _⟩ := DataW.trod_bool Tryd.underlying4 ht0
      obtain rfl := List.singleton_inj.1 hb0
      obtain ⟨z1, rfl, hz1, hz2⟩ := int_at Tryd.underlying3 ht1
      obtain ⟨z2, rfl, hz3, hz4⟩ := int_at Tryd.underlying3 ht2
      simp [IntKind.min, IntKind.max, IntKind.signed, IntKind.bits] at hz1 hz2 hz3 hz4
      exact ⟨⟨b, z1, z2⟩, ⟨hz1, hz2, hz3, hz4⟩, hc0, hc1, hc2⟩
    obtain ⟨L, hLl, hL⟩ := build_list n hall
    refine ⟨some a, n, c, L, rfl, hLl, hl, by omega, fun s hs => ?_, fun j s hj => ?_⟩
    · obtain ⟨j, hj⟩ := List.mem_iff_getElem?.1 hs
      exact (hL j s hj).1
    · have hjn : j < n := by have := (List.getElem?_eq_some_iff.1 hj).1; omega
      obtain ⟨_, h0, h1, h2⟩ := hL j s hj
      obtain ⟨b, off, spot⟩ := a
      have hspot : spot = none := by
        rcases hsp with h | h
        · exact h
        · omega
      subst hspot
      rw [add_plain] at h0 h1 h2
      exact ⟨b, off, rfl, h0, by rw [Nat.add_assoc]; exact h1, by rw [Nat.add_assoc]; exact h2⟩
end Op
end Go.Proofs.YtcoiaggedipapaaDoor
