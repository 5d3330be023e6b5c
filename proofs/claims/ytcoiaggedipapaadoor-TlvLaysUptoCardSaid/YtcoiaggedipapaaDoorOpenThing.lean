/-
  What is laid, that came in; its bulk.
-/
import Derived.Test.YtcoiaggedipapaaDoorOpenA
import Derived.Test.YtcoiaggedipapaaDoorThings
import Derived.Test.YtcoiaggedipapaaDoorRows
namespace Go.Proofs.YtcoiaggedipapaaDoor
open Go.ChangeShapes Go.WideShapes Go.ChangeAt Go.RowKit Go.Deep
set_option linter.unusedVariables false
set_option linter.unusedSimpArgs false
set_option maxRecDepth 100000
namespace Op
section
variable {H : Type}
theorem bulk_one (d : DataW H) : 1 ≤ Rows.uptoBulk d := by
  cases d with
  | lit l => cases l <;> simp [Rows.uptoBulk]
  | nil => simp [Rows.uptoBulk]
  | ptr d => simp [Rows.uptoBulk]
  | slice elems spare => simp [Rows.uptoBulk]
  | agg parts => simp [Rows.uptoBulk]
  | iface t d => simp [Rows.uptoBulk]
  | map entries => simp [Rows.uptoBulk]
  | held h => simp [Rows.uptoBulk]
theorem bulk_append (l r : List (DataW H)) : Rows.uptoBulkAll (l ++ r) = Rows.uptoBulkAll l + Rows.uptoBulkAll r := by
  induction l with
  | nil => simp [Rows.uptoBulkAll]
  | cons x l ih => simp only [List.cons_append, Rows.uptoBulkAll, ih]; omega
theorem bulk_length (l : List (DataW H)) : l.length ≤ Rows.uptoBulkAll l := by
  induction l with
  | nil => simp [Rows.uptoBulkAll]
  | cons x r ih => have := bulk_one x; simp only [Rows.uptoBulkAll, List.length_cons]; omega
theorem bulk_part {d : DataW H} {l : List (DataW H)} (h : d ∈ l) : Rows.uptoBulk d ≤ Rows.uptoBulkAll l := by
  induction l with
  | nil => cases h
  | cons x r ih =>
    simp only [Rows.uptoBulkAll]
    rcases List.mem_cons.1 h with rfl | h
    · omega
    · have := ih h; omega
/-- The runs have no more bytes than the whole has bulk. -/
theorem runs_bulk (L : List ThingV) (D : Nat → DataW H) (h : ∀ (j : Nat) (s : ThingV), L[j]? = some s → s.m ≤ Rows.uptoBulk (D j)) : ∀ k, k ≤ L.length → ((L.take k).map (·.m)).sum ≤ Rows.uptoBulkAll ((List.range k).map D)
  | 0, _ => by simp
  | k + 1, hk => by
    have ih := runs_bulk L D h k (by omega)
    have hkl : k < L.length := by omega
    have h1 := h k _ (List.getElem?_eq_getElem hkl)
    rw [List.take_succ_eq_append_getElem hkl, List.range_succ, List.map_append, List.map_append, List.sum_append, bulk_append]
    simp only [List.map_cons, List.map_nil, List.sum_cons, List.sum_nil, Rows.uptoBulkAll]
    omega
end
section
variable {H : Type} {enc : TypeId × Value → H} {w : World} {base : Nat} {spare : Nat → Bool} {held : Bool}
/-- Bytes, read at a cell, and their bulk. -/
theorem bytes_bulk {fuel : Nat} {v : Value} {x : DataW H × List MemPlace} (h : DataW.trod enc Tryd.prog w base spare held fuel 23 [v] = some x) (hs : Sz Tryd.prog 23 x.1) : ∃ A n c l, v = .slice A n c ∧ Bs w A n c l ∧ n ≤ Rows.uptoBulk x.1 := by
  obtain ⟨A, n, c, l, rfl, hb⟩ := bytes_at h hs
  refine ⟨A, n, c, l, rfl, hb, ?_⟩
  rcases open_ints Tryd.underlying23 Tryd.underlying5 Tryd.cells5 h with ⟨hcs, _⟩ | ⟨a, n', c', zs, hcs, _, hl, hm, hz, hx, hcell, hwz⟩
  · obtain ⟨rfl, rfl, rfl⟩ := Value.slice.inj (List.singleton_inj.1 hcs)
    exact Nat.zero_le _
  · obtain ⟨rfl, rfl, rfl⟩ := Value.slice.inj (List.singleton_inj.1 hcs)
    subst hx
    have hl2 : n ≤ zs.length := by
      rw [hz]
      split
      · exact hl
      · exact Nat.le_refl _
    have h1 := bulk_length (lits (H := H) .u8 (zs.take n))
    have h2 : (lits (H := H) .u8 (zs.take n)).length = n := by simp [lits]; omega
    simp only [Rows.uptoBulk]
    omega
end
theorem Tryd.bytes61 : Tryd.prog.bytesOf 61 = 48 := by kernel_rfl
theorem Tryd.cells61 : Tryd.prog.cellsOf 61 = 4 := by kernel_rfl
theorem open_things {H : Type} {enc : TypeId × Value → H} {w : World} {base : Nat} {spare : Nat → Bool} {held : Bool} {r : Reach} {b0 : Nat} {v : Value} {d : DataW H} {p : List MemPlace}
    (hv : Value.okWide Tryd.prog w r b0 56 v) (h : DataW.Trod enc Tryd.prog w base spare held 56 v d p) (hs : Sz Tryd.prog 56 d) : ∃ A n c L, v = .slice A n c ∧ Things w A n c L ∧ runsOf L ≤ Rows.uptoBulk d := by
  obtain ⟨A, n, c, rfl⟩ := okWide_slice Tryd.underlying56 hv
  obtain ⟨fuel, hf⟩ := h
  rcases open_slice_fields Tryd.underlying56 Tryd.underlying61 (by kernel_rfl) Tryd.cells61 hf with ⟨hcs, _⟩ | ⟨a, len, cap, m, D, Pl, hcs, hb, hl, hm, hmm, hx, hi⟩
  · simp [Value.cells] at hcs
    obtain ⟨rfl, rfl, rfl⟩ := hcs
    exact ⟨none, 0, 0, [], rfl, ⟨rfl, Nat.le_refl _, by omega, (fun s h => by cases h), (fun (j : Nat) (s : ThingV) (h : ([] : List ThingV)[j]? = some s) => by simp at h)⟩, Nat.zero_le _⟩
  · simp [Value.cells] at hcs
    obtain ⟨rfl, rfl, rfl⟩ := hcs
    obtain ⟨hx, _⟩ := Prod.mk.inj hx
    subst hx
    have hnm : n ≤ m := by rw [hmm]; split <;> omega
    have z := sz_slice Tryd.underlying56 hs
    rw [Tryd.bytes61] at z
    simp only [List.length_map, List.length_range] at z
    have hrb : reachBytes = 140737488351232 := by rfl
    have hsp : a.spot = none ∨ n = 0 := by
      rcases Nat.eq_zero_or_pos n with h0 | h0
      · exact .inr h0
      · obtain ⟨ys, q, _, _, _, hfs⟩ := hi 0 (by omega)
        obtain ⟨v, y, hc, _⟩ := hfs 0 _ rfl
        left
        simpa [Addr.add] using World.cell?_spot hc
    have hall : ∀ j, j < n → ∃ s : ThingV, (s.v < 18446744073709551616 ∧ -9223372036854775808 ≤ s.n ∧ s.n ≤ 9223372036854775807 ∧ Bs w s.A s.m s.c s.b) ∧ (w.cell? (a.add (j * 4)) = some (.bool s.run) ∧ w.cell? (a.add (j * 4 + 1)) = some (.int .u64 (s.v : Nat)) ∧ w.cell? (a.add (j * 4 + 2)) = some (.int .i64 s.n) ∧ w.cell? (a.add (j * 4 + 3)) = some (.slice s.A s.m s.c)) ∧ s.m ≤ Rows.uptoBulk (D j) := by
      intro j hj
      obtain ⟨ys, q, hD, _, hyl, hfs⟩ := hi j (by omega)
      obtain ⟨v0, y0, hc0, hy0, ht0⟩ := hfs 0 _ rfl
      obtain ⟨v1, y1, hc1, hy1, ht1⟩ := hfs 1 _ rfl
      obtain ⟨v2, y2, hc2, hy2, ht2⟩ := hfs 2 _ rfl
      obtain ⟨v3, y3, hc3, hy3, ht3⟩ := hfs 3 _ rfl
      have hsz : Sz Tryd.prog 61 (D j) := sz_elem Tryd.underlying56 hs (List.mem_map.2 ⟨j, List.mem_range.2 hj, rfl⟩)
      rw [hD] at hsz
      have hsz3 := sz_field Tryd.underlying61 hsz (j := 3) rfl (d := y3.1) (by simp [hy3])
      obtain ⟨b, hb0, _⟩ := DataW.trod_bool Tryd.underlying4 ht0
      obtain rfl := List.singleton_inj.1 hb0
      obtain ⟨z1, rfl, hz1, hz2⟩ := int_at Tryd.underlying59 ht1
      obtain ⟨z2, rfl, hz3, hz4⟩ := int_at Tryd.underlying3 ht2
      obtain ⟨A3, n3, c3, l3, rfl, hb3, hbk⟩ := bytes_bulk ht3 hsz3
      simp [IntKind.min, IntKind.max, IntKind.signed, IntKind.bits] at hz1 hz2 hz3 hz4
      have hc1' : w.cell? (a.add (j * 4 + 1)) = some (.int .u64 z1) := hc1
      refine ⟨⟨b, z1.toNat, z2, A3, n3, c3, l3⟩, ⟨by show z1.toNat < _; omega, hz3, hz4, hb3⟩, ⟨hc0, ?_, hc2, hc3⟩, ?_⟩
      · rw [hc1']
        show some (Value.int .u64 z1) = some (.int .u64 ((z1.toNat : Nat) : Int))
        rw [Int.toNat_of_nonneg hz1]
      · have h1 := bulk_part (d := y3.1) (l := ys.map (·.1)) (List.mem_map.2 ⟨y3, List.mem_of_getElem? hy3, rfl⟩)
        rw [hD]
        simp only [Rows.uptoBulk]
        show n3 ≤ _
        omega
    obtain ⟨L, hLl, hL⟩ := build_list n hall
    refine ⟨some a, n, c, L, rfl, ⟨hLl, hl, by omega, fun s hs => ?_, fun j s hj => ?_⟩, ?_⟩
    · obtain ⟨j, hj⟩ := List.mem_iff_getElem?.1 hs
      exact (hL j s hj).1
    · have hjn : j < n := by have := (List.getElem?_eq_some_iff.1 hj).1; omega
      obtain ⟨_, ⟨h0, h1, h2, h3⟩, _⟩ := hL j s hj
      obtain ⟨b, off, spot⟩ := a
      have hspot : spot = none := by
        rcases hsp with h | h
        · exact h
        · omega
      subst hspot
      rw [add_plain] at h0 h1 h2 h3
      exact ⟨b, off, rfl, h0, by rw [Nat.add_assoc]; exact h1, by rw [Nat.add_assoc]; exact h2, by rw [Nat.add_assoc]; exact h3⟩
    · have h1 := runs_bulk L D (fun j s hj => (hL j s hj).2.2) n (by omega)
      rw [List.take_of_length_le (by omega)] at h1
      simp only [Rows.uptoBulk]
      unfold runsOf
      omega
end Op
end Go.Proofs.YtcoiaggedipapaaDoor
