/-
  A link that came in.
-/
import Derived.Test.YtbmfcaobhgeogaaDoorOpenFrame
import Derived.Test.YtbmfcaobhgeogaaDoorLinkOwn
import Derived.Test.YtbmfcaobhgeogaaDoorRows
namespace Go.Proofs.YtbmfcaobhgeogaaDoor
open Go.ChangeShapes Go.WideShapes Go.ChangeAt Go.RowKit Go.Deep
set_option linter.unusedVariables false
set_option linter.unusedSimpArgs false
set_option maxRecDepth 100000
namespace Op
variable {H : Type} {enc : TypeId × Value → H} {w : World} {base : Nat} {spare : Nat → Bool} {held : Bool} {r : Reach} {b0 : Nat} {v : Value} {d : DataW H} {p : List MemPlace}
theorem Tryd.bytes91 : Tryd.prog.bytesOf 91 = 32 := by kernel_rfl
theorem Tryd.cells91 : Tryd.prog.cellsOf 91 = 2 := by kernel_rfl
theorem bool_at {fuel : Nat} {v : Value} {x : DataW H × List MemPlace} (h : DataW.trod enc Tryd.prog w base spare held fuel 4 [v] = some x) : ∃ z : Bool, v = .bool z := by
  obtain ⟨z, hcs, _⟩ := DataW.trod_bool Tryd.underlying4 h
  exact ⟨z, List.singleton_inj.1 hcs⟩
/-- Items, read at a cell. -/
theorem items_at {fuel : Nat} {v : Value} {x : DataW H × List MemPlace} (h : DataW.trod enc Tryd.prog w base spare held fuel 57 [v] = some x) (hs : Sz Tryd.prog 57 x.1) : ∃ A n c L, v = .slice A n c ∧ Items w A n c L := by
  rcases open_slice_fields Tryd.underlying57 Tryd.underlying91 (by kernel_rfl) Tryd.cells91 h with ⟨hcs, _⟩ | ⟨a, n, c, m, D, Pl, hcs, hb, hl, hm, hmm, hx, hi⟩
  · obtain rfl := List.singleton_inj.1 hcs
    exact ⟨none, 0, 0, [], rfl, Items.nil _⟩
  · obtain rfl := List.singleton_inj.1 hcs
    subst hx
    have hnm : n ≤ m := by rw [hmm]; split <;> omega
    have z := sz_slice Tryd.underlying57 hs
    rw [Tryd.bytes91] at z
    simp only [List.length_map, List.length_range] at z
    have hrb : reachBytes = 140737488351232 := by rfl
    have hsp : a.spot = none ∨ n = 0 := by
      rcases Nat.eq_zero_or_pos n with h0 | h0
      · exact .inr h0
      · obtain ⟨ys, q, _, _, _, hfs⟩ := hi 0 (by omega)
        obtain ⟨v, y, hc, _⟩ := hfs 0 _ rfl
        left
        simpa [Addr.add] using World.cell?_spot hc
    have hall : ∀ j, j < n → ∃ s : ItemV, Bs w s.A s.n s.c s.b ∧ w.cell? (a.add (j * 2)) = some (.slice s.A s.n s.c) ∧ w.cell? (a.add (j * 2 + 1)) = some (.bool s.t) := by
      intro j hj
      obtain ⟨ys, q, hD, _, hyl, hfs⟩ := hi j (by omega)
      obtain ⟨v0, y0, hc0, hy0, ht0⟩ := hfs 0 _ rfl
      obtain ⟨v1, y1, hc1, hy1, ht1⟩ := hfs 1 _ rfl
      have hsz : Sz Tryd.prog 91 (D j) := sz_elem Tryd.underlying57 hs (List.mem_map.2 ⟨j, List.mem_range.2 hj, rfl⟩)
      rw [hD] at hsz
      have hsz0 := sz_field Tryd.underlying91 hsz (j := 0) rfl (d := y0.1) (by simp [hy0])
      obtain ⟨A1, n1, c1, l1, rfl, hb1⟩ := bytes_at ht0 hsz0
      obtain ⟨z1, rfl⟩ := bool_at ht1
      exact ⟨⟨A1, n1, c1, l1, z1⟩, hb1, hc0, hc1⟩
    obtain ⟨L, hLl, hL⟩ := build_list n hall
    refine ⟨some a, n, c, L, rfl, hLl, hl, by omega, fun s hs => ?_, fun j s hj => ?_⟩
    · obtain ⟨j, hj⟩ := List.mem_iff_getElem?.1 hs
      exact (hL j s hj).1
    · have hjn : j < n := by have := (List.getElem?_eq_some_iff.1 hj).1; omega
      obtain ⟨_, h0, h1⟩ := hL j s hj
      obtain ⟨b, off, spot⟩ := a
      have hspot : spot = none := by
        rcases hsp with h | h
        · exact h
        · omega
      subst hspot
      rw [add_plain] at h0 h1
      exact ⟨b, off, rfl, h0, by rw [Nat.add_assoc]; exact h1⟩
theorem array3 {cs : Array Value} (h : cs.size = 3) : ∃ c0 c1 c2, cs = #[c0, c1, c2] := by
  obtain ⟨l⟩ := cs
  match l, h with
  | [c0, c1, c2], _ => exact ⟨c0, c1, c2, rfl⟩
/-- A link, by its value. -/
theorem open_link (hv : Value.okWide Tryd.prog w r b0 60 v) (h : DataW.Trod enc Tryd.prog w base spare held 60 v d p) (hs : Sz Tryd.prog 60 d) :
    ∃ A0 n0 c0 L0 A1 n1 c1 L1 z, v = .agg #[.slice A0 n0 c0, .slice A1 n1 c1, .bool z] ∧ Items w A0 n0 c0 L0 ∧ Items w A1 n1 c1 L1 := by
  obtain ⟨cs, rfl, hsz⟩ := okWide_struct Tryd.underlying60 hv
  have h3 : Tryd.prog.cellsOf 60 = 3 := by kernel_rfl
  rw [h3] at hsz
  obtain ⟨c0, c1, c2, rfl⟩ := array3 hsz
  obtain ⟨fuel, hf⟩ := h
  have hf' : DataW.trod enc Tryd.prog w base spare held fuel 60 [c0, c1, c2] = some (d, p) := hf
  obtain ⟨xs, n, _, hx, _, hl, hF⟩ := DataW.trod_struct Tryd.underlying60 hf'
  obtain ⟨rfl, rfl⟩ := Prod.mk.inj hx
  match xs, hl with
  | [y0, y1], _ =>
    have f0 := hF 0 _ rfl
    have f1 := hF 1 _ rfl
    have cA : Tryd.prog.cellsOf 58 = 2 := by kernel_rfl
    have cB : Tryd.prog.cellsOf 4 = 1 := by kernel_rfl
    have cS : Tryd.prog.cellsOf 57 = 1 := by kernel_rfl
    simp [cA, cB] at f0 f1
    obtain ⟨z, rfl⟩ := bool_at f1
    have hsz0 := sz_field Tryd.underlying60 hs (j := 0) rfl (d := y0.1) rfl
    obtain ⟨ys, m, hm, hy, hln, hyn, hG⟩ := DataW.trod_array Tryd.underlying58 f0
    obtain ⟨yd, yp⟩ := y0
    obtain ⟨rfl, rfl⟩ := Prod.mk.inj hy
    match ys, hyn with
    | [u0, u1], _ =>
      have g0 := hG 0 (by decide)
      have g1 := hG 1 (by decide)
      simp [cS] at g0 g1
      have hz0 := sz_part Tryd.underlying58 hsz0 (d := u0.1) (by simp)
      have hz1 := sz_part Tryd.underlying58 hsz0 (d := u1.1) (by simp)
      obtain ⟨A0, n0, e0, L0, rfl, hI0⟩ := items_at g0 hz0
      obtain ⟨A1, n1, e1, L1, rfl, hI1⟩ := items_at g1 hz1
      exact ⟨A0, n0, e0, L0, A1, n1, e1, L1, z, rfl, hI0, hI1⟩
end Op
end Go.Proofs.YtbmfcaobhgeogaaDoor
