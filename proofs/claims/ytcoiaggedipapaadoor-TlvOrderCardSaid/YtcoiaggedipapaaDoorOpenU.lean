/-
  Numbers that came in.
-/
import Derived.Test.YtcoiaggedipapaaDoorOpenA
import Derived.Test.YtcoiaggedipapaaDoorOrder
namespace Go.Proofs.YtcoiaggedipapaaDoor
open Go.ChangeShapes Go.WideShapes Go.ChangeAt Go.RowKit Go.Deep
set_option linter.unusedVariables false
set_option linter.unusedSimpArgs false
set_option maxRecDepth 100000
namespace Op
variable {H : Type} {enc : TypeId × Value → H} {w : World} {base : Nat} {spare : Nat → Bool} {held : Bool} {r : Reach} {b0 : Nat} {v : Value} {d : DataW H} {p : List MemPlace}
theorem Tryd.cellsU : Tryd.prog.cellsOf 22 = 1 := by kernel_rfl
theorem Tryd.bytesU : Tryd.prog.bytesOf 22 = 4 := by kernel_rfl
theorem open_u32s (hv : Value.okWide Tryd.prog w r b0 79 v) (h : DataW.Trod enc Tryd.prog w base spare held 79 v d p) (hs : Sz Tryd.prog 79 d) : ∃ A n c T, v = .slice A n c ∧ U32s w A n c T := by
  obtain ⟨A, n, c, rfl⟩ := okWide_slice Tryd.underlying79 hv
  obtain ⟨fuel, hf⟩ := h
  have hf' : DataW.trod enc Tryd.prog w base spare held fuel 79 [.slice A n c] = some (d, p) := hf
  rcases open_ints Tryd.underlying79 Tryd.underlying22 Tryd.cellsU hf' with ⟨hcs, _⟩ | ⟨a, n', c', zs, hcs, _, hl, hm, hz, hx, hcell, hwz⟩
  · obtain ⟨rfl, rfl, rfl⟩ := Value.slice.inj (List.singleton_inj.1 hcs)
    exact ⟨none, 0, 0, [], rfl, ⟨rfl, Nat.le_refl _, by omega, (fun x h => by cases h), fun j hj => by omega⟩⟩
  · obtain ⟨rfl, rfl, rfl⟩ := Value.slice.inj (List.singleton_inj.1 hcs)
    obtain ⟨hx, _⟩ := Prod.mk.inj hx
    subst hx
    have hl2 : n ≤ zs.length := by
      rw [hz]
      split
      · exact hl
      · exact Nat.le_refl _
    have z := sz_slice Tryd.underlying79 hs
    rw [Tryd.bytesU] at z
    have h1 : (lits (H := H) .u32 (zs.take n)).length + (lits (H := H) .u32 (zs.drop n)).length = zs.length := by
      simp [lits]
      omega
    rw [h1] at z
    have hrb : reachBytes = 140737488351232 := by rfl
    have hb8 : ∀ z ∈ zs, 0 ≤ z ∧ z < 4294967296 := fun z hz => by
      have := bd_of_wf (hwz z hz)
      simp [IntKind.min, IntKind.max, IntKind.signed, IntKind.bits] at this
      omega
    refine ⟨some a, n, c, (zs.take n).map Int.toNat, rfl, ⟨by simp; omega, hl, by omega, ?_, fun j hj => ?_⟩⟩
    · intro y hy
      obtain ⟨z, hz, rfl⟩ := List.mem_map.1 hy
      have := hb8 z (List.mem_of_mem_take hz)
      omega
    · obtain ⟨b, off, spot⟩ := a
      have hc0 := hcell 0 (by omega)
      have hspot : spot = none := by simpa [Addr.add] using World.cell?_spot hc0
      subst hspot
      refine ⟨b, off, rfl, ?_⟩
      have hci := hcell j (by omega)
      rw [add_plain] at hci
      rw [hci]
      have hi2 : j < zs.length := by omega
      have hz0 := hb8 zs[j] (List.getElem_mem hi2)
      simp [List.getD_eq_getElem?_getD, List.getElem?_eq_getElem hi2, List.getElem?_take, hj]
      omega
end Op
end Go.Proofs.YtcoiaggedipapaaDoor
