import Derived.Test.YtcoiaggedipapaaDoorSum
import Derived.Test.YtcoiaggedipapaaDoorRows
import Derived.ProofKit
import Derived.OpenShut
import Derived.Deep.DeepHandedRow
import Derived.Lib.LaidTab
import Derived.SizedLaws
import Derived.ChangeSlices
import Derived.LaidHandle
namespace Go.Proofs.YtcoiaggedipapaaDoor
open Go.ChangeShapes Go.WideShapes Go.ChangeAt Go.RowKit
set_option linter.unusedVariables false
set_option linter.unusedSimpArgs false
set_option maxRecDepth 100000

theorem own : ownKnob Tryd.prog.godebug = none := by kernel_rfl
theorem laidOut : laidOutB Tryd.prog = true := by kernel_rfl
theorem gNib : Tryd.prog.globalNamed "pinnace/sum.nibbles" = some 0 := by kernel_rfl
theorem gNibType : (Tryd.prog.globals[0]?).map (·.type) = some 94 := by kernel_rfl
theorem Tryd.cells94 : Tryd.prog.cellsOf 94 = 16 := by kernel_rfl
theorem Tryd.cells22 : Tryd.prog.cellsOf 22 = 1 := by kernel_rfl
theorem Tryd.cells5 : Tryd.prog.cellsOf 5 = 1 := by kernel_rfl
theorem Tryd.bytes5 : Tryd.prog.bytesOf 5 = 1 := by kernel_rfl

/-- What the rows' list gives: the table's cells. -/
theorem tab_of {W : World} (h : Lib.TabIs Tryd.prog W "pinnace/sum.nibbles" .u32 (Crc.tab.map fun (x : Nat) => (x : Int))) : TabW W := by
  refine ⟨fun i hi => ?_⟩
  have := h.cell gNib i (by simpa [Crc.tab] using hi)
  rw [this]
  simp [List.getD_eq_getElem?_getD, List.getElem?_eq_getElem (show i < Crc.tab.length by simpa [Crc.tab] using hi)]
theorem tab_laid {W : World} (h : laidMetH Tryd.prog [("pinnace/sum.nibbles", Rows.laid_pinnace_sum_nibbles)] W) : TabW W :=
  tab_of (Lib.tabIs_of_head (rest := []) (zs := Crc.tab.map fun (x : Nat) => (x : Int)) gNib gNibType Tryd.underlying94 Tryd.underlying22 Tryd.cells22 Tryd.cells94 h)

theorem bd_of_wf {k : IntKind} {x : Int} (h : (Lit.int k x).wf = true) : k.min ≤ x ∧ x ≤ k.max := by
  simpa [Lit.wf] using h
theorem open_u32 {H : Type} {enc : TypeId × Value → H} {w : World} {base : Nat} {spare : Nat → Bool} {held : Bool} {r : Reach} {b0 : Nat} {v : Value} {d : DataW H} {p : List MemPlace}
    (hv : Value.okWide Tryd.prog w r b0 22 v) (h : DataW.Trod enc Tryd.prog w base spare held 22 v d p) : ∃ x : Nat, v = .int .u32 (x : Int) ∧ x < 4294967296 := by
  obtain ⟨x, rfl, _, _, wx⟩ := open_int Tryd.underlying22 hv h
  have := bd_of_wf wx
  simp [IntKind.min, IntKind.max, IntKind.signed, IntKind.bits] at this
  exact ⟨x.toNat, by rw [Int.toNat_of_nonneg this.1], by omega⟩
theorem open_i64 {H : Type} {enc : TypeId × Value → H} {w : World} {base : Nat} {spare : Nat → Bool} {held : Bool} {r : Reach} {b0 : Nat} {v : Value} {d : DataW H} {p : List MemPlace}
    (hv : Value.okWide Tryd.prog w r b0 3 v) (h : DataW.Trod enc Tryd.prog w base spare held 3 v d p) : ∃ x : Int, v = .int .i64 x ∧ -9223372036854775808 ≤ x ∧ x ≤ 9223372036854775807 := by
  obtain ⟨x, rfl, _, _, wx⟩ := open_int Tryd.underlying3 hv h
  have := bd_of_wf wx
  simp [IntKind.min, IntKind.max, IntKind.signed, IntKind.bits] at this
  exact ⟨x, rfl, by omega, by omega⟩

/-- A slice of bytes that came in. -/
theorem open_bytes {H : Type} {enc : TypeId × Value → H} {w : World} {base : Nat} {spare : Nat → Bool} {held : Bool} {r : Reach} {b0 : Nat} {v : Value} {d : DataW H} {p : List MemPlace} {ts : List TypeId} {ds : List (DataW H)}
    (hv : Value.okWide Tryd.prog w r b0 23 v) (h : DataW.Trod enc Tryd.prog w base spare held 23 v d p) (hsz : (DataW.weightsEach Tryd.prog ts ds).all (· ≤ reachBytes) = true) (j : Nat) (ht : ts[j]? = some 23) (hd : ds[j]? = some d) :
    ∃ A n c l, v = .slice A n c ∧ Bs w A n c l := by
  obtain ⟨A, n, c, rfl⟩ := okWide_slice Tryd.underlying23 hv
  obtain ⟨fuel, hf⟩ := h
  rcases open_ints Tryd.underlying23 Tryd.underlying5 Tryd.cells5 hf with ⟨hcs, _⟩ | ⟨x, l, c', zs, hcs, _, hl, hm, hz, hx, hcell, hwz⟩
  · simp [Value.cells] at hcs
    obtain ⟨rfl, rfl, rfl⟩ := hcs
    exact ⟨none, 0, 0, [], rfl, Bs.nil _ _ _⟩
  · simp [Value.cells] at hcs
    obtain ⟨rfl, rfl, rfl⟩ := hcs
    obtain ⟨hx, _⟩ := Prod.mk.inj hx
    subst hx
    have hl2 : n ≤ zs.length := by
      rw [hz]
      split
      · exact hl
      · exact Nat.le_refl _
    have z := sized_slice hsz ht hd Tryd.underlying23
    rw [Tryd.bytes5] at z
    have h1 : (lits (H := H) .u8 (zs.take n)).length + (lits (H := H) .u8 (zs.drop n)).length = zs.length := by
      simp [lits]
      omega
    rw [h1] at z
    have hrb : reachBytes = 140737488351232 := by rfl
    have hb8 : ∀ z ∈ zs, 0 ≤ z ∧ z < 256 := fun z hz => by
      have := bd_of_wf (hwz z hz)
      simp [IntKind.min, IntKind.max, IntKind.signed, IntKind.bits] at this
      omega
    refine ⟨some x, n, c, (zs.take n).map Int.toNat, rfl, ⟨by simp; omega, hl, by omega, ?_, fun hn => ?_⟩⟩
    · intro y hy
      obtain ⟨z, hz, rfl⟩ := List.mem_map.1 hy
      have := hb8 z (List.mem_of_mem_take hz)
      omega
    · obtain ⟨b, off, spot⟩ := x
      have hc0 := hcell 0 (by omega)
      have hspot : spot = none := by simpa [Addr.add] using World.cell?_spot hc0
      subst hspot
      refine ⟨b, off, rfl, fun i hi => ?_⟩
      have hci := hcell i (by omega)
      rw [add_plain] at hci
      rw [hci]
      have hi2 : i < zs.length := by omega
      have hz0 := hb8 zs[i] (List.getElem_mem hi2)
      simp [List.getD_eq_getElem?_getD, List.getElem?_eq_getElem hi2, List.getElem?_take, hi]
      omega

/-- A world in which the variables lie as their initialisers lay them. -/
noncomputable def laidWorld (os : Os) : World :=
  { World.holding Tryd.prog os ⟨#[], #[], []⟩ with heap := (World.holding Tryd.prog os ⟨#[], #[], []⟩).heap.modify 0 fun
      | .cells _ t frozen => .cells (Crc.tab.map fun (x : Nat) => Value.int .u32 (x : Int)).toArray t frozen
      | o => o }
theorem laid_nib (os : Os) (args : Array Value) : laidMetH Tryd.prog [("pinnace/sum.nibbles", Rows.laid_pinnace_sum_nibbles)] ((laidWorld os).forCall (fun _ _ => 0) ⟨#[], args, []⟩).memory :=
  laidMet_of_run' 18 (by kernel_rfl) (by kernel_rfl)
end Go.Proofs.YtcoiaggedipapaaDoor
