/-
  What the rows' lists give: the table, errors.errorType; worlds that meet them.
-/
import Derived.Test.YtifkfcjapomlbaaDoorOpenFrame
import Derived.Test.YtifkfcjapomlbaaDoorAs
import Derived.Test.YtifkfcjapomlbaaDoorRows
namespace Go.Proofs.YtifkfcjapomlbaaDoor
open Go.ChangeShapes Go.WideShapes Go.ChangeAt Go.RowKit
set_option linter.unusedVariables false
set_option linter.unusedSimpArgs false
set_option maxRecDepth 100000

theorem own : ownKnob Tryd.prog.godebug = none := by kernel_rfl
theorem laidOut : laidOutB Tryd.prog = true := by kernel_rfl
theorem gNib : Tryd.prog.globalNamed "pinnace/sum.nibbles" = some 1 := by kernel_rfl
theorem gNibType : (Tryd.prog.globals[1]?).map (·.type) = some 117 := by kernel_rfl
theorem Tryd.cells117 : Tryd.prog.cellsOf 117 = 16 := by kernel_rfl
theorem Tryd.cells22 : Tryd.prog.cellsOf 22 = 1 := by kernel_rfl
theorem tab_of {W : World} (h : Lib.TabIs Tryd.prog W "pinnace/sum.nibbles" .u32 (Crc.tab.map fun (x : Nat) => (x : Int))) : TabW W := by
  refine ⟨fun i hi => ?_⟩
  have := h.cell gNib i (by simpa [Crc.tab] using hi)
  rw [this]
  simp [List.getD_eq_getElem?_getD, List.getElem?_eq_getElem (show i < Crc.tab.length by simpa [Crc.tab] using hi)]
theorem tab_laid {W : World} (h : laidMetH Tryd.prog [("pinnace/sum.nibbles", Rows.laid_pinnace_sum_nibbles)] W) : TabW W :=
  tab_of (Lib.tabIs_of_head (rest := []) (zs := Crc.tab.map fun (x : Nat) => (x : Int)) gNib gNibType Tryd.underlying117 Tryd.underlying22 Tryd.cells22 Tryd.cells117 h)
/-- A world in which the variables lie as their initialisers lay them. -/
noncomputable def laidWorld (os : Os) : World :=
  { World.holding Tryd.prog os ⟨#[], #[], []⟩ with heap := (World.holding Tryd.prog os ⟨#[], #[], []⟩).heap.modify 1 fun
      | .cells _ t frozen => .cells (Crc.tab.map fun (x : Nat) => Value.int .u32 (x : Int)).toArray t frozen
      | o => o }
theorem laid_nib (os : Os) (args : Array Value) : laidMetH Tryd.prog [("pinnace/sum.nibbles", Rows.laid_pinnace_sum_nibbles)] ((laidWorld os).forCall (fun _ _ => 0) ⟨#[], args, []⟩).memory :=
  laidMet_of_run' 18 (by kernel_rfl) (by kernel_rfl)
theorem gErr : Tryd.prog.globalNamed "errors.errorType" = some 0 := by kernel_rfl
theorem rtErr : (Tryd.prog.cutTypes.find? (·.1 == "internal/reflectlite.rtype")).map (·.2) = some 105 := by kernel_rfl
theorem oneRowErr : ((List.range 148).filter fun t => Tryd.prog.rowNamed t [101, 114, 114, 111, 114]) = [28] := by kernel_rfl
theorem sizeTypes : Tryd.prog.types.size = 148 := by kernel_rfl
theorem both_laid {W : World} (h : laidMetH Tryd.prog [("errors.errorType", Rows.laid_errors_errorType), ("pinnace/sum.nibbles", Rows.laid_pinnace_sum_nibbles)] W) : TabW W ∧ ErrW W := by
  have h' : laidMet Tryd.prog [("pinnace/sum.nibbles", Rows.laid_pinnace_sum_nibbles)] W ∧ handlesMet Tryd.prog [("errors.errorType", Rows.laid_errors_errorType)] W := h
  refine ⟨tab_laid (show laidMetH Tryd.prog [("pinnace/sum.nibbles", Rows.laid_pinnace_sum_nibbles)] W from h'.1), ⟨?_⟩⟩
  obtain ⟨name, u, ty, e1, e2, e3, e4, e5⟩ := h'.2 _ (List.mem_singleton.2 rfl)
  have en : name = [101, 114, 114, 111, 114] := (Option.some.inj e1).symm
  subst en
  obtain rfl := Option.some.inj (rtErr.symm.trans e2)
  have hm : ty ∈ (List.range 148).filter fun t => Tryd.prog.rowNamed t [101, 114, 114, 111, 114] := List.mem_filter.2 ⟨List.mem_range.2 (by rw [← sizeTypes]; exact e3), e4⟩
  rw [oneRowErr] at hm
  obtain rfl := List.mem_singleton.1 hm
  have hh : typeHandle Tryd.prog 28 = .pointer (some ⟨2, 28, none⟩) := by kernel_rfl
  rw [hh] at e5
  simpa using World.var?_cell gErr e5 0
theorem tab_both {W : World} (h : laidMetH Tryd.prog [("errors.errorType", Rows.laid_errors_errorType), ("pinnace/sum.nibbles", Rows.laid_pinnace_sum_nibbles)] W) : TabW W := (both_laid h).1
theorem err_both {W : World} (h : laidMetH Tryd.prog [("errors.errorType", Rows.laid_errors_errorType), ("pinnace/sum.nibbles", Rows.laid_pinnace_sum_nibbles)] W) : ErrW W := (both_laid h).2
noncomputable def laidWorld2 (os : Os) : World :=
  { laidWorld os with heap := (laidWorld os).heap.modify 0 fun
      | .cells _ t frozen => .cells #[.iface 105 (.agg #[.pointer (some ⟨2, 28, none⟩)])] t frozen
      | o => o }
theorem laid_both (os : Os) (args : Array Value) : laidMetH Tryd.prog [("errors.errorType", Rows.laid_errors_errorType), ("pinnace/sum.nibbles", Rows.laid_pinnace_sum_nibbles)] ((laidWorld2 os).forCall (fun _ _ => 0) ⟨#[], args, []⟩).memory :=
  laidMetH_of_parts (laidMet_of_run' 18 (by kernel_rfl) (by kernel_rfl)) (by kernel_rfl)
end Go.Proofs.YtifkfcjapomlbaaDoor
