/-
  What the rows' list gives where errors.errorType is listed beside the table; a world that meets it.
-/
import Derived.Test.YtcoiaggedipapaaDoorOpen
import Derived.Test.YtcoiaggedipapaaDoorAs
namespace Go.Proofs.YtcoiaggedipapaaDoor
open Go.ChangeShapes Go.WideShapes Go.ChangeAt Go.RowKit
set_option linter.unusedVariables false
set_option linter.unusedSimpArgs false
set_option maxRecDepth 100000

theorem gErr : Tryd.prog.globalNamed "errors.errorType" = some 1 := by kernel_rfl
theorem rtErr : (Tryd.prog.cutTypes.find? (·.1 == "internal/reflectlite.rtype")).map (·.2) = some 128 := by kernel_rfl
theorem oneRowErr : ((List.range 169).filter fun t => Tryd.prog.rowNamed t [101, 114, 114, 111, 114]) = [32] := by kernel_rfl
theorem sizeTypes : Tryd.prog.types.size = 169 := by kernel_rfl
theorem both_laid {W : World} (h : laidMetH Tryd.prog [("errors.errorType", Rows.laid_errors_errorType), ("pinnace/sum.nibbles", Rows.laid_pinnace_sum_nibbles)] W) : TabW W ∧ ErrW W := by
  have h' : laidMet Tryd.prog [("pinnace/sum.nibbles", Rows.laid_pinnace_sum_nibbles)] W ∧ handlesMet Tryd.prog [("errors.errorType", Rows.laid_errors_errorType)] W := h
  refine ⟨tab_laid (show laidMetH Tryd.prog [("pinnace/sum.nibbles", Rows.laid_pinnace_sum_nibbles)] W from h'.1), ⟨?_⟩⟩
  obtain ⟨name, u, ty, e1, e2, e3, e4, e5⟩ := h'.2 _ (List.mem_singleton.2 rfl)
  have en : name = [101, 114, 114, 111, 114] := (Option.some.inj e1).symm
  subst en
  obtain rfl := Option.some.inj (rtErr.symm.trans e2)
  have hm : ty ∈ (List.range 169).filter fun t => Tryd.prog.rowNamed t [101, 114, 114, 111, 114] := List.mem_filter.2 ⟨List.mem_range.2 (by rw [← sizeTypes]; exact e3), e4⟩
  rw [oneRowErr] at hm
  obtain rfl := List.mem_singleton.1 hm
  have hh : typeHandle Tryd.prog 32 = .pointer (some ⟨2, 32, none⟩) := by kernel_rfl
  rw [hh] at e5
  simpa using World.var?_cell gErr e5 0
theorem tab_both {W : World} (h : laidMetH Tryd.prog [("errors.errorType", Rows.laid_errors_errorType), ("pinnace/sum.nibbles", Rows.laid_pinnace_sum_nibbles)] W) : TabW W := (both_laid h).1
theorem err_both {W : World} (h : laidMetH Tryd.prog [("errors.errorType", Rows.laid_errors_errorType), ("pinnace/sum.nibbles", Rows.laid_pinnace_sum_nibbles)] W) : ErrW W := (both_laid h).2
noncomputable def laidWorld2 (os : Os) : World :=
  { laidWorld os with heap := (laidWorld os).heap.modify 1 fun
      | .cells _ t frozen => .cells #[.iface 128 (.agg #[.pointer (some ⟨2, 32, none⟩)])] t frozen
      | o => o }
theorem laid_both (os : Os) (args : Array Value) : laidMetH Tryd.prog [("errors.errorType", Rows.laid_errors_errorType), ("pinnace/sum.nibbles", Rows.laid_pinnace_sum_nibbles)] ((laidWorld2 os).forCall (fun _ _ => 0) ⟨#[], args, []⟩).memory :=
  laidMetH_of_parts (laidMet_of_run' 18 (by kernel_rfl) (by kernel_rfl)) (by kernel_rfl)
end Go.Proofs.YtcoiaggedipapaaDoor
