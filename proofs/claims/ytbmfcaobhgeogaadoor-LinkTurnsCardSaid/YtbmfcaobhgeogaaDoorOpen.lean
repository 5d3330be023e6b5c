import Derived.Test.YtbmfcaobhgeogaaDoorAs
import Derived.Test.YtbmfcaobhgeogaaDoorRows
import Derived.LaidHandle
import Derived.LaidLaws
import Derived.Deep.DeepHandedRow
import Derived.ProofKit
import Derived.OpenShut
import Derived.ChangeOld
import Derived.Lib.SmallJoins
namespace Go.Proofs.YtbmfcaobhgeogaaDoor
open Go.ChangeShapes Go.WideShapes Go.ChangeAt Go.RowKit Go.Joins
set_option linter.unusedVariables false
set_option linter.unusedSimpArgs false
set_option maxRecDepth 100000

theorem own : ownKnob Tryd.prog.godebug = none := by kernel_rfl
theorem laidOut : laidOutB Tryd.prog = true := by kernel_rfl
theorem Tryd.cells25 : Tryd.prog.cellsOf 25 = 3 := by kernel_rfl

theorem bd_u32 {x : Int} (h : (Lit.int .u32 x).wf = true) : 0 ≤ x ∧ x < 4294967296 := by
  simp [Lit.wf, IntKind.min, IntKind.max, IntKind.signed, IntKind.bits] at h
  exact ⟨by omega, by omega⟩
theorem bd_u64 {x : Int} (h : (Lit.int .u64 x).wf = true) : 0 ≤ x ∧ x < 18446744073709551616 := by
  simp [Lit.wf, IntKind.min, IntKind.max, IntKind.signed, IntKind.bits] at h
  exact ⟨by omega, by omega⟩

/-- A state that came in: three numbers of their kinds. -/
theorem open_state {H : Type} {enc : TypeId × Value → H} {w : World} {base : Nat} {spare : Nat → Bool} {held : Bool} {r : Reach} {b0 : Nat} {v : Value} {d : DataW H} {p : List MemPlace}
    (hv : Value.okWide Tryd.prog w r b0 25 v) (h : DataW.Trod enc Tryd.prog w base spare held 25 v d p) :
    ∃ so t c : Int, v = .agg #[.int .u32 so, .int .u64 t, .int .u64 c] ∧ (0 ≤ so ∧ so < 4294967296) ∧ (0 ≤ t ∧ t < 18446744073709551616) ∧ (0 ≤ c ∧ c < 18446744073709551616) := by
  obtain ⟨c0, c1, c2, y0, y1, y2, m, rfl, rfl, rfl, hy0, hy1, hy2⟩ := open_agg3 Tryd.underlying25 (by kernel_rfl) Tryd.cells25 hv h
  obtain ⟨a, e0, _, wa⟩ := DataW.trod_int Tryd.underlying22 hy0
  obtain ⟨b, e1, _, wb⟩ := DataW.trod_int Tryd.underlying23 hy1
  obtain ⟨c, e2, _, wc⟩ := DataW.trod_int Tryd.underlying23 hy2
  simp at e0 e1 e2
  subst e0 e1 e2
  exact ⟨a, b, c, rfl, bd_u32 wa, bd_u64 wb, bd_u64 wc⟩

theorem open_i64 {H : Type} {enc : TypeId × Value → H} {w : World} {base : Nat} {spare : Nat → Bool} {held : Bool} {r : Reach} {b0 : Nat} {v : Value} {d : DataW H} {p : List MemPlace}
    (hv : Value.okWide Tryd.prog w r b0 3 v) (h : DataW.Trod enc Tryd.prog w base spare held 3 v d p) : ∃ x : Int, v = .int .i64 x ∧ -9223372036854775808 ≤ x ∧ x ≤ 9223372036854775807 := by
  obtain ⟨x, rfl, _, _, wx⟩ := open_int Tryd.underlying3 hv h
  simp [Lit.wf, IntKind.min, IntKind.max, IntKind.signed, IntKind.bits] at wx
  exact ⟨x, rfl, by omega, by omega⟩
theorem open_u32 {H : Type} {enc : TypeId × Value → H} {w : World} {base : Nat} {spare : Nat → Bool} {held : Bool} {r : Reach} {b0 : Nat} {v : Value} {d : DataW H} {p : List MemPlace}
    (hv : Value.okWide Tryd.prog w r b0 22 v) (h : DataW.Trod enc Tryd.prog w base spare held 22 v d p) : ∃ x : Int, v = .int .u32 x ∧ 0 ≤ x ∧ x < 4294967296 := by
  obtain ⟨x, rfl, _, _, wx⟩ := open_int Tryd.underlying22 hv h
  exact ⟨x, rfl, bd_u32 wx⟩

/-! ### an array of whole numbers that came in -/
theorem open_ints {H : Type} {enc : TypeId × Value → H} {P : Program} {w : World} {base : Nat} {spare : Nat → Bool} {held : Bool} {r : Reach} {b0 : Nat} {t e : TypeId} {n : Nat} {q : IntKind} {v : Value} {d : DataW H} {p : List MemPlace}
    (ht : P.underlying t = some (.array n e)) (he : P.underlying e = some (.int q)) (hC : P.cellsOf t = n) (hce : P.cellsOf e = 1)
    (hv : Value.okWide P w r b0 t v) (h : DataW.Trod enc P w base spare held t v d p) :
    ∃ l : List Int, v = .agg (l.map (Value.int q)).toArray ∧ l.length = n ∧ (∀ x ∈ l, (Lit.int q x).wf = true) ∧ d = .agg (l.map fun x => .lit (.int q x)) ∧ p = [] := by
  simp only [Value.okWide, ht] at hv
  obtain ⟨cs, rfl, hsz, _⟩ := hv
  rw [hC] at hsz
  obtain ⟨fuel, hf⟩ := h
  obtain ⟨xs, m, rfl, hx, hl, hn, hi⟩ := DataW.trod_array ht hf
  have hcs : (Value.agg cs).cells = cs := rfl
  rw [hcs] at hi
  have hlen : cs.toList.length = n := by simpa using hsz
  have one : ∀ i, i < n → ∃ x : Int, cs.toList[i]? = some (.int q x) ∧ xs[i]? = some (.lit (.int q x), []) ∧ (Lit.int q x).wf = true := by
    intro i hin
    have hi' := hi i hin
    rw [hce, Nat.mul_one, List.drop_eq_getElem_cons (by omega), List.take_succ_cons, List.take_zero] at hi'
    rw [List.getElem?_eq_getElem (show i < xs.length by omega)] at hi' ⊢
    obtain ⟨a, ea, exs, wa⟩ := DataW.trod_int he hi'
    rw [List.getElem?_eq_getElem (show i < cs.toList.length by omega)]
    simp only [List.cons.injEq, and_true] at ea
    exact ⟨a, by rw [ea], by rw [exs], wa⟩
  have all : ∀ k, k ≤ n → ∃ l : List Int, cs.toList.take k = l.map (Value.int q) ∧ l.length = k ∧ (∀ x ∈ l, (Lit.int q x).wf = true) ∧ xs.take k = l.map fun x => (.lit (.int q x), []) := by
    intro k
    induction k with
    | zero => exact fun _ => ⟨[], by simp⟩
    | succ k ih =>
      intro hk
      obtain ⟨l, h1, h2, h3, h4⟩ := ih (by omega)
      obtain ⟨x, e1, e2, wx⟩ := one k (by omega)
      refine ⟨l ++ [x], ?_, by simp [h2], ?_, ?_⟩
      · rw [List.take_add_one, h1, e1]; simp
      · intro y hy
        rcases List.mem_append.1 hy with hy | hy
        · exact h3 y hy
        · simp only [List.mem_singleton] at hy; rw [hy]; exact wx
      · rw [List.take_add_one, h4, e2]; simp
  obtain ⟨l, h1, h2, h3, h4⟩ := all n (Nat.le_refl _)
  rw [List.take_of_length_le (by omega)] at h1 h4
  simp only [Prod.mk.injEq] at hx
  refine ⟨l, ?_, h2, h3, ?_, ?_⟩
  · rw [← h1]
  · rw [hx.1, h4]; simp [Function.comp_def]
  · rw [hx.2, h4]; simp [List.flatMap_eq_nil_iff]

theorem gErr : Tryd.prog.globalNamed "errors.errorType" = some 0 := by kernel_rfl
theorem rtErr : (Tryd.prog.cutTypes.find? (·.1 == "internal/reflectlite.rtype")).map (·.2) = some 110 := by kernel_rfl
theorem oneRowErr : ((List.range 152).filter fun t => Tryd.prog.rowNamed t [101, 114, 114, 111, 114]) = [28] := by kernel_rfl
theorem sizeTypes : Tryd.prog.types.size = 152 := by kernel_rfl
theorem err_laid {W : World} (h : laidMetH Tryd.prog [("errors.errorType", Rows.laid_errors_errorType)] W) : ErrW W := by
  have h' : laidMet Tryd.prog [] W ∧ handlesMet Tryd.prog [("errors.errorType", Rows.laid_errors_errorType)] W := h
  refine ⟨?_⟩
  obtain ⟨name, u, ty, e1, e2, e3, e4, e5⟩ := h'.2 _ (List.mem_singleton.2 rfl)
  have en : name = [101, 114, 114, 111, 114] := (Option.some.inj e1).symm
  subst en
  obtain rfl := Option.some.inj (rtErr.symm.trans e2)
  have hm : ty ∈ (List.range 152).filter fun t => Tryd.prog.rowNamed t [101, 114, 114, 111, 114] := List.mem_filter.2 ⟨List.mem_range.2 (by rw [← sizeTypes]; exact e3), e4⟩
  rw [oneRowErr] at hm
  obtain rfl := List.mem_singleton.1 hm
  have hh : typeHandle Tryd.prog 28 = .pointer (some ⟨1, 28, none⟩) := by kernel_rfl
  rw [hh] at e5
  simpa using World.var?_cell gErr e5 0
noncomputable def laidWorld (os : Os) : World :=
  { World.holding Tryd.prog os ⟨#[], #[], []⟩ with heap := (World.holding Tryd.prog os ⟨#[], #[], []⟩).heap.modify 0 fun
      | .cells _ t frozen => .cells #[.iface 110 (.agg #[.pointer (some ⟨1, 28, none⟩)])] t frozen
      | o => o }
theorem laid_err (os : Os) (args : Array Value) : laidMetH Tryd.prog [("errors.errorType", Rows.laid_errors_errorType)] ((laidWorld os).forCall (fun _ _ => 0) ⟨#[], args, []⟩).memory :=
  laidMetH_of_parts (laidMet_nil _ _) (by kernel_rfl)
end Go.Proofs.YtbmfcaobhgeogaaDoor
