/-
  slices.Clone of bytes, by its contract.
-/
import Derived.Test.YtbmfcaobhgeogaaItems
import Derived.Lib.SliceRun
namespace Go.Proofs.Ytbmfcaobhgeogaa
open Go.RowKit
set_option linter.unusedVariables false
set_option linter.unusedSimpArgs false

theorem Try.info5 : (Try.prog.info? 5).map (fun i => (i.zero, i.size, i.bytes)) = some (some (.int .u8 0), 1, 1) := by kernel_rfl
/-- The call made a slice of these bytes. -/
def Makes (w : World) (n : Nat) (l : List Nat) (e : Ending) (w' : World) : Prop := ∃ A1 c1, e = .returned (.slice A1 n c1) ∧ Own w' w.heap.size 5 A1 n c1 l ∧ Below w.heap.size w w'

set_option maxHeartbeats 1000000 in
theorem clone_any (A : Option Addr) (n c : Nat) (l : List Nat) (w : World) (hb : Bs w A n c l) :
    Calls Try.prog 25 #[.slice A n c] w (Makes w n l) := by
  have hm := hb.max
  have q23 : ∀ (w : World) (a : Option Addr) (n c n' c' : Nat), (binOp .eql 50 (.slice a n c) (.slice none n' c')).run Try.prog w = .ok (.bool a.isNone) w := fun w a n c n' c' => Lib.run_eql_slice_nil w _ _ a n c n' c' Try.underlying50
  cases A with
  | none =>
    have h0 : n = 0 := by
      rcases Nat.eq_zero_or_pos n with h | h
      · exact h
      · obtain ⟨b, off, e, _⟩ := hb.cells h
        cases e
    subst h0
    obtain rfl : l = [] := List.eq_nil_of_length_eq_zero hb.len
    go_enter Try.func25, Try.ntmps25
    go_wp2
    go_ret
    exact ⟨none, 0, rfl, Own.nil _ _ _, Below.refl _ _⟩
  | some a =>
    go_enter Try.func25, Try.ntmps25
    go_wp2_with (at_builtin; refine wp_append rfl _ _ 50 5 rfl Try.underlying50 Try.info5 w.heap.size (some ⟨w.heap.size, 0, none⟩) 0 0 [] (some a) n c l n (by omega) rfl rfl (Own.made _ _ _ [] 0 rfl (by omega) (fun _ h => by cases h) (Nat.le_refl _)) (hb.keep ((Below.refl _ _).alloc (Nat.le_refl _) _)) (by simp) (by omega) ?_; intro A1 c1 w1 hown hg hat)
    go_ret
    refine ⟨A1, c1, rfl, by simpa using hown, ?_⟩
    exact b_grown ((Below.refl _ _).alloc (Nat.le_refl _) _) hg (by intro k hk; simp at hk; omega)
end Go.Proofs.Ytbmfcaobhgeogaa
