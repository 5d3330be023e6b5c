/-
  tlv.whole, tlv.section, by their contracts.
-/
import Derived.Test.YtifkfcjapomlbaaDoorIn
import Derived.Test.YtifkfcjapomlbaaDoorNearW
namespace Go.Proofs.YtifkfcjapomlbaaDoor
open Go.RowKit
set_option linter.unusedVariables false
set_option linter.unusedSimpArgs false
set_option maxRecDepth 100000

theorem str_eq (l m : List Nat) (hl : ∀ x ∈ l, x < 256) (hm : ∀ x ∈ m, x < 256) : ((strOf l).toList == (strOf m).toList) = decide (l = m) := by
  by_cases h : l = m
  · subst h; simp
  · rw [str_ne hl hm h]; simp [h]
/-- The error of sum.Cut. -/
def cutE (l : List Nat) : Nat := if l.length < 4 then 12 else if sealed l = true then 0 else 11
theorem sealed_take {l : List Nat} {m : Nat} (h : l.length = m + 4) : sealed l = true ↔ Crc.tail4 (ofN (l.take m)) = l.drop m := by
  unfold sealed
  rw [h, Nat.add_sub_cancel]
  simp
theorem four_of' (l : List Nat) (h : l.length = 4) : ∃ a b c d, l = [a, b, c, d] := four_of l h
theorem cut_ok (A : Option Addr) (n c : Nat) (l : List Nat) (w : World) (hb : Bs w A n c l) (hT : TabW w) (h : cutE l = 0) :
    Calls Tryd.prog 24 #[.slice A n c] w (Cuts w (n - 4) (l.take (n - 4))) := by
  have hln := hb.len
  unfold cutE at h
  split at h
  · omega
  · rename_i h4
    split at h
    · rename_i hs
      obtain ⟨m, rfl⟩ : ∃ m, n = m + 4 := ⟨n - 4, by omega⟩
      obtain ⟨b, off, rfl, _⟩ := hb.cells (by omega)
      obtain ⟨b0, b1, b2, b3, e1⟩ := four_of (Crc.tail4 (ofN (l.take m))) rfl
      obtain ⟨x0, x1, x2, x3, e2⟩ := four_of (l.drop m) (by rw [List.length_drop]; omega)
      rw [Nat.add_sub_cancel]
      exact cut_good b off m c l w hb hT b0 b1 b2 b3 x0 x1 x2 x3 e1 e2 ((sealed_take hln).1 hs)
    · omega
/-- sum.Cut refuses. -/
def CutBad (w : World) (l : List Nat) (e : Ending) (w' : World) : Prop := e = .returned (.tuple #[.slice none 0 0, .iface 50 (.int .i64 (cutE l : Nat))]) ∧ Below w.heap.size w w'
theorem cut_err (A : Option Addr) (n c : Nat) (l : List Nat) (w : World) (hb : Bs w A n c l) (hT : TabW w) (h : cutE l ≠ 0) :
    Calls Tryd.prog 24 #[.slice A n c] w (CutBad w l) := by
  have hln := hb.len
  by_cases h4 : l.length < 4
  · refine (cut_short A n c l w hb (by omega)).mono ?_
    rintro e w' ⟨rfl, rfl⟩
    exact ⟨by unfold cutE; rw [if_pos h4]; rfl, Below.refl _ _⟩
  · by_cases hs : sealed l = true
    · unfold cutE at h
      rw [if_neg h4, if_pos hs] at h
      exact absurd rfl h
    · have hE : cutE l = 11 := by unfold cutE; rw [if_neg h4, if_neg hs]
      obtain ⟨m, rfl⟩ : ∃ m, n = m + 4 := ⟨n - 4, by omega⟩
      obtain ⟨b, off, rfl, _⟩ := hb.cells (by omega)
      obtain ⟨b0, b1, b2, b3, e1⟩ := four_of (Crc.tail4 (ofN (l.take m))) rfl
      obtain ⟨x0, x1, x2, x3, e2⟩ := four_of (l.drop m) (by rw [List.length_drop]; omega)
      refine (cut_bad b off m c l w hb hT b0 b1 b2 b3 x0 x1 x2 x3 e1 e2 (fun h' => hs ((sealed_take hln).2 h'))).mono ?_
      rintro e w' ⟨rfl, hb'⟩
      exact ⟨by rw [hE]; rfl, hb'⟩
/-- Whatever sum.Cut answers. -/
def CutW (w : World) (e : Ending) (w' : World) : Prop := ∃ A1 n1 c1 V, e = .returned (.tuple #[.slice A1 n1 c1, V]) ∧ Below w.heap.size w w'
theorem cut_weak (A : Option Addr) (n c : Nat) (l : List Nat) (w : World) (hb : Bs w A n c l) (hT : TabW w) : Calls Tryd.prog 24 #[.slice A n c] w (CutW w) := by
  by_cases h : cutE l = 0
  · refine (cut_ok A n c l w hb hT h).mono ?_
    rintro e w' ⟨A1, c1, rfl, _, hb'⟩
    exact ⟨_, _, _, _, rfl, hb'⟩
  · refine (cut_err A n c l w hb hT h).mono ?_
    rintro e w' ⟨rfl, hb'⟩
    exact ⟨_, _, _, _, rfl, hb'⟩

/-- Is a file as a whole what it must be? -/
def WholeP (w : World) (x : Nat) (e : Ending) (w' : World) : Prop := ∃ V, e = .returned V ∧ ErrN V x ∧ Below w.heap.size w w'
theorem wholeP_err {w w' : World} {x : Nat} (hx : x ≠ 0) (hb : Below w.heap.size w w') : WholeP w x (.returned (.iface 50 (.int .i64 (x : Nat)))) w' := ⟨_, rfl, ErrN.num x hx, hb⟩
end Go.Proofs.YtifkfcjapomlbaaDoor
