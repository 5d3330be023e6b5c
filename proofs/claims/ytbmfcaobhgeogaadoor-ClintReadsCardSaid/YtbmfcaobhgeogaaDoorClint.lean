import Derived.Test.YtbmfcaobhgeogaaDoorKit
import Derived.Test.YtbmfcaobhgeogaaDoorProg
namespace Go.Proofs.YtbmfcaobhgeogaaDoor
open Go.RowKit
set_option linter.unusedVariables false
set_option linter.unusedSimpArgs false

def nextZ (t c : Int) : Int := if t < c then c - t else 0
def linesZ (so t c : Int) : Int := so % 2 * 8 + (if c ≤ t then 128 else 0)

theorem and1_u32 (x : Int) (h0 : 0 ≤ x) (h1 : x < 4294967296) : bits .and .u32 x 1 = x % 2 := by
  have := u32_and x 1 h0 h1 (by decide) (by decide)
  rw [this, show (1 : Int).toNat = 1 from rfl, nat_mask1]
  omega

theorem lines_step (so : Int) (h0 : 0 ≤ so) (h1 : so < 4294967296) : bits .and .u32 so 1 * 8 % 4294967296 = so % 2 * 8 := by
  rw [and1_u32 so h0 h1]; omega
theorem lines_step2 (so : Int) (h0 : 0 ≤ so) (h1 : so < 4294967296) : bits .or .u32 (bits .and .u32 so 1 * 8 % 4294967296) 128 = so % 2 * 8 + 128 := by
  rw [lines_step so h0 h1]
  have : so % 2 = 0 ∨ so % 2 = 1 := by omega
  rcases this with h | h <;> rw [h] <;> rfl

theorem next_any (so t c : Int) (w : World) (ht : 0 ≤ t) (ht' : t < 18446744073709551616) (hc : 0 ≤ c) (hc' : c < 18446744073709551616) :
    Calls Tryd.prog 19 #[.agg #[.int .u32 so, .int .u64 t, .int .u64 c]] w fun e w' => e = .returned (.int .u64 (nextZ t c)) ∧ Below w.heap.size w w' := by
  go_enter Tryd.func19, Tryd.ntmps19
  go_wp2
  all_goals
    go_ret
    exact ⟨ret_int (by simp [nextZ]; omega), (Below.refl _ _).alloc (Nat.le_refl _) _⟩

theorem rnext_any (so t c : Int) (w : World) (ht : 0 ≤ t) (ht' : t < 18446744073709551616) (hc : 0 ≤ c) (hc' : c < 18446744073709551616) :
    Calls Tryd.prog 20 #[.agg #[.int .u32 so, .int .u64 t, .int .u64 c]] w fun e w' => e = .returned (.int .u64 (nextZ t c)) ∧ Below w.heap.size w w' := by
  go_enter Tryd.func20, Tryd.ntmps20
  go_wp2
  all_goals
    go_ret
    exact ⟨ret_int (by simp [nextZ]; omega), (Below.refl _ _).alloc (Nat.le_refl _) _⟩

theorem rlines_any (so t c : Int) (w : World) (hs : 0 ≤ so) (hs' : so < 4294967296) (ht : 0 ≤ t) (ht' : t < 18446744073709551616) (hc : 0 ≤ c) (hc' : c < 18446744073709551616) :
    Calls Tryd.prog 18 #[.agg #[.int .u32 so, .int .u64 t, .int .u64 c]] w fun e w' => e = .returned (.int .u32 (linesZ so t c)) ∧ Below w.heap.size w w' := by
  go_enter Tryd.func18, Tryd.ntmps18
  go_wp2
  all_goals
    go_ret
    simp only [beq_iff_eq, beq_eq_false_iff_ne, ne_eq] at *
    exact ⟨ret_int (by simp [linesZ]; omega), (Below.refl _ _).alloc (Nat.le_refl _) _⟩

theorem nextZ_zero (t c : Int) : (nextZ t c == 0) = decide (c ≤ t) := by
  unfold nextZ
  by_cases h : t < c
  · rw [if_pos h, Bool.eq_iff_iff]; simp; omega
  · rw [if_neg h, Bool.eq_iff_iff]; simp; omega

theorem lines_any (so t c : Int) (w : World) (hs : 0 ≤ so) (hs' : so < 4294967296) (ht : 0 ≤ t) (ht' : t < 18446744073709551616) (hc : 0 ≤ c) (hc' : c < 18446744073709551616) :
    Calls Tryd.prog 17 #[.agg #[.int .u32 so, .int .u64 t, .int .u64 c]] w fun e w' => e = .returned (.int .u32 (linesZ so t c)) ∧ Below w.heap.size w w' := by
  go_enter Tryd.func17, Tryd.ntmps17
  go_wp2_with (go_at_call 19; refine (next_any _ _ _ _ ht ht' hc hc').mono ?_; rintro e w' ⟨rfl, hb⟩)
  · have h : (nextZ t c == 0) = true := by assumption
    rw [nextZ_zero] at h
    go_ret
    exact ⟨ret_int ((lines_step2 so hs hs').trans (by simp at h; simp [linesZ, h])), ((Below.refl _ _).alloc (Nat.le_refl _) _).trans (hb.mono (by simp))⟩
  · have h : (nextZ t c == 0) = false := by assumption
    rw [nextZ_zero] at h
    go_ret
    exact ⟨ret_int ((lines_step so hs hs').trans (by simp at h; simp [linesZ]; omega)), ((Below.refl _ _).alloc (Nat.le_refl _) _).trans (hb.mono (by simp))⟩

def tickZ (t : Int) : Int := (t + 1) % 18446744073709551616
theorem tickZ_in (t : Int) : 0 ≤ tickZ t ∧ tickZ t < 18446744073709551616 := by unfold tickZ; omega
theorem tickZ_wrap (t : Int) : IntKind.u64.wrap (t + 1) = tickZ t := IntKind.wrap_u64 _

theorem tick_any (so t c : Int) (w : World) (ht : 0 ≤ t) (ht' : t < 18446744073709551616) :
    Calls Tryd.prog 38 #[.agg #[.int .u32 so, .int .u64 t, .int .u64 c]] w fun e w' => e = .returned (.agg #[.int .u32 so, .int .u64 (tickZ t), .int .u64 c]) ∧ Below w.heap.size w w' := by
  go_enter Tryd.func38, Tryd.ntmps38
  go_wp2
  simp [bodyPost, results, Tryd.results38, go_sem, tickZ_wrap]
  exact ((Below.refl _ _).alloc (Nat.le_refl _) _).alloc (by simp) _

set_option maxHeartbeats 1000000 in
theorem sure_any (w : World) : Calls Tryd.prog 12 #[] w fun e w' => e = .returned (.bool true) ∧ Below w.heap.size w w' := by
  have l1 : (linesZ 0 3 5 == 0) = true := by decide
  have l2 : (linesZ 0 (tickZ (tickZ 3)) 5 == 128) = true := by decide
  have h3 := tickZ_in (tickZ 3)
  have h4 := tickZ_in 3
  go_enter Tryd.func12, Tryd.ntmps12
  go_wp2_with (first | (go_at_call 17; refine (lines_any _ _ _ _ (by omega) (by omega) (by omega) (by omega) (by omega) (by omega)).mono ?_; rintro e w' ⟨rfl, hb⟩; obtain ⟨hc, hf⟩ := bcell hb; have hz := hb.size) | (go_at_call 38; refine (tick_any _ _ _ _ (by omega) (by omega)).mono ?_; rintro e w' ⟨rfl, hb⟩; have hz := hb.size))
  go_ret
  refine ⟨rfl, ?_⟩
  repeat (first | exact Below.refl _ _ | refine b_alloc ?_ _ | refine b_then ?_ (by assumption))

def ofState (so t c : Int) : Value := .agg #[.int .u32 so, .int .u64 t, .int .u64 c]

end Go.Proofs.YtbmfcaobhgeogaaDoor
