import Derived.Test.YtbmfcaobhgeogaaDoorRegs
namespace Go.Proofs.YtbmfcaobhgeogaaDoor
open Go.RowKit
set_option linter.unusedVariables false
set_option linter.unusedSimpArgs false
set_option maxRecDepth 100000

/-- The registers, in the law's order; what each holds; a state with one written. -/
def regZ : Nat → Int
  | 0 => 16384 | 1 => 16388 | 2 => 49144 | 3 => 49148 | _ => 0
def maskZ : Nat → Int
  | 4 => 1 | _ => 4294967295
def readF (so t c : Int) : Nat → Int
  | 0 => c % 4294967296 | 1 => c / 4294967296 | 2 => t % 4294967296 | 3 => t / 4294967296 | _ => so
def wS (so v : Int) : Nat → Int
  | 4 => v % 2 | _ => so
def wT (t v : Int) : Nat → Int
  | 2 => t / 4294967296 * 4294967296 + v | 3 => t % 4294967296 + v * 4294967296 | _ => t
def wC (c v : Int) : Nat → Int
  | 0 => c / 4294967296 * 4294967296 + v | 1 => c % 4294967296 + v * 4294967296 | _ => c
theorem five {i : Nat} (h : i < 5) : i = 0 ∨ i = 1 ∨ i = 2 ∨ i = 3 ∨ i = 4 := by omega

theorem read_reg (i : Nat) (hi : i < 5) (so t c : Int) (w : World) (hs : 0 ≤ so) (hs' : so < 4294967296) (ht : 0 ≤ t) (ht' : t < 18446744073709551616) (hc : 0 ≤ c) (hc' : c < 18446744073709551616) :
    Calls Tryd.prog 13 #[.agg #[.int .u32 so, .int .u64 t, .int .u64 c], .int .u32 (regZ i)] w fun e w' => e = .returned (.tuple #[.int .u32 (readF so t c i), .nilIface]) ∧ Below w.heap.size w w' := by
  rcases five hi with rfl | rfl | rfl | rfl | rfl
  · exact read_cmp0 so t c w hs hs' ht ht' hc hc'
  · exact read_cmp1 so t c w hs hs' ht ht' hc hc'
  · exact read_time0 so t c w hs hs' ht ht' hc hc'
  · exact read_time1 so t c w hs hs' ht ht' hc hc'
  · exact read_soft so t c w hs hs' ht ht' hc hc'
theorem write_reg (i : Nat) (hi : i < 5) (so t c v : Int) (w : World) (hs : 0 ≤ so) (hs' : so < 4294967296) (ht : 0 ≤ t) (ht' : t < 18446744073709551616) (hc : 0 ≤ c) (hc' : c < 18446744073709551616) (hv : 0 ≤ v) (hv' : v < 4294967296) :
    Calls Tryd.prog 9 #[.agg #[.int .u32 so, .int .u64 t, .int .u64 c], .int .u32 (regZ i), .int .u32 v] w fun e w' => e = .returned (.tuple #[.agg #[.int .u32 (wS so v i), .int .u64 (wT t v i), .int .u64 (wC c v i)], .nilIface]) ∧ Below w.heap.size w w' := by
  rcases five hi with rfl | rfl | rfl | rfl | rfl
  · exact write_cmp0 so t c v w hs hs' ht ht' hc hc' hv hv'
  · exact write_cmp1 so t c v w hs hs' ht ht' hc hc' hv hv'
  · exact write_time0 so t c v w hs hs' ht ht' hc hc' hv hv'
  · exact write_time1 so t c v w hs hs' ht ht' hc hc' hv hv'
  · exact write_soft so t c v w hs hs' ht ht' hc hc' hv hv'
theorem w_in (i : Nat) (hi : i < 5) (so t c v : Int) (hs : 0 ≤ so) (hs' : so < 4294967296) (ht : 0 ≤ t) (ht' : t < 18446744073709551616) (hc : 0 ≤ c) (hc' : c < 18446744073709551616) (hv : 0 ≤ v) (hv' : v < 4294967296) :
    (0 ≤ wS so v i ∧ wS so v i < 4294967296) ∧ (0 ≤ wT t v i ∧ wT t v i < 18446744073709551616) ∧ (0 ≤ wC c v i ∧ wC c v i < 18446744073709551616) := by
  rcases five hi with rfl | rfl | rfl | rfl | rfl <;> simp only [wS, wT, wC] <;> omega

/-! ### the reference's registers -/
set_option maxHeartbeats 2000000 in
theorem rread_cmp0 (so t c : Int) (w : World) (hs : 0 ≤ so) (hs' : so < 4294967296) (ht : 0 ≤ t) (ht' : t < 18446744073709551616) (hc : 0 ≤ c) (hc' : c < 18446744073709551616) :
    Calls Tryd.prog 14 #[.agg #[.int .u32 so, .int .u64 t, .int .u64 c], .int .u32 16384] w fun e w' => e = .returned (.tuple #[.int .u32 (c % 4294967296), .int .i64 0]) ∧ Below w.heap.size w w' := by
  go_enter Tryd.func14, Tryd.ntmps14
  go_wp2
  go_ret2
  exact ⟨by simp, b_alloc (Below.refl _ _) _⟩
set_option maxHeartbeats 2000000 in
theorem rwrite_cmp0 (so t c v : Int) (w : World) (hs : 0 ≤ so) (hs' : so < 4294967296) (ht : 0 ≤ t) (ht' : t < 18446744073709551616) (hc : 0 ≤ c) (hc' : c < 18446744073709551616) (hv : 0 ≤ v) (hv' : v < 4294967296) :
    Calls Tryd.prog 10 #[.agg #[.int .u32 so, .int .u64 t, .int .u64 c], .int .u32 16384, .int .u32 v] w fun e w' => e = .returned (.tuple #[.agg #[.int .u32 (so), .int .u64 (t), .int .u64 (c / 4294967296 * 4294967296 + v)], .int .i64 0]) ∧ Below w.heap.size w w' := by
  go_enter Tryd.func10, Tryd.ntmps10
  go_wp2
  simp [bodyPost, results, Tryd.results10, go_sem]
  exact b_alloc (b_alloc (Below.refl _ _) _) _
set_option maxHeartbeats 2000000 in
theorem rread_cmp1 (so t c : Int) (w : World) (hs : 0 ≤ so) (hs' : so < 4294967296) (ht : 0 ≤ t) (ht' : t < 18446744073709551616) (hc : 0 ≤ c) (hc' : c < 18446744073709551616) :
    Calls Tryd.prog 14 #[.agg #[.int .u32 so, .int .u64 t, .int .u64 c], .int .u32 16388] w fun e w' => e = .returned (.tuple #[.int .u32 (c / 4294967296), .int .i64 0]) ∧ Below w.heap.size w w' := by
  go_enter Tryd.func14, Tryd.ntmps14
  go_wp2
  go_ret2
  exact ⟨by simp, b_alloc (Below.refl _ _) _⟩
set_option maxHeartbeats 2000000 in
theorem rwrite_cmp1 (so t c v : Int) (w : World) (hs : 0 ≤ so) (hs' : so < 4294967296) (ht : 0 ≤ t) (ht' : t < 18446744073709551616) (hc : 0 ≤ c) (hc' : c < 18446744073709551616) (hv : 0 ≤ v) (hv' : v < 4294967296) :
    Calls Tryd.prog 10 #[.agg #[.int .u32 so, .int .u64 t, .int .u64 c], .int .u32 16388, .int .u32 v] w fun e w' => e = .returned (.tuple #[.agg #[.int .u32 (so), .int .u64 (t), .int .u64 (c % 4294967296 + v * 4294967296)], .int .i64 0]) ∧ Below w.heap.size w w' := by
  go_enter Tryd.func10, Tryd.ntmps10
  go_wp2
  simp [bodyPost, results, Tryd.results10, go_sem]
  exact b_alloc (b_alloc (Below.refl _ _) _) _
set_option maxHeartbeats 2000000 in
theorem rread_time0 (so t c : Int) (w : World) (hs : 0 ≤ so) (hs' : so < 4294967296) (ht : 0 ≤ t) (ht' : t < 18446744073709551616) (hc : 0 ≤ c) (hc' : c < 18446744073709551616) :
    Calls Tryd.prog 14 #[.agg #[.int .u32 so, .int .u64 t, .int .u64 c], .int .u32 49144] w fun e w' => e = .returned (.tuple #[.int .u32 (t % 4294967296), .int .i64 0]) ∧ Below w.heap.size w w' := by
  go_enter Tryd.func14, Tryd.ntmps14
  go_wp2
  go_ret2
  exact ⟨by simp, b_alloc (Below.refl _ _) _⟩
set_option maxHeartbeats 2000000 in
theorem rwrite_time0 (so t c v : Int) (w : World) (hs : 0 ≤ so) (hs' : so < 4294967296) (ht : 0 ≤ t) (ht' : t < 18446744073709551616) (hc : 0 ≤ c) (hc' : c < 18446744073709551616) (hv : 0 ≤ v) (hv' : v < 4294967296) :
    Calls Tryd.prog 10 #[.agg #[.int .u32 so, .int .u64 t, .int .u64 c], .int .u32 49144, .int .u32 v] w fun e w' => e = .returned (.tuple #[.agg #[.int .u32 (so), .int .u64 (t / 4294967296 * 4294967296 + v), .int .u64 (c)], .int .i64 0]) ∧ Below w.heap.size w w' := by
  go_enter Tryd.func10, Tryd.ntmps10
  go_wp2
  simp [bodyPost, results, Tryd.results10, go_sem]
  exact b_alloc (b_alloc (Below.refl _ _) _) _
set_option maxHeartbeats 2000000 in
theorem rread_time1 (so t c : Int) (w : World) (hs : 0 ≤ so) (hs' : so < 4294967296) (ht : 0 ≤ t) (ht' : t < 18446744073709551616) (hc : 0 ≤ c) (hc' : c < 18446744073709551616) :
    Calls Tryd.prog 14 #[.agg #[.int .u32 so, .int .u64 t, .int .u64 c], .int .u32 49148] w fun e w' => e = .returned (.tuple #[.int .u32 (t / 4294967296), .int .i64 0]) ∧ Below w.heap.size w w' := by
  go_enter Tryd.func14, Tryd.ntmps14
  go_wp2
  go_ret2
  exact ⟨by simp, b_alloc (Below.refl _ _) _⟩
set_option maxHeartbeats 2000000 in
theorem rwrite_time1 (so t c v : Int) (w : World) (hs : 0 ≤ so) (hs' : so < 4294967296) (ht : 0 ≤ t) (ht' : t < 18446744073709551616) (hc : 0 ≤ c) (hc' : c < 18446744073709551616) (hv : 0 ≤ v) (hv' : v < 4294967296) :
    Calls Tryd.prog 10 #[.agg #[.int .u32 so, .int .u64 t, .int .u64 c], .int .u32 49148, .int .u32 v] w fun e w' => e = .returned (.tuple #[.agg #[.int .u32 (so), .int .u64 (t % 4294967296 + v * 4294967296), .int .u64 (c)], .int .i64 0]) ∧ Below w.heap.size w w' := by
  go_enter Tryd.func10, Tryd.ntmps10
  go_wp2
  simp [bodyPost, results, Tryd.results10, go_sem]
  exact b_alloc (b_alloc (Below.refl _ _) _) _
set_option maxHeartbeats 2000000 in
theorem rread_soft (so t c : Int) (w : World) (hs : 0 ≤ so) (hs' : so < 4294967296) (ht : 0 ≤ t) (ht' : t < 18446744073709551616) (hc : 0 ≤ c) (hc' : c < 18446744073709551616) :
    Calls Tryd.prog 14 #[.agg #[.int .u32 so, .int .u64 t, .int .u64 c], .int .u32 0] w fun e w' => e = .returned (.tuple #[.int .u32 (so), .int .i64 0]) ∧ Below w.heap.size w w' := by
  go_enter Tryd.func14, Tryd.ntmps14
  go_wp2
  go_ret2
  exact ⟨by simp, b_alloc (Below.refl _ _) _⟩
set_option maxHeartbeats 2000000 in
theorem rwrite_soft (so t c v : Int) (w : World) (hs : 0 ≤ so) (hs' : so < 4294967296) (ht : 0 ≤ t) (ht' : t < 18446744073709551616) (hc : 0 ≤ c) (hc' : c < 18446744073709551616) (hv : 0 ≤ v) (hv' : v < 4294967296) :
    Calls Tryd.prog 10 #[.agg #[.int .u32 so, .int .u64 t, .int .u64 c], .int .u32 0, .int .u32 v] w fun e w' => e = .returned (.tuple #[.agg #[.int .u32 (v % 2), .int .u64 (t), .int .u64 (c)], .int .i64 0]) ∧ Below w.heap.size w w' := by
  go_enter Tryd.func10, Tryd.ntmps10
  go_wp2
  simp [bodyPost, results, Tryd.results10, go_sem]
  exact b_alloc (b_alloc (Below.refl _ _) _) _

set_option maxHeartbeats 2000000 in
theorem rread_none (so t c at_ : Int) (w : World) (hs : 0 ≤ so) (hs' : so < 4294967296) (ht : 0 ≤ t) (ht' : t < 18446744073709551616) (hc : 0 ≤ c) (hc' : c < 18446744073709551616) (n0 : (at_ == 16384) = false) (n1 : (at_ == 16388) = false) (n2 : (at_ == 49144) = false) (n3 : (at_ == 49148) = false) (n4 : (at_ == 0) = false) :
    Calls Tryd.prog 14 #[.agg #[.int .u32 so, .int .u64 t, .int .u64 c], .int .u32 at_] w fun e w' => e = .returned (.tuple #[.int .u32 0, .int .i64 20]) ∧ Below w.heap.size w w' := by
  go_enter Tryd.func14, Tryd.ntmps14
  go_wp2
  go_ret2
  exact ⟨by simp, b_alloc (Below.refl _ _) _⟩
set_option maxHeartbeats 2000000 in
theorem rwrite_none (so t c at_ v : Int) (w : World) (hs : 0 ≤ so) (hs' : so < 4294967296) (ht : 0 ≤ t) (ht' : t < 18446744073709551616) (hc : 0 ≤ c) (hc' : c < 18446744073709551616) (n0 : (at_ == 16384) = false) (n1 : (at_ == 16388) = false) (n2 : (at_ == 49144) = false) (n3 : (at_ == 49148) = false) (n4 : (at_ == 0) = false) :
    Calls Tryd.prog 10 #[.agg #[.int .u32 so, .int .u64 t, .int .u64 c], .int .u32 at_, .int .u32 v] w fun e w' => e = .returned (.tuple #[.agg #[.int .u32 0, .int .u64 0, .int .u64 0], .int .i64 20]) ∧ Below w.heap.size w w' := by
  go_enter Tryd.func10, Tryd.ntmps10
  go_wp2
  simp [bodyPost, results, Tryd.results10, go_sem]
  exact b_alloc (b_alloc (Below.refl _ _) _) _
theorem rread_reg (i : Nat) (hi : i < 5) (so t c : Int) (w : World) (hs : 0 ≤ so) (hs' : so < 4294967296) (ht : 0 ≤ t) (ht' : t < 18446744073709551616) (hc : 0 ≤ c) (hc' : c < 18446744073709551616) :
    Calls Tryd.prog 14 #[.agg #[.int .u32 so, .int .u64 t, .int .u64 c], .int .u32 (regZ i)] w fun e w' => e = .returned (.tuple #[.int .u32 (readF so t c i), .int .i64 0]) ∧ Below w.heap.size w w' := by
  rcases five hi with rfl | rfl | rfl | rfl | rfl
  · exact rread_cmp0 so t c w hs hs' ht ht' hc hc'
  · exact rread_cmp1 so t c w hs hs' ht ht' hc hc'
  · exact rread_time0 so t c w hs hs' ht ht' hc hc'
  · exact rread_time1 so t c w hs hs' ht ht' hc hc'
  · exact rread_soft so t c w hs hs' ht ht' hc hc'
theorem rwrite_reg (i : Nat) (hi : i < 5) (so t c v : Int) (w : World) (hs : 0 ≤ so) (hs' : so < 4294967296) (ht : 0 ≤ t) (ht' : t < 18446744073709551616) (hc : 0 ≤ c) (hc' : c < 18446744073709551616) (hv : 0 ≤ v) (hv' : v < 4294967296) :
    Calls Tryd.prog 10 #[.agg #[.int .u32 so, .int .u64 t, .int .u64 c], .int .u32 (regZ i), .int .u32 v] w fun e w' => e = .returned (.tuple #[.agg #[.int .u32 (wS so v i), .int .u64 (wT t v i), .int .u64 (wC c v i)], .int .i64 0]) ∧ Below w.heap.size w w' := by
  rcases five hi with rfl | rfl | rfl | rfl | rfl
  · exact rwrite_cmp0 so t c v w hs hs' ht ht' hc hc' hv hv'
  · exact rwrite_cmp1 so t c v w hs hs' ht ht' hc hc' hv hv'
  · exact rwrite_time0 so t c v w hs hs' ht ht' hc hc' hv hv'
  · exact rwrite_time1 so t c v w hs hs' ht ht' hc hc' hv hv'
  · exact rwrite_soft so t c v w hs hs' ht ht' hc hc' hv hv'
end Go.Proofs.YtbmfcaobhgeogaaDoor
