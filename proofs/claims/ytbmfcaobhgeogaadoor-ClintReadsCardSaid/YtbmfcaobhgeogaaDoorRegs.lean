import Derived.Test.YtbmfcaobhgeogaaDoorClint
import Derived.Lib.Hide
namespace Go.Proofs.YtbmfcaobhgeogaaDoor
open Go.RowKit
set_option linter.unusedVariables false
set_option linter.unusedSimpArgs false
set_option maxRecDepth 100000

theorem r0 : bits BinOp.and IntKind.u32 16384 4 = 0 := by decide
theorem r1 : bits BinOp.and IntKind.u32 16388 4 = 4 := by decide
theorem r2 : bits BinOp.and IntKind.u32 49144 4 = 0 := by decide
theorem r3 : bits BinOp.and IntKind.u32 49148 4 = 4 := by decide
theorem nat_low (c v : Nat) (hc : c < 18446744073709551616) (hv : v < 4294967296) : (c &&& 18446744069414584320) ||| v = c / 4294967296 * 4294967296 + v := by
  have e : c &&& 18446744069414584320 = c / 4294967296 * 4294967296 := by
    apply Nat.eq_of_testBit_eq
    intro i
    rw [Nat.testBit_and, show (18446744069414584320 : Nat) = 2 ^ 32 * (2 ^ 32 - 1) from rfl, Nat.testBit_two_pow_mul, Nat.testBit_two_pow_sub_one, show c / 4294967296 * 4294967296 = 2 ^ 32 * (c / 2 ^ 32) from by rw [Nat.mul_comm], Nat.testBit_two_pow_mul, Nat.testBit_div_two_pow]
    by_cases h : 32 ≤ i
    · by_cases h2 : i < 64
      · have h3 : i - 32 < 32 := by omega
        simp [h, h3, Nat.sub_add_cancel h]
      · have h3 : c.testBit i = false := Nat.testBit_lt_two_pow (Nat.lt_of_lt_of_le hc (Nat.pow_le_pow_right (n := 2) (i := 64) (by decide) (by omega)))
        simp [h, h3, Nat.sub_add_cancel h]
    · simp [h]
  rw [e]
  exact nat_join 32 _ _ (by omega) (by omega)
theorem nat_high (c v : Nat) (hc : c < 18446744073709551616) (hv : v < 4294967296) : (c &&& 4294967295) ||| (v * 4294967296) = c % 4294967296 + v * 4294967296 := by
  have e : c &&& 4294967295 = c % 4294967296 := Nat.and_two_pow_sub_one_eq_mod c 32
  rw [e, Nat.or_comm, nat_join 32 _ _ (by omega) (by omega), Nat.add_comm]
theorem low_set (c v : Int) (hc : 0 ≤ c) (hc' : c < 18446744073709551616) (hv : 0 ≤ v) (hv' : v < 4294967296) : bits .or .u64 (bits .andNot .u64 c 4294967295) v = c / 4294967296 * 4294967296 + v := by
  obtain ⟨c, rfl⟩ := Int.eq_ofNat_of_zero_le hc
  obtain ⟨v, rfl⟩ := Int.eq_ofNat_of_zero_le hv
  have h1 := u64_andNot_nat c 4294967295 (by omega) (by decide)
  have h1' : bits .andNot .u64 (c : Int) 4294967295 = ((c &&& 18446744069414584320 : Nat) : Int) := h1
  have hlt : c &&& 18446744069414584320 < 18446744073709551616 := Nat.lt_of_le_of_lt Nat.and_le_left (by omega)
  rw [h1', u64_or_nat _ _ hlt (by omega), nat_low c v (by omega) (by omega)]
  omega
theorem high_set (c v : Int) (hc : 0 ≤ c) (hc' : c < 18446744073709551616) (hv : 0 ≤ v) (hv' : v < 4294967296) : bits .or .u64 (bits .andNot .u64 c 18446744069414584320) (v * 4294967296) = c % 4294967296 + v * 4294967296 := by
  obtain ⟨c, rfl⟩ := Int.eq_ofNat_of_zero_le hc
  obtain ⟨v, rfl⟩ := Int.eq_ofNat_of_zero_le hv
  have h1 := u64_andNot_nat c 18446744069414584320 (by omega) (by decide)
  have h1' : bits .andNot .u64 (c : Int) 18446744069414584320 = ((c &&& 4294967295 : Nat) : Int) := h1
  have hlt : c &&& 4294967295 < 18446744073709551616 := Nat.lt_of_le_of_lt Nat.and_le_left (by omega)
  have e : (v : Int) * 4294967296 = ((v * 4294967296 : Nat) : Int) := by omega
  rw [h1', e, u64_or_nat _ _ hlt (by omega), nat_high c v (by omega) (by omega)]
  omega

set_option maxHeartbeats 2000000 in
theorem read_soft (so t c : Int) (w : World) (hs : 0 ≤ so) (hs' : so < 4294967296) (ht : 0 ≤ t) (ht' : t < 18446744073709551616) (hc : 0 ≤ c) (hc' : c < 18446744073709551616) :
    Calls Tryd.prog 13 #[.agg #[.int .u32 so, .int .u64 t, .int .u64 c], .int .u32 0] w fun e w' => e = .returned (.tuple #[.int .u32 (so), .nilIface]) ∧ Below w.heap.size w w' := by
  go_enter Tryd.func13, Tryd.ntmps13
  go_wp2
  go_ret2
  exact ⟨by simp, b_alloc (Below.refl _ _) _⟩
set_option maxHeartbeats 2000000 in
theorem write_soft (so t c v : Int) (w : World) (hs : 0 ≤ so) (hs' : so < 4294967296) (ht : 0 ≤ t) (ht' : t < 18446744073709551616) (hc : 0 ≤ c) (hc' : c < 18446744073709551616) (hv : 0 ≤ v) (hv' : v < 4294967296) :
    Calls Tryd.prog 9 #[.agg #[.int .u32 so, .int .u64 t, .int .u64 c], .int .u32 0, .int .u32 v] w fun e w' => e = .returned (.tuple #[.agg #[.int .u32 (v % 2), .int .u64 (t), .int .u64 (c)], .nilIface]) ∧ Below w.heap.size w w' := by
  go_enter Tryd.func9, Tryd.ntmps9
  go_wp2
  simp [bodyPost, results, Tryd.results9, go_sem]
  exact ⟨and1_u32 v hv hv', b_alloc (b_alloc (Below.refl _ _) _) _⟩
set_option maxHeartbeats 2000000 in
theorem read_cmp0 (so t c : Int) (w : World) (hs : 0 ≤ so) (hs' : so < 4294967296) (ht : 0 ≤ t) (ht' : t < 18446744073709551616) (hc : 0 ≤ c) (hc' : c < 18446744073709551616) :
    Calls Tryd.prog 13 #[.agg #[.int .u32 so, .int .u64 t, .int .u64 c], .int .u32 16384] w fun e w' => e = .returned (.tuple #[.int .u32 (c % 4294967296), .nilIface]) ∧ Below w.heap.size w w' := by
  have h := r0
  go_enter Tryd.func13, Tryd.ntmps13
  go_wp2
  go_ret2
  exact ⟨by simp, b_alloc (Below.refl _ _) _⟩
set_option maxHeartbeats 2000000 in
theorem write_cmp0 (so t c v : Int) (w : World) (hs : 0 ≤ so) (hs' : so < 4294967296) (ht : 0 ≤ t) (ht' : t < 18446744073709551616) (hc : 0 ≤ c) (hc' : c < 18446744073709551616) (hv : 0 ≤ v) (hv' : v < 4294967296) :
    Calls Tryd.prog 9 #[.agg #[.int .u32 so, .int .u64 t, .int .u64 c], .int .u32 16384, .int .u32 v] w fun e w' => e = .returned (.tuple #[.agg #[.int .u32 (so), .int .u64 (t), .int .u64 (c / 4294967296 * 4294967296 + v)], .nilIface]) ∧ Below w.heap.size w w' := by
  have h := r0
  go_enter Tryd.func9, Tryd.ntmps9
  go_wp2
  simp [bodyPost, results, Tryd.results9, go_sem]
  exact ⟨low_set c v hc hc' hv hv', b_alloc (b_alloc (Below.refl _ _) _) _⟩
set_option maxHeartbeats 2000000 in
theorem read_cmp1 (so t c : Int) (w : World) (hs : 0 ≤ so) (hs' : so < 4294967296) (ht : 0 ≤ t) (ht' : t < 18446744073709551616) (hc : 0 ≤ c) (hc' : c < 18446744073709551616) :
    Calls Tryd.prog 13 #[.agg #[.int .u32 so, .int .u64 t, .int .u64 c], .int .u32 16388] w fun e w' => e = .returned (.tuple #[.int .u32 (c / 4294967296), .nilIface]) ∧ Below w.heap.size w w' := by
  have h := r1
  go_enter Tryd.func13, Tryd.ntmps13
  go_wp2
  go_ret2
  exact ⟨by simp, b_alloc (Below.refl _ _) _⟩
set_option maxHeartbeats 2000000 in
theorem write_cmp1 (so t c v : Int) (w : World) (hs : 0 ≤ so) (hs' : so < 4294967296) (ht : 0 ≤ t) (ht' : t < 18446744073709551616) (hc : 0 ≤ c) (hc' : c < 18446744073709551616) (hv : 0 ≤ v) (hv' : v < 4294967296) :
    Calls Tryd.prog 9 #[.agg #[.int .u32 so, .int .u64 t, .int .u64 c], .int .u32 16388, .int .u32 v] w fun e w' => e = .returned (.tuple #[.agg #[.int .u32 (so), .int .u64 (t), .int .u64 (c % 4294967296 + v * 4294967296)], .nilIface]) ∧ Below w.heap.size w w' := by
  have h := r1
  go_enter Tryd.func9, Tryd.ntmps9
  go_wp2
  simp [bodyPost, results, Tryd.results9, go_sem]
  exact ⟨high_set c v hc hc' hv hv', b_alloc (b_alloc (Below.refl _ _) _) _⟩
set_option maxHeartbeats 2000000 in
theorem read_time0 (so t c : Int) (w : World) (hs : 0 ≤ so) (hs' : so < 4294967296) (ht : 0 ≤ t) (ht' : t < 18446744073709551616) (hc : 0 ≤ c) (hc' : c < 18446744073709551616) :
    Calls Tryd.prog 13 #[.agg #[.int .u32 so, .int .u64 t, .int .u64 c], .int .u32 49144] w fun e w' => e = .returned (.tuple #[.int .u32 (t % 4294967296), .nilIface]) ∧ Below w.heap.size w w' := by
  have h := r2
  go_enter Tryd.func13, Tryd.ntmps13
  go_wp2
  go_ret2
  exact ⟨by simp, b_alloc (Below.refl _ _) _⟩
set_option maxHeartbeats 2000000 in
theorem write_time0 (so t c v : Int) (w : World) (hs : 0 ≤ so) (hs' : so < 4294967296) (ht : 0 ≤ t) (ht' : t < 18446744073709551616) (hc : 0 ≤ c) (hc' : c < 18446744073709551616) (hv : 0 ≤ v) (hv' : v < 4294967296) :
    Calls Tryd.prog 9 #[.agg #[.int .u32 so, .int .u64 t, .int .u64 c], .int .u32 49144, .int .u32 v] w fun e w' => e = .returned (.tuple #[.agg #[.int .u32 (so), .int .u64 (t / 4294967296 * 4294967296 + v), .int .u64 (c)], .nilIface]) ∧ Below w.heap.size w w' := by
  have h := r2
  go_enter Tryd.func9, Tryd.ntmps9
  go_wp2
  simp [bodyPost, results, Tryd.results9, go_sem]
  exact ⟨low_set t v ht ht' hv hv', b_alloc (b_alloc (Below.refl _ _) _) _⟩
set_option maxHeartbeats 2000000 in
theorem read_time1 (so t c : Int) (w : World) (hs : 0 ≤ so) (hs' : so < 4294967296) (ht : 0 ≤ t) (ht' : t < 18446744073709551616) (hc : 0 ≤ c) (hc' : c < 18446744073709551616) :
    Calls Tryd.prog 13 #[.agg #[.int .u32 so, .int .u64 t, .int .u64 c], .int .u32 49148] w fun e w' => e = .returned (.tuple #[.int .u32 (t / 4294967296), .nilIface]) ∧ Below w.heap.size w w' := by
  have h := r3
  go_enter Tryd.func13, Tryd.ntmps13
  go_wp2
  go_ret2
  exact ⟨by simp, b_alloc (Below.refl _ _) _⟩
set_option maxHeartbeats 2000000 in
theorem write_time1 (so t c v : Int) (w : World) (hs : 0 ≤ so) (hs' : so < 4294967296) (ht : 0 ≤ t) (ht' : t < 18446744073709551616) (hc : 0 ≤ c) (hc' : c < 18446744073709551616) (hv : 0 ≤ v) (hv' : v < 4294967296) :
    Calls Tryd.prog 9 #[.agg #[.int .u32 so, .int .u64 t, .int .u64 c], .int .u32 49148, .int .u32 v] w fun e w' => e = .returned (.tuple #[.agg #[.int .u32 (so), .int .u64 (t % 4294967296 + v * 4294967296), .int .u64 (c)], .nilIface]) ∧ Below w.heap.size w w' := by
  have h := r3
  go_enter Tryd.func9, Tryd.ntmps9
  go_wp2
  simp [bodyPost, results, Tryd.results9, go_sem]
  exact ⟨high_set t v ht ht' hv hv', b_alloc (b_alloc (Below.refl _ _) _) _⟩
set_option maxHeartbeats 2000000 in
theorem read_none (so t c at_ : Int) (w : World) (hs : 0 ≤ so) (hs' : so < 4294967296) (ht : 0 ≤ t) (ht' : t < 18446744073709551616) (hc : 0 ≤ c) (hc' : c < 18446744073709551616) (n0 : (at_ == 0) = false) (n1 : (at_ == 16384) = false) (n2 : (at_ == 16388) = false) (n3 : (at_ == 49144) = false) (n4 : (at_ == 49148) = false) :
    Calls Tryd.prog 13 #[.agg #[.int .u32 so, .int .u64 t, .int .u64 c], .int .u32 at_] w fun e w' => e = .returned (.tuple #[.int .u32 0, .iface 81 (.int .i64 20)]) ∧ Below w.heap.size w w' := by
  go_enter Tryd.func13, Tryd.ntmps13
  go_wp2
  go_ret2
  exact ⟨by simp, b_alloc (Below.refl _ _) _⟩
set_option maxHeartbeats 2000000 in
theorem write_none (so t c at_ v : Int) (w : World) (hs : 0 ≤ so) (hs' : so < 4294967296) (ht : 0 ≤ t) (ht' : t < 18446744073709551616) (hc : 0 ≤ c) (hc' : c < 18446744073709551616) (n0 : (at_ == 0) = false) (n1 : (at_ == 16384) = false) (n2 : (at_ == 16388) = false) (n3 : (at_ == 49144) = false) (n4 : (at_ == 49148) = false) :
    Calls Tryd.prog 9 #[.agg #[.int .u32 so, .int .u64 t, .int .u64 c], .int .u32 at_, .int .u32 v] w fun e w' => e = .returned (.tuple #[.agg #[.int .u32 0, .int .u64 0, .int .u64 0], .iface 81 (.int .i64 20)]) ∧ Below w.heap.size w w' := by
  go_enter Tryd.func9, Tryd.ntmps9
  go_wp2
  simp [bodyPost, results, Tryd.results9, go_sem]
  exact b_alloc (b_alloc (Below.refl _ _) _) _
end Go.Proofs.YtbmfcaobhgeogaaDoor
