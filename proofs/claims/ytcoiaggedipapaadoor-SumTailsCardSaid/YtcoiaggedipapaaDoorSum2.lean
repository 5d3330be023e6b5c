import Derived.Test.YtcoiaggedipapaaDoorSum
namespace Go.Proofs.YtcoiaggedipapaaDoor
open Go.RowKit
set_option linter.unusedVariables false
set_option linter.unusedSimpArgs false

/-- The reference's bit, on numbers. -/
def bitN (s : Nat) (one : Bool) : Nat := (Crc.bit (BitVec.ofNat 32 s) one).toNat
theorem bitN_lt (s : Nat) (one : Bool) : bitN s one < 4294967296 := (Crc.bit (BitVec.ofNat 32 s) one).isLt
theorem bitN_eq (s : Nat) (one : Bool) (hs : s < 4294967296) : bitN s one = if (decide (2147483648 ≤ s) != one) = true then (s * 2 % 4294967296) ^^^ 79764919 else s * 2 % 4294967296 := by
  unfold bitN Crc.bit
  have hx : BitVec.ofNat 32 s ^^^ Crc.top one = BitVec.ofNat 32 (s ^^^ (if one then 2147483648 else 0)) := by
    apply BitVec.eq_of_toNat_eq
    cases one
    · simp [Crc.top]
    · simp only [Crc.top, if_true, BitVec.toNat_xor, BitVec.toNat_ofNat]
      rw [Nat.xor_mod_two_pow]
  have hlt : (s ^^^ (if one then 2147483648 else 0)) < 4294967296 := by
    cases one
    · simpa using hs
    · exact Nat.xor_lt_two_pow (n := 32) hs (by decide)
  have hb : s ^^^ (if one then 2147483648 else 0) = if one then (if 2147483648 ≤ s then s - 2147483648 else s + 2147483648) else s := by
    cases one
    · simp
    · simp only [if_true]
      apply Nat.eq_of_testBit_eq
      intro i
      have e31 : (2147483648 : Nat) = 2 ^ 31 := rfl
      by_cases h : 2147483648 ≤ s
      · rw [if_pos h]
        have hs2 : s = 2 ^ 31 + (s - 2147483648) := by omega
        have hr : s - 2147483648 < 2 ^ 31 := by omega
        rw [Nat.testBit_xor]
        conv => lhs; arg 1; rw [hs2]
        rw [e31, Nat.testBit_two_pow]
        have := Nat.testBit_two_pow_mul_add 1 hr i
        rw [Nat.mul_one] at this
        rw [show 2 ^ 31 + (s - 2 ^ 31) = 2 ^ 31 + (s - 2147483648) from rfl, this]
        by_cases hi : i < 31
        · have : ¬ 31 = i := by omega
          simp [hi, this]
        · by_cases h1 : i = 31
          · subst h1
            have : (s - 2147483648).testBit 31 = false := Nat.testBit_lt_two_pow hr
            simp [this]
          · have h2 : ¬ 31 = i := by omega
            have h3 : (s - 2147483648).testBit i = false := Nat.testBit_lt_two_pow (Nat.lt_of_lt_of_le hr (Nat.pow_le_pow_right (by decide) (by omega)))
            have h4 : Nat.testBit 1 (i - 31) = false := Nat.testBit_lt_two_pow (Nat.one_lt_two_pow (by omega))
            simp [hi, h2, h3, h4]
      · rw [if_neg h]
        have hr : s < 2 ^ 31 := by omega
        have := Nat.testBit_two_pow_mul_add 1 hr i
        rw [Nat.mul_one, Nat.add_comm] at this
        rw [show s + 2147483648 = s + 2 ^ 31 from rfl, this, Nat.testBit_xor, e31, Nat.testBit_two_pow]
        by_cases hi : i < 31
        · have : ¬ 31 = i := by omega
          simp [hi, this]
        · have h3 : s.testBit i = false := Nat.testBit_lt_two_pow (Nat.lt_of_lt_of_le hr (Nat.pow_le_pow_right (by decide) (by omega)))
          by_cases h1 : i = 31
          · subst h1; simp [h3]
          · have h2 : ¬ 31 = i := by omega
            have h4 : Nat.testBit 1 (i - 31) = false := Nat.testBit_lt_two_pow (Nat.one_lt_two_pow (by omega))
            simp [hi, h2, h3, h4]
  rw [hx, ← Crc.stepN_eq _ hlt, BitVec.toNat_ofNat, Nat.mod_eq_of_lt (Crc.stepN_lt _)]
  unfold Crc.stepN
  rw [hb]
  cases one
  · by_cases h : 2147483648 ≤ s
    · have : s / 2147483648 = 1 := by omega
      simp [h, this]
    · have : s / 2147483648 = 0 := by omega
      simp [h, this]
  · by_cases h : 2147483648 ≤ s
    · have : (s - 2147483648) / 2147483648 = 0 := by omega
      simp [h, this]
      omega
    · have h1 : (s + 2147483648) / 2147483648 = 1 := by omega
      have h2 : (s + 2147483648) * 2 % 4294967296 = s * 2 % 4294967296 := by omega
      simp [h, h1, h2]

theorem bit_any (s : Nat) (one : Bool) (w : World) (hs : s < 4294967296) :
    Calls Tryd.prog 52 #[.int .u32 s, .bool one] w fun e w' => e = .returned (.int .u32 (bitN s one : Nat)) ∧ w = w' := by
  have hb := Lib.hid (bitN_eq s one hs)
  go_enter Tryd.func52, Tryd.ntmps52
  go_wp2
  · have h : (!decide (2147483648 ≤ (s : Int)) == one) = true := by assumption
    go_ret
    have h' : (decide (2147483648 ≤ s) != one) = true := by
      rw [← h]
      have : decide (2147483648 ≤ (s : Int)) = decide (2147483648 ≤ s) := by rw [decide_eq_decide]; omega
      rw [this]
      cases decide (2147483648 ≤ s) <;> cases one <;> rfl
    refine ⟨ret_int ?_, rfl⟩
    rw [hb.out, if_pos h', ← xor_u32 _ _ (by omega) (by decide)]
    rfl
  · have h : (!decide (2147483648 ≤ (s : Int)) == one) = false := by assumption
    go_ret
    have h' : ¬ (decide (2147483648 ≤ s) != one) = true := by
      have : decide (2147483648 ≤ (s : Int)) = decide (2147483648 ≤ s) := by rw [decide_eq_decide]; omega
      rw [this] at h
      revert h
      cases decide (2147483648 ≤ s) <;> cases one <;> decide
    refine ⟨ret_int ?_, rfl⟩
    rw [hb.out, if_neg h']
    rfl

/-! the reference's More -/
def rmore (s : Nat) (l : List Nat) : Nat := (Crc.more (BitVec.ofNat 32 s) l).toNat
theorem rmore_eq (s : Nat) (l : List Nat) (hs : s < 4294967296) (hl : ∀ x ∈ l, x < 256) : rmore s l = Crc.sum s l := by
  unfold rmore
  rw [← Crc.sum_eq l s hs hl, BitVec.toNat_ofNat, Nat.mod_eq_of_lt (Crc.sum_lt l s hs)]
def rbits (s : Nat) (l : List Bool) : Nat := (Crc.bits (BitVec.ofNat 32 s) l).toNat
theorem rbits_lt (s : Nat) (l : List Bool) : rbits s l < 4294967296 := (Crc.bits (BitVec.ofNat 32 s) l).isLt
theorem rbits_snoc (s : Nat) (l : List Bool) (b : Bool) : rbits s (l ++ [b]) = bitN (rbits s l) b := by
  unfold rbits bitN
  rw [Crc.bits_append]
  simp [Crc.bits]
theorem rbits_nil (s : Nat) (hs : s < 4294967296) : rbits s [] = s := by
  simp [rbits, Crc.bits]; omega
theorem rmore_snoc (s : Nat) (l : List Nat) (x : Nat) (hs : s < 4294967296) : rmore s (l ++ [x]) = rbits (rmore s l) (Crc.byteBits x) := by
  unfold rmore rbits
  rw [Crc.more_append, BitVec.ofNat_toNat]
  simp [Crc.more, Crc.allBits]
theorem rmore_lt (s : Nat) (l : List Nat) : rmore s l < 4294967296 := (Crc.more (BitVec.ofNat 32 s) l).isLt
theorem byteBits_at (x k : Nat) (hx : x < 256) (hk : k < 8) : (Crc.byteBits x).take (k + 1) = (Crc.byteBits x).take k ++ [decide (128 ≤ x * 2 ^ k % 256)] := by
  have : ∀ j : Fin 256, ∀ i : Fin 8, (Crc.byteBits j.1).take (i.1 + 1) = (Crc.byteBits j.1).take i.1 ++ [decide (128 ≤ j.1 * 2 ^ i.1 % 256)] := by decide +kernel
  exact this ⟨x, hx⟩ ⟨k, hk⟩

set_option maxHeartbeats 1000000 in
theorem rmore_any (s : Nat) (A : Option Addr) (n c : Nat) (l : List Nat) (w : World) (hs : s < 4294967296) (hb : Bs w A n c l) :
    Calls Tryd.prog 19 #[.int .u32 s, .slice A n c] w fun e w' => e = .returned (.int .u32 (rmore s l : Nat)) ∧ w = w' := by
  have hm := hb.max
  go_enter Tryd.func19, Tryd.ntmps19
  go_wp2
  go_loop [0, 5] (fun v i => ∃ k : Nat, k ≤ n ∧ i = .int .i64 k ∧ v = .int .u32 (rmore s (l.take k) : Nat)) (fun _ i => n - (intOf i).toNat)
  case atStart => exact ⟨0, Nat.zero_le _, rfl, by simp [rmore, Crc.more, Crc.allBits, Crc.bits]; omega⟩
  case round =>
    obtain ⟨k, hk, rfl, rfl⟩ := hrel
    by_cases hlt : k < n
    · obtain ⟨b, off, rfl, hc⟩ := hb.cells (by omega)
      have hck := hc k hlt
      clear hc
      have hs1 := rmore_lt s (l.take k)
      have hx := getD_small hb.small k
      have hst := Lib.hid ((congrArg (rmore s) (take_succ_getD l k (by rw [hb.len]; exact hlt))).trans (rmore_snoc s (l.take k) (l.getD k 0) hs))
      generalize rmore s (l.take k) = s1 at hs1 hst ⊢
      generalize l.getD k 0 = x at hck hx hst
      go_wp2
      go_loop [0, 6, 7] (fun v ch j => ∃ q : Nat, q ≤ 8 ∧ j = .int .i64 q ∧ ch = .int .u8 ((x * 2 ^ q % 256 : Nat) : Int) ∧ v = .int .u32 (rbits s1 ((Crc.byteBits x).take q) : Nat)) (fun _ _ j => 8 - (intOf j).toNat)
      case atStart => exact ⟨0, by omega, rfl, by simp; omega, by simp [rbits_nil s1 hs1]⟩
      case round =>
        obtain ⟨q, hq, rfl, rfl, rfl⟩ := hrel
        by_cases hq8 : q < 8
        · have hs2 := rbits_lt s1 ((Crc.byteBits x).take q)
          have hst2 := Lib.hid ((congrArg (rbits s1) (byteBits_at x q hx hq8)).trans (rbits_snoc s1 _ _))
          have hch : x * 2 ^ q % 256 < 256 := by omega
          have hn2 : Hid (x * 2 ^ (q + 1) % 256 = x * 2 ^ q % 256 * 2 % 256) := Lib.hid (by rw [Nat.pow_succ, ← Nat.mul_assoc]; omega)
          generalize rbits s1 ((Crc.byteBits x).take q) = s2 at hs2 hst2 ⊢
          generalize x * 2 ^ q % 256 = ch at hch hst2 hn2 ⊢
          have hst3 : Hid (rbits s1 (List.take (q + 1) (Crc.byteBits x)) = bitN s2 (decide ((128 : Int) ≤ (ch : Int)))) := Lib.hid (by rw [hst2.out]; congr 1; rw [decide_eq_decide]; omega)
          clear hst2
          go_wp2_with (go_at_call 52; refine (bit_any s2 (decide ((128 : Int) ≤ (ch : Int))) _ hs2).mono ?_; rintro e w' ⟨rfl, rfl⟩)
          go_round
          case rel => exact ⟨q + 1, by omega, by go_num, by rw [hn2.out]; go_num, by rw [hst3.out]⟩
          case measure => simp [intOf]; omega
        · have : q = 8 := by omega
          subst this
          go_wp2
          go_round
          case rel => exact ⟨k + 1, by omega, by go_num, by rw [hst.out]; rfl⟩
          case measure => simp [intOf]; omega
    · have : k = n := by omega
      subst this
      go_wp2
      go_ret
      exact ⟨ret_int (by rw [List.take_of_length_le (by rw [hb.len]; exact Nat.le_refl _)]), rfl⟩

theorem rof_any (A : Option Addr) (n c : Nat) (l : List Nat) (w : World) (hb : Bs w A n c l) :
    Calls Tryd.prog 17 #[.slice A n c] w fun e w' => e = .returned (.int .u32 (Crc.sum 4294967295 l : Nat)) ∧ w = w' := by
  have hf := Lib.hid (rmore_eq 4294967295 l (by decide) hb.small)
  go_enter Tryd.func17, Tryd.ntmps17
  go_wp2_with (go_at_call 19; refine (rmore_any 4294967295 A n c l _ (by decide) hb).mono ?_; rintro e w' ⟨rfl, rfl⟩)
  go_ret
  exact ⟨ret_int (by rw [hf.out]), rfl⟩
end Go.Proofs.YtcoiaggedipapaaDoor
