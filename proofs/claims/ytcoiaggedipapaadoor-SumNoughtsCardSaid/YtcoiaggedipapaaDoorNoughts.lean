import Derived.Test.YtcoiaggedipapaaDoorThree
import Derived.Test.YtcoiaggedipapaaDoorAs
namespace Go.Proofs.YtcoiaggedipapaaDoor
open Go.RowKit
set_option linter.unusedVariables false
set_option linter.unusedSimpArgs false
set_option maxRecDepth 100000

theorem timesLoop_nil (m o a : Nat) : Crc.timesLoop m o a 0 = o := by cases m <;> simp [Crc.timesLoop]
theorem timesLoop_odd (m o a b : Nat) (hb : b < 2 ^ m) (h0 : b ≠ 0) (h1 : b % 2 = 1) : Crc.timesLoop m o a b = Crc.timesLoop (m - 1) (o ^^^ a) (Crc.stepN a) (b / 2) := by
  cases m with
  | zero => simp at hb; omega
  | succ m => simp [Crc.timesLoop, h0, h1]
theorem timesLoop_even (m o a b : Nat) (hb : b < 2 ^ m) (h0 : b ≠ 0) (h1 : b % 2 = 0) : Crc.timesLoop m o a b = Crc.timesLoop (m - 1) o (Crc.stepN a) (b / 2) := by
  cases m with
  | zero => simp at hb; omega
  | succ m => simp [Crc.timesLoop, h0, h1]
theorem half_lt (b m : Nat) (hb : b < 2 ^ m) (h0 : b ≠ 0) : b / 2 < 2 ^ (m - 1) := by
  cases m with
  | zero => simp at hb; omega
  | succ m => rw [Nat.pow_succ] at hb; simp only [Nat.add_sub_cancel]; omega
theorem step_z (a : Nat) (ha : a < 4294967296) : bits .xor .u32 ((a : Int) * 2 % 4294967296) (79764919 * ((a : Int) / 2147483648)) = ((Crc.stepN a : Nat) : Int) := by
  have h := xor_u32 (a * 2 % 4294967296) (79764919 * (a / 2147483648)) (by omega) (by omega)
  have e : Crc.stepN a = (a * 2 % 4294967296) ^^^ (79764919 * (a / 2147483648)) := by
    unfold Crc.stepN
    rw [Nat.mod_eq_of_lt (show 79764919 * (a / 2147483648) < 4294967296 by omega)]
  have e1 : ((a * 2 % 4294967296 : Nat) : Int) = (a : Int) * 2 % 4294967296 := by omega
  have e2 : ((79764919 * (a / 2147483648) : Nat) : Int) = 79764919 * ((a : Int) / 2147483648) := by omega
  rw [e1, e2] at h
  rw [e, h]
set_option maxHeartbeats 4000000 in
theorem times_any (a b : Nat) (w : World) (ha : a < 4294967296) (hb : b < 4294967296) :
    Calls Tryd.prog 59 #[.int .u32 a, .int .u32 b] w fun e w' => e = .returned (.int .u32 (Crc.times a b : Nat)) ∧ w = w' := by
  go_enter Tryd.func59, Tryd.ntmps59
  go_wp2
  go_loop [0, 1, 5] (fun x y z => ∃ m a' b' o : Nat, x = .int .u32 a' ∧ y = .int .u32 b' ∧ z = .int .u32 o ∧ a' < 4294967296 ∧ b' < 4294967296 ∧ o < 4294967296 ∧ b' < 2 ^ m ∧ Hid (Crc.timesLoop m o a' b' = Crc.times a b)) (fun _ y _ => (intOf y).toNat)
  case atStart => exact ⟨32, a, b, 0, rfl, rfl, rfl, ha, hb, by decide, hb, Lib.hid rfl⟩
  case round =>
    obtain ⟨m, a', b', o, rfl, rfl, rfl, ha', hb', ho, hbm, hH⟩ := hrel
    by_cases h0 : b' = 0
    · subst h0
      rw [timesLoop_nil] at hH
      go_wp2
      go_ret
      exact ⟨ret_int (by rw [← hH.out]), rfl⟩
    · have h0' : ¬ (b' : Int) = 0 := by omega
      have hz := Lib.hid (step_z a' ha')
      have hdiv : (b' : Int) / 2 = ((b' / 2 : Nat) : Int) := by omega
      have hdiv' := Lib.hid hdiv
      clear hdiv
      rcases Nat.mod_two_eq_zero_or_one b' with h1 | h1
      · have hand : bits .and .u32 (b' : Int) 1 = 0 := by
          have := u32_and_nat b' 1 hb' (by decide)
          rw [Nat.and_one_is_mod, h1] at this
          exact this
        have hst := Lib.hid (timesLoop_even m o a' b' hbm h0 h1)
        clear h1
        go_wp2
        go_round
        case rel =>
          rw [hz.out, hdiv'.out]
          exact ⟨m - 1, Crc.stepN a', b' / 2, o, rfl, rfl, rfl, Crc.stepN_lt _, by omega, ho, half_lt b' m hbm h0, Lib.hid (by rw [← hst.out]; exact hH.out)⟩
        case measure => simp [intOf]; omega
      · have hand : bits .and .u32 (b' : Int) 1 = 1 := by
          have := u32_and_nat b' 1 hb' (by decide)
          rw [Nat.and_one_is_mod, h1] at this
          exact this
        have hst := Lib.hid (timesLoop_odd m o a' b' hbm h0 h1)
        have hx := Lib.hid (xor_u32 o a' ho ha')
        clear h1
        go_wp2
        go_round
        case rel =>
          rw [hz.out, hdiv'.out, hx.out]
          exact ⟨m - 1, Crc.stepN a', b' / 2, o ^^^ a', rfl, rfl, rfl, Crc.stepN_lt _, by omega, Nat.xor_lt_two_pow (n := 32) ho ha', half_lt b' m hbm h0, Lib.hid (by rw [← hst.out]; exact hH.out)⟩
        case measure => simp [intOf]; omega

theorem i64_and_nat (a b : Nat) (ha : a < 9223372036854775808) (hb : b < 9223372036854775808) : bits .and .i64 (a : Int) (b : Int) = ((a &&& b : Nat) : Int) := by
  have hx : a &&& b < 9223372036854775808 := Nat.lt_of_le_of_lt Nat.and_le_left ha
  show IntKind.i64.wrap ((BitVec.ofInt 64 (a : Int) &&& BitVec.ofInt 64 (b : Int)).toNat : Int) = _
  rw [BitVec.toNat_and, ofInt_u64 a (by omega), ofInt_u64 b (by omega)]
  exact IntWalk.i64_in _ (by omega)
theorem noughtsLoop_nil (m s b : Nat) : Crc.noughtsLoop m s b 0 = s := by cases m <;> simp [Crc.noughtsLoop]
theorem noughtsLoop_odd (m s b n : Nat) (hb : n < 2 ^ m) (h0 : n ≠ 0) (h1 : n % 2 = 1) : Crc.noughtsLoop m s b n = Crc.noughtsLoop (m - 1) (Crc.times s b) (Crc.times b b) (n / 2) := by
  cases m with
  | zero => simp at hb; omega
  | succ m => simp [Crc.noughtsLoop, h0, h1]
theorem noughtsLoop_even (m s b n : Nat) (hb : n < 2 ^ m) (h0 : n ≠ 0) (h1 : n % 2 = 0) : Crc.noughtsLoop m s b n = Crc.noughtsLoop (m - 1) s (Crc.times b b) (n / 2) := by
  cases m with
  | zero => simp at hb; omega
  | succ m => simp [Crc.noughtsLoop, h0, h1]
set_option maxHeartbeats 4000000 in
theorem noughts_any (s n : Nat) (w : World) (hs : s < 4294967296) (hn : n ≤ 1099511627776) :
    Calls Tryd.prog 29 #[.int .u32 s, .int .i64 n] w fun e w' => e = .returned (.tuple #[.int .u32 (Crc.noughts s n : Nat), .nilIface]) ∧ w = w' := by
  have hn1 : (n : Int) ≤ 1099511627776 := by omega
  have hn0 : (0 : Int) ≤ (n : Int) := by omega
  go_enter Tryd.func29, Tryd.ntmps29
  go_wp2
  go_loop [0, 1, 6] (fun x y z => ∃ m s' n' b : Nat, x = .int .u32 s' ∧ y = .int .i64 n' ∧ z = .int .u32 b ∧ s' < 4294967296 ∧ b < 4294967296 ∧ n' ≤ 1099511627776 ∧ n' < 2 ^ m ∧ Hid (Crc.noughtsLoop m s' b n' = Crc.noughts s n)) (fun _ y _ => (intOf y).toNat)
  case atStart => exact ⟨64, s, n, 256, rfl, rfl, rfl, hs, by decide, hn, by omega, Lib.hid rfl⟩
  case round =>
    obtain ⟨m, s', n', b, rfl, rfl, rfl, hs', hb', hn', hbm, hH⟩ := hrel
    by_cases h0 : n' = 0
    · subst h0
      rw [noughtsLoop_nil] at hH
      go_wp2
      go_ret2
      exact ⟨by rw [← hH.out]; rfl, rfl⟩
    · have h0' : (0 : Int) < (n' : Int) := by omega
      have hdiv' := Lib.hid (show (n' : Int) / 2 = ((n' / 2 : Nat) : Int) by omega)
      have tlt := Crc.times_lt b b hb'
      rcases Nat.mod_two_eq_zero_or_one n' with h1 | h1
      · have hand : bits .and .i64 (n' : Int) 1 = 0 := by
          have := i64_and_nat n' 1 (by omega) (by decide)
          rw [Nat.and_one_is_mod, h1] at this
          exact this
        have hst := Lib.hid (noughtsLoop_even m s' b n' hbm h0 h1)
        clear h1
        go_wp2_with (go_at_call 59; refine (times_any _ _ _ hb' hb').mono ?_; rintro e w' ⟨rfl, rfl⟩)
        go_round
        case rel =>
          rw [hdiv'.out]
          exact ⟨m - 1, s', n' / 2, Crc.times b b, rfl, rfl, rfl, hs', tlt, by omega, half_lt n' m hbm h0, Lib.hid (by rw [← hst.out]; exact hH.out)⟩
        case measure => simp [intOf]; omega
      · have hand : bits .and .i64 (n' : Int) 1 = 1 := by
          have := i64_and_nat n' 1 (by omega) (by decide)
          rw [Nat.and_one_is_mod, h1] at this
          exact this
        have hst := Lib.hid (noughtsLoop_odd m s' b n' hbm h0 h1)
        have slt := Crc.times_lt s' b hs'
        clear h1
        go_wp2_with (first | (go_at_call_of 59 (Value.int .u32 (s' : Int)); refine (times_any _ _ _ hs' hb').mono ?_; rintro e w' ⟨rfl, rfl⟩) | (go_at_call 59; refine (times_any _ _ _ hb' hb').mono ?_; rintro e w' ⟨rfl, rfl⟩))
        go_round
        case rel =>
          rw [hdiv'.out]
          exact ⟨m - 1, Crc.times s' b, n' / 2, Crc.times b b, rfl, rfl, rfl, slt, tlt, by omega, half_lt n' m hbm h0, Lib.hid (by rw [← hst.out]; exact hH.out)⟩
        case measure => simp [intOf]; omega
theorem noughts_bad (s x : Int) (w : World) (h : x < 0 ∨ 1099511627776 < x) :
    Calls Tryd.prog 29 #[.int .u32 s, .int .i64 x] w fun e w' => e = .returned (.tuple #[.int .u32 0, .iface 97 (.int .i64 1)]) ∧ w = w' := by
  rcases h with h | h
  · go_enter Tryd.func29, Tryd.ntmps29
    go_wp2
    go_ret2
    exact ⟨rfl, rfl⟩
  · have h2 : ¬ x < 0 := by omega
    go_enter Tryd.func29, Tryd.ntmps29
    go_wp2
    go_ret2
    exact ⟨rfl, rfl⟩

/-- So many noughts behind a sum, bit by bit. -/
def xnN (k s : Nat) : Nat := (Crc.Xn k (BitVec.ofNat 32 s)).toNat
theorem xnN_lt (k s : Nat) : xnN k s < 4294967296 := (Crc.Xn k (BitVec.ofNat 32 s)).isLt
theorem xnN_zero (s : Nat) (hs : s < 4294967296) : xnN 0 s = s := by
  simp only [xnN, Crc.Xn, BitVec.toNat_ofNat]; omega
theorem xnN_succ (k s : Nat) : bitN (xnN k s) false = xnN (k + 1) s := by
  unfold bitN xnN
  rw [BitVec.ofNat_toNat, Crc.Xn_succ']
  simp [Crc.bit, Crc.top]
theorem xnN_noughts (s n : Nat) (hs : s < 4294967296) (hn : n < 2 ^ 64) : xnN (8 * n) s = Crc.noughts s n := by
  unfold xnN
  rw [← Crc.noughts_eq s n hs hn, BitVec.toNat_ofNat]
  exact Nat.mod_eq_of_lt (Crc.noughts_lt s n hs)
set_option maxHeartbeats 4000000 in
theorem rnoughts_any (s n : Nat) (w : World) (hs : s < 4294967296) (hn : n ≤ 2000) :
    Calls Tryd.prog 31 #[.int .u32 s, .int .i64 n] w fun e w' => e = .returned (.tuple #[.int .u32 (Crc.noughts s n : Nat), .int .i64 0]) ∧ w = w' := by
  have hn1 : (n : Int) ≤ 1099511627776 := by omega
  have hn2 : (n : Int) ≤ 2000 := by omega
  have hn0 : (0 : Int) ≤ (n : Int) := by omega
  have hend := Lib.hid (xnN_noughts s n hs (by omega))
  go_enter Tryd.func31, Tryd.ntmps31
  go_wp2
  go_loop [0, 6] (fun x i => ∃ k : Nat, k ≤ 8 * n ∧ i = .int .i64 k ∧ x = .int .u32 (xnN k s : Nat)) (fun _ i => 8 * n - (intOf i).toNat)
  case atStart => exact ⟨0, by omega, rfl, by rw [xnN_zero s hs]⟩
  case round =>
    obtain ⟨k, hk, rfl, rfl⟩ := hrel
    have hlt := xnN_lt k s
    have hsucc := Lib.hid (xnN_succ k s)
    have hlast : k = 8 * n → xnN k s = Crc.noughts s n := fun e => by rw [e]; exact hend.out
    have hlast := Lib.hid hlast
    generalize xnN k s = x at hlt hsucc hlast ⊢
    by_cases hk8 : (k : Int) < 8 * (n : Int)
    · go_wp2_with (go_at_call 52; refine (bit_any x false _ hlt).mono ?_; rintro e w' ⟨rfl, rfl⟩)
      go_round
      case rel => exact ⟨k + 1, by omega, by go_num, by rw [hsucc.out]⟩
      case measure => simp [intOf]; omega
    · have hx := Lib.hid (hlast.out (by omega))
      go_wp2
      go_ret2
      exact ⟨by rw [hx.out]; rfl, rfl⟩

set_option maxHeartbeats 4000000 in
theorem law_noughts_bad (s : Nat) (x y : Int) (w : World) (hs : s < 4294967296) (h : x < 0 ∨ 1099511627776 < x) (hT : TabW w) (hE : ErrW w) :
    Calls Tryd.prog 8 #[.int .u32 s, .int .i64 x, .int .i64 y] w fun e w' => e = .returned (.bool true) ∧ Below w.heap.size w w' := by
  rcases h with h | h
  · go_enter Tryd.func8, Tryd.ntmps8
    go_wp2_with (first | (go_at_call 29; refine (noughts_bad _ x _ (.inl h)).mono ?_; rintro e w' ⟨rfl, rfl⟩) | (go_at_call 30; refine (num30_any _ 1 _ (.num 1) hE).mono ?_; rintro e w1 ⟨rfl, hb30⟩) | (go_at_call 15; refine (sure_any _ (hT.keep hb30)).mono ?_; rintro e w2 ⟨rfl, hb15⟩))
    go_ret
    exact ⟨rfl, b_then hb30 hb15⟩
  · have h2 : ¬ x < 0 := by omega
    go_enter Tryd.func8, Tryd.ntmps8
    go_wp2_with (first | (go_at_call 29; refine (noughts_bad _ x _ (.inr h)).mono ?_; rintro e w' ⟨rfl, rfl⟩) | (go_at_call 30; refine (num30_any _ 1 _ (.num 1) hE).mono ?_; rintro e w1 ⟨rfl, hb30⟩) | (go_at_call 15; refine (sure_any _ (hT.keep hb30)).mono ?_; rintro e w2 ⟨rfl, hb15⟩))
    go_ret
    exact ⟨rfl, b_then hb30 hb15⟩
set_option maxHeartbeats 4000000 in
theorem law_noughts_ok (s n : Nat) (y : Int) (w : World) (hs : s < 4294967296) (hn : n ≤ 1099511627776) (hT : TabW w) (hE : ErrW w) :
    Calls Tryd.prog 8 #[.int .u32 s, .int .i64 n, .int .i64 y] w fun e w' => e = .returned (.bool true) ∧ Below w.heap.size w w' := by
  have hn0 : (0 : Int) ≤ (n : Int) := by omega
  have hn1 : (n : Int) ≤ 1099511627776 := by omega
  obtain ⟨k, hk, hke⟩ : ∃ k : Nat, k ≤ n ∧ (IntKind.u64.wrap y).tmod ((n : Int) + 1) = (k : Int) := by
    have h := wrap_u64_nonneg y
    refine ⟨((IntKind.u64.wrap y).tmod ((n : Int) + 1)).toNat, ?_, ?_⟩ <;> rw [Int.tmod_eq_emod_of_nonneg h]
    · have := Int.emod_lt_of_pos (IntKind.u64.wrap y) (show (0 : Int) < (n : Int) + 1 by omega)
      have := Int.emod_nonneg (IntKind.u64.wrap y) (show ((n : Int) + 1) ≠ 0 by omega)
      omega
    · have := Int.emod_nonneg (IntKind.u64.wrap y) (show ((n : Int) + 1) ≠ 0 by omega)
      omega
  have hkw : wrap64 (k : Int) = (k : Int) := by unfold wrap64; omega
  have hk0 : (0 : Int) ≤ (k : Int) := by omega
  have hkn : (k : Int) ≤ (n : Int) := by omega
  have hsub : (n : Int) - (k : Int) = ((n - k : Nat) : Int) := by omega
  have hparts := Crc.noughts_parts s n k hs (by omega) hk
  have hlt := Crc.noughts_lt s k hs
  by_cases h2 : (n : Int) ≤ 2000
  · go_enter Tryd.func8, Tryd.ntmps8
    go_wp2_with (first | (go_at_call_of 29 (Value.int .i64 (n : Int)); refine (noughts_any s n _ hs hn).mono ?_; rintro e w' ⟨rfl, rfl⟩) | (go_at_call 31; refine (rnoughts_any s n _ hs (by omega)).mono ?_; rintro e w' ⟨rfl, rfl⟩) | (go_at_call_of 29 (Value.int .i64 (k : Int)); refine (noughts_any s k _ hs (by omega)).mono ?_; rintro e w' ⟨rfl, rfl⟩) | (go_at_call 29; refine (noughts_any _ (n - k) _ hlt (by omega)).mono ?_; rintro e w' ⟨rfl, rfl⟩) | (go_at_call 15; refine (sure_any _ hT).mono ?_; rintro e w2 ⟨rfl, hb15⟩))
    go_ret
    exact ⟨rfl, hb15⟩
  · go_enter Tryd.func8, Tryd.ntmps8
    go_wp2_with (first | (go_at_call_of 29 (Value.int .i64 (n : Int)); refine (noughts_any s n _ hs hn).mono ?_; rintro e w' ⟨rfl, rfl⟩) | (go_at_call 31; refine (rnoughts_any s n _ hs (by omega)).mono ?_; rintro e w' ⟨rfl, rfl⟩) | (go_at_call_of 29 (Value.int .i64 (k : Int)); refine (noughts_any s k _ hs (by omega)).mono ?_; rintro e w' ⟨rfl, rfl⟩) | (go_at_call 29; refine (noughts_any _ (n - k) _ hlt (by omega)).mono ?_; rintro e w' ⟨rfl, rfl⟩) | (go_at_call 15; refine (sure_any _ hT).mono ?_; rintro e w2 ⟨rfl, hb15⟩))
    go_ret
    exact ⟨rfl, hb15⟩
/-- The law answers true, whatever the input. -/
theorem law_noughts (s : Nat) (x y : Int) (w : World) (hs : s < 4294967296) (hT : TabW w) (hE : ErrW w) :
    Calls Tryd.prog 8 #[.int .u32 s, .int .i64 x, .int .i64 y] w fun e w' => e = .returned (.bool true) ∧ Below w.heap.size w w' := by
  by_cases h : x < 0 ∨ 1099511627776 < x
  · exact law_noughts_bad s x y w hs h hT hE
  · obtain ⟨n, rfl⟩ := Int.eq_ofNat_of_zero_le (show 0 ≤ x by omega)
    exact law_noughts_ok s n y w hs (by omega) hT hE
end Go.Proofs.YtcoiaggedipapaaDoor
