import Derived.Test.YtcoiaggedipapaaDoorProg
import Derived.Test.YtcoiaggedipapaaDoorCrc
import Derived.Test.YtcoiaggedipapaaDoorKit
namespace Go.Proofs.YtcoiaggedipapaaDoor
open Go.RowKit
set_option linter.unusedVariables false
set_option linter.unusedSimpArgs false

/-- The table of nibbles lies as its initialiser laid it. -/
structure TabW (w : World) : Prop where
  cell : ∀ i, i < 16 → w.cell? ⟨0, i, none⟩ = some (.int .u32 ((Crc.tab.getD i 0 : Nat) : Int))
theorem TabW.keep {w w1 : World} (h : TabW w) (hb : Below w.heap.size w w1) : TabW w1 :=
  ⟨fun i hi => (hb.cell (World.block_lt_of_cell? w _ (h.cell i hi))).trans (h.cell i hi)⟩

theorem xor_u32 (a b : Nat) (ha : a < 4294967296) (hb : b < 4294967296) : bits .xor .u32 (a : Int) (b : Int) = ((a ^^^ b : Nat) : Int) := u32_xor_nat a b ha hb
theorem and15_u8 (x : Nat) (h : x < 256) : bits .and .u8 (x : Int) 15 = ((x % 16 : Nat) : Int) := by
  have := u8_and_nat x 15 h (by decide)
  rw [nat_mask4] at this
  exact this
theorem shr28 (s : Nat) : (s : Int) / 268435456 = ((s / 268435456 : Nat) : Int) := by omega
theorem shl4 (s : Nat) : (s : Int) * 16 % 4294967296 = ((s * 16 % 4294967296 : Nat) : Int) := by omega

/-- One nibble, as the walk comes to it. -/
theorem nib_step (s n : Nat) (hs : s < 4294967296) (hn : n < 16) : ∃ i t : Nat, i < 16 ∧ t = Crc.tab.getD i 0 ∧
    bits .xor .u32 ((s : Int) / 268435456) (n : Int) = (i : Int) ∧ bits .xor .u32 ((s : Int) * 16 % 4294967296) (t : Int) = ((Crc.nib s n : Nat) : Int) := by
  have hi : s / 268435456 ^^^ n < 16 := Nat.xor_lt_two_pow (n := 4) (by omega) (by omega)
  refine ⟨s / 268435456 ^^^ n, _, hi, rfl, ?_, ?_⟩
  · rw [shr28]; exact xor_u32 _ _ (by omega) (by omega)
  · rw [shl4]; exact xor_u32 _ _ (by omega) (Crc.tab_lt _)

theorem sum_take (s : Nat) (l : List Nat) (k : Nat) (h : k < l.length) : Crc.sum s (l.take (k + 1)) = Crc.byte (Crc.sum s (l.take k)) (l.getD k 0) := by
  rw [take_succ_getD l k h, Crc.sum_append]; rfl
set_option maxHeartbeats 1000000 in
theorem more_any (s : Nat) (A : Option Addr) (n c : Nat) (l : List Nat) (w : World) (hs : s < 4294967296) (hb : Bs w A n c l) (hT : TabW w) :
    Calls Tryd.prog 18 #[.int .u32 s, .slice A n c] w fun e w' => e = .returned (.int .u32 (Crc.sum s l : Nat)) ∧ w = w' := by
  have hm := hb.max
  go_enter Tryd.func18, Tryd.ntmps18
  go_wp2
  go_loop [0, 9] (fun v i => ∃ k : Nat, k ≤ n ∧ i = .int .i64 k ∧ v = .int .u32 (Crc.sum s (l.take k) : Nat)) (fun _ i => n - (intOf i).toNat)
  case atStart => exact ⟨0, Nat.zero_le _, rfl, rfl⟩
  case round =>
    obtain ⟨k, hk, rfl, rfl⟩ := hrel
    by_cases hlt : k < n
    · obtain ⟨b, off, rfl, hc⟩ := hb.cells (by omega)
      have hck := hc k hlt
      clear hc
      have hs1 := Crc.sum_lt (l.take k) s hs
      have hx := getD_small hb.small k
      have hst := Lib.hid (sum_take s l k (by rw [hb.len]; exact hlt))
      generalize Crc.sum s (l.take k) = s1 at hs1 hst ⊢
      generalize l.getD k 0 = x at hck hx hst
      obtain ⟨q, hq, hq'⟩ : ∃ q : Nat, q < 16 ∧ x / 16 = q := ⟨_, by omega, rfl⟩
      obtain ⟨r, hr, hr'⟩ : ∃ r : Nat, r < 16 ∧ x % 16 = r := ⟨_, by omega, rfl⟩
      have e0 : (x : Int) / 16 = (q : Int) := by omega
      have e1 : bits .and .u8 (x : Int) 15 = (r : Int) := by rw [and15_u8 x hx, hr']
      obtain ⟨i1, t1, hi1, ht1, x1, x2⟩ := nib_step s1 q hs1 hq
      have hs2 := Crc.nib_lt s1 q
      have hfin : Hid (Crc.nib (Crc.nib s1 q) r = Crc.sum s (l.take (k + 1))) := Lib.hid (by rw [hst.out]; unfold Crc.byte; rw [hq', hr'])
      generalize Crc.nib s1 q = s2 at x2 hs2 hfin
      obtain ⟨i2, t2, hi2, ht2, x3, x4⟩ := nib_step s2 r hs2 hr
      generalize Crc.nib s2 r = s3 at x4 hfin
      have c1 := hT.cell i1 hi1
      have c2 := hT.cell i2 hi2
      rw [← ht1] at c1
      rw [← ht2] at c2
      clear hr' hq' ht1 ht2 hst
      have i1b : (i1 : Int) < 16 := by omega
      have i2b : (i2 : Int) < 16 := by omega
      go_wp2
      go_round
      case rel => exact ⟨k + 1, by omega, by go_num, by rw [← hfin.out]⟩
      case measure => simp [intOf]; omega
    · have : k = n := by omega
      subst this
      go_wp2
      go_ret
      exact ⟨ret_int (by rw [List.take_of_length_le (by rw [hb.len]; exact Nat.le_refl _)]), rfl⟩

theorem of_any (A : Option Addr) (n c : Nat) (l : List Nat) (w : World) (hb : Bs w A n c l) (hT : TabW w) :
    Calls Tryd.prog 16 #[.slice A n c] w fun e w' => e = .returned (.int .u32 (Crc.sum 4294967295 l : Nat)) ∧ w = w' := by
  go_enter Tryd.func16, Tryd.ntmps16
  go_wp2_with (go_at_call 18; refine (more_any 4294967295 A n c l _ (by decide) hb hT).mono ?_; rintro e w' ⟨rfl, rfl⟩)
  go_ret
  exact ⟨rfl, rfl⟩

/-- The call made a slice of these bytes; nothing that was there is written. -/
def Makes (w : World) (n : Nat) (l : List Nat) (e : Ending) (w' : World) : Prop := ∃ A1 c1, e = .returned (.slice A1 n c1) ∧ Own w' w.heap.size 5 A1 n c1 l ∧ Below w.heap.size w w'

theorem Tryd.info5 : (Tryd.prog.info? 5).map (fun i => (i.zero, i.size, i.bytes)) = some (some (.int .u8 0), 1, 1) := by kernel_rfl

set_option maxHeartbeats 1000000 in
theorem own_any (A : Option Addr) (n c : Nat) (l : List Nat) (w : World) (hb : Bs w A n c l) :
    Calls Tryd.prog 20 #[.slice A n c] w (Makes w n l) := by
  have hm := hb.max
  go_enter Tryd.func20, Tryd.ntmps20
  go_wp2_with (at_builtin; refine wp_append rfl _ _ 23 5 rfl Tryd.underlying23 Tryd.info5 w.heap.size none 0 0 [] A n c l n (by omega) rfl rfl (Own.nil _ _ _) hb (Nat.le_refl _) (by omega) ?_; intro A1 c1 w1 hown hg hat)
  go_ret
  exact ⟨A1, c1, rfl, by simpa using hown, below_of_none hg⟩

set_option maxHeartbeats 1000000 in
theorem clone_any (A : Option Addr) (n c : Nat) (l : List Nat) (w : World) (hb : Bs w A n c l) :
    Calls Tryd.prog 54 #[.slice A n c] w (Makes w n l) := by
  have hm := hb.max
  have q23 : ∀ (w : World) (a : Option Addr) (n c n' c' : Nat), (binOp .eql 23 (.slice a n c) (.slice none n' c')).run Tryd.prog w = .ok (.bool a.isNone) w := fun w a n c n' c' => Lib.run_eql_slice_nil w _ _ a n c n' c' Tryd.underlying23
  cases A with
  | none =>
    have h0 : n = 0 := by
      rcases Nat.eq_zero_or_pos n with h | h
      · exact h
      · obtain ⟨b, off, e, _⟩ := hb.cells h
        cases e
    subst h0
    obtain rfl : l = [] := List.eq_nil_of_length_eq_zero hb.len
    go_enter Tryd.func54, Tryd.ntmps54
    go_wp2
    go_ret
    exact ⟨none, 0, rfl, Own.nil _ _ _, Below.refl _ _⟩
  | some a =>
    go_enter Tryd.func54, Tryd.ntmps54
    go_wp2_with (at_builtin; refine wp_append rfl _ _ 23 5 rfl Tryd.underlying23 Tryd.info5 w.heap.size (some ⟨w.heap.size, 0, none⟩) 0 0 [] (some a) n c l n (by omega) rfl rfl (Own.made _ _ _ [] 0 rfl (by omega) (fun _ h => by cases h) (Nat.le_refl _)) (hb.keep ((Below.refl _ _).alloc (Nat.le_refl _) _)) (by simp) (by omega) ?_; intro A1 c1 w1 hown hg hat)
    go_ret
    refine ⟨A1, c1, rfl, by simpa using hown, ?_⟩
    exact b_grown ((Below.refl _ _).alloc (Nat.le_refl _) _) hg (by intro k hk; simp at hk; omega)
end Go.Proofs.YtcoiaggedipapaaDoor
