/-
  WireNear: the walk.
-/
import Derived.Test.YtifkfcjapomlbaaDoorWLaw
import Derived.Test.YtifkfcjapomlbaaDoorAlike
namespace Go.Proofs.YtifkfcjapomlbaaDoor
open Go.RowKit
set_option linter.unusedVariables false
set_option linter.unusedSimpArgs false
set_option maxRecDepth 100000

theorem wnear_bad {f : Nat} {k s q n : Nat} {d y : List Nat} (hd : ∀ x ∈ d, x < 256) (h : Alike f (wenc k s q n d) y) (hne : y ≠ wenc k s q n d) : wdE y ≠ 0 := by
  obtain ⟨h1, h2⟩ := near_cutE (wraw_small hd) h hne
  have hc : cutE y = 11 := by unfold cutE; rw [if_neg (by omega), if_neg (by simp [h1])]
  unfold wdE
  rw [if_pos (by rw [hc]; decide), hc]
  decide
theorem tmod_at (at_ : Int) (L : Nat) (hL : 0 < L) : ∃ f : Nat, f < L ∧ (IntKind.u64.wrap at_).tmod (L : Int) = (f : Int) := by
  have h := wrap_u64_nonneg at_
  refine ⟨((IntKind.u64.wrap at_).tmod (L : Int)).toNat, ?_, ?_⟩ <;> rw [Int.tmod_eq_emod_of_nonneg h]
  · have := Int.emod_lt_of_pos (IntKind.u64.wrap at_) (show (0 : Int) < (L : Int) by omega)
    have := Int.emod_nonneg (IntKind.u64.wrap at_) (show (L : Int) ≠ 0 by omega)
    omega
  · have := Int.emod_nonneg (IntKind.u64.wrap at_) (show (L : Int) ≠ 0 by omega)
    omega
theorem wnear_long (k : Int) (s q n : Nat) (A : Option Addr) (m c : Nat) (at_ bz : Int) (w : World) (hT : TabW w) (hm1 : 100000 < m) :
    Calls Tryd.prog 3 #[.agg #[.int .i64 k, .int .u32 s, .int .u32 q, .int .u32 n, .slice A m c], .int .i64 at_, .int .u32 bz] w (fun e w' => e = .returned (.bool true) ∧ Below w.heap.size w w') := by
  have i1 : (100000 : Int) < (m : Int) := by omega
  have hbF := b_alloc (Below.refl w.heap.size w) (.cells #[.int .i64 k, .int .u32 s, .int .u32 q, .int .u32 n, .slice A m c] 25)
  have hTF := hT.keep hbF
  go_enter Tryd.func3, Tryd.ntmps3
  go_wp2_with fail
  refine (sure22_any _ hTF).mono ?_
  rintro e w9 ⟨rfl, hb9⟩
  go_wp2_with fail
  go_ret
  exact ⟨rfl, b_then hbF hb9⟩
theorem wnear_no (k : Int) (s q n : Nat) (A : Option Addr) (m c : Nat) (at_ bz : Int) (w : World) (hT : TabW w) (hm1 : m ≤ 100000) (hE : Hid (mayB k n m = false)) :
    Calls Tryd.prog 3 #[.agg #[.int .i64 k, .int .u32 s, .int .u32 q, .int .u32 n, .slice A m c], .int .i64 at_, .int .u32 bz] w (fun e w' => e = .returned (.bool true) ∧ Below w.heap.size w w') := by
  have i1 : ¬ (100000 : Int) < (m : Int) := by omega
  have hbF := b_alloc (Below.refl w.heap.size w) (.cells #[.int .i64 k, .int .u32 s, .int .u32 q, .int .u32 n, .slice A m c] 25)
  go_enter Tryd.func3, Tryd.ntmps3
  go_wp2_with fail
  refine (wgive_any k s q n A m c _).mono ?_
  rintro e w1 ⟨rfl, hb1⟩
  have hbw1 := b_then hbF hb1
  go_wp2_with fail
  refine (enc_bad k s q n A m c _ hE.out).mono ?_
  rintro e w2 ⟨rfl, hb2⟩
  have hbx := b_then hbw1 hb2
  have hTx := hT.keep hbx
  go_wp2_with fail
  refine (sure22_any _ hTx).mono ?_
  rintro e w9 ⟨rfl, hb9⟩
  go_wp2_with fail
  go_ret
  exact ⟨rfl, b_then hbx hb9⟩

set_option maxHeartbeats 8000000 in
theorem wnear_ok (k s q n : Nat) (A : Option Addr) (m c : Nat) (dd : List Nat) (at_ bz : Int) (w : World) (hs : s < 4294967296) (hq : q < 4294967296) (hn : n < 4294967296) (hb : Bs w A m c dd) (hz0 : 0 ≤ bz) (hz : bz < 4294967296) (hT : TabW w) (hm1 : m ≤ 100000) (hE : Hid (mayB k n m = true)) :
    Calls Tryd.prog 3 #[.agg #[.int .i64 k, .int .u32 s, .int .u32 q, .int .u32 n, .slice A m c], .int .i64 at_, .int .u32 bz] w (fun e w' => e = .returned (.bool true) ∧ Below w.heap.size w w') := by
  have i1 : ¬ (100000 : Int) < (m : Int) := by omega
  have hbF := b_alloc (Below.refl w.heap.size w) (.cells #[.int .i64 k, .int .u32 s, .int .u32 q, .int .u32 n, .slice A m c] 25)
  have hln := hb.len
  have hln' := Lib.hid hln
  obtain ⟨f, hf8, hfe⟩ := tmod_at at_ (8 * (m + 21)) (by omega)
  clear hln
  have hfe2 : (IntKind.u64.wrap at_).tmod (8 * ((m : Int) + 21)) = (f : Int) := by rw [← hfe]; congr 1
  have hfw : wrap64 (f : Int) = (f : Int) := by unfold wrap64; omega
  go_enter Tryd.func3, Tryd.ntmps3
  go_wp2_with fail
  refine (wgive_any k s q n A m c _).mono ?_
  rintro e w1 ⟨rfl, hb1⟩
  have hbw1 := b_then hbF hb1
  have hB1 := hb.keep hbw1
  have hT1 := hT.keep hbw1
  go_wp2_with fail
  refine (enc_ok k s q n A m c dd _ hB1 hT1 hs hq hE.out).mono ?_
  rintro e w2 ⟨A2, c2, rfl, hown2, hb2⟩
  rw [hln'.out] at hown2 ⊢
  have hbw2 := b_then hbw1 hb2
  have hown := hown2.lower hbw1.size
  have hds : ∀ x ∈ wenc k s q n dd, x < 256 := hown.small
  obtain ⟨g, rfl, hg, hgs, hgf⟩ := hown.form (by omega)
  have hgf := Lib.hid hgf
  have hfin : Hid (∀ y, Alike f (wenc k s q n dd) y → y ≠ wenc k s q n dd → wdE y ≠ 0) := Lib.hid (fun y h1 h2 => wnear_bad hb.small h1 h2)
  have hE2 : mayB k n dd.length = true := by rw [hln'.out]; exact hE.out
  have hfin0 := Lib.hid (wenc_dec hs hq hE2).1
  clear hE2
  generalize wenc k s q n dd = L at hown hds hfin hfin0
  clear hown2
  clear hE hb hb2 hb1 hbw1 hB1 hT1 hbF
  have hz21 : ((m : Int) + 21 == 0) = false := by rw [beq_eq_false_iff_ne]; omega
  go_upto_block 0 with (fail)
  go_cut [10] (fun o wx => ∃ (b : Bool) (y : List Nat), o = .bool b ∧ (b = true ↔ y ≠ L) ∧ Alike f L y ∧ Own wx w.heap.size 5 (some ⟨g, 0, none⟩) (m + 21) c2 y ∧ Below w.heap.size w wx)
  case first =>
    go_wp2_with fail
    go_loopw [10, 11, 12] (fun o i kx wr => ∃ t : Nat, t ≤ 32 ∧ i = .int .i64 t ∧ ∃ (b : Bool) (y : List Nat), o = .bool b ∧ (b = true ↔ y ≠ L) ∧ AlikeT f t L y ∧ Own wr w.heap.size 5 (some ⟨g, 0, none⟩) (m + 21) c2 y ∧ Below w.heap.size w wr) (fun _ i _ _ => 32 - (intOf i).toNat)
    case atStart => exact ⟨0, by omega, rfl, false, L, rfl, by simp, AlikeT.refl _ _ hds, hown, hbw2⟩
    case round =>
      obtain ⟨t, ht, rfl, b, y, rfl, hby, hy, hown, hbel⟩ := hrel
      by_cases h12 : t < 32 ∧ f + t < 8 * (m + 21)
      · obtain ⟨h1, h2⟩ := h12
        by_cases hbit : bits .and .u32 (bz / 2 ^ t) 1 = 1
        · have hylen := hown.len
          have hflip := hy.flip (by rw [hylen]; omega)
          obtain ⟨q, hq⟩ : ∃ q, (f + t) / 8 = q := ⟨_, rfl⟩
          obtain ⟨r, hr⟩ : ∃ r, (f + t) % 8 = r := ⟨_, rfl⟩
          have hqd : ((f : Int) + (t : Int)).tdiv 8 = (q : Int) := by rw [Int.tdiv_eq_ediv_of_nonneg (by omega)]; omega
          have hrd : ((f : Int) + (t : Int)).tmod 8 = (r : Int) := by rw [Int.tmod_eq_emod_of_nonneg (by omega)]; omega
          have hq' := Lib.hid hq
          have hr' := Lib.hid hr
          have hr8 : r < 8 := by omega
          have hqn : (q : Int) < (m : Int) + 21 := by omega
          have hq0 : (0 : Int) ≤ (q : Int) := by omega
          rw [hq, hr] at hflip
          clear hq hr hylen
          have hv := getD_small hy.small q
          obtain ⟨hcq, hfq, hgw, hgr⟩ := hown.drew.cell q (by omega)
          generalize y.getD q 0 = v at hcq hv hflip
          go_wp2_with fail
          go_region
          go_wp2_with fail
          go_roundw
          case rel =>
            have hq8 : 128 / 2 ^ r < 256 := Nat.lt_of_le_of_lt (Nat.div_le_self _ _) (by decide)
            have hm : bits .xor .u8 (v : Int) (128 / 2 ^ r) = ((v ^^^ 128 / 2 ^ r : Nat) : Int) := by
              have := u8_xor_nat v (128 / 2 ^ r) hv hq8
              rw [← this]
              simp
            rw [hm]
            exact ⟨t + 1, by omega, by go_num, true, _, rfl, ⟨fun _ => hflip.2, fun _ => rfl⟩, hflip.1, (hown.set q _ (Nat.xor_lt_two_pow (n := 8) hv hq8)).drew, b_drew (b_set hbel hgw _)⟩
          case measure => simp [intOf]; omega
        · go_wp2_with fail
          go_roundw
          case rel => exact ⟨t + 1, by omega, by go_num, b, y, rfl, hby, hy.more, hown, hbel⟩
          case measure => simp [intOf]; omega
      · have hex : t = 32 ∨ (t < 32 ∧ ¬ (f : Int) + (t : Int) < 8 * ((m : Int) + 21)) := by omega
        clear h12
        have hya := hy.alike ht
        rcases hex with rfl | ⟨h1, h2⟩
        all_goals go_wp2_with fail
        all_goals go_meet
        all_goals exact ⟨b, y, rfl, hby, hya, hown, hbel⟩
  case rest =>
    obtain ⟨b, y, rfl, hby, hya, hown, hbel⟩ := hcut
    have hTr := hT.keep hbel
    have hys := hown.bs
    by_cases hyl : y = L
    · obtain rfl : b = false := by cases b with
        | false => rfl
        | true => exact absurd hyl (hby.1 rfl)
      subst hyl
      go_wp2_with fail
      refine (dec_any _ _ c2 _ _ hys hTr).mono ?_
      intro e w3 hp
      obtain ⟨A3, c3, rfl, hbs3, hb3⟩ := decF_ok hp hfin0.out
      clear hp
      generalize y.take (y.length - 4) = cc at hbs3 ⊢
      have hbv := b_alloc (b_then hbel hb3) (.cells #[.int .i64 (fk cc : Nat), .int .u32 (fs cc : Nat), .int .u32 (fq cc : Nat), .int .u32 (fn cc : Nat), .slice A3 (fm cc) c3] 31)
      have hTv := hT.keep hbv
      go_wp2_with fail
      refine (sure22_any _ hTv).mono ?_
      rintro e w9 ⟨rfl, hb9⟩
      go_wp2_with fail
      go_ret
      exact ⟨rfl, b_then hbv hb9⟩
    · obtain rfl : b = true := hby.2 hyl
      have hne := Lib.hid (hfin.out y hya hyl)
      go_wp2_with fail
      refine (dec_any _ _ c2 _ _ hys hTr).mono ?_
      intro e w3 hp
      obtain ⟨rfl, hb3⟩ := decF_bad hp hne.out
      clear hp hby hyl hya
      have hbv := b_alloc (b_then hbel hb3) (.cells #[.int .i64 0, .int .u32 0, .int .u32 0, .int .u32 0, .slice none 0 0] 31)
      have hTv := hT.keep hbv
      go_wp2_with fail
      refine (sure22_any _ hTv).mono ?_
      rintro e w9 ⟨rfl, hb9⟩
      go_wp2_with fail
      go_ret
      exact ⟨rfl, b_then hbv hb9⟩
theorem law_wirenear (k : Int) (s q n : Nat) (A : Option Addr) (m c : Nat) (dd : List Nat) (at_ : Int) (bz : Nat) (w : World) (hs : s < 4294967296) (hq : q < 4294967296) (hn : n < 4294967296) (hb : Bs w A m c dd) (hz : bz < 4294967296) (hT : TabW w) :
    Calls Tryd.prog 3 #[.agg #[.int .i64 k, .int .u32 s, .int .u32 q, .int .u32 n, .slice A m c], .int .i64 at_, .int .u32 bz] w (fun e w' => e = .returned (.bool true) ∧ Below w.heap.size w w') := by
  by_cases hm1 : 100000 < m
  · exact wnear_long k s q n A m c at_ bz w hT hm1
  · cases hE : mayB k n m with
    | true =>
      obtain ⟨k1, k6, _, _⟩ := mayB_kind hE
      obtain ⟨kn, rfl⟩ : ∃ kn : Nat, k = (kn : Int) := ⟨k.toNat, by omega⟩
      exact wnear_ok kn s q n A m c dd at_ bz w hs hq hn hb (Int.natCast_nonneg _) (by omega) hT (by omega) hE
    | false => exact wnear_no k s q n A m c at_ bz w hT (by omega) hE
end Go.Proofs.YtifkfcjapomlbaaDoor
