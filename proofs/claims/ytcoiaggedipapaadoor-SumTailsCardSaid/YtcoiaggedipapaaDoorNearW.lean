import Derived.Test.YtcoiaggedipapaaDoorNear
import Derived.Test.YtcoiaggedipapaaDoorThree
import Derived.Test.YtcoiaggedipapaaDoorKit2
import Derived.Deep.DeepCutAuto
import Derived.Deep.CutBlock
import Derived.Deep.RegionWith
import Derived.Deep.QuietTactic
import Derived.BigQuiet
namespace Go.Proofs.YtcoiaggedipapaaDoor
open Go.RowKit
set_option linter.unusedVariables false
set_option linter.unusedSimpArgs false
set_option maxRecDepth 100000

theorem four_of (l : List Nat) (h : l.length = 4) : ∃ a b c d, l = [a, b, c, d] := by
  match l, h with
  | [a, b, c, d], _ => exact ⟨a, b, c, d, rfl⟩
theorem cut_no (g c1 n : Nat) (y : List Nat) (w : World) (hb : Bs w (some ⟨g, 0, none⟩) (n + 4) c1 y) (hT : TabW w) (hq : Hid (¬ Crc.tail4 (ofN (y.take n)) = y.drop n)) :
    Calls Tryd.prog 22 #[.slice (some ⟨g, 0, none⟩) (n + 4) c1] w fun e w' => e = .returned (.tuple #[.slice none 0 0, .iface 97 (.int .i64 11)]) ∧ Below w.heap.size w w' := by
  obtain ⟨b0, b1, b2, b3, h4, _⟩ := tail4_split (ofN (y.take n))
  obtain ⟨x0, x1, x2, x3, hx⟩ := four_of (y.drop n) (by rw [List.length_drop, hb.len]; omega)
  exact cut_bad g 0 n c1 y w hb hT b0 b1 b2 b3 x0 x1 x2 x3 (Lib.hid h4) (Lib.hid hx) hq
theorem cut_yes (g c1 n : Nat) (y : List Nat) (w : World) (hb : Bs w (some ⟨g, 0, none⟩) (n + 4) c1 y) (hT : TabW w) (hq : Hid (Crc.tail4 (ofN (y.take n)) = y.drop n)) :
    Calls Tryd.prog 22 #[.slice (some ⟨g, 0, none⟩) (n + 4) c1] w (Cuts w n (y.take n)) := by
  obtain ⟨b0, b1, b2, b3, h4, _⟩ := tail4_split (ofN (y.take n))
  obtain ⟨x0, x1, x2, x3, hx⟩ := four_of (y.drop n) (by rw [List.length_drop, hb.len]; omega)
  exact cut_good g 0 n c1 y w hb hT b0 b1 b2 b3 x0 x1 x2 x3 (Lib.hid h4) (Lib.hid hx) hq
theorem sum_cut (l : List Nat) (k : Nat) : Crc.sum (ofN (l.take k)) (l.drop k) = ofN l := by
  unfold ofN
  rw [← Crc.sum_append, List.take_append_drop]

/-- What region 13 reads, and that all stays that was. -/
theorem keepS {w W V : World} {g n c c1 : Nat} {A : Option Addr} {l y yt : List Nat} (h : Bs w (some ⟨g, 0, none⟩) n c1 yt ∧ Bs w A n c l ∧ Bs w (some ⟨g, 0, none⟩) (n + 4) c1 y ∧ TabW w ∧ Below V.heap.size V w) (hb : Below w.heap.size w W) :
    Bs W (some ⟨g, 0, none⟩) n c1 yt ∧ Bs W A n c l ∧ Bs W (some ⟨g, 0, none⟩) (n + 4) c1 y ∧ TabW W ∧ Below V.heap.size V W :=
  ⟨h.1.keep hb, h.2.1.keep hb, h.2.2.1.keep hb, h.2.2.2.1.keep hb, b_then h.2.2.2.2 hb⟩
theorem TabW.drewN {w : World} (h : TabW w) (k : Nat) : TabW (w.drewN k) := ⟨h.cell⟩
set_option maxHeartbeats 8000000 in
theorem law_near (A : Option Addr) (n c : Nat) (l : List Nat) (at_ bz : Int) (w : World) (ha : Bs w A n c l) (hT : TabW w) (hb0 : 0 ≤ bz) (hb1 : bz < 4294967296) (hn : n ≤ 5000) :
    Calls Tryd.prog 5 #[.slice A n c, .int .i64 at_, .int .u32 bz] w fun e w' => e = .returned (.bool true) ∧ Below w.heap.size w w' := by
  have hn' : ¬ (5000 : Int) < (n : Int) := by omega
  obtain ⟨f, hf8, hfe⟩ : ∃ f : Nat, f < 8 * (n + 4) ∧ (IntKind.u64.wrap at_).tmod (8 * ((n : Int) + 4)) = (f : Int) := by
    have h := wrap_u64_nonneg at_
    refine ⟨((IntKind.u64.wrap at_).tmod (8 * ((n : Int) + 4))).toNat, ?_, ?_⟩ <;> rw [Int.tmod_eq_emod_of_nonneg h]
    · have := Int.emod_lt_of_pos (IntKind.u64.wrap at_) (show (0 : Int) < 8 * ((n : Int) + 4) by omega)
      have := Int.emod_nonneg (IntKind.u64.wrap at_) (show (8 * ((n : Int) + 4)) ≠ 0 by omega)
      omega
    · have := Int.emod_nonneg (IntKind.u64.wrap at_) (show (8 * ((n : Int) + 4)) ≠ 0 by omega)
      omega
  have hfw : wrap64 (f : Int) = (f : Int) := by unfold wrap64; omega
  go_enter Tryd.func5, Tryd.ntmps5
  go_upto_block 0 with (first | (go_at_call 21; refine (tail_any A n c l _ ha hT (by omega)).mono ?_; rintro e w' ⟨A1, c1, rfl, hown, hb21⟩))
  obtain ⟨g, rfl, hg, hgs, hgf⟩ := hown.form (by omega)
  have hgf := Lib.hid hgf
  go_cut [] (fun wx => ∃ y, Alike f (tailed l) y ∧ Own wx w.heap.size 5 (some ⟨g, 0, none⟩) (n + 4) c1 y ∧ Below w.heap.size w wx)
  case first =>
    go_wp2_with fail
    go_loopw [9] (fun i wr => ∃ t : Nat, t ≤ 32 ∧ i = .int .i64 t ∧ ∃ y, Alike f (tailed l) y ∧ Own wr w.heap.size 5 (some ⟨g, 0, none⟩) (n + 4) c1 y ∧ Below w.heap.size w wr) (fun i _ => 32 - (intOf i).toNat)
    case atStart => exact ⟨0, by omega, rfl, _, Alike.refl _ _ (tailed_small l ha.small), hown, hb21⟩
    case round =>
      obtain ⟨t, ht, rfl, y, hy, hown, hbel⟩ := hrel
      by_cases h12 : t < 32 ∧ f + t < 8 * (n + 4)
      · obtain ⟨h1, h2⟩ := h12
        · by_cases hbit : bits .and .u32 (bz / 2 ^ t) 1 = 1
          · obtain ⟨q, hq⟩ : ∃ q, (f + t) / 8 = q := ⟨_, rfl⟩
            obtain ⟨r, hr⟩ : ∃ r, (f + t) % 8 = r := ⟨_, rfl⟩
            have hqd : ((f : Int) + (t : Int)).tdiv 8 = (q : Int) := by rw [Int.tdiv_eq_ediv_of_nonneg (by omega)]; omega
            have hrd : ((f : Int) + (t : Int)).tmod 8 = (r : Int) := by rw [Int.tmod_eq_emod_of_nonneg (by omega)]; omega
            have hq' := Lib.hid hq
            have hr' := Lib.hid hr
            have hr8 : r < 8 := by omega
            have hqn : (q : Int) < (n : Int) + 4 := by omega
            have hq0 : (0 : Int) ≤ (q : Int) := by omega
            have hylen := hown.len
            have hflip := hy.flip (f + t) (by omega) (by omega) (by omega)
            rw [hq, hr] at hflip
            clear hq hr hylen
            have hv := getD_small hy.small q
            obtain ⟨hcq, hfq, hgw, hgr⟩ := hown.drew.cell q (by omega)
            generalize y.getD q 0 = v at hcq hv hflip
            go_wp2_with fail
            go_region
            go_wp2_with fail
            go_roundw
            case rel => 
              have hq8 : 128 / 2 ^ r < 256 := Nat.lt_of_le_of_lt (Nat.div_le_self _ _) (by decide)
              have hm : bits .xor .u8 (v : Int) (128 / 2 ^ r) = ((v ^^^ 128 / 2 ^ r : Nat) : Int) := by
                have := xor_u8 v (128 / 2 ^ r) hv hq8
                rw [← this]
                simp
              rw [hm]
              exact ⟨t + 1, by omega, by go_num, _, hflip, (hown.set q _ (Nat.xor_lt_two_pow (n := 8) hv hq8)).drew, b_drew (b_set hbel hgw _)⟩
            case measure => simp [intOf]; omega
          · go_wp2_with fail
            go_roundw
            case rel => exact ⟨t + 1, by omega, by go_num, y, hy, hown, hbel⟩
            case measure => simp [intOf]; omega
      · have hex : t = 32 ∨ (t < 32 ∧ ¬ (f : Int) + (t : Int) < 8 * ((n : Int) + 4)) := by omega
        clear h12
        rcases hex with rfl | ⟨h1, h2⟩
        all_goals go_wp2_with fail
        all_goals go_meet
        all_goals exact ⟨y, hy, hown, hbel⟩
  case rest =>
    obtain ⟨y, hy, hown, hbel⟩ := hcut
    generalize wc = wr at hown hbel ⊢
    have hys := hown.bs
    have hyt := hys.take n (by omega)
    have hal := ha.keep hbel
    have hTr := hT.keep hbel
    have hn0 : (0 : Int) ≤ (n : Int) := by omega
    have hn4 : n + 4 ≤ 140737488355328 := by omega
    have hnc1 : (n : Int) ≤ (c1 : Int) := by have := hys.cap; omega
    have hnc1' : n ≤ c1 := by omega
    obtain ⟨q, hq⟩ : ∃ q, f / 8 = q := ⟨_, rfl⟩
    have hqd : (f : Int).tdiv 8 = (q : Int) := by rw [Int.tdiv_eq_ediv_of_nonneg (by omega)]; omega
    obtain ⟨k, hkn, hk⟩ : ∃ k : Nat, k ≤ n ∧ (q : Int).tmod ((n : Int) + 1) = (k : Int) := by
      refine ⟨q % (n + 1), ?_, ?_⟩
      · have := Nat.mod_lt q (show 0 < n + 1 by omega)
        omega
      · rw [Int.tmod_eq_emod_of_nonneg (by omega)]
        push_cast
        rfl
    have hk0 : (0 : Int) ≤ (k : Int) := by omega
    have hkc : (k : Int) ≤ (c : Int) := by have := ha.cap; omega
    have hkc' : k ≤ c := by omega
    have hqw : wrap64 (q : Int) = (q : Int) := by unfold wrap64; omega
    clear hq
    have hsum := sum_cut l k
    obtain ⟨A3, hA3, hB3⟩ := cut_from (P := Tryd.prog) 23 5 .i64 Tryd.underlying23 Tryd.info5 A n c k hkn
    have hsame := Lib.hid (fun h : Crc.tail4 (ofN (y.take n)) = y.drop n => near_sealed (f := f) (l := l) (y := y) ha.small hy (by rw [ha.len]; exact h))
    obtain ⟨s1, e1⟩ : ∃ s, strOf (y.take n) = s := ⟨_, rfl⟩
    obtain ⟨s2, e2⟩ : ∃ s, strOf l = s := ⟨_, rfl⟩
    obtain ⟨s3, e3⟩ : ∃ s, strOf y = s := ⟨_, rfl⟩
    obtain ⟨s4, e4⟩ : ∃ s, strOf (tailed l) = s := ⟨_, rfl⟩
    have hc1 : ∀ W, Bs W (some ⟨g, 0, none⟩) n c1 (y.take n) → (convert 23 9 (.slice (some ⟨g, 0, none⟩) n c1)).run Tryd.prog W = .ok (.string s1) W := fun W h => by rw [← e1]; exact run_str 23 5 9 Tryd.underlying23 Tryd.underlying5 Tryd.underlying9 h
    have hc2 : ∀ W, Bs W A n c l → (convert 23 9 (.slice A n c)).run Tryd.prog W = .ok (.string s2) W := fun W h => by rw [← e2]; exact run_str 23 5 9 Tryd.underlying23 Tryd.underlying5 Tryd.underlying9 h
    have hc3 : ∀ W, Bs W (some ⟨g, 0, none⟩) (n + 4) c1 y → (convert 23 9 (.slice (some ⟨g, 0, none⟩) (n + 4 : Nat) c1)).run Tryd.prog W = .ok (.string s3) W := fun W h => by rw [← e3]; exact run_str 23 5 9 Tryd.underlying23 Tryd.underlying5 Tryd.underlying9 h
    have hc4 : ∀ W A2 c2, Bs W A2 (n + 4) c2 (tailed l) → (convert 23 9 (.slice A2 (n + 4 : Nat) c2)).run Tryd.prog W = .ok (.string s4) W := fun W A2 c2 h => by rw [← e4]; exact run_str 23 5 9 Tryd.underlying23 Tryd.underlying5 Tryd.underlying9 h
    go_wp2_with fail
    by_cases h12 : y.take n = l
    · obtain rfl : s1 = s2 := by rw [← e1, ← e2, h12]
      go_upto_region 13 with (fail)
      go_cut [11] (fun s11 wx => s11 = .bool (s3.toList == s4.toList) ∧ Below wr.heap.size wr wx)
      case first =>
        have qd1 := hc1 _ hyt.drew
        have qd2 := hc2 _ hal.drew
        have qd3 := hc3 _ hys.drew
        go_region_with (go_at_call 21; refine (tail_any A n c l _ hal.drew hTr.drew hn4).mono ?_; rintro e w1 ⟨A2, c2, rfl, hown2, hbt⟩; have hq1 := hc1 _ (hyt.drew.keep hbt); have hq2 := hc2 _ (hal.drew.keep hbt); have hq3 := hc3 _ (hys.drew.keep hbt); have hq4 := hc4 _ _ _ hown2.bs)
        all_goals (go_wp2_with fail; go_meet; exact ⟨rfl, b_then (b_drew (Below.refl _ _)) hbt⟩)
      case rest =>
        obtain ⟨rfl, hbw⟩ := hcut
        have hTq := hTr.keep hbw
        have hyq := hys.keep hbw
        have hbq := b_then hbel hbw
        have halq := hal.keep hbw
        clear hc1 hc2 hc3 hc4
        by_cases hyl : y = tailed l
        · have hbad := Lib.hid (show Crc.tail4 (ofN (y.take n)) = y.drop n by rw [h12, hyl, ← ha.len]; unfold tailed; rw [List.drop_left])
          obtain rfl : s3 = s4 := by rw [← e3, ← e4, hyl]
          clear hyl h12 e1 e2 e3 e4
          go_wp2_with (go_at_call 22; refine (cut_yes g c1 n y _ hyq hTq hbad).mono ?_; rintro e w2 ⟨A5, c5, rfl, hown5, hb22⟩)
          have hT2 := hTq.keep hb22
          have ha2 := halq.keep hb22
          have hb2 := b_then hbq hb22
          have hp1 := ha2.take k hkn
          have hp2 := hB3 _ _ ha2
          clear hyq hTq hbq halq hyt hys hal hTr
          go_region_held3 (fun w' => Below w2.heap.size w2 w') ((first | exact b_drew (Below.refl _ _) | exact b_then (by assumption) hb15 | assumption)) (first | (go_at_call_of 16 (Value.slice A k c); refine (of_any' A k c _ _ (hp1.keep (by assumption)) (hT2.keep (by assumption))).mono ?_; rintro e w' ⟨rfl, rfl⟩) | (go_at_call_of 16 (Value.slice A n c); refine (of_any' A n c _ _ (ha2.keep (by assumption)) (hT2.keep (by assumption))).mono ?_; rintro e w' ⟨rfl, rfl⟩) | (go_at_call 18; refine (more_any _ A3 (n - k) (c - k) _ _ (ofN_lt _) (hp2.keep (by assumption)) (hT2.keep (by assumption))).mono ?_; rintro e w' ⟨rfl, rfl⟩) | (go_at_call 15; refine (sure_any _ (hT2.keep (by assumption))).mono ?_; rintro e w' ⟨rfl, hb15⟩) | fail)
          go_wp2
          go_ret
          exact ⟨rfl, b_then hb2 (by assumption)⟩
        · have hne : (s3.toList == s4.toList) = false := by
            rw [← e3, ← e4]
            exact str_ne hys.small (tailed_small l ha.small) hyl
          have hbad := Lib.hid (show ¬ Crc.tail4 (ofN (y.take n)) = y.drop n from fun h => hyl (hsame.out h))
          clear hyl h12 e1 e2 e3 e4
          go_wp2_with (go_at_call 22; refine (cut_no g c1 n y _ hyq hTq hbad).mono ?_; rintro e w2 ⟨rfl, hb22⟩)
          have hT2 := hTq.keep hb22
          have ha2 := halq.keep hb22
          have hb2 := b_then hbq hb22
          have hp1 := ha2.take k hkn
          have hp2 := hB3 _ _ ha2
          clear hyq hTq hbq halq hyt hys hal hTr
          go_region_held3 (fun w' => Below w2.heap.size w2 w') ((first | exact b_drew (Below.refl _ _) | exact b_then (by assumption) hb15 | assumption)) (first | (go_at_call_of 16 (Value.slice A k c); refine (of_any' A k c _ _ (hp1.keep (by assumption)) (hT2.keep (by assumption))).mono ?_; rintro e w' ⟨rfl, rfl⟩) | (go_at_call_of 16 (Value.slice A n c); refine (of_any' A n c _ _ (ha2.keep (by assumption)) (hT2.keep (by assumption))).mono ?_; rintro e w' ⟨rfl, rfl⟩) | (go_at_call 18; refine (more_any _ A3 (n - k) (c - k) _ _ (ofN_lt _) (hp2.keep (by assumption)) (hT2.keep (by assumption))).mono ?_; rintro e w' ⟨rfl, rfl⟩) | (go_at_call 15; refine (sure_any _ (hT2.keep (by assumption))).mono ?_; rintro e w' ⟨rfl, hb15⟩) | fail)
          go_wp2
          go_ret
          exact ⟨rfl, b_then hb2 (by assumption)⟩
    · have hyl : ¬ y = tailed l := by
        intro h
        apply h12
        rw [h, ← ha.len]
        unfold tailed
        exact List.take_left
      have hne : (s1.toList == s2.toList) = false := by
        rw [← e1, ← e2]
        exact str_ne (fun x hx => hys.small x (List.mem_of_mem_take hx)) ha.small h12
      have hbad := Lib.hid (show ¬ Crc.tail4 (ofN (y.take n)) = y.drop n from fun h => hyl (hsame.out h))
      clear e1 e2 e3 e4 hc3 hc4 hyl h12
      have hq1 := fun k => hc1 _ (hyt.drewN k)
      have hq2 := fun k => hc2 _ (hal.drewN k)
      go_quiet (fail)
      have hTq := hTr.drewN nq
      have hyq := hys.drewN nq
      have hbq := b_drewN hbel nq
      have halq := hal.drewN nq
      clear hq1 hq2 hc1 hc2
      generalize wr.drewN nq = W at hTq hyq hbq halq ⊢
      go_wp2_with (go_at_call 22; refine (cut_no g c1 n y _ hyq hTq hbad).mono ?_; rintro e w2 ⟨rfl, hb22⟩)
      have hT2 := hTq.keep hb22
      have ha2 := halq.keep hb22
      have hb2 := b_then hbq hb22
      have hp1 := ha2.take k hkn
      have hp2 := hB3 _ _ ha2
      clear hyq hTq hbq halq hyt hys hal hTr
      go_region_held3 (fun w' => Below w2.heap.size w2 w') ((first | exact b_drew (Below.refl _ _) | exact b_then (by assumption) hb15 | assumption)) (first | (go_at_call_of 16 (Value.slice A k c); refine (of_any' A k c _ _ (hp1.keep (by assumption)) (hT2.keep (by assumption))).mono ?_; rintro e w' ⟨rfl, rfl⟩) | (go_at_call_of 16 (Value.slice A n c); refine (of_any' A n c _ _ (ha2.keep (by assumption)) (hT2.keep (by assumption))).mono ?_; rintro e w' ⟨rfl, rfl⟩) | (go_at_call 18; refine (more_any _ A3 (n - k) (c - k) _ _ (ofN_lt _) (hp2.keep (by assumption)) (hT2.keep (by assumption))).mono ?_; rintro e w' ⟨rfl, rfl⟩) | (go_at_call 15; refine (sure_any _ (hT2.keep (by assumption))).mono ?_; rintro e w' ⟨rfl, hb15⟩) | fail)
      go_wp2
      go_ret
      exact ⟨rfl, b_then hb2 (by assumption)⟩
theorem law_near' (A : Option Addr) (n c : Nat) (l : List Nat) (at_ bz : Int) (w : World) (ha : Bs w A n c l) (hT : TabW w) (hb0 : 0 ≤ bz) (hb1 : bz < 4294967296) :
    Calls Tryd.prog 5 #[.slice A n c, .int .i64 at_, .int .u32 bz] w fun e w' => e = .returned (.bool true) ∧ Below w.heap.size w w' := by
  by_cases hn : n ≤ 5000
  · exact law_near A n c l at_ bz w ha hT hb0 hb1 hn
  · have hn' : (5000 : Int) < (n : Int) := by omega
    go_enter Tryd.func5, Tryd.ntmps5
    go_wp2_with (go_at_call 15; refine (sure_any _ hT).mono ?_; rintro e w' ⟨rfl, hb15⟩)
    go_ret
    exact ⟨rfl, hb15⟩
end Go.Proofs.YtcoiaggedipapaaDoor
