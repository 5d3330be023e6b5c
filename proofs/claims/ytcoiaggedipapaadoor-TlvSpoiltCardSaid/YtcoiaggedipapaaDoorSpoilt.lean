/-
  TlvSpoilt: the walk.
-/
import Derived.Test.YtcoiaggedipapaaDoorBack
import Derived.Test.YtcoiaggedipapaaDoorAlike
import Derived.Test.YtcoiaggedipapaaDoorInRun
namespace Go.Proofs.YtcoiaggedipapaaDoor
open Go.RowKit
set_option linter.unusedVariables false
set_option linter.unusedSimpArgs false
set_option maxRecDepth 100000

theorem decE_whole {b : List Nat} (h : Tl.wholeE b ≠ 0) : Tl.decE b ≠ 0 := by
  unfold Tl.decE
  rw [if_pos h]
  exact h
theorem whole_short {b : List Nat} (h : b.length < 16) : Tl.wholeE b ≠ 0 := by
  unfold Tl.wholeE
  rw [if_neg (by omega), if_pos h]
  decide
theorem whole_unsealed {b : List Nat} (h : sealed b = false) : Tl.wholeE b ≠ 0 := by
  unfold Tl.wholeE
  rw [if_neg (show ¬ sealed b = true by simp [h])]
  split
  · decide
  · split
    · decide
    · split <;> decide
theorem spoilt_dec {i : Nat} {v : Nat} {l : List Tl.Sec} {y : List Nat} (hl : ∀ s ∈ l, Tl.SecOk s) (h : AlikeB i (Tl.file v l) y) (hne : y ≠ Tl.file v l) : Tl.decE y ≠ 0 := by
  have hsm : ∀ c ∈ Tl.head v l.length ++ Tl.body l, c < 256 := fun x hx => (List.mem_append.1 hx).elim (Tl.head_small _ _ x) (Tl.body_small l hl x)
  exact decE_whole (whole_unsealed (near_cutE hsm h.alike hne).1)
theorem tmod_at (at_ : Int) (L : Nat) (hL : 0 < L) : ∃ f : Nat, f < L ∧ (IntKind.u64.wrap at_).tmod (L : Int) = (f : Int) := by
  have h := wrap_u64_nonneg at_
  refine ⟨((IntKind.u64.wrap at_).tmod (L : Int)).toNat, ?_, ?_⟩ <;> rw [Int.tmod_eq_emod_of_nonneg h]
  · have := Int.emod_lt_of_pos (IntKind.u64.wrap at_) (show (0 : Int) < (L : Int) by omega)
    have := Int.emod_nonneg (IntKind.u64.wrap at_) (show (L : Int) ≠ 0 by omega)
    omega
  · have := Int.emod_nonneg (IntKind.u64.wrap at_) (show (L : Int) ≠ 0 by omega)
    omega
theorem min2 (x y : Int) (ts : Array TypeId) (t : TypeId) (W : World) :
    (Builtin.min_ ts t #[.int .i64 x, .int .i64 y]).run Tryd.prog W = .ok (.int .i64 (if y < x then y else x)) W := by
  have two := fun (x y : Int) => (show Builtin.min2 (.int .i64 x) (.int .i64 y) = pure (.int .i64 (if y < x then y else x)) by simp only [Builtin.min2])
  simp only [Builtin.min_, List.foldlM_cons, List.foldlM_nil, two, pure_bind, Sem.run_pure]

set_option maxHeartbeats 4000000 in
theorem spoilt_long (A : Option Addr) (n c : Nat) (L : List SecV) (at_ : Int) (b0 b1 b2 b3 : Nat) (w : World) (hS : Secs w A n c L) (hT : TabW w) (hlong : Hid (longB L = true)) :
    Calls Tryd.prog 7 #[.slice A n c, .int .i64 at_, .agg #[.int .u8 b0, .int .u8 b1, .int .u8 b2, .int .u8 b3]] w fun e w' => e = .returned (.bool true) ∧ Below w.heap.size w w' := by
  have hbY := b_alloc (Below.refl w.heap.size w) (.cells #[.int .u8 b0, .int .u8 b1, .int .u8 b2, .int .u8 b3] 45)
  have hS0 := hS.keep hbY
  have hT0 := hT.keep hbY
  go_enter Tryd.func7, Tryd.ntmps7
  go_wp2_with fail
  refine (long_any A n c L _ hS0).mono ?_
  rw [hlong.out]
  rintro e w1 ⟨rfl, rfl⟩
  go_wp2_with fail
  refine (sure19_any _ hT0).mono ?_
  rintro e w2 ⟨rfl, hb2⟩
  go_wp2_with fail
  go_ret
  exact ⟨rfl, b_then hbY hb2⟩

set_option maxHeartbeats 4000000 in
theorem spoilt_bad (A : Option Addr) (n c : Nat) (L : List SecV) (at_ : Int) (b0 b1 b2 b3 : Nat) (w : World) (hS : Secs w A n c L) (hT : TabW w) (hlong : Hid (longB L = false)) (henc : Hid (Tl.encE (secL L) ≠ 0)) :
    Calls Tryd.prog 7 #[.slice A n c, .int .i64 at_, .agg #[.int .u8 b0, .int .u8 b1, .int .u8 b2, .int .u8 b3]] w fun e w' => e = .returned (.bool true) ∧ Below w.heap.size w w' := by
  have hbY := b_alloc (Below.refl w.heap.size w) (.cells #[.int .u8 b0, .int .u8 b1, .int .u8 b2, .int .u8 b3] 45)
  have hsz := (hS.size_le hlong.out).1
  have hsz' : Tl.size (secL L) ≤ 1099511627776 := by omega
  have hS0 := hS.keep hbY
  have hbl := Lib.hid hS0.blt
  have hT0 := hT.keep hbY
  go_enter Tryd.func7, Tryd.ntmps7
  go_wp2_with fail
  refine (long_any A n c L _ hS0).mono ?_
  rw [hlong.out]
  rintro e w1 ⟨rfl, rfl⟩
  go_wp2_with fail
  refine (give_any A n c L _ hS0 hbl.out).mono ?_
  rintro e w2 ⟨A2, c2, rfl, hown2, hb2⟩
  have hS2 := hown2.secs
  have hT2 := hT0.keep hb2
  go_wp2_with fail
  refine (encode_any 3 A2 n c2 L _ hS2 hT2 (by decide) hsz').mono ?_
  intro e w3 hp
  obtain ⟨rfl, hb3⟩ := encP_bad hp henc.out
  clear hp
  have hbx := b_then hb2 hb3
  have hTx := hT0.keep hbx
  go_wp2_with fail
  refine (sure19_any _ hTx).mono ?_
  rintro e w8 ⟨rfl, hb8⟩
  go_wp2_with fail
  go_ret
  exact ⟨rfl, b_then hbY (b_then hbx hb8)⟩

set_option maxHeartbeats 8000000 in
theorem spoilt_ok (A : Option Addr) (n c : Nat) (L : List SecV) (at_ : Int) (b0 b1 b2 b3 : Nat) (w : World) (h0 : b0 < 256) (h1 : b1 < 256) (h2 : b2 < 256) (h3 : b3 < 256) (hS : Secs w A n c L) (hT : TabW w) (hlong : Hid (longB L = false)) (henc : Hid (Tl.encE (secL L) = 0)) :
    Calls Tryd.prog 7 #[.slice A n c, .int .i64 at_, .agg #[.int .u8 b0, .int .u8 b1, .int .u8 b2, .int .u8 b3]] w fun e w' => e = .returned (.bool true) ∧ Below w.heap.size w w' := by
  have hbY := b_alloc (Below.refl w.heap.size w) (.cells #[.int .u8 b0, .int .u8 b1, .int .u8 b2, .int .u8 b3] 45)
  have hBY := Blk.new w #[.int .u8 b0, .int .u8 b1, .int .u8 b2, .int .u8 b3] 45
  have hsz := (hS.size_le hlong.out).1
  have hsz' : Tl.size (secL L) ≤ 1099511627776 := by omega
  have hS0 := hS.keep hbY
  have hbl := Lib.hid hS0.blt
  have hT0 := hT.keep hbY
  have hd1' := Lib.hid (Tl.dec_file 3 (secL L) (by decide) hS.secOk henc.out).1
  have hfin := Lib.hid (fun (i : Nat) (y : List Nat) (h : AlikeB i (Tl.file 3 (secL L)) y) (hne : y ≠ Tl.file 3 (secL L)) => spoilt_dec hS.secOk h hne)
  have h16 : 16 ≤ Tl.size (secL L) := size_16 _
  go_enter Tryd.func7, Tryd.ntmps7
  go_wp2_with fail
  generalize w.alloc (.cells #[.int .u8 b0, .int .u8 b1, .int .u8 b2, .int .u8 b3] 45) = W at hbY hBY hS0 hbl hT0 ⊢
  generalize w.heap.size = gp at hBY ⊢
  refine (long_any A n c L _ hS0).mono ?_
  rw [hlong.out]
  rintro e w1 ⟨rfl, rfl⟩
  go_wp2_with fail
  refine (give_any A n c L _ hS0 hbl.out).mono ?_
  rintro e w2 ⟨A2, c2, rfl, hown2, hb2⟩
  have hS2 := hown2.secs
  have hT2 := hT0.keep hb2
  go_wp2_with fail
  refine (encode_any 3 A2 n c2 L _ hS2 hT2 (by decide) hsz').mono ?_
  intro e w3 hp
  obtain ⟨A3, c3, rfl, hown3, hb3⟩ := encP_ok hp henc.out
  clear hp
  have hbw3 := b_then hb2 hb3
  have hbs3 := hown3.bs
  have hF := hbs3.small
  generalize Tl.file 3 (secL L) = F at hown3 hbs3 hd1' hfin hF
  generalize Tl.size (secL L) = Z at hown3 hbs3 hsz hsz' h16 ⊢
  obtain ⟨f, hf8, hfe⟩ := tmod_at at_ Z (by omega)
  have hfw : wrap64 (f : Int) = (f : Int) := by unfold wrap64; omega
  have hZ16 : ¬ (Z : Int) < 16 := by omega
  have hZ0 : ((Z : Int) == 0) = false := by rw [beq_eq_false_iff_ne]; omega
  have hZw : IntKind.u64.wrap (Z : Int) = (Z : Int) := by rw [IntKind.wrap_u64]; omega
  clear hown2 hS2 hT2
  go_upto_block 0 with (at_builtin; refine wp_append rfl _ _ 23 5 rfl Tryd.underlying23 Tryd.info5 W.heap.size none 0 0 [] A3 Z c3 F Z (by omega) rfl rfl (Own.nil _ _ _) hbs3 hbw3.size (by omega) ?_; intro A4 c4 w4 hown4 hg4 hat4; have hb4 := b_grown hbw3 hg4 (fun q hq => by cases hq); have hbs3x := hbs3.keep (below_of_none hg4); have hat5 := hat4; simp only [List.nil_append] at hown4)
  obtain ⟨g, rfl, hg, hgs, hgf⟩ := hown4.form (by omega)
  have hgf := Lib.hid hgf
  have hsep : Hid (0 < Z → A3.map (·.block) ≠ some g) := Lib.hid (fun hz e => by
    obtain ⟨b, off, rfl, hlt⟩ := hbs3.lt hz
    have e' : b = g := Option.some.inj e
    rcases hat4 with h | h
    · cases h
    · have h' : g = w3.heap.size := Option.some.inj h
      omega)
  clear hgf hat4 hat5 hg4 hbs3
  go_cut [] (fun wx => ∃ y, AlikeB f F y ∧ Own wx W.heap.size 5 (some ⟨g, 0, none⟩) Z c4 y ∧ Below W.heap.size W wx ∧ Bs wx A3 Z c3 F)
  case first =>
    go_wp2_with fail
    go_loopw [11] (fun i wr => ∃ t : Nat, t ≤ 4 ∧ i = .int .i64 t ∧ ∃ y, AlikeB f F y ∧ Own wr W.heap.size 5 (some ⟨g, 0, none⟩) Z c4 y ∧ Below W.heap.size W wr ∧ Bs wr A3 Z c3 F) (fun i _ => 4 - (intOf i).toNat)
    case atStart => exact ⟨0, by omega, rfl, F, AlikeB.refl _ _ hF, hown4, hb4, hbs3x⟩
    case round =>
      obtain ⟨t, ht, rfl, y, hy, hown, hbel, hbx⟩ := hrel
      by_cases h12 : t < 4 ∧ f + t < Z
      · obtain ⟨h41, h42⟩ := h12
        have hbr := hBY.keep hbel
        have hfar : 0 < Z → A3.map (·.block) ≠ some g := hsep.out
        rcases (show t = 0 ∨ t = 1 ∨ t = 2 ∨ t = 3 by omega) with rfl | rfl | rfl | rfl
        · skip
          have hqn : (f : Int) < (Z : Int) := by omega
          have hq0 : (0 : Int) ≤ (f : Int) := by omega
          have hv := getD_small hy.small f
          have hset := hy.set 0 (y.getD f 0 ^^^ b0) (by decide) (Nat.xor_lt_two_pow (n := 8) hv h0)
          obtain ⟨hcq, hfq, hgw, hgr⟩ := hown.drew.cell f (by omega)
          have hyc := hbr.drew.cell 0 rfl
          generalize y.getD f 0 = v at hcq hv hset
          go_wp2_with fail
          go_region
          go_wp2_with fail
          go_roundw
          case rel =>
            rw [u8_xor_nat v b0 hv h0]
            refine ⟨1, by omega, rfl, _, hset, ?_, b_drew (b_set hbel hgw _), ?_⟩
            · exact (hown.set f _ (Nat.xor_lt_two_pow (n := 8) hv h0)).drew
            · exact (hbx.far ((Kept.refl (fun k => k = g) wr).set (p := ⟨g, f, none⟩) (fun _ => rfl) _) (fun hn b hb e => hfar hn (by rw [hb, e]))).drew
          case measure => simp [intOf]
        · skip
          obtain ⟨q, hq⟩ : ∃ q, f + 1 = q := ⟨_, rfl⟩
          have hqd : (f : Int) + 1 = (q : Int) := by omega
          have hq' := Lib.hid hq
          clear hq
          have hqn : (q : Int) < (Z : Int) := by omega
          have hq0 : (0 : Int) ≤ (q : Int) := by omega
          have hv := getD_small hy.small q
          have hset := hy.set 1 (y.getD q 0 ^^^ b1) (by decide) (Nat.xor_lt_two_pow (n := 8) hv h1)
          obtain ⟨hcq, hfq, hgw, hgr⟩ := hown.drew.cell q (by omega)
          have hyc := hbr.drew.cell 1 rfl
          generalize y.getD q 0 = v at hcq hv hset
          go_wp2_with fail
          go_region
          go_wp2_with fail
          go_roundw
          case rel =>
            rw [u8_xor_nat v b1 hv h1]
            refine ⟨2, by omega, rfl, _, hset, ?_, b_drew (b_set hbel hgw _), ?_⟩
            · rw [← hq'.out]; exact (hown.set (f + 1) _ (Nat.xor_lt_two_pow (n := 8) hv h1)).drew
            · exact (hbx.far ((Kept.refl (fun k => k = g) wr).set (p := ⟨g, q, none⟩) (fun _ => rfl) _) (fun hn b hb e => hfar hn (by rw [hb, e]))).drew
          case measure => simp [intOf]
        · skip
          obtain ⟨q, hq⟩ : ∃ q, f + 2 = q := ⟨_, rfl⟩
          have hqd : (f : Int) + 2 = (q : Int) := by omega
          have hq' := Lib.hid hq
          clear hq
          have hqn : (q : Int) < (Z : Int) := by omega
          have hq0 : (0 : Int) ≤ (q : Int) := by omega
          have hv := getD_small hy.small q
          have hset := hy.set 2 (y.getD q 0 ^^^ b2) (by decide) (Nat.xor_lt_two_pow (n := 8) hv h2)
          obtain ⟨hcq, hfq, hgw, hgr⟩ := hown.drew.cell q (by omega)
          have hyc := hbr.drew.cell 2 rfl
          generalize y.getD q 0 = v at hcq hv hset
          go_wp2_with fail
          go_region
          go_wp2_with fail
          go_roundw
          case rel =>
            rw [u8_xor_nat v b2 hv h2]
            refine ⟨3, by omega, rfl, _, hset, ?_, b_drew (b_set hbel hgw _), ?_⟩
            · rw [← hq'.out]; exact (hown.set (f + 2) _ (Nat.xor_lt_two_pow (n := 8) hv h2)).drew
            · exact (hbx.far ((Kept.refl (fun k => k = g) wr).set (p := ⟨g, q, none⟩) (fun _ => rfl) _) (fun hn b hb e => hfar hn (by rw [hb, e]))).drew
          case measure => simp [intOf]
        · skip
          obtain ⟨q, hq⟩ : ∃ q, f + 3 = q := ⟨_, rfl⟩
          have hqd : (f : Int) + 3 = (q : Int) := by omega
          have hq' := Lib.hid hq
          clear hq
          have hqn : (q : Int) < (Z : Int) := by omega
          have hq0 : (0 : Int) ≤ (q : Int) := by omega
          have hv := getD_small hy.small q
          have hset := hy.set 3 (y.getD q 0 ^^^ b3) (by decide) (Nat.xor_lt_two_pow (n := 8) hv h3)
          obtain ⟨hcq, hfq, hgw, hgr⟩ := hown.drew.cell q (by omega)
          have hyc := hbr.drew.cell 3 rfl
          generalize y.getD q 0 = v at hcq hv hset
          go_wp2_with fail
          go_region
          go_wp2_with fail
          go_roundw
          case rel =>
            rw [u8_xor_nat v b3 hv h3]
            refine ⟨4, by omega, rfl, _, hset, ?_, b_drew (b_set hbel hgw _), ?_⟩
            · rw [← hq'.out]; exact (hown.set (f + 3) _ (Nat.xor_lt_two_pow (n := 8) hv h3)).drew
            · exact (hbx.far ((Kept.refl (fun k => k = g) wr).set (p := ⟨g, q, none⟩) (fun _ => rfl) _) (fun hn b hb e => hfar hn (by rw [hb, e]))).drew
          case measure => simp [intOf]
      · have hex : t = 4 ∨ (t < 4 ∧ ¬ (f : Int) + (t : Int) < (Z : Int)) := by omega
        clear h12
        rcases hex with rfl | ⟨h1x, h2x⟩
        all_goals go_wp2_with fail
        all_goals go_meet
        all_goals exact ⟨y, hy, hown, hbel, hbx⟩
  case rest =>
    obtain ⟨y, hy, hown, hbel, hbx⟩ := hcut
    have hTr := hT0.keep hbel
    have hys := hown.bs
    obtain ⟨k, hk15, hkZ, hmn⟩ : ∃ k : Nat, k ≤ 15 ∧ k ≤ Z ∧ (if (15 : Int) < (f : Int) then (15 : Int) else (f : Int)) = (k : Int) := by
      by_cases h : (15 : Int) < (f : Int)
      · exact ⟨15, by omega, by omega, by rw [if_pos h]; rfl⟩
      · exact ⟨f, by omega, by omega, by rw [if_neg h]⟩
    have hmx := fun (ts : Array TypeId) (t : TypeId) (V : World) => (min2 (f : Int) 15 ts t V).trans (by rw [hmn])
    have hk0 : (0 : Int) ≤ (k : Int) := by omega
    have hkc : (k : Int) ≤ (c3 : Int) := by have := hbx.cap; omega
    have hkc' : k ≤ c3 := by omega
    have hshort : Hid (Tl.decE (F.take k) ≠ 0) := Lib.hid (decE_whole (whole_short (by rw [List.length_take]; omega)))
    clear hmn
    by_cases hyl : y = F
    · subst hyl
      go_wp2_with fail
      refine (decode_any _ _ c4 _ _ hys hTr).mono ?_
      intro e w5 hp
      obtain ⟨A5, c5, M5, rfl, hown5, hM5, hb5⟩ := decP_ok hp hd1'.out
      clear hp hM5 hown5
      have hbw5 := b_then hbel hb5
      have hcv1 := fun q => run_str (P := Tryd.prog) 23 5 9 Tryd.underlying23 Tryd.underlying5 Tryd.underlying9 ((hys.keep hb5).drewN q)
      have hcv2 := fun q => run_str (P := Tryd.prog) 23 5 9 Tryd.underlying23 Tryd.underlying5 Tryd.underlying9 ((hbx.keep hb5).drewN q)
      generalize strOf y = st at hcv1 hcv2
      go_wp2_with fail
      go_quiet (fail)
      have hbq := b_drewN hbw5 nq
      have hb5q := b_drewN hb5 nq
      have hTq := hT0.keep hbq
      have hbxq := (hbx.keep hb5q).take k hkZ
      clear hcv1 hcv2
      generalize w5.drewN nq = wq at hbq hTq hbxq ⊢
      go_wp2_with fail
      refine (decode_any A3 k c3 _ _ hbxq hTq).mono ?_
      intro e w6 hp
      obtain ⟨rfl, hb6⟩ := decP_bad hp hshort.out
      clear hp
      have hbw6 := b_then hbq hb6
      have hT6 := hT0.keep hbw6
      go_wp2_with fail
      refine (sure19_any _ hT6).mono ?_
      rintro e w8 ⟨rfl, hb8⟩
      go_wp2_with fail
      go_ret
      exact ⟨rfl, b_then hbY (b_then hbw6 hb8)⟩
    · have hbad := Lib.hid (hfin.out f y hy hyl)
      have hne := str_ne hys.small hF hyl
      clear hyl hy
      go_wp2_with fail
      refine (decode_any _ _ c4 _ _ hys hTr).mono ?_
      intro e w5 hp
      obtain ⟨rfl, hb5⟩ := decP_bad hp hbad.out
      clear hp
      have hbw5 := b_then hbel hb5
      have hcv1 := fun q => run_str (P := Tryd.prog) 23 5 9 Tryd.underlying23 Tryd.underlying5 Tryd.underlying9 ((hys.keep hb5).drewN q)
      have hcv2 := fun q => run_str (P := Tryd.prog) 23 5 9 Tryd.underlying23 Tryd.underlying5 Tryd.underlying9 ((hbx.keep hb5).drewN q)
      generalize strOf y = s1 at hcv1 hne
      generalize strOf F = s2 at hcv2 hne
      go_wp2_with fail
      go_quiet (fail)
      have hbq := b_drewN hbw5 nq
      have hb5q := b_drewN hb5 nq
      have hTq := hT0.keep hbq
      have hbxq := (hbx.keep hb5q).take k hkZ
      clear hcv1 hcv2
      generalize w5.drewN nq = wq at hbq hTq hbxq ⊢
      go_wp2_with fail
      refine (decode_any A3 k c3 _ _ hbxq hTq).mono ?_
      intro e w6 hp
      obtain ⟨rfl, hb6⟩ := decP_bad hp hshort.out
      clear hp
      have hbw6 := b_then hbq hb6
      have hT6 := hT0.keep hbw6
      go_wp2_with fail
      refine (sure19_any _ hT6).mono ?_
      rintro e w8 ⟨rfl, hb8⟩
      go_wp2_with fail
      go_ret
      exact ⟨rfl, b_then hbY (b_then hbw6 hb8)⟩

theorem law_tlvspoilt (A : Option Addr) (n c : Nat) (L : List SecV) (at_ : Int) (b0 b1 b2 b3 : Nat) (w : World) (h0 : b0 < 256) (h1 : b1 < 256) (h2 : b2 < 256) (h3 : b3 < 256) (hS : Secs w A n c L) (hT : TabW w) :
    Calls Tryd.prog 7 #[.slice A n c, .int .i64 at_, .agg #[.int .u8 b0, .int .u8 b1, .int .u8 b2, .int .u8 b3]] w fun e w' => e = .returned (.bool true) ∧ Below w.heap.size w w' := by
  cases hlong : longB L with
  | true => exact spoilt_long A n c L at_ b0 b1 b2 b3 w hS hT hlong
  | false =>
    by_cases he : Tl.encE (secL L) = 0
    · exact spoilt_ok A n c L at_ b0 b1 b2 b3 w h0 h1 h2 h3 hS hT hlong he
    · exact spoilt_bad A n c L at_ b0 b1 b2 b3 w hS hT hlong he
end Go.Proofs.YtcoiaggedipapaaDoor
