/-
  The law's give of a link, by its contract.
-/
import Derived.Test.YtbmfcaobhgeogaaDoorLinkLaw
namespace Go.Proofs.YtbmfcaobhgeogaaDoor
open Go.RowKit
set_option linter.unusedVariables false
set_option linter.unusedSimpArgs false
set_option maxRecDepth 100000

set_option maxHeartbeats 16000000 in
theorem give_any (A0 : Option Addr) (n0 c0 : Nat) (L0 : List ItemV) (A1 : Option Addr) (n1 c1 : Nat) (L1 : List ItemV) (d : Bool) (w : World) (h0 : Items w A0 n0 c0 L0) (h1 : Items w A1 n1 c1 L1) :
    Calls Tryd.prog 26 #[(.agg #[.slice A0 n0 c0, .slice A1 n1 c1, .bool d])] w (GiveP w ⟨says L0, says L1, d⟩) := by
  have hm0 := h0.max
  have hm1 := h1.max
  have hbx := Lib.hid (box_three w #[.slice A0 n0 c0, .slice A1 n1 c1, .bool d] #[.slice none 0 0, .slice none 0 0, .bool false] #[.slice none 0 0, .slice none 0 0, .bool d] 60 51 51)
  go_enter Tryd.func26, Tryd.ntmps26
  have hbd : (w.alloc (.cells #[.slice A0 n0 c0, .slice A1 n1 c1, .bool d] 60)).cell? ⟨w.heap.size, 2, none⟩ = some (.bool d) := (Blk.new w _ _).cell 2 rfl
  go_upto_region 2 with (fail)
  obtain ⟨hB, hZ, hC, hbel⟩ := hbx.out _ rfl
  generalize ((w.alloc (Obj.cells #[.slice A0 n0 c0, .slice A1 n1 c1, .bool d] 60)).alloc (Obj.cells #[.slice none 0 0, .slice none 0 0, .bool false] 51)).alloc (Obj.cells #[.slice none 0 0, .slice none 0 0, .bool d] 51) = W at hB hZ hC hbel ⊢
  clear hbx hbd
  go_wp2_with fail
  go_loopw [4, 5] (fun j i wr => ∃ jn : Nat, jn ≤ 2 ∧ j = .int .i64 jn ∧ Blk wr w.heap.size #[.slice A0 n0 c0, .slice A1 n1 c1, .bool d] 60 ∧ Blk wr (w.heap.size + 1) #[.slice none 0 0, .slice none 0 0, .bool false] 51 ∧ Below w.heap.size w wr ∧
    ((jn = 0 ∧ Blk wr (w.heap.size + 2) #[.slice none 0 0, .slice none 0 0, .bool d] 51) ∨
     (jn = 1 ∧ ∃ B0 d0, Items wr B0 n0 d0 L0 ∧ (∀ q, B0.map (·.block) = some q → w.heap.size + 2 < q ∧ q < wr.heap.size) ∧ Blk wr (w.heap.size + 2) #[.slice B0 n0 d0, .slice none 0 0, .bool d] 51) ∨
     (jn = 2 ∧ ∃ B0 d0 B1 d1, Items wr B0 n0 d0 L0 ∧ Items wr B1 n1 d1 L1 ∧ (∀ q, B0.map (·.block) = some q → w.heap.size + 2 < q) ∧ (∀ q, B1.map (·.block) = some q → w.heap.size + 2 < q) ∧ Blk wr (w.heap.size + 2) #[.slice B0 n0 d0, .slice B1 n1 d1, .bool d] 51))) (fun j _ _ => 2 - (intOf j).toNat)
  case atStart => exact ⟨0, by omega, rfl, hB, hZ, hbel, .inl ⟨rfl, hC⟩⟩
  case round =>
    obtain ⟨jn, hj, rfl, hBr, hZr, hbr, ⟨rfl, hCr⟩ | ⟨rfl, B0, d0, hI0, hb0, hCr⟩ | ⟨rfl, B0, d0, B1, d1, hI0, hI1, hb0, hb1, hCr⟩⟩ := hrel
    all_goals obtain ⟨wo, rfl⟩ : ∃ wo, wo = wr := ⟨wr, rfl⟩
    · go_wp2_with fail
      go_loopw [5] (fun i wy => ∃ k : Nat, k ≤ n0 ∧ i = .int .i64 k ∧ ∃ B c, OwnI wy (w.heap.size + 3) 88 B k c (L0.take k) ∧ Blk wy (w.heap.size + 2) #[.slice B k c, .slice none 0 0, .bool d] 51 ∧ Blk wy w.heap.size #[.slice A0 n0 c0, .slice A1 n1 c1, .bool d] 60 ∧ Blk wy (w.heap.size + 1) #[.slice none 0 0, .slice none 0 0, .bool false] 51 ∧ Below w.heap.size w wy) (fun i _ => n0 - (intOf i).toNat)
      case atStart => exact ⟨0, by omega, rfl, none, 0, OwnI.nil _ _ _, hCr, hBr, hZr, hbr⟩
      case round =>
        obtain ⟨k, hk, rfl, B, c, hown, hCy, hBy, hZy, hby⟩ := hrel
        by_cases hlt : k < n0
        · obtain ⟨s, b, off, hs, he, hc0, hc1, hbs⟩ := (h0.keep hby).at_ k hlt
          obtain ⟨s', b', off', hs', he', _, _, hbsw⟩ := h0.at_ k hlt
          obtain rfl : s' = s := Option.some.inj (hs'.symm.trans hs)
          have hslt : ∀ q, 0 < s'.n → s'.A.map (·.block) = some q → q < w.heap.size := fun q hn hq => by
            obtain ⟨b1, o1, e1, h1⟩ := hbsw.lt hn
            rw [e1] at hq
            have : b1 = q := Option.some.inj hq
            omega
          have hblt : b < w.heap.size := by
            obtain ⟨s3, b3, o3, _, e3, q3, _⟩ := h0.at_ k hlt
            rw [he] at e3
            have e4 : b = b3 := congrArg Addr.block (Option.some.inj e3)
            have h5 : b3 < w.heap.size := World.block_lt_of_cell? w _ q3
            omega
          clear he' hs' hbsw
          have y0 := hBy.cell 0 rfl
          rw [he] at y0
          clear he
          have hk0 : (0 : Int) ≤ (k : Int) := by omega
          have hkn : (k : Int) < (n0 : Int) := by omega
          have htk : L0.take k ++ [s'] = L0.take (k + 1) := by
            obtain ⟨h2, h3⟩ := List.getElem?_eq_some_iff.1 hs
            rw [List.take_succ_eq_append_getElem h2, h3]
          have hzr := hCy.lt
          have hge : ∀ q, B.map (·.block) = some q → w.heap.size + 2 < q ∧ q < wr.heap.size := fun q hq => ⟨by have := (hown.ge q hq).1; omega, (hown.ge q hq).2⟩
          have hge' := Lib.hid hge
          clear hge
          have hV3 : Below wr.heap.size wr (wr.drew.alloc (.cells #[.slice s'.A s'.n s'.c, .bool s'.t] 88)) := b_alloc (b_drew (Below.refl _ _)) _
          have hV5 : Below wr.heap.size wr (wr.alloc (.cells #[.slice s'.A s'.n s'.c, .bool s'.t] 88)) := b_alloc (Below.refl _ _) _
          have hall : ∀ V, Below wr.heap.size wr V → V.cell? ⟨w.heap.size, 0, none⟩ = some (.slice (some ⟨b, off, none⟩) n0 c0) ∧ V.cell? ⟨w.heap.size + 2, 0, none⟩ = some (.slice B k c) ∧ V.cell? ⟨b, off + k * 2, none⟩ = some (.slice s'.A s'.n s'.c) ∧ V.cell? ⟨b, off + k * 2 + 1, none⟩ = some (.bool s'.t) := fun V hV => ⟨cell_keep y0 hV, (hCy.keep hV).cell 0 rfl, cell_keep hc0 hV, cell_keep hc1 hV⟩
          obtain ⟨p10, p11, p12, p13⟩ := hall _ (b_drew (Below.refl _ _))
          obtain ⟨p20, p21, p22, p23⟩ := hall _ hV3
          obtain ⟨p30, p31, p32, p33⟩ := hall _ hV5
          have x0 := hCy.cell 0 rfl
          have hO : OwnI (wr.drew.alloc (.cells #[.slice s'.A s'.n s'.c, .bool s'.t] 88)) (w.heap.size + 3) 88 B k c (L0.take k) := hown.keep hV3
          have hIt := Items.one (w := wr.drew) 88 s' (hbs.keep (b_drew (Below.refl _ _)))
          have hfar : ∀ x ∈ [s'], 0 < x.n → ∀ q, B.map (·.block) = some q → x.A.map (·.block) ≠ some q := fun x hx hn q hq e => by
            obtain rfl : x = s' := by simpa using hx
            have := hslt q hn e
            have := (hge'.out q hq).1
            omega
          have hfar' := Lib.hid hfar
          have hsz3 : w.heap.size + 3 ≤ (wr.drew.alloc (.cells #[.slice s'.A s'.n s'.c, .bool s'.t] 88)).heap.size := Nat.le_trans (by omega) hV3.size
          have hn1 : k + 1 ≤ 4398046511104 := by omega
          clear hall hfar
          go_upto_region 8 with (fail)
          have hnp1 : w.heap.size ≠ w.heap.size + 1 + 1 := by omega
          have hnp3 : b ≠ w.heap.size + 1 + 1 := by omega
          have hq0 := (show wr.drew.cell? ⟨w.heap.size, 0, none⟩ = some (.slice (some ⟨b, off, none⟩) n0 c0) ∧ wr.drew.cell? ⟨b, off + k * 2, none⟩ = some (.slice s'.A s'.n s'.c) ∧ wr.drew.cell? ⟨b, off + k * 2 + 1, none⟩ = some (.bool s'.t) from ⟨p10, p12, p13⟩)
          have hne1 : some w.heap.size ≠ B.map (·.block) := fun e => absurd (hge'.out _ e.symm).1 (by omega)
          have hne3 : some b ≠ B.map (·.block) := fun e => absurd (hge'.out _ e.symm).1 (by have := hblt; omega)
          refine wp_region_held_drew (S := (fun V => V.cell? ⟨w.heap.size, 0, none⟩ = some (.slice (some ⟨b, off, none⟩) n0 c0) ∧ V.cell? ⟨b, off + k * 2, none⟩ = some (.slice s'.A s'.n s'.c) ∧ V.cell? ⟨b, off + k * 2 + 1, none⟩ = some (.bool s'.t))) (by kernel_rfl) hq0 (fun hHeld => ?_)
          refine wpAnyH_take (i := 0) (v := ?v0_0) rfl (by kernel_rfl) (by kernel_rfl) (by kernel_rfl) (fun _ _ _ h => h) (Or.inl ⟨by rfl, ?h0_0⟩) (by assumption) ?r0_0
          case h0_0 => (intro w hSw; (try dsimp only at hSw); go_simp; try with_reducible rfl)
          try simp only [Act.put, List.setIfInBounds_toArray, List.set_cons_zero, List.set_cons_succ]
          refine wpAnyH_take (i := 1) (v := ?v1_0) rfl (by kernel_rfl) (by kernel_rfl) (by kernel_rfl) (fun _ _ _ h => h) (Or.inl ⟨by rfl, ?h1_0⟩) (by assumption) ?r1_0
          case h1_0 => (intro w hSw; (try dsimp only at hSw); go_simp; try with_reducible rfl)
          try simp only [Act.put, List.setIfInBounds_toArray, List.set_cons_zero, List.set_cons_succ]
          refine wpAnyH_take (i := 2) (v := ?v2_0) rfl (by kernel_rfl) (by kernel_rfl) (by kernel_rfl) (fun _ _ _ h => h) (Or.inl ⟨by rfl, ?h2_0⟩) (by assumption) ?r2_0
          case h2_0 => (intro w hSw; (try dsimp only at hSw); go_simp; try with_reducible rfl)
          try simp only [Act.put, List.setIfInBounds_toArray, List.set_cons_zero, List.set_cons_succ]
          refine wpAnyH_take (i := 3) (v := ?v3_0) rfl (by kernel_rfl) (by kernel_rfl) (by kernel_rfl) (fun _ _ _ h => h) (Or.inl ⟨by rfl, ?h3_0⟩) (by assumption) ?r3_0
          case h3_0 => (intro w hSw; (try dsimp only at hSw); go_simp; try with_reducible rfl)
          try simp only [Act.put, List.setIfInBounds_toArray, List.set_cons_zero, List.set_cons_succ]
          refine wpAnyH_take (i := 5) (v := ?v5_0) rfl (by kernel_rfl) (by kernel_rfl) (by kernel_rfl) (fun _ _ _ h => h) (Or.inl ⟨by rfl, ?h5_0⟩) (by assumption) ?r5_0
          case h5_0 => (intro w hSw; (try dsimp only at hSw); go_simp; try with_reducible rfl)
          try simp only [Act.put, List.setIfInBounds_toArray, List.set_cons_zero, List.set_cons_succ]
          refine wpAnyH_take (i := 6) (v := ?v6_0) rfl (by kernel_rfl) (by kernel_rfl) (by kernel_rfl) (fun _ _ _ h => h) (Or.inl ⟨by rfl, ?h6_0⟩) (by assumption) ?r6_0
          case h6_0 => (intro w hSw; (try dsimp only at hSw); go_simp; try with_reducible rfl)
          try simp only [Act.put, List.setIfInBounds_toArray, List.set_cons_zero, List.set_cons_succ]
          refine wpAnyH_take (i := 7) (v := ?v7_0) rfl (by kernel_rfl) (by kernel_rfl) (by kernel_rfl) (fun _ _ _ h => h) (Or.inl ⟨by rfl, ?h7_0⟩) (by assumption) ?r7_0
          case h7_0 => (intro w hSw; (try dsimp only at hSw); go_simp; try with_reducible rfl)
          try simp only [Act.put, List.setIfInBounds_toArray, List.set_cons_zero, List.set_cons_succ]
          refine wpAnyH_take (i := 8) (v := ?v8_0) rfl (by kernel_rfl) (by kernel_rfl) (by kernel_rfl) (fun _ _ _ h => h) (Or.inl ⟨by rfl, ?h8_0⟩) (by assumption) ?r8_0
          case h8_0 => (intro w hSw; (try dsimp only at hSw); go_simp; try with_reducible rfl)
          try simp only [Act.put, List.setIfInBounds_toArray, List.set_cons_zero, List.set_cons_succ]
          refine wpAnyH_take (i := 9) (v := ?v9_0) rfl (by kernel_rfl) (by kernel_rfl) (by kernel_rfl) (fun _ _ _ h => h) (Or.inl ⟨by rfl, ?h9_0⟩) (by assumption) ?r9_0
          case h9_0 => (intro w hSw; (try dsimp only at hSw); go_simp; try with_reducible rfl)
          try simp only [Act.put, List.setIfInBounds_toArray, List.set_cons_zero, List.set_cons_succ]
          refine wpAnyH_take (i := 10) (v := ?v10_0) rfl (by kernel_rfl) (by kernel_rfl) (by kernel_rfl) (fun _ _ _ h => h) (Or.inl ⟨by rfl, ?h10_0⟩) (by assumption) ?r10_0
          case h10_0 => (intro w hSw; (try dsimp only at hSw); go_simp; try with_reducible rfl)
          try simp only [Act.put, List.setIfInBounds_toArray, List.set_cons_zero, List.set_cons_succ]
          refine wpAnyH_take (i := 11) (v := ?v11_0) rfl (by kernel_rfl) (by kernel_rfl) (by kernel_rfl) (fun _ _ _ h => h) (Or.inl ⟨by rfl, ?h11_0⟩) (by assumption) ?r11_0
          case h11_0 => (intro w hSw; (try dsimp only at hSw); go_simp; try with_reducible rfl)
          try simp only [Act.put, List.setIfInBounds_toArray, List.set_cons_zero, List.set_cons_succ]
          refine wpAnyH_take (i := 12) (v := ?v12_0) rfl (by kernel_rfl) (by kernel_rfl) (by kernel_rfl) (fun _ _ _ h => h) (Or.inl ⟨by rfl, ?h12_0⟩) (by assumption) ?r12_0
          case h12_0 => (intro w hSw; (try dsimp only at hSw); go_simp; try with_reducible rfl)
          try simp only [Act.put, List.setIfInBounds_toArray, List.set_cons_zero, List.set_cons_succ]
          refine wpAnyH_take (i := 13) (v := ?v13_0) rfl (by kernel_rfl) (by kernel_rfl) (by kernel_rfl) (fun _ _ _ h => h) (Or.inl ⟨by rfl, ?h13_0⟩) (by assumption) ?r13_0
          case h13_0 => (intro w hSw; (try dsimp only at hSw); go_simp; try with_reducible rfl)
          try simp only [Act.put, List.setIfInBounds_toArray, List.set_cons_zero, List.set_cons_succ]
          refine wpAnyH_take (i := 14) (v := ?v14_0) rfl (by kernel_rfl) (by kernel_rfl) (by kernel_rfl) (fun _ _ _ h => h) (Or.inl ⟨by rfl, ?h14_0⟩) (by assumption) ?r14_0
          case h14_0 => (intro w hSw; (try dsimp only at hSw); go_simp; try with_reducible rfl)
          try simp only [Act.put, List.setIfInBounds_toArray, List.set_cons_zero, List.set_cons_succ]
          refine wpAnyH_take (i := 15) (v := ?v15_0) rfl (by kernel_rfl) (by kernel_rfl) (by kernel_rfl) (fun _ _ _ h => h) (Or.inl ⟨by rfl, ?h15_0⟩) (by assumption) ?r15_0
          case h15_0 => (intro w hSw; (try dsimp only at hSw); go_simp; try with_reducible rfl)
          try simp only [Act.put, List.setIfInBounds_toArray, List.set_cons_zero, List.set_cons_succ]
          refine wpAnyH_take (i := 16) (v := ?v16_0) rfl (by kernel_rfl) (by kernel_rfl) (by kernel_rfl) (fun _ _ _ h => h) (Or.inl ⟨by rfl, ?h16_0⟩) (by assumption) ?r16_0
          case h16_0 => (intro w hSw; (try dsimp only at hSw); go_simp; try with_reducible rfl)
          try simp only [Act.put, List.setIfInBounds_toArray, List.set_cons_zero, List.set_cons_succ]
          refine wpAnyH_take (i := 17) (v := ?v17_0) rfl (by kernel_rfl) (by kernel_rfl) (by kernel_rfl) (fun _ _ _ h => h) (Or.inl ⟨by rfl, ?h17_0⟩) (by assumption) ?r17_0
          case h17_0 => (intro w hSw; (try dsimp only at hSw); go_simp; try with_reducible rfl)
          try simp only [Act.put, List.setIfInBounds_toArray, List.set_cons_zero, List.set_cons_succ]
          refine wpAnyH_take (i := 18) (v := ?v18_0) rfl (by kernel_rfl) (by kernel_rfl) (by kernel_rfl) (fun _ _ _ h => h) (Or.inl ⟨by rfl, ?h18_0⟩) (by assumption) ?r18_0
          case h18_0 => (intro w hSw; (try dsimp only at hSw); go_simp; try with_reducible rfl)
          try simp only [Act.put, List.setIfInBounds_toArray, List.set_cons_zero, List.set_cons_succ]
          refine wpAnyH_take (i := 19) (v := ?v19_0) rfl (by kernel_rfl) (by kernel_rfl) (by kernel_rfl) (fun _ _ _ h => h) (Or.inl ⟨by rfl, ?h19_0⟩) (by assumption) ?r19_0
          case h19_0 => (intro w hSw; (try dsimp only at hSw); go_simp; try with_reducible rfl)
          try simp only [Act.put, List.setIfInBounds_toArray, List.set_cons_zero, List.set_cons_succ]
          refine wpAnyH_take (i := 20) (v := ?v20_0) rfl (by kernel_rfl) (by kernel_rfl) (by kernel_rfl) (fun _ _ _ h => h) (Or.inl ⟨by rfl, ?h20_0⟩) (by assumption) ?r20_0
          case h20_0 => (intro w hSw; (try dsimp only at hSw); go_simp; try with_reducible rfl)
          try simp only [Act.put, List.setIfInBounds_toArray, List.set_cons_zero, List.set_cons_succ]
          refine wpAnyH_take (i := 21) (v := ?v21_0) rfl (by kernel_rfl) (by kernel_rfl) (by kernel_rfl) (fun _ _ _ h => h) (Or.inl ⟨by rfl, ?h21_0⟩) (by assumption) ?r21_0
          case h21_0 => (intro w hSw; (try dsimp only at hSw); go_simp; try with_reducible rfl)
          try simp only [Act.put, List.setIfInBounds_toArray, List.set_cons_zero, List.set_cons_succ]
          refine wpAnyH_take (i := 24) (v := ?v24_0) rfl (by kernel_rfl) (by kernel_rfl) (by kernel_rfl) (fun _ _ _ h => h) (Or.inl ⟨by rfl, ?h24_0⟩) (by assumption) ?r24_0
          case h24_0 => (intro w hSw; (try dsimp only at hSw); go_simp; try with_reducible rfl)
          try simp only [Act.put, List.setIfInBounds_toArray, List.set_cons_zero, List.set_cons_succ]
          refine wpAnyH_ready (rs := [4, 22]) (by kernel_rfl) (by simp) ?_
          refine AllReadyH.cons rfl (fun K hK => ?_) (AllReadyH.cons rfl (fun K hK => ?_) AllReadyH.nil)
          · go_simp
            refine hK.out _ _ hHeld (fun hHeld => ?_)
            clear hK K
            try simp only [Act.put, List.setIfInBounds_toArray, List.set_cons_zero, List.set_cons_succ]
            refine wpAnyH_ready (rs := [22]) (by kernel_rfl) (by simp) ?_
            refine AllReadyH.cons rfl (fun K hK => ?_) AllReadyH.nil
            go_simp
            refine hK.out _ _ (keep3a hHeld _) (fun hHeld => ?_)
            clear hK K
            try simp only [Act.put, List.setIfInBounds_toArray, List.set_cons_zero, List.set_cons_succ]
            refine wpAnyH_ready (rs := [23]) (by kernel_rfl) (by simp) ?_
            refine AllReadyH.cons rfl (fun K hK => ?_) AllReadyH.nil
            refine step_appendI rfl _ _ 48 88 rfl Tryd.underlying48 Tryd.info88 (w.heap.size + 3) B k c (L0.take k) (some ⟨wr.heap.size, 0, none⟩) 1 1 [s'] (k + 1) rfl rfl rfl hO hIt hfar'.out hsz3 hn1 ?_
            intro A4 c4 x4 hown4 hg4 hat4
            have hC4 := (hCy.keep hV3).grown hg4 (fun e => absurd (hge'.out _ e).1 (by omega))
            have hqc4 := hC4.cell 0 rfl
            have hff4 := hC4.free 0
            refine hK.out _ _ (keep3g hHeld hg4 hne1 hne3 hne3) (fun hHeld => ?_)
            clear hK K
            try simp only [Act.put, List.setIfInBounds_toArray, List.set_cons_zero, List.set_cons_succ]
            refine wpAnyH_take (i := 25) (v := ?v25_0a) rfl (by kernel_rfl) (by kernel_rfl) (by kernel_rfl) (fun _ _ _ h => h) (Or.inl ⟨by rfl, ?h25_0a⟩) (by assumption) ?r25_0a
            case h25_0a => (intro w hSw; (try dsimp only at hSw); go_simp; try with_reducible rfl)
            try simp only [Act.put, List.setIfInBounds_toArray, List.set_cons_zero, List.set_cons_succ]
            refine wpAnyH_ready (rs := [26]) (by kernel_rfl) (by simp) ?_
            refine AllReadyH.cons rfl (fun K hK => ?_) AllReadyH.nil
            go_simp
            refine hK.out _ _ (keep3s hHeld hnp1 hnp3 hnp3) (fun hHeld => ?_)
            clear hK K
            try simp only [Act.put, List.setIfInBounds_toArray, List.set_cons_zero, List.set_cons_succ]
            refine wpAnyH_done (by kernel_rfl) ?_ _
            go_wp2_with fail
            rw [htk] at hown4
            have hat5 : ∀ q, A4.map (·.block) = some q → w.heap.size + 2 < q := fun q hq => by
              rcases hat4 with e | e
              · exact (hge'.out q (e ▸ hq)).1
              · have e2 := Option.some.inj (e.symm.trans hq); simp at e2; omega
            have hB4 := (hBy.keep hV3).grown hg4 (fun e => absurd (hge'.out _ e).1 (by omega))
            have hZ4 := (hZy.keep hV3).grown hg4 (fun e => absurd (hge'.out _ e).1 (by omega))
            go_roundw
            case rel => exact ⟨k + 1, by omega, by go_num, A4, c4, hown4.link_set hC4 (link_no8 _ _ _ _ _ _ _) (fun q hq => by have := hat5 q hq; omega) 0 (.slice A4 (k + 1) c4), hC4.set 0 _, hB4.far (p := ⟨w.heap.size + 2, 0, none⟩) (by show w.heap.size ≠ w.heap.size + 2; omega) _, hZ4.far (p := ⟨w.heap.size + 2, 0, none⟩) (by show w.heap.size + 1 ≠ w.heap.size + 2; omega) _, b_set (p := ⟨w.heap.size + 2, 0, none⟩) (b_grown (b_then hby hV3) hg4 (fun q hq => by have := (hge'.out q hq).1; omega)) (by show w.heap.size ≤ w.heap.size + 2; omega) _⟩
            case measure => simp [intOf]; omega
          · go_simp
            refine hK.out _ _ (keep3a hHeld _) (fun hHeld => ?_)
            clear hK K
            try simp only [Act.put, List.setIfInBounds_toArray, List.set_cons_zero, List.set_cons_succ]
            refine wpAnyH_ready (rs := [4]) (by kernel_rfl) (by simp) ?_
            refine AllReadyH.cons rfl (fun K hK => ?_) AllReadyH.nil
            go_simp
            refine hK.out _ _ hHeld (fun hHeld => ?_)
            clear hK K
            try simp only [Act.put, List.setIfInBounds_toArray, List.set_cons_zero, List.set_cons_succ]
            refine wpAnyH_ready (rs := [23]) (by kernel_rfl) (by simp) ?_
            refine AllReadyH.cons rfl (fun K hK => ?_) AllReadyH.nil
            refine step_appendI rfl _ _ 48 88 rfl Tryd.underlying48 Tryd.info88 (w.heap.size + 3) B k c (L0.take k) (some ⟨wr.heap.size, 0, none⟩) 1 1 [s'] (k + 1) rfl rfl rfl hO hIt hfar'.out hsz3 hn1 ?_
            intro A4 c4 x4 hown4 hg4 hat4
            have hC4 := (hCy.keep hV3).grown hg4 (fun e => absurd (hge'.out _ e).1 (by omega))
            have hqc4 := hC4.cell 0 rfl
            have hff4 := hC4.free 0
            refine hK.out _ _ (keep3g hHeld hg4 hne1 hne3 hne3) (fun hHeld => ?_)
            clear hK K
            try simp only [Act.put, List.setIfInBounds_toArray, List.set_cons_zero, List.set_cons_succ]
            refine wpAnyH_take (i := 25) (v := ?v25_0b) rfl (by kernel_rfl) (by kernel_rfl) (by kernel_rfl) (fun _ _ _ h => h) (Or.inl ⟨by rfl, ?h25_0b⟩) (by assumption) ?r25_0b
            case h25_0b => (intro w hSw; (try dsimp only at hSw); go_simp; try with_reducible rfl)
            try simp only [Act.put, List.setIfInBounds_toArray, List.set_cons_zero, List.set_cons_succ]
            refine wpAnyH_ready (rs := [26]) (by kernel_rfl) (by simp) ?_
            refine AllReadyH.cons rfl (fun K hK => ?_) AllReadyH.nil
            go_simp
            refine hK.out _ _ (keep3s hHeld hnp1 hnp3 hnp3) (fun hHeld => ?_)
            clear hK K
            try simp only [Act.put, List.setIfInBounds_toArray, List.set_cons_zero, List.set_cons_succ]
            refine wpAnyH_done (by kernel_rfl) ?_ _
            go_wp2_with fail
            rw [htk] at hown4
            have hat5 : ∀ q, A4.map (·.block) = some q → w.heap.size + 2 < q := fun q hq => by
              rcases hat4 with e | e
              · exact (hge'.out q (e ▸ hq)).1
              · have e2 := Option.some.inj (e.symm.trans hq); simp at e2; omega
            have hB4 := (hBy.keep hV3).grown hg4 (fun e => absurd (hge'.out _ e).1 (by omega))
            have hZ4 := (hZy.keep hV3).grown hg4 (fun e => absurd (hge'.out _ e).1 (by omega))
            go_roundw
            case rel => exact ⟨k + 1, by omega, by go_num, A4, c4, hown4.link_set hC4 (link_no8 _ _ _ _ _ _ _) (fun q hq => by have := hat5 q hq; omega) 0 (.slice A4 (k + 1) c4), hC4.set 0 _, hB4.far (p := ⟨w.heap.size + 2, 0, none⟩) (by show w.heap.size ≠ w.heap.size + 2; omega) _, hZ4.far (p := ⟨w.heap.size + 2, 0, none⟩) (by show w.heap.size + 1 ≠ w.heap.size + 2; omega) _, b_set (p := ⟨w.heap.size + 2, 0, none⟩) (b_grown (b_then hby hV3) hg4 (fun q hq => by have := (hge'.out q hq).1; omega)) (by show w.heap.size ≤ w.heap.size + 2; omega) _⟩
            case measure => simp [intOf]; omega
        · have hk' : k = n0 := by omega
          subst hk'
          have y0 := hBy.cell 0 rfl
          have hta : L0.take k = L0 := List.take_of_length_le (by rw [h0.len]; exact Nat.le_refl _)
          rw [hta] at hown
          go_wp2_with fail
          go_roundw
          case rel => exact ⟨1, by omega, rfl, hBy, hZy, hby, .inr (.inl ⟨rfl, B, c, hown.items, (fun q hq => ⟨by have := (hown.ge q hq).1; omega, (hown.ge q hq).2⟩), hCy⟩)⟩
          case measure => simp [intOf]
    · go_wp2_with fail
      go_loopw [5] (fun i wy => ∃ k : Nat, k ≤ n1 ∧ i = .int .i64 k ∧ ∃ B c, OwnI wy (w.heap.size + 3) 88 B k c (L1.take k) ∧ Blk wy (w.heap.size + 2) #[.slice B0 n0 d0, .slice B k c, .bool d] 51 ∧ Blk wy w.heap.size #[.slice A0 n0 c0, .slice A1 n1 c1, .bool d] 60 ∧ Blk wy (w.heap.size + 1) #[.slice none 0 0, .slice none 0 0, .bool false] 51 ∧ Below w.heap.size w wy ∧ wo.heap.size ≤ wy.heap.size ∧ Items wy B0 n0 d0 L0 ∧ RowNe B0 B) (fun i _ => n1 - (intOf i).toNat)
      case atStart => exact ⟨0, by omega, rfl, none, 0, OwnI.nil _ _ _, hCr, hBr, hZr, hbr, Nat.le_refl _, hI0, (fun q hq e => by simp at e)⟩
      case round =>
        obtain ⟨k, hk, rfl, B, c, hown, hCy, hBy, hZy, hby, hbry, hI0y, hney⟩ := hrel
        by_cases hlt : k < n1
        · obtain ⟨s, b, off, hs, he, hc0, hc1, hbs⟩ := (h1.keep hby).at_ k hlt
          obtain ⟨s', b', off', hs', he', _, _, hbsw⟩ := h1.at_ k hlt
          obtain rfl : s' = s := Option.some.inj (hs'.symm.trans hs)
          have hslt : ∀ q, 0 < s'.n → s'.A.map (·.block) = some q → q < w.heap.size := fun q hn hq => by
            obtain ⟨b1, o1, e1, h1⟩ := hbsw.lt hn
            rw [e1] at hq
            have : b1 = q := Option.some.inj hq
            omega
          have hblt : b < w.heap.size := by
            obtain ⟨s3, b3, o3, _, e3, q3, _⟩ := h1.at_ k hlt
            rw [he] at e3
            have e4 : b = b3 := congrArg Addr.block (Option.some.inj e3)
            have h5 : b3 < w.heap.size := World.block_lt_of_cell? w _ q3
            omega
          clear he' hs' hbsw
          have y1 := hBy.cell 1 rfl
          rw [he] at y1
          clear he
          have hk0 : (0 : Int) ≤ (k : Int) := by omega
          have hkn : (k : Int) < (n1 : Int) := by omega
          have htk : L1.take k ++ [s'] = L1.take (k + 1) := by
            obtain ⟨h2, h3⟩ := List.getElem?_eq_some_iff.1 hs
            rw [List.take_succ_eq_append_getElem h2, h3]
          have hzr := hCy.lt
          have hge : ∀ q, B.map (·.block) = some q → w.heap.size + 2 < q ∧ q < wr.heap.size := fun q hq => ⟨by have := (hown.ge q hq).1; omega, (hown.ge q hq).2⟩
          have hge' := Lib.hid hge
          clear hge
          have hV3 : Below wr.heap.size wr (wr.drew.alloc (.cells #[.slice s'.A s'.n s'.c, .bool s'.t] 88)) := b_alloc (b_drew (Below.refl _ _)) _
          have hV5 : Below wr.heap.size wr (wr.alloc (.cells #[.slice s'.A s'.n s'.c, .bool s'.t] 88)) := b_alloc (Below.refl _ _) _
          have hall : ∀ V, Below wr.heap.size wr V → V.cell? ⟨w.heap.size, 1, none⟩ = some (.slice (some ⟨b, off, none⟩) n1 c1) ∧ V.cell? ⟨w.heap.size + 2, 1, none⟩ = some (.slice B k c) ∧ V.cell? ⟨b, off + k * 2, none⟩ = some (.slice s'.A s'.n s'.c) ∧ V.cell? ⟨b, off + k * 2 + 1, none⟩ = some (.bool s'.t) := fun V hV => ⟨cell_keep y1 hV, (hCy.keep hV).cell 1 rfl, cell_keep hc0 hV, cell_keep hc1 hV⟩
          obtain ⟨p10, p11, p12, p13⟩ := hall _ (b_drew (Below.refl _ _))
          obtain ⟨p20, p21, p22, p23⟩ := hall _ hV3
          obtain ⟨p30, p31, p32, p33⟩ := hall _ hV5
          have x1 := hCy.cell 1 rfl
          have hO : OwnI (wr.drew.alloc (.cells #[.slice s'.A s'.n s'.c, .bool s'.t] 88)) (w.heap.size + 3) 88 B k c (L1.take k) := hown.keep hV3
          have hIt := Items.one (w := wr.drew) 88 s' (hbs.keep (b_drew (Below.refl _ _)))
          have hfar : ∀ x ∈ [s'], 0 < x.n → ∀ q, B.map (·.block) = some q → x.A.map (·.block) ≠ some q := fun x hx hn q hq e => by
            obtain rfl : x = s' := by simpa using hx
            have := hslt q hn e
            have := (hge'.out q hq).1
            omega
          have hfar' := Lib.hid hfar
          have hsz3 : w.heap.size + 3 ≤ (wr.drew.alloc (.cells #[.slice s'.A s'.n s'.c, .bool s'.t] 88)).heap.size := Nat.le_trans (by omega) hV3.size
          have hn1 : k + 1 ≤ 4398046511104 := by omega
          clear hall hfar
          go_upto_region 8 with (fail)
          have hnp1 : w.heap.size ≠ w.heap.size + 1 + 1 := by omega
          have hnp3 : b ≠ w.heap.size + 1 + 1 := by omega
          have hq0 := (show wr.drew.cell? ⟨w.heap.size, 1, none⟩ = some (.slice (some ⟨b, off, none⟩) n1 c1) ∧ wr.drew.cell? ⟨b, off + k * 2, none⟩ = some (.slice s'.A s'.n s'.c) ∧ wr.drew.cell? ⟨b, off + k * 2 + 1, none⟩ = some (.bool s'.t) from ⟨p10, p12, p13⟩)
          have hne1 : some w.heap.size ≠ B.map (·.block) := fun e => absurd (hge'.out _ e.symm).1 (by omega)
          have hne3 : some b ≠ B.map (·.block) := fun e => absurd (hge'.out _ e.symm).1 (by have := hblt; omega)
          refine wp_region_held_drew (S := (fun V => V.cell? ⟨w.heap.size, 1, none⟩ = some (.slice (some ⟨b, off, none⟩) n1 c1) ∧ V.cell? ⟨b, off + k * 2, none⟩ = some (.slice s'.A s'.n s'.c) ∧ V.cell? ⟨b, off + k * 2 + 1, none⟩ = some (.bool s'.t))) (by kernel_rfl) hq0 (fun hHeld => ?_)
          refine wpAnyH_take (i := 0) (v := ?v0_1) rfl (by kernel_rfl) (by kernel_rfl) (by kernel_rfl) (fun _ _ _ h => h) (Or.inl ⟨by rfl, ?h0_1⟩) (by assumption) ?r0_1
          case h0_1 => (intro w hSw; (try dsimp only at hSw); go_simp; try with_reducible rfl)
          try simp only [Act.put, List.setIfInBounds_toArray, List.set_cons_zero, List.set_cons_succ]
          refine wpAnyH_take (i := 1) (v := ?v1_1) rfl (by kernel_rfl) (by kernel_rfl) (by kernel_rfl) (fun _ _ _ h => h) (Or.inl ⟨by rfl, ?h1_1⟩) (by assumption) ?r1_1
          case h1_1 => (intro w hSw; (try dsimp only at hSw); go_simp; try with_reducible rfl)
          try simp only [Act.put, List.setIfInBounds_toArray, List.set_cons_zero, List.set_cons_succ]
          refine wpAnyH_take (i := 2) (v := ?v2_1) rfl (by kernel_rfl) (by kernel_rfl) (by kernel_rfl) (fun _ _ _ h => h) (Or.inl ⟨by rfl, ?h2_1⟩) (by assumption) ?r2_1
          case h2_1 => (intro w hSw; (try dsimp only at hSw); go_simp; try with_reducible rfl)
          try simp only [Act.put, List.setIfInBounds_toArray, List.set_cons_zero, List.set_cons_succ]
          refine wpAnyH_take (i := 3) (v := ?v3_1) rfl (by kernel_rfl) (by kernel_rfl) (by kernel_rfl) (fun _ _ _ h => h) (Or.inl ⟨by rfl, ?h3_1⟩) (by assumption) ?r3_1
          case h3_1 => (intro w hSw; (try dsimp only at hSw); go_simp; try with_reducible rfl)
          try simp only [Act.put, List.setIfInBounds_toArray, List.set_cons_zero, List.set_cons_succ]
          refine wpAnyH_take (i := 5) (v := ?v5_1) rfl (by kernel_rfl) (by kernel_rfl) (by kernel_rfl) (fun _ _ _ h => h) (Or.inl ⟨by rfl, ?h5_1⟩) (by assumption) ?r5_1
          case h5_1 => (intro w hSw; (try dsimp only at hSw); go_simp; try with_reducible rfl)
          try simp only [Act.put, List.setIfInBounds_toArray, List.set_cons_zero, List.set_cons_succ]
          refine wpAnyH_take (i := 6) (v := ?v6_1) rfl (by kernel_rfl) (by kernel_rfl) (by kernel_rfl) (fun _ _ _ h => h) (Or.inl ⟨by rfl, ?h6_1⟩) (by assumption) ?r6_1
          case h6_1 => (intro w hSw; (try dsimp only at hSw); go_simp; try with_reducible rfl)
          try simp only [Act.put, List.setIfInBounds_toArray, List.set_cons_zero, List.set_cons_succ]
          refine wpAnyH_take (i := 7) (v := ?v7_1) rfl (by kernel_rfl) (by kernel_rfl) (by kernel_rfl) (fun _ _ _ h => h) (Or.inl ⟨by rfl, ?h7_1⟩) (by assumption) ?r7_1
          case h7_1 => (intro w hSw; (try dsimp only at hSw); go_simp; try with_reducible rfl)
          try simp only [Act.put, List.setIfInBounds_toArray, List.set_cons_zero, List.set_cons_succ]
          refine wpAnyH_take (i := 8) (v := ?v8_1) rfl (by kernel_rfl) (by kernel_rfl) (by kernel_rfl) (fun _ _ _ h => h) (Or.inl ⟨by rfl, ?h8_1⟩) (by assumption) ?r8_1
          case h8_1 => (intro w hSw; (try dsimp only at hSw); go_simp; try with_reducible rfl)
          try simp only [Act.put, List.setIfInBounds_toArray, List.set_cons_zero, List.set_cons_succ]
          refine wpAnyH_take (i := 9) (v := ?v9_1) rfl (by kernel_rfl) (by kernel_rfl) (by kernel_rfl) (fun _ _ _ h => h) (Or.inl ⟨by rfl, ?h9_1⟩) (by assumption) ?r9_1
          case h9_1 => (intro w hSw; (try dsimp only at hSw); go_simp; try with_reducible rfl)
          try simp only [Act.put, List.setIfInBounds_toArray, List.set_cons_zero, List.set_cons_succ]
          refine wpAnyH_take (i := 10) (v := ?v10_1) rfl (by kernel_rfl) (by kernel_rfl) (by kernel_rfl) (fun _ _ _ h => h) (Or.inl ⟨by rfl, ?h10_1⟩) (by assumption) ?r10_1
          case h10_1 => (intro w hSw; (try dsimp only at hSw); go_simp; try with_reducible rfl)
          try simp only [Act.put, List.setIfInBounds_toArray, List.set_cons_zero, List.set_cons_succ]
          refine wpAnyH_take (i := 11) (v := ?v11_1) rfl (by kernel_rfl) (by kernel_rfl) (by kernel_rfl) (fun _ _ _ h => h) (Or.inl ⟨by rfl, ?h11_1⟩) (by assumption) ?r11_1
          case h11_1 => (intro w hSw; (try dsimp only at hSw); go_simp; try with_reducible rfl)
          try simp only [Act.put, List.setIfInBounds_toArray, List.set_cons_zero, List.set_cons_succ]
          refine wpAnyH_take (i := 12) (v := ?v12_1) rfl (by kernel_rfl) (by kernel_rfl) (by kernel_rfl) (fun _ _ _ h => h) (Or.inl ⟨by rfl, ?h12_1⟩) (by assumption) ?r12_1
          case h12_1 => (intro w hSw; (try dsimp only at hSw); go_simp; try with_reducible rfl)
          try simp only [Act.put, List.setIfInBounds_toArray, List.set_cons_zero, List.set_cons_succ]
          refine wpAnyH_take (i := 13) (v := ?v13_1) rfl (by kernel_rfl) (by kernel_rfl) (by kernel_rfl) (fun _ _ _ h => h) (Or.inl ⟨by rfl, ?h13_1⟩) (by assumption) ?r13_1
          case h13_1 => (intro w hSw; (try dsimp only at hSw); go_simp; try with_reducible rfl)
          try simp only [Act.put, List.setIfInBounds_toArray, List.set_cons_zero, List.set_cons_succ]
          refine wpAnyH_take (i := 14) (v := ?v14_1) rfl (by kernel_rfl) (by kernel_rfl) (by kernel_rfl) (fun _ _ _ h => h) (Or.inl ⟨by rfl, ?h14_1⟩) (by assumption) ?r14_1
          case h14_1 => (intro w hSw; (try dsimp only at hSw); go_simp; try with_reducible rfl)
          try simp only [Act.put, List.setIfInBounds_toArray, List.set_cons_zero, List.set_cons_succ]
          refine wpAnyH_take (i := 15) (v := ?v15_1) rfl (by kernel_rfl) (by kernel_rfl) (by kernel_rfl) (fun _ _ _ h => h) (Or.inl ⟨by rfl, ?h15_1⟩) (by assumption) ?r15_1
          case h15_1 => (intro w hSw; (try dsimp only at hSw); go_simp; try with_reducible rfl)
          try simp only [Act.put, List.setIfInBounds_toArray, List.set_cons_zero, List.set_cons_succ]
          refine wpAnyH_take (i := 16) (v := ?v16_1) rfl (by kernel_rfl) (by kernel_rfl) (by kernel_rfl) (fun _ _ _ h => h) (Or.inl ⟨by rfl, ?h16_1⟩) (by assumption) ?r16_1
          case h16_1 => (intro w hSw; (try dsimp only at hSw); go_simp; try with_reducible rfl)
          try simp only [Act.put, List.setIfInBounds_toArray, List.set_cons_zero, List.set_cons_succ]
          refine wpAnyH_take (i := 17) (v := ?v17_1) rfl (by kernel_rfl) (by kernel_rfl) (by kernel_rfl) (fun _ _ _ h => h) (Or.inl ⟨by rfl, ?h17_1⟩) (by assumption) ?r17_1
          case h17_1 => (intro w hSw; (try dsimp only at hSw); go_simp; try with_reducible rfl)
          try simp only [Act.put, List.setIfInBounds_toArray, List.set_cons_zero, List.set_cons_succ]
          refine wpAnyH_take (i := 18) (v := ?v18_1) rfl (by kernel_rfl) (by kernel_rfl) (by kernel_rfl) (fun _ _ _ h => h) (Or.inl ⟨by rfl, ?h18_1⟩) (by assumption) ?r18_1
          case h18_1 => (intro w hSw; (try dsimp only at hSw); go_simp; try with_reducible rfl)
          try simp only [Act.put, List.setIfInBounds_toArray, List.set_cons_zero, List.set_cons_succ]
          refine wpAnyH_take (i := 19) (v := ?v19_1) rfl (by kernel_rfl) (by kernel_rfl) (by kernel_rfl) (fun _ _ _ h => h) (Or.inl ⟨by rfl, ?h19_1⟩) (by assumption) ?r19_1
          case h19_1 => (intro w hSw; (try dsimp only at hSw); go_simp; try with_reducible rfl)
          try simp only [Act.put, List.setIfInBounds_toArray, List.set_cons_zero, List.set_cons_succ]
          refine wpAnyH_take (i := 20) (v := ?v20_1) rfl (by kernel_rfl) (by kernel_rfl) (by kernel_rfl) (fun _ _ _ h => h) (Or.inl ⟨by rfl, ?h20_1⟩) (by assumption) ?r20_1
          case h20_1 => (intro w hSw; (try dsimp only at hSw); go_simp; try with_reducible rfl)
          try simp only [Act.put, List.setIfInBounds_toArray, List.set_cons_zero, List.set_cons_succ]
          refine wpAnyH_take (i := 21) (v := ?v21_1) rfl (by kernel_rfl) (by kernel_rfl) (by kernel_rfl) (fun _ _ _ h => h) (Or.inl ⟨by rfl, ?h21_1⟩) (by assumption) ?r21_1
          case h21_1 => (intro w hSw; (try dsimp only at hSw); go_simp; try with_reducible rfl)
          try simp only [Act.put, List.setIfInBounds_toArray, List.set_cons_zero, List.set_cons_succ]
          refine wpAnyH_take (i := 24) (v := ?v24_1) rfl (by kernel_rfl) (by kernel_rfl) (by kernel_rfl) (fun _ _ _ h => h) (Or.inl ⟨by rfl, ?h24_1⟩) (by assumption) ?r24_1
          case h24_1 => (intro w hSw; (try dsimp only at hSw); go_simp; try with_reducible rfl)
          try simp only [Act.put, List.setIfInBounds_toArray, List.set_cons_zero, List.set_cons_succ]
          refine wpAnyH_ready (rs := [4, 22]) (by kernel_rfl) (by simp) ?_
          refine AllReadyH.cons rfl (fun K hK => ?_) (AllReadyH.cons rfl (fun K hK => ?_) AllReadyH.nil)
          · go_simp
            refine hK.out _ _ hHeld (fun hHeld => ?_)
            clear hK K
            try simp only [Act.put, List.setIfInBounds_toArray, List.set_cons_zero, List.set_cons_succ]
            refine wpAnyH_ready (rs := [22]) (by kernel_rfl) (by simp) ?_
            refine AllReadyH.cons rfl (fun K hK => ?_) AllReadyH.nil
            go_simp
            refine hK.out _ _ (keep3a hHeld _) (fun hHeld => ?_)
            clear hK K
            try simp only [Act.put, List.setIfInBounds_toArray, List.set_cons_zero, List.set_cons_succ]
            refine wpAnyH_ready (rs := [23]) (by kernel_rfl) (by simp) ?_
            refine AllReadyH.cons rfl (fun K hK => ?_) AllReadyH.nil
            refine step_appendI rfl _ _ 48 88 rfl Tryd.underlying48 Tryd.info88 (w.heap.size + 3) B k c (L1.take k) (some ⟨wr.heap.size, 0, none⟩) 1 1 [s'] (k + 1) rfl rfl rfl hO hIt hfar'.out hsz3 hn1 ?_
            intro A4 c4 x4 hown4 hg4 hat4
            have hC4 := (hCy.keep hV3).grown hg4 (fun e => absurd (hge'.out _ e).1 (by omega))
            have hqc4 := hC4.cell 1 rfl
            have hff4 := hC4.free 1
            refine hK.out _ _ (keep3g hHeld hg4 hne1 hne3 hne3) (fun hHeld => ?_)
            clear hK K
            try simp only [Act.put, List.setIfInBounds_toArray, List.set_cons_zero, List.set_cons_succ]
            refine wpAnyH_take (i := 25) (v := ?v25_1a) rfl (by kernel_rfl) (by kernel_rfl) (by kernel_rfl) (fun _ _ _ h => h) (Or.inl ⟨by rfl, ?h25_1a⟩) (by assumption) ?r25_1a
            case h25_1a => (intro w hSw; (try dsimp only at hSw); go_simp; try with_reducible rfl)
            try simp only [Act.put, List.setIfInBounds_toArray, List.set_cons_zero, List.set_cons_succ]
            refine wpAnyH_ready (rs := [26]) (by kernel_rfl) (by simp) ?_
            refine AllReadyH.cons rfl (fun K hK => ?_) AllReadyH.nil
            go_simp
            refine hK.out _ _ (keep3s hHeld hnp1 hnp3 hnp3) (fun hHeld => ?_)
            clear hK K
            try simp only [Act.put, List.setIfInBounds_toArray, List.set_cons_zero, List.set_cons_succ]
            refine wpAnyH_done (by kernel_rfl) ?_ _
            go_wp2_with fail
            rw [htk] at hown4
            have hat5 : ∀ q, A4.map (·.block) = some q → w.heap.size + 2 < q := fun q hq => by
              rcases hat4 with e | e
              · exact (hge'.out q (e ▸ hq)).1
              · have e2 := Option.some.inj (e.symm.trans hq); simp at e2; omega
            have hB4 := (hBy.keep hV3).grown hg4 (fun e => absurd (hge'.out _ e).1 (by omega))
            have hZ4 := (hZy.keep hV3).grown hg4 (fun e => absurd (hge'.out _ e).1 (by omega))
            have hI4 := ((hI0y.keep hV3).grown hg4 (fun q hq e => hney q e hq) (fun x hx hn q hq e => by
              obtain ⟨b1, o1, e1, h1⟩ := (h0.ok x hx).lt hn
              rw [e1] at e
              have e3 : b1 = q := Option.some.inj e
              have := (hge'.out q hq).1
              omega)).kept (S := fun i => i = w.heap.size + 2) (kept1 (W := x4) (p := w.heap.size + 2) (j := 1) (a := .slice A4 (k + 1) c4)) (fun q hq e => by have := (hb0 q hq).1; omega) (fun x hx hn q hq e => by
              obtain ⟨b1, o1, e1, h1⟩ := (h0.ok x hx).lt hn
              rw [e1] at hq
              have e3 : b1 = q := Option.some.inj hq
              omega)
            have hne4 : RowNe B0 A4 := fun q hq e => by
              rcases hat4 with e2 | e2
              · exact hney q hq (e2 ▸ e)
              · have e3 := Option.some.inj (e2.symm.trans e); simp at e3; have := (hb0 q hq).2; have := hbry; omega
          
            go_roundw
            case rel => exact ⟨k + 1, by omega, by go_num, A4, c4, hown4.link_set hC4 (link_no8 _ _ _ _ _ _ _) (fun q hq => by have := hat5 q hq; omega) 1 (.slice A4 (k + 1) c4), hC4.set 1 _, hB4.far (p := ⟨w.heap.size + 2, 1, none⟩) (by show w.heap.size ≠ w.heap.size + 2; omega) _, hZ4.far (p := ⟨w.heap.size + 2, 1, none⟩) (by show w.heap.size + 1 ≠ w.heap.size + 2; omega) _, b_set (p := ⟨w.heap.size + 2, 1, none⟩) (b_grown (b_then hby hV3) hg4 (fun q hq => by have := (hge'.out q hq).1; omega)) (by show w.heap.size ≤ w.heap.size + 2; omega) _, Nat.le_trans hbry (Nat.le_trans hV3.size (Nat.le_trans hg4.size (by simp))), hI4, hne4⟩
            case measure => simp [intOf]; omega
          · go_simp
            refine hK.out _ _ (keep3a hHeld _) (fun hHeld => ?_)
            clear hK K
            try simp only [Act.put, List.setIfInBounds_toArray, List.set_cons_zero, List.set_cons_succ]
            refine wpAnyH_ready (rs := [4]) (by kernel_rfl) (by simp) ?_
            refine AllReadyH.cons rfl (fun K hK => ?_) AllReadyH.nil
            go_simp
            refine hK.out _ _ hHeld (fun hHeld => ?_)
            clear hK K
            try simp only [Act.put, List.setIfInBounds_toArray, List.set_cons_zero, List.set_cons_succ]
            refine wpAnyH_ready (rs := [23]) (by kernel_rfl) (by simp) ?_
            refine AllReadyH.cons rfl (fun K hK => ?_) AllReadyH.nil
            refine step_appendI rfl _ _ 48 88 rfl Tryd.underlying48 Tryd.info88 (w.heap.size + 3) B k c (L1.take k) (some ⟨wr.heap.size, 0, none⟩) 1 1 [s'] (k + 1) rfl rfl rfl hO hIt hfar'.out hsz3 hn1 ?_
            intro A4 c4 x4 hown4 hg4 hat4
            have hC4 := (hCy.keep hV3).grown hg4 (fun e => absurd (hge'.out _ e).1 (by omega))
            have hqc4 := hC4.cell 1 rfl
            have hff4 := hC4.free 1
            refine hK.out _ _ (keep3g hHeld hg4 hne1 hne3 hne3) (fun hHeld => ?_)
            clear hK K
            try simp only [Act.put, List.setIfInBounds_toArray, List.set_cons_zero, List.set_cons_succ]
            refine wpAnyH_take (i := 25) (v := ?v25_1b) rfl (by kernel_rfl) (by kernel_rfl) (by kernel_rfl) (fun _ _ _ h => h) (Or.inl ⟨by rfl, ?h25_1b⟩) (by assumption) ?r25_1b
            case h25_1b => (intro w hSw; (try dsimp only at hSw); go_simp; try with_reducible rfl)
            try simp only [Act.put, List.setIfInBounds_toArray, List.set_cons_zero, List.set_cons_succ]
            refine wpAnyH_ready (rs := [26]) (by kernel_rfl) (by simp) ?_
            refine AllReadyH.cons rfl (fun K hK => ?_) AllReadyH.nil
            go_simp
            refine hK.out _ _ (keep3s hHeld hnp1 hnp3 hnp3) (fun hHeld => ?_)
            clear hK K
            try simp only [Act.put, List.setIfInBounds_toArray, List.set_cons_zero, List.set_cons_succ]
            refine wpAnyH_done (by kernel_rfl) ?_ _
            go_wp2_with fail
            rw [htk] at hown4
            have hat5 : ∀ q, A4.map (·.block) = some q → w.heap.size + 2 < q := fun q hq => by
              rcases hat4 with e | e
              · exact (hge'.out q (e ▸ hq)).1
              · have e2 := Option.some.inj (e.symm.trans hq); simp at e2; omega
            have hB4 := (hBy.keep hV3).grown hg4 (fun e => absurd (hge'.out _ e).1 (by omega))
            have hZ4 := (hZy.keep hV3).grown hg4 (fun e => absurd (hge'.out _ e).1 (by omega))
            have hI4 := ((hI0y.keep hV3).grown hg4 (fun q hq e => hney q e hq) (fun x hx hn q hq e => by
              obtain ⟨b1, o1, e1, h1⟩ := (h0.ok x hx).lt hn
              rw [e1] at e
              have e3 : b1 = q := Option.some.inj e
              have := (hge'.out q hq).1
              omega)).kept (S := fun i => i = w.heap.size + 2) (kept1 (W := x4) (p := w.heap.size + 2) (j := 1) (a := .slice A4 (k + 1) c4)) (fun q hq e => by have := (hb0 q hq).1; omega) (fun x hx hn q hq e => by
              obtain ⟨b1, o1, e1, h1⟩ := (h0.ok x hx).lt hn
              rw [e1] at hq
              have e3 : b1 = q := Option.some.inj hq
              omega)
            have hne4 : RowNe B0 A4 := fun q hq e => by
              rcases hat4 with e2 | e2
              · exact hney q hq (e2 ▸ e)
              · have e3 := Option.some.inj (e2.symm.trans e); simp at e3; have := (hb0 q hq).2; have := hbry; omega
          
            go_roundw
            case rel => exact ⟨k + 1, by omega, by go_num, A4, c4, hown4.link_set hC4 (link_no8 _ _ _ _ _ _ _) (fun q hq => by have := hat5 q hq; omega) 1 (.slice A4 (k + 1) c4), hC4.set 1 _, hB4.far (p := ⟨w.heap.size + 2, 1, none⟩) (by show w.heap.size ≠ w.heap.size + 2; omega) _, hZ4.far (p := ⟨w.heap.size + 2, 1, none⟩) (by show w.heap.size + 1 ≠ w.heap.size + 2; omega) _, b_set (p := ⟨w.heap.size + 2, 1, none⟩) (b_grown (b_then hby hV3) hg4 (fun q hq => by have := (hge'.out q hq).1; omega)) (by show w.heap.size ≤ w.heap.size + 2; omega) _, Nat.le_trans hbry (Nat.le_trans hV3.size (Nat.le_trans hg4.size (by simp))), hI4, hne4⟩
            case measure => simp [intOf]; omega
        · have hk' : k = n1 := by omega
          subst hk'
          have y1 := hBy.cell 1 rfl
          have hta : L1.take k = L1 := List.take_of_length_le (by rw [h1.len]; exact Nat.le_refl _)
          rw [hta] at hown
          go_wp2_with fail
          go_roundw
          case rel => exact ⟨2, by omega, rfl, hBy, hZy, hby, .inr (.inr ⟨rfl, B0, d0, B, c, hI0y, hown.items, (fun q hq => (hb0 q hq).1), (fun q hq => by have := (hown.ge q hq).1; omega), hCy⟩)⟩
          case measure => simp [intOf]
    · skip
      have k0 := hCr.cell 0 rfl
      have kf0 := hCr.free 0
      have k1 := hCr.cell 1 rfl
      have kf1 := hCr.free 1
      have k2 := hCr.cell 2 rfl
      have kf2 := hCr.free 2
      have z0 := hZr.cell 0 rfl
      have zf0 := hZr.free 0
      have z1 := hZr.cell 1 rfl
      have zf1 := hZr.free 1
      have z2 := hZr.cell 2 rfl
      have zf2 := hZr.free 2
      go_wp2_with fail
      refine bodyPost_ret (v := .agg #[.slice B0 n0 d0, .slice B1 n1 d1, .bool d]) (by simp [results, Tryd.results26, z0, z1, z2, zf0, zf1, zf2, go_sem]) rfl ?_
      exact ⟨_, rfl, link_result d hZr hI0 hI1 (fun q hq => by have := hb0 q hq; omega) (fun q hq => by have := hb1 q hq; omega) _ _ rfl rfl, below3 hbr (by omega)⟩
end Go.Proofs.YtbmfcaobhgeogaaDoor
