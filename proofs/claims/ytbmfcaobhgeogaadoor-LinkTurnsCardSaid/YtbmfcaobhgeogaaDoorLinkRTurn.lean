/-
  The document's Turn, by its contract.
-/
import Derived.Test.YtbmfcaobhgeogaaDoorLinkRTwice
namespace Go.Proofs.YtbmfcaobhgeogaaDoor
open Go.RowKit
set_option linter.unusedVariables false
set_option linter.unusedSimpArgs false
set_option maxRecDepth 100000

set_option maxHeartbeats 16000000 in
theorem rTurn_any (A0 : Option Addr) (n0 c0 : Nat) (L0 : List ItemV) (A1 : Option Addr) (n1 c1 : Nat) (L1 : List ItemV) (d : Bool) (k : Lk) (hk : k = ⟨says L0, says L1, d⟩) (side at_ bit : Int) (w : World) (hbit : bit < 9223372036854775808) (h0 : Items w A0 n0 c0 L0) (h1 : Items w A1 n1 c1 L1) :
    Calls Tryd.prog 35 #[(.agg #[.slice A0 n0 c0, .slice A1 n1 c1, .bool d]), .int .i64 side, .int .i64 at_, .int .i64 bit] w (RefP w (turnR k side at_ bit)) := by
  have hl0 : k.s0.length = n0 := by rw [hk]; exact (says_len L0).trans h0.len
  have hl1 : k.s1.length = n1 := by rw [hk]; exact (says_len L1).trans h1.len
  have hkd : k.d = d := by rw [hk]
  have hat := fun W => check_any A0 n0 c0 A1 n1 c1 k side at_ W hl0 hl1
  rw [hkd] at hat
  rcases atE_cases k side at_ with hE | hE | ⟨hE, hx⟩
  · rw [show turnR k side at_ bit = (Lk.zero, 1) by rw [turnR, hE]; rfl]
    rw [hE] at hat
    clear hl0 hl1 hkd
    have hbx := Lib.hid (box_two w #[.slice A0 n0 c0, .slice A1 n1 c1, .bool d] #[.slice none 0 0, .slice none 0 0, .bool false] 60 60)
    go_enter Tryd.func35, Tryd.ntmps35
    go_upto_region 1 with (fail)
    obtain ⟨hB, hC, hbel⟩ := hbx.out _ rfl
    generalize (w.alloc (Obj.cells #[.slice A0 n0 c0, .slice A1 n1 c1, .bool d] 60)).alloc (Obj.cells #[.slice none 0 0, .slice none 0 0, .bool false] 60) = W at hB hC hbel ⊢
    clear hbx
    have k0 := hB.cell 0 rfl
    have kf0 := hB.free 0
    have k1 := hB.cell 1 rfl
    have kf1 := hB.free 1
    have k2 := hB.cell 2 rfl
    have kf2 := hB.free 2
    go_wp2_with (go_at_call 44; refine (hat _).mono ?_; rintro e xa ⟨rfl, hba⟩; have hBa := hB.keep hba; have hCa := hC.keep hba; have k0 := hBa.cell 0 rfl; have k1 := hBa.cell 1 rfl; have k2 := hBa.cell 2 rfl; have z0 := hCa.cell 0 rfl; have z1 := hCa.cell 1 rfl; have z2 := hCa.cell 2 rfl; have zf0 := hCa.free 0; have zf1 := hCa.free 1; have zf2 := hCa.free 2)
    exact bodyPost_ret (v := .tuple #[.agg #[.slice none 0 0, .slice none 0 0, .bool false], .int .i64 1]) (by simp [results, Tryd.results35, z0, z1, z2, zf0, zf1, zf2, go_sem]) rfl ⟨none, 0, 0, [], none, 0, 0, [], rfl, Items.nil _, Items.nil _, rfl, rfl, below3 (b_then hbel hba) (Nat.le_succ _)⟩
  · rw [show turnR k side at_ bit = (Lk.zero, 8) by rw [turnR, hE]; rfl]
    rw [hE] at hat
    clear hl0 hl1 hkd
    have hbx := Lib.hid (box_two w #[.slice A0 n0 c0, .slice A1 n1 c1, .bool d] #[.slice none 0 0, .slice none 0 0, .bool false] 60 60)
    go_enter Tryd.func35, Tryd.ntmps35
    go_upto_region 1 with (fail)
    obtain ⟨hB, hC, hbel⟩ := hbx.out _ rfl
    generalize (w.alloc (Obj.cells #[.slice A0 n0 c0, .slice A1 n1 c1, .bool d] 60)).alloc (Obj.cells #[.slice none 0 0, .slice none 0 0, .bool false] 60) = W at hB hC hbel ⊢
    clear hbx
    have k0 := hB.cell 0 rfl
    have kf0 := hB.free 0
    have k1 := hB.cell 1 rfl
    have kf1 := hB.free 1
    have k2 := hB.cell 2 rfl
    have kf2 := hB.free 2
    go_wp2_with (go_at_call 44; refine (hat _).mono ?_; rintro e xa ⟨rfl, hba⟩; have hBa := hB.keep hba; have hCa := hC.keep hba; have k0 := hBa.cell 0 rfl; have k1 := hBa.cell 1 rfl; have k2 := hBa.cell 2 rfl; have z0 := hCa.cell 0 rfl; have z1 := hCa.cell 1 rfl; have z2 := hCa.cell 2 rfl; have zf0 := hCa.free 0; have zf1 := hCa.free 1; have zf2 := hCa.free 2)
    exact bodyPost_ret (v := .tuple #[.agg #[.slice none 0 0, .slice none 0 0, .bool false], .int .i64 8]) (by simp [results, Tryd.results35, z0, z1, z2, zf0, zf1, zf2, go_sem]) rfl ⟨none, 0, 0, [], none, 0, 0, [], rfl, Items.nil _, Items.nil _, rfl, rfl, below3 (b_then hbel hba) (Nat.le_succ _)⟩
  · rw [hE] at hat
    rcases hx with ⟨rfl, i, rfl, hi⟩ | ⟨rfl, i, rfl, hi⟩
    · obtain ⟨⟨sb, st⟩, hsay⟩ : ∃ x, k.s0[i]? = some x := ⟨_, List.getElem?_eq_getElem hi⟩
      have hpl : placeOf k 0 (i : Int) = (sb, st) := by simp [placeOf, hsay]
      rw [hl0] at hi
      by_cases hneg : bit < 0
      · rw [show turnR k 0 (i : Int) bit = (Lk.zero, 1) by rw [turnR, hE, hpl]; simp [hneg]]
        subst hk
        clear hl0 hl1 hkd hE hpl
        have hbx := Lib.hid (box_two w #[.slice A0 n0 c0, .slice A1 n1 c1, .bool d] #[.slice none 0 0, .slice none 0 0, .bool false] 60 60)
        go_enter Tryd.func35, Tryd.ntmps35
        go_upto_region 1 with (fail)
        obtain ⟨hB, hC, hbel⟩ := hbx.out _ rfl
        generalize (w.alloc (Obj.cells #[.slice A0 n0 c0, .slice A1 n1 c1, .bool d] 60)).alloc (Obj.cells #[.slice none 0 0, .slice none 0 0, .bool false] 60) = W at hB hC hbel ⊢
        clear hbx
        have k0 := hB.cell 0 rfl
        have kf0 := hB.free 0
        have k1 := hB.cell 1 rfl
        have kf1 := hB.free 1
        have k2 := hB.cell 2 rfl
        have kf2 := hB.free 2
        have hX := h0
        obtain ⟨s, b, off, hs, he, hc0, hc1, hsb⟩ := hX.at_ i hi
        subst he
        have hsx : s.b = sb ∧ s.t = st := by
          have h2 : (says L0)[i]? = some (s.b, s.t) := by simp [says, List.getElem?_map, hs, ItemV.say]
          rw [hsay] at h2
          exact ⟨(congrArg Prod.fst (Option.some.inj h2)).symm, (congrArg Prod.snd (Option.some.inj h2)).symm⟩
        have hsn := hsb.len
        rw [hsx.1] at hsn
        rw [hsx.2] at hc1
        have hsmx := hsb.max
        have i0 : (0 : Int) ≤ (i : Int) := by omega
        have i1 : (i : Int) < (n0 : Int) := by omega
        go_upto_region 4 with (go_at_call 44; refine (hat _).mono ?_; rintro e xa ⟨rfl, hba⟩; have hBa := hB.keep hba; have hCa := hC.keep hba; have k0 := hBa.cell 0 rfl; have k1 := hBa.cell 1 rfl; have k2 := hBa.cell 2 rfl; have z0 := hCa.cell 0 rfl; have z1 := hCa.cell 1 rfl; have z2 := hCa.cell 2 rfl; have zf0 := hCa.free 0; have zf1 := hCa.free 1; have zf2 := hCa.free 2)
        have hbela := b_then hbel hba
        have hc0a := cell_keep hc0 hbela
        have hc1a := cell_keep hc1 hbela
        have hX4 := Blk.new xa #[.slice s.A s.n s.c, .bool st] 91
        have hb4 := b_alloc (Below.refl xa.heap.size xa) (.cells #[.slice s.A s.n s.c, .bool st] 91)
        go_upto_region 5 with (fail)
        generalize hW4 : xa.alloc (.cells #[.slice s.A s.n s.c, .bool st] 91) = W4 at hX4 hb4 ⊢
        clear hW4 z0 z1 z2 zf0 zf1 zf2 k0 k1 k2 kf0 kf1 kf2
        have hB4 := hBa.keep hb4
        have hC4 := hCa.keep hb4
        have hbel4 := b_then hbela hb4
        clear hc0a hc1a
        have hq1 : bit < 0 := hneg
        have x0 := hX4.cell 0 rfl
        have xf0 := hX4.free 0
        have x1 := hX4.cell 1 rfl
        have xf1 := hX4.free 1
        have z0 := hC4.cell 0 rfl
        have zf0 := hC4.free 0
        have z1 := hC4.cell 1 rfl
        have zf1 := hC4.free 1
        have z2 := hC4.cell 2 rfl
        have zf2 := hC4.free 2
        go_wp2_with fail
        exact bodyPost_ret (v := .tuple #[.agg #[.slice none 0 0, .slice none 0 0, .bool false], .int .i64 1]) (by simp [results, Tryd.results35, z0, z1, z2, zf0, zf1, zf2, go_sem]) rfl ⟨none, 0, 0, [], none, 0, 0, [], rfl, Items.nil _, Items.nil _, rfl, rfl, below3 hbel4 (Nat.le_succ _)⟩
      · obtain ⟨m, rfl⟩ : ∃ m : Nat, bit = m := ⟨bit.toNat, by omega⟩
        clear hneg
        by_cases hbig : 8 * sb.length ≤ m
        · rw [show turnR k 0 (i : Int) (m : Int) = (Lk.zero, 1) by rw [turnR, hE, hpl]; simp; intro h; omega]
          subst hk
          clear hl0 hl1 hkd hE hpl
          have hbx := Lib.hid (box_two w #[.slice A0 n0 c0, .slice A1 n1 c1, .bool d] #[.slice none 0 0, .slice none 0 0, .bool false] 60 60)
          go_enter Tryd.func35, Tryd.ntmps35
          go_upto_region 1 with (fail)
          obtain ⟨hB, hC, hbel⟩ := hbx.out _ rfl
          generalize (w.alloc (Obj.cells #[.slice A0 n0 c0, .slice A1 n1 c1, .bool d] 60)).alloc (Obj.cells #[.slice none 0 0, .slice none 0 0, .bool false] 60) = W at hB hC hbel ⊢
          clear hbx
          have k0 := hB.cell 0 rfl
          have kf0 := hB.free 0
          have k1 := hB.cell 1 rfl
          have kf1 := hB.free 1
          have k2 := hB.cell 2 rfl
          have kf2 := hB.free 2
          have hX := h0
          obtain ⟨s, b, off, hs, he, hc0, hc1, hsb⟩ := hX.at_ i hi
          subst he
          have hsx : s.b = sb ∧ s.t = st := by
            have h2 : (says L0)[i]? = some (s.b, s.t) := by simp [says, List.getElem?_map, hs, ItemV.say]
            rw [hsay] at h2
            exact ⟨(congrArg Prod.fst (Option.some.inj h2)).symm, (congrArg Prod.snd (Option.some.inj h2)).symm⟩
          have hsn := hsb.len
          rw [hsx.1] at hsn
          rw [hsx.2] at hc1
          have hsmx := hsb.max
          have i0 : (0 : Int) ≤ (i : Int) := by omega
          have i1 : (i : Int) < (n0 : Int) := by omega
          go_upto_region 4 with (go_at_call 44; refine (hat _).mono ?_; rintro e xa ⟨rfl, hba⟩; have hBa := hB.keep hba; have hCa := hC.keep hba; have k0 := hBa.cell 0 rfl; have k1 := hBa.cell 1 rfl; have k2 := hBa.cell 2 rfl; have z0 := hCa.cell 0 rfl; have z1 := hCa.cell 1 rfl; have z2 := hCa.cell 2 rfl; have zf0 := hCa.free 0; have zf1 := hCa.free 1; have zf2 := hCa.free 2)
          have hbela := b_then hbel hba
          have hc0a := cell_keep hc0 hbela
          have hc1a := cell_keep hc1 hbela
          have hX4 := Blk.new xa #[.slice s.A s.n s.c, .bool st] 91
          have hb4 := b_alloc (Below.refl xa.heap.size xa) (.cells #[.slice s.A s.n s.c, .bool st] 91)
          go_upto_region 5 with (fail)
          generalize hW4 : xa.alloc (.cells #[.slice s.A s.n s.c, .bool st] 91) = W4 at hX4 hb4 ⊢
          clear hW4 z0 z1 z2 zf0 zf1 zf2 k0 k1 k2 kf0 kf1 kf2
          have hB4 := hBa.keep hb4
          have hC4 := hCa.keep hb4
          have hbel4 := b_then hbela hb4
          clear hc0a hc1a
          have hq1 : ¬ ((m : Nat) : Int) < 0 := by omega
          have hq3 : 8 * (s.n : Int) ≤ (m : Int) := by omega
          have x0 := hX4.cell 0 rfl
          have xf0 := hX4.free 0
          have x1 := hX4.cell 1 rfl
          have xf1 := hX4.free 1
          have z0 := hC4.cell 0 rfl
          have zf0 := hC4.free 0
          have z1 := hC4.cell 1 rfl
          have zf1 := hC4.free 1
          have z2 := hC4.cell 2 rfl
          have zf2 := hC4.free 2
          go_wp2_with fail
          exact bodyPost_ret (v := .tuple #[.agg #[.slice none 0 0, .slice none 0 0, .bool false], .int .i64 1]) (by simp [results, Tryd.results35, z0, z1, z2, zf0, zf1, zf2, go_sem]) rfl ⟨none, 0, 0, [], none, 0, 0, [], rfl, Items.nil _, Items.nil _, rfl, rfl, below3 hbel4 (Nat.le_succ _)⟩
        · cases st with
          | true =>
            rw [show turnR k 0 (i : Int) (m : Int) = (Lk.zero, 9) by rw [turnR, hE, hpl]; simp; omega]
            subst hk
            clear hl0 hl1 hkd hE hpl
            have hbx := Lib.hid (box_two w #[.slice A0 n0 c0, .slice A1 n1 c1, .bool d] #[.slice none 0 0, .slice none 0 0, .bool false] 60 60)
            go_enter Tryd.func35, Tryd.ntmps35
            go_upto_region 1 with (fail)
            obtain ⟨hB, hC, hbel⟩ := hbx.out _ rfl
            generalize (w.alloc (Obj.cells #[.slice A0 n0 c0, .slice A1 n1 c1, .bool d] 60)).alloc (Obj.cells #[.slice none 0 0, .slice none 0 0, .bool false] 60) = W at hB hC hbel ⊢
            clear hbx
            have k0 := hB.cell 0 rfl
            have kf0 := hB.free 0
            have k1 := hB.cell 1 rfl
            have kf1 := hB.free 1
            have k2 := hB.cell 2 rfl
            have kf2 := hB.free 2
            have hX := h0
            obtain ⟨s, b, off, hs, he, hc0, hc1, hsb⟩ := hX.at_ i hi
            subst he
            have hsx : s.b = sb ∧ s.t = true := by
              have h2 : (says L0)[i]? = some (s.b, s.t) := by simp [says, List.getElem?_map, hs, ItemV.say]
              rw [hsay] at h2
              exact ⟨(congrArg Prod.fst (Option.some.inj h2)).symm, (congrArg Prod.snd (Option.some.inj h2)).symm⟩
            have hsn := hsb.len
            rw [hsx.1] at hsn
            rw [hsx.2] at hc1
            have hsmx := hsb.max
            have i0 : (0 : Int) ≤ (i : Int) := by omega
            have i1 : (i : Int) < (n0 : Int) := by omega
            go_upto_region 4 with (go_at_call 44; refine (hat _).mono ?_; rintro e xa ⟨rfl, hba⟩; have hBa := hB.keep hba; have hCa := hC.keep hba; have k0 := hBa.cell 0 rfl; have k1 := hBa.cell 1 rfl; have k2 := hBa.cell 2 rfl; have z0 := hCa.cell 0 rfl; have z1 := hCa.cell 1 rfl; have z2 := hCa.cell 2 rfl; have zf0 := hCa.free 0; have zf1 := hCa.free 1; have zf2 := hCa.free 2)
            have hbela := b_then hbel hba
            have hc0a := cell_keep hc0 hbela
            have hc1a := cell_keep hc1 hbela
            have hX4 := Blk.new xa #[.slice s.A s.n s.c, .bool true] 91
            have hb4 := b_alloc (Below.refl xa.heap.size xa) (.cells #[.slice s.A s.n s.c, .bool true] 91)
            go_upto_region 5 with (fail)
            generalize hW4 : xa.alloc (.cells #[.slice s.A s.n s.c, .bool true] 91) = W4 at hX4 hb4 ⊢
            clear hW4 z0 z1 z2 zf0 zf1 zf2 k0 k1 k2 kf0 kf1 kf2
            have hB4 := hBa.keep hb4
            have hC4 := hCa.keep hb4
            have hbel4 := b_then hbela hb4
            clear hc0a hc1a
            have hq1 : ¬ ((m : Nat) : Int) < 0 := by omega
            have hq3 : ¬ 8 * (s.n : Int) ≤ (m : Int) := by omega
            have x0 := hX4.cell 0 rfl
            have xf0 := hX4.free 0
            have x1 := hX4.cell 1 rfl
            have xf1 := hX4.free 1
            have z0 := hC4.cell 0 rfl
            have zf0 := hC4.free 0
            have z1 := hC4.cell 1 rfl
            have zf1 := hC4.free 1
            have z2 := hC4.cell 2 rfl
            have zf2 := hC4.free 2
            go_wp2_with fail
            exact bodyPost_ret (v := .tuple #[.agg #[.slice none 0 0, .slice none 0 0, .bool false], .int .i64 9]) (by simp [results, Tryd.results35, z0, z1, z2, zf0, zf1, zf2, go_sem]) rfl ⟨none, 0, 0, [], none, 0, 0, [], rfl, Items.nil _, Items.nil _, rfl, rfl, below3 hbel4 (Nat.le_succ _)⟩
          | false =>
            rw [show turnR k 0 (i : Int) (m : Int) = (⟨k.s0.set i (turned (sb, false) m), k.s1, k.d⟩, 0) by rw [turnR, hE, hpl]; simp; omega]
            subst hk
            clear hl0 hl1 hkd hE hpl
            have hbx := Lib.hid (box_two w #[.slice A0 n0 c0, .slice A1 n1 c1, .bool d] #[.slice none 0 0, .slice none 0 0, .bool false] 60 60)
            go_enter Tryd.func35, Tryd.ntmps35
            go_upto_region 1 with (fail)
            obtain ⟨hB, hC, hbel⟩ := hbx.out _ rfl
            generalize (w.alloc (Obj.cells #[.slice A0 n0 c0, .slice A1 n1 c1, .bool d] 60)).alloc (Obj.cells #[.slice none 0 0, .slice none 0 0, .bool false] 60) = W at hB hC hbel ⊢
            clear hbx
            have k0 := hB.cell 0 rfl
            have kf0 := hB.free 0
            have k1 := hB.cell 1 rfl
            have kf1 := hB.free 1
            have k2 := hB.cell 2 rfl
            have kf2 := hB.free 2
            have hX := h0
            obtain ⟨s, b, off, hs, he, hc0, hc1, hsb⟩ := hX.at_ i hi
            subst he
            have hsx : s.b = sb ∧ s.t = false := by
              have h2 : (says L0)[i]? = some (s.b, s.t) := by simp [says, List.getElem?_map, hs, ItemV.say]
              rw [hsay] at h2
              exact ⟨(congrArg Prod.fst (Option.some.inj h2)).symm, (congrArg Prod.snd (Option.some.inj h2)).symm⟩
            have hsn := hsb.len
            rw [hsx.1] at hsn
            rw [hsx.2] at hc1
            have hsmx := hsb.max
            have i0 : (0 : Int) ≤ (i : Int) := by omega
            have i1 : (i : Int) < (n0 : Int) := by omega
            go_upto_region 4 with (go_at_call 44; refine (hat _).mono ?_; rintro e xa ⟨rfl, hba⟩; have hBa := hB.keep hba; have hCa := hC.keep hba; have k0 := hBa.cell 0 rfl; have k1 := hBa.cell 1 rfl; have k2 := hBa.cell 2 rfl; have z0 := hCa.cell 0 rfl; have z1 := hCa.cell 1 rfl; have z2 := hCa.cell 2 rfl; have zf0 := hCa.free 0; have zf1 := hCa.free 1; have zf2 := hCa.free 2)
            have hbela := b_then hbel hba
            have hc0a := cell_keep hc0 hbela
            have hc1a := cell_keep hc1 hbela
            have hX4 := Blk.new xa #[.slice s.A s.n s.c, .bool false] 91
            have hb4 := b_alloc (Below.refl xa.heap.size xa) (.cells #[.slice s.A s.n s.c, .bool false] 91)
            go_upto_region 5 with (fail)
            generalize hW4 : xa.alloc (.cells #[.slice s.A s.n s.c, .bool false] 91) = W4 at hX4 hb4 ⊢
            clear hW4 z0 z1 z2 zf0 zf1 zf2 k0 k1 k2 kf0 kf1 kf2
            have hB4 := hBa.keep hb4
            have hC4 := hCa.keep hb4
            have hbel4 := b_then hbela hb4
            clear hc0a hc1a
            have hq1 : ¬ ((m : Nat) : Int) < 0 := by omega
            have hq3 : ¬ 8 * (s.n : Int) ≤ (m : Int) := by omega
            have x0 := hX4.cell 0 rfl
            have xf0 := hX4.free 0
            have x1 := hX4.cell 1 rfl
            have xf1 := hX4.free 1
            have hsb4 := hsb.keep hbel4
            have hsn0 : 0 < s.n := by omega
            go_upto_region 11 with (at_builtin; refine wp_append rfl _ _ 47 5 rfl Tryd.underlying47 Tryd.info5 W4.heap.size none 0 0 [] s.A s.n s.c s.b s.n (Nat.zero_add _).symm rfl rfl (Own.nil _ _ _) hsb4 (Nat.le_refl _) (by omega) ?_; intro B cb x5 hownb hgb hatb)
            rw [List.nil_append, hsx.1] at hownb
            obtain ⟨gb, rfl, hgb1, hgb2, hgb3⟩ := hownb.form hsn0
            have hb5 : Below W4.heap.size W4 x5 := below_of_none hgb
            clear hgb hatb x0 x1 xf0 xf1
            obtain ⟨q, hqd⟩ : ∃ q, m / 8 = q := ⟨_, rfl⟩
            have hqd' := Lib.hid hqd
            have hqq : q < s.n := by omega
            obtain ⟨hcq, hfq, _, _⟩ := hownb.cell q hqq
            have hv : sb.getD q 0 < 256 := getD_small hownb.small _
            have hr8 : m % 8 < 8 := by omega
            obtain ⟨v, hvd⟩ : ∃ v, sb.getD q 0 = v := ⟨_, rfl⟩
            obtain ⟨r, hrd⟩ : ∃ r, m % 8 = r := ⟨_, rfl⟩
            have hvd' := Lib.hid hvd
            have hrd' := Lib.hid hrd
            have hq2 : ((m : Nat) : Int).tdiv 8 = (q : Int) := by rw [Int.tdiv_eq_ediv_of_nonneg (by omega)]; omega
            have hq6 : ((m : Nat) : Int).tmod 8 = (r : Int) := by rw [Int.tmod_eq_emod_of_nonneg (by omega)]; omega
            have hq4 : (0 : Int) ≤ (q : Int) := by omega
            have hq5 : (q : Int) < (s.n : Int) := by omega
            rw [hvd] at hcq hv
            rw [hrd] at hr8
            clear hvd hrd
            have hcqd : x5.drew.cell? ⟨gb, q, none⟩ = some (.int .u8 (v : Int)) := hcq
            have hfqd : x5.drew.frozen? ⟨gb, q, none⟩ = false := hfq
            have hq2h := Lib.hid (show IntKind.i64.wrap (q : Int) = (q : Int) from IntWalk.i64_in _ (by omega))
            clear hqd
            have hq8 : 128 / 2 ^ r < 256 := Nat.lt_of_le_of_lt (Nat.div_le_self _ _) (by decide)
            have hxv : bits .xor .u8 (v : Int) (128 / 2 ^ r) = ((v ^^^ 128 / 2 ^ r : Nat) : Int) := by
              have := u8_xor_nat v (128 / 2 ^ r) hv hq8
              rw [← this]
              simp
            have hx8 : v ^^^ 128 / 2 ^ r < 256 := Nat.xor_lt_two_pow (n := 8) hv hq8
            have hq2w := hq2h.out
            go_region
            clear hq2w
            go_upto_region 13 with (fail)
            try rw [hxv]
            have hown11 := (hownb.set q (v ^^^ 128 / 2 ^ r) hx8).keep (b_drew (Below.refl _ _))
            have hb11 : Below W4.heap.size W4 (x5.setCell ⟨gb, q, none⟩ (.int .u8 ((v ^^^ 128 / 2 ^ r : Nat) : Int))).drew := b_drew (b_set (p := ⟨gb, q, none⟩) hb5 hgb1 _)
            generalize (x5.setCell ⟨gb, q, none⟩ (.int .u8 ((v ^^^ 128 / 2 ^ r : Nat) : Int))).drew = W11 at hown11 hb11 ⊢
            clear hxv hx8 hcq hcqd hfq hfqd hownb hb5 hgb3 hq2 hq6
            have hB11 := hB4.keep hb11
            have hC11 := hC4.keep hb11
            have hbel11 := b_then hbel4 hb11
            have hX11 := hX.keep hbel11
            have k0 := hB11.cell 0 rfl
            have kf0 := hB11.free 0
            have k1 := hB11.cell 1 rfl
            have kf1 := hB11.free 1
            have k2 := hB11.cell 2 rfl
            have kf2 := hB11.free 2
            go_upto_region 14 with (at_builtin; refine wp_appendI rfl _ _ 57 91 rfl Tryd.underlying57 Tryd.info91 W11.heap.size none 0 0 [] (some ⟨b, off, none⟩) n0 c0 L0 n0 (Nat.zero_add _).symm rfl rfl (OwnI.nil _ _ _) hX11 (fun s hs hn k hk => by simp at hk) (Nat.le_refl _) (Nat.le_trans (Nat.le_of_eq (Nat.zero_add _)) hX.max) ?_; intro C cC x7 hownI hgI hatI)
            rw [List.nil_append] at hownI
            obtain ⟨gC, rfl, hgC1, hgC2, hgC3⟩ := hownI.form (by omega)
            have hb7 : Below W11.heap.size W11 x7 := below_of_none hgI
            clear hgI hatI k0 k1 k2 kf0 kf1 kf2
            have hown7 := hown11.keep hb7
            obtain ⟨s9, b9, o9, hs9, he9, hd0, hd1, _⟩ := hownI.items.at_ i hi
            simp only [Option.some.injEq, Addr.mk.injEq, and_true] at he9
            obtain ⟨rfl, rfl⟩ := he9
            simp only [Nat.zero_add] at hd0 hd1
            have hdf0 := hgC3 (i * 2)
            have hdf1 := hgC3 (i * 2 + 1)
            have hgbC : gb ≠ gC := by have := (hown11.ge gb rfl).2; omega
            have hO1 := hownI.set0 i s ⟨some ⟨gb, 0, none⟩, s.n, cb, sb.set q (v ^^^ 128 / 2 ^ r), s.t⟩ hs rfl hown7.bs (fun _ e => hgbC (Option.some.inj e))
            have hO2 := hO1.set1 i ⟨some ⟨gb, 0, none⟩, s.n, cb, sb.set q (v ^^^ 128 / 2 ^ r), s.t⟩ ⟨some ⟨gb, 0, none⟩, s.n, cb, sb.set q (v ^^^ 128 / 2 ^ r), true⟩ (by rw [List.getElem?_set_self]; rw [hownI.len]; exact hi) rfl rfl rfl rfl
            go_upto_region 15 with (fail)
            have hpC : w.heap.size + 1 < gC := by have := hC11.lt; omega
            have hB14 := ((hB11.keep hb7).far (p := ⟨gC, i * 2, none⟩) (by show w.heap.size ≠ gC; omega) (.slice (some ⟨gb, 0, none⟩) s.n cb)).far (p := ⟨gC, i * 2 + 1, none⟩) (by show w.heap.size ≠ gC; omega) (.bool true)
            have hC14 := ((hC11.keep hb7).far (p := ⟨gC, i * 2, none⟩) (by show w.heap.size + 1 ≠ gC; omega) (.slice (some ⟨gb, 0, none⟩) s.n cb)).far (p := ⟨gC, i * 2 + 1, none⟩) (by show w.heap.size + 1 ≠ gC; omega) (.bool true)
            have hbel14 : Below w.heap.size w ((x7.setCell ⟨gC, i * 2, none⟩ (.slice (some ⟨gb, 0, none⟩) s.n cb)).setCell ⟨gC, i * 2 + 1, none⟩ (.bool true)) := b_set (p := ⟨gC, i * 2 + 1, none⟩) (b_set (p := ⟨gC, i * 2, none⟩) (b_then hbel11 hb7) (by show w.heap.size ≤ gC; omega) _) (by show w.heap.size ≤ gC; omega) _
            have hsy : says ((L0.set i ⟨some ⟨gb, 0, none⟩, s.n, cb, sb.set q (v ^^^ 128 / 2 ^ r), s.t⟩).set i ⟨some ⟨gb, 0, none⟩, s.n, cb, sb.set q (v ^^^ 128 / 2 ^ r), true⟩) = (says L0).set i (turned (sb, false) m) := by
              rw [List.set_set]
              simp only [says, List.map_set, ItemV.say, turned, hqd'.out, hrd'.out, hvd'.out]
            have hI14 := hO2.items
            generalize ((x7.setCell ⟨gC, i * 2, none⟩ (.slice (some ⟨gb, 0, none⟩) s.n cb)).setCell ⟨gC, i * 2 + 1, none⟩ (.bool true)) = W14 at hB14 hC14 hbel14 hI14 ⊢
            clear hO1 hO2 hownI hown7 hd0 hd1 hdf0 hdf1 hgC3
            have k0 := hB14.cell 0 rfl
            have kf0 := hB14.free 0
            have k1 := hB14.cell 1 rfl
            have kf1 := hB14.free 1
            have k2 := hB14.cell 2 rfl
            have kf2 := hB14.free 2
            go_wp2_with (go_at_call 43; refine (with_any (some ⟨b, off, none⟩) n0 c0 A1 n1 c1 d 0 (by omega) (some ⟨gC, 0, none⟩) n0 cC _).mono ?_; rintro e x9 ⟨rfl, hb9⟩; have hC9 := hC14.keep hb9; have y0 := hC9.cell 0 rfl; have y1 := hC9.cell 1 rfl; have y2 := hC9.cell 2 rfl; have yf0 := hC9.free 0; have yf1 := hC9.free 1; have yf2 := hC9.free 2)
            have hbz := below3 (p := w.heap.size + 1) (a := .slice (some ⟨gC, 0, none⟩) n0 cC) (b := .slice A1 n1 c1) (c := .bool d) (b_then hbel14 hb9) (Nat.le_succ _)
            have hI9 := hI14.keep hb9
            have hIf := hI9.kept (kept3 (p := w.heap.size + 1) (a := .slice (some ⟨gC, 0, none⟩) n0 cC) (b := .slice A1 n1 c1) (c := .bool d)) (fun q hq e => by have : gC = q := Option.some.inj hq; omega) (fun s hs hn q hq e => (hI9.ok s hs).apart hC9 (link_no8 _ _ _ _ _ _ _) hn (by rw [hq, e]))
            exact bodyPost_ret (v := .tuple #[.agg #[.slice (some ⟨gC, 0, none⟩) n0 cC, .slice A1 n1 c1, .bool d], .int .i64 0]) (by simp [results, Tryd.results35, y0, y1, y2, yf0, yf1, yf2, go_sem]) rfl ⟨some ⟨gC, 0, none⟩, n0, cC, _, A1, n1, c1, L1, rfl, hIf, h1.keep hbz, hsy, rfl, hbz⟩
    · obtain ⟨⟨sb, st⟩, hsay⟩ : ∃ x, k.s1[i]? = some x := ⟨_, List.getElem?_eq_getElem hi⟩
      have hpl : placeOf k 1 (i : Int) = (sb, st) := by simp [placeOf, hsay]
      rw [hl1] at hi
      by_cases hneg : bit < 0
      · rw [show turnR k 1 (i : Int) bit = (Lk.zero, 1) by rw [turnR, hE, hpl]; simp [hneg]]
        subst hk
        clear hl0 hl1 hkd hE hpl
        have hbx := Lib.hid (box_two w #[.slice A0 n0 c0, .slice A1 n1 c1, .bool d] #[.slice none 0 0, .slice none 0 0, .bool false] 60 60)
        go_enter Tryd.func35, Tryd.ntmps35
        go_upto_region 1 with (fail)
        obtain ⟨hB, hC, hbel⟩ := hbx.out _ rfl
        generalize (w.alloc (Obj.cells #[.slice A0 n0 c0, .slice A1 n1 c1, .bool d] 60)).alloc (Obj.cells #[.slice none 0 0, .slice none 0 0, .bool false] 60) = W at hB hC hbel ⊢
        clear hbx
        have k0 := hB.cell 0 rfl
        have kf0 := hB.free 0
        have k1 := hB.cell 1 rfl
        have kf1 := hB.free 1
        have k2 := hB.cell 2 rfl
        have kf2 := hB.free 2
        have hX := h1
        obtain ⟨s, b, off, hs, he, hc0, hc1, hsb⟩ := hX.at_ i hi
        subst he
        have hsx : s.b = sb ∧ s.t = st := by
          have h2 : (says L1)[i]? = some (s.b, s.t) := by simp [says, List.getElem?_map, hs, ItemV.say]
          rw [hsay] at h2
          exact ⟨(congrArg Prod.fst (Option.some.inj h2)).symm, (congrArg Prod.snd (Option.some.inj h2)).symm⟩
        have hsn := hsb.len
        rw [hsx.1] at hsn
        rw [hsx.2] at hc1
        have hsmx := hsb.max
        have i0 : (0 : Int) ≤ (i : Int) := by omega
        have i1 : (i : Int) < (n1 : Int) := by omega
        go_upto_region 4 with (go_at_call 44; refine (hat _).mono ?_; rintro e xa ⟨rfl, hba⟩; have hBa := hB.keep hba; have hCa := hC.keep hba; have k0 := hBa.cell 0 rfl; have k1 := hBa.cell 1 rfl; have k2 := hBa.cell 2 rfl; have z0 := hCa.cell 0 rfl; have z1 := hCa.cell 1 rfl; have z2 := hCa.cell 2 rfl; have zf0 := hCa.free 0; have zf1 := hCa.free 1; have zf2 := hCa.free 2)
        have hbela := b_then hbel hba
        have hc0a := cell_keep hc0 hbela
        have hc1a := cell_keep hc1 hbela
        have hX4 := Blk.new xa #[.slice s.A s.n s.c, .bool st] 91
        have hb4 := b_alloc (Below.refl xa.heap.size xa) (.cells #[.slice s.A s.n s.c, .bool st] 91)
        go_upto_region 5 with (fail)
        generalize hW4 : xa.alloc (.cells #[.slice s.A s.n s.c, .bool st] 91) = W4 at hX4 hb4 ⊢
        clear hW4 z0 z1 z2 zf0 zf1 zf2 k0 k1 k2 kf0 kf1 kf2
        have hB4 := hBa.keep hb4
        have hC4 := hCa.keep hb4
        have hbel4 := b_then hbela hb4
        clear hc0a hc1a
        have hq1 : bit < 0 := hneg
        have x0 := hX4.cell 0 rfl
        have xf0 := hX4.free 0
        have x1 := hX4.cell 1 rfl
        have xf1 := hX4.free 1
        have z0 := hC4.cell 0 rfl
        have zf0 := hC4.free 0
        have z1 := hC4.cell 1 rfl
        have zf1 := hC4.free 1
        have z2 := hC4.cell 2 rfl
        have zf2 := hC4.free 2
        go_wp2_with fail
        exact bodyPost_ret (v := .tuple #[.agg #[.slice none 0 0, .slice none 0 0, .bool false], .int .i64 1]) (by simp [results, Tryd.results35, z0, z1, z2, zf0, zf1, zf2, go_sem]) rfl ⟨none, 0, 0, [], none, 0, 0, [], rfl, Items.nil _, Items.nil _, rfl, rfl, below3 hbel4 (Nat.le_succ _)⟩
      · obtain ⟨m, rfl⟩ : ∃ m : Nat, bit = m := ⟨bit.toNat, by omega⟩
        clear hneg
        by_cases hbig : 8 * sb.length ≤ m
        · rw [show turnR k 1 (i : Int) (m : Int) = (Lk.zero, 1) by rw [turnR, hE, hpl]; simp; intro h; omega]
          subst hk
          clear hl0 hl1 hkd hE hpl
          have hbx := Lib.hid (box_two w #[.slice A0 n0 c0, .slice A1 n1 c1, .bool d] #[.slice none 0 0, .slice none 0 0, .bool false] 60 60)
          go_enter Tryd.func35, Tryd.ntmps35
          go_upto_region 1 with (fail)
          obtain ⟨hB, hC, hbel⟩ := hbx.out _ rfl
          generalize (w.alloc (Obj.cells #[.slice A0 n0 c0, .slice A1 n1 c1, .bool d] 60)).alloc (Obj.cells #[.slice none 0 0, .slice none 0 0, .bool false] 60) = W at hB hC hbel ⊢
          clear hbx
          have k0 := hB.cell 0 rfl
          have kf0 := hB.free 0
          have k1 := hB.cell 1 rfl
          have kf1 := hB.free 1
          have k2 := hB.cell 2 rfl
          have kf2 := hB.free 2
          have hX := h1
          obtain ⟨s, b, off, hs, he, hc0, hc1, hsb⟩ := hX.at_ i hi
          subst he
          have hsx : s.b = sb ∧ s.t = st := by
            have h2 : (says L1)[i]? = some (s.b, s.t) := by simp [says, List.getElem?_map, hs, ItemV.say]
            rw [hsay] at h2
            exact ⟨(congrArg Prod.fst (Option.some.inj h2)).symm, (congrArg Prod.snd (Option.some.inj h2)).symm⟩
          have hsn := hsb.len
          rw [hsx.1] at hsn
          rw [hsx.2] at hc1
          have hsmx := hsb.max
          have i0 : (0 : Int) ≤ (i : Int) := by omega
          have i1 : (i : Int) < (n1 : Int) := by omega
          go_upto_region 4 with (go_at_call 44; refine (hat _).mono ?_; rintro e xa ⟨rfl, hba⟩; have hBa := hB.keep hba; have hCa := hC.keep hba; have k0 := hBa.cell 0 rfl; have k1 := hBa.cell 1 rfl; have k2 := hBa.cell 2 rfl; have z0 := hCa.cell 0 rfl; have z1 := hCa.cell 1 rfl; have z2 := hCa.cell 2 rfl; have zf0 := hCa.free 0; have zf1 := hCa.free 1; have zf2 := hCa.free 2)
          have hbela := b_then hbel hba
          have hc0a := cell_keep hc0 hbela
          have hc1a := cell_keep hc1 hbela
          have hX4 := Blk.new xa #[.slice s.A s.n s.c, .bool st] 91
          have hb4 := b_alloc (Below.refl xa.heap.size xa) (.cells #[.slice s.A s.n s.c, .bool st] 91)
          go_upto_region 5 with (fail)
          generalize hW4 : xa.alloc (.cells #[.slice s.A s.n s.c, .bool st] 91) = W4 at hX4 hb4 ⊢
          clear hW4 z0 z1 z2 zf0 zf1 zf2 k0 k1 k2 kf0 kf1 kf2
          have hB4 := hBa.keep hb4
          have hC4 := hCa.keep hb4
          have hbel4 := b_then hbela hb4
          clear hc0a hc1a
          have hq1 : ¬ ((m : Nat) : Int) < 0 := by omega
          have hq3 : 8 * (s.n : Int) ≤ (m : Int) := by omega
          have x0 := hX4.cell 0 rfl
          have xf0 := hX4.free 0
          have x1 := hX4.cell 1 rfl
          have xf1 := hX4.free 1
          have z0 := hC4.cell 0 rfl
          have zf0 := hC4.free 0
          have z1 := hC4.cell 1 rfl
          have zf1 := hC4.free 1
          have z2 := hC4.cell 2 rfl
          have zf2 := hC4.free 2
          go_wp2_with fail
          exact bodyPost_ret (v := .tuple #[.agg #[.slice none 0 0, .slice none 0 0, .bool false], .int .i64 1]) (by simp [results, Tryd.results35, z0, z1, z2, zf0, zf1, zf2, go_sem]) rfl ⟨none, 0, 0, [], none, 0, 0, [], rfl, Items.nil _, Items.nil _, rfl, rfl, below3 hbel4 (Nat.le_succ _)⟩
        · cases st with
          | true =>
            rw [show turnR k 1 (i : Int) (m : Int) = (Lk.zero, 9) by rw [turnR, hE, hpl]; simp; omega]
            subst hk
            clear hl0 hl1 hkd hE hpl
            have hbx := Lib.hid (box_two w #[.slice A0 n0 c0, .slice A1 n1 c1, .bool d] #[.slice none 0 0, .slice none 0 0, .bool false] 60 60)
            go_enter Tryd.func35, Tryd.ntmps35
            go_upto_region 1 with (fail)
            obtain ⟨hB, hC, hbel⟩ := hbx.out _ rfl
            generalize (w.alloc (Obj.cells #[.slice A0 n0 c0, .slice A1 n1 c1, .bool d] 60)).alloc (Obj.cells #[.slice none 0 0, .slice none 0 0, .bool false] 60) = W at hB hC hbel ⊢
            clear hbx
            have k0 := hB.cell 0 rfl
            have kf0 := hB.free 0
            have k1 := hB.cell 1 rfl
            have kf1 := hB.free 1
            have k2 := hB.cell 2 rfl
            have kf2 := hB.free 2
            have hX := h1
            obtain ⟨s, b, off, hs, he, hc0, hc1, hsb⟩ := hX.at_ i hi
            subst he
            have hsx : s.b = sb ∧ s.t = true := by
              have h2 : (says L1)[i]? = some (s.b, s.t) := by simp [says, List.getElem?_map, hs, ItemV.say]
              rw [hsay] at h2
              exact ⟨(congrArg Prod.fst (Option.some.inj h2)).symm, (congrArg Prod.snd (Option.some.inj h2)).symm⟩
            have hsn := hsb.len
            rw [hsx.1] at hsn
            rw [hsx.2] at hc1
            have hsmx := hsb.max
            have i0 : (0 : Int) ≤ (i : Int) := by omega
            have i1 : (i : Int) < (n1 : Int) := by omega
            go_upto_region 4 with (go_at_call 44; refine (hat _).mono ?_; rintro e xa ⟨rfl, hba⟩; have hBa := hB.keep hba; have hCa := hC.keep hba; have k0 := hBa.cell 0 rfl; have k1 := hBa.cell 1 rfl; have k2 := hBa.cell 2 rfl; have z0 := hCa.cell 0 rfl; have z1 := hCa.cell 1 rfl; have z2 := hCa.cell 2 rfl; have zf0 := hCa.free 0; have zf1 := hCa.free 1; have zf2 := hCa.free 2)
            have hbela := b_then hbel hba
            have hc0a := cell_keep hc0 hbela
            have hc1a := cell_keep hc1 hbela
            have hX4 := Blk.new xa #[.slice s.A s.n s.c, .bool true] 91
            have hb4 := b_alloc (Below.refl xa.heap.size xa) (.cells #[.slice s.A s.n s.c, .bool true] 91)
            go_upto_region 5 with (fail)
            generalize hW4 : xa.alloc (.cells #[.slice s.A s.n s.c, .bool true] 91) = W4 at hX4 hb4 ⊢
            clear hW4 z0 z1 z2 zf0 zf1 zf2 k0 k1 k2 kf0 kf1 kf2
            have hB4 := hBa.keep hb4
            have hC4 := hCa.keep hb4
            have hbel4 := b_then hbela hb4
            clear hc0a hc1a
            have hq1 : ¬ ((m : Nat) : Int) < 0 := by omega
            have hq3 : ¬ 8 * (s.n : Int) ≤ (m : Int) := by omega
            have x0 := hX4.cell 0 rfl
            have xf0 := hX4.free 0
            have x1 := hX4.cell 1 rfl
            have xf1 := hX4.free 1
            have z0 := hC4.cell 0 rfl
            have zf0 := hC4.free 0
            have z1 := hC4.cell 1 rfl
            have zf1 := hC4.free 1
            have z2 := hC4.cell 2 rfl
            have zf2 := hC4.free 2
            go_wp2_with fail
            exact bodyPost_ret (v := .tuple #[.agg #[.slice none 0 0, .slice none 0 0, .bool false], .int .i64 9]) (by simp [results, Tryd.results35, z0, z1, z2, zf0, zf1, zf2, go_sem]) rfl ⟨none, 0, 0, [], none, 0, 0, [], rfl, Items.nil _, Items.nil _, rfl, rfl, below3 hbel4 (Nat.le_succ _)⟩
          | false =>
            rw [show turnR k 1 (i : Int) (m : Int) = (⟨k.s0, k.s1.set i (turned (sb, false) m), k.d⟩, 0) by rw [turnR, hE, hpl]; simp; omega]
            subst hk
            clear hl0 hl1 hkd hE hpl
            have hbx := Lib.hid (box_two w #[.slice A0 n0 c0, .slice A1 n1 c1, .bool d] #[.slice none 0 0, .slice none 0 0, .bool false] 60 60)
            go_enter Tryd.func35, Tryd.ntmps35
            go_upto_region 1 with (fail)
            obtain ⟨hB, hC, hbel⟩ := hbx.out _ rfl
            generalize (w.alloc (Obj.cells #[.slice A0 n0 c0, .slice A1 n1 c1, .bool d] 60)).alloc (Obj.cells #[.slice none 0 0, .slice none 0 0, .bool false] 60) = W at hB hC hbel ⊢
            clear hbx
            have k0 := hB.cell 0 rfl
            have kf0 := hB.free 0
            have k1 := hB.cell 1 rfl
            have kf1 := hB.free 1
            have k2 := hB.cell 2 rfl
            have kf2 := hB.free 2
            have hX := h1
            obtain ⟨s, b, off, hs, he, hc0, hc1, hsb⟩ := hX.at_ i hi
            subst he
            have hsx : s.b = sb ∧ s.t = false := by
              have h2 : (says L1)[i]? = some (s.b, s.t) := by simp [says, List.getElem?_map, hs, ItemV.say]
              rw [hsay] at h2
              exact ⟨(congrArg Prod.fst (Option.some.inj h2)).symm, (congrArg Prod.snd (Option.some.inj h2)).symm⟩
            have hsn := hsb.len
            rw [hsx.1] at hsn
            rw [hsx.2] at hc1
            have hsmx := hsb.max
            have i0 : (0 : Int) ≤ (i : Int) := by omega
            have i1 : (i : Int) < (n1 : Int) := by omega
            go_upto_region 4 with (go_at_call 44; refine (hat _).mono ?_; rintro e xa ⟨rfl, hba⟩; have hBa := hB.keep hba; have hCa := hC.keep hba; have k0 := hBa.cell 0 rfl; have k1 := hBa.cell 1 rfl; have k2 := hBa.cell 2 rfl; have z0 := hCa.cell 0 rfl; have z1 := hCa.cell 1 rfl; have z2 := hCa.cell 2 rfl; have zf0 := hCa.free 0; have zf1 := hCa.free 1; have zf2 := hCa.free 2)
            have hbela := b_then hbel hba
            have hc0a := cell_keep hc0 hbela
            have hc1a := cell_keep hc1 hbela
            have hX4 := Blk.new xa #[.slice s.A s.n s.c, .bool false] 91
            have hb4 := b_alloc (Below.refl xa.heap.size xa) (.cells #[.slice s.A s.n s.c, .bool false] 91)
            go_upto_region 5 with (fail)
            generalize hW4 : xa.alloc (.cells #[.slice s.A s.n s.c, .bool false] 91) = W4 at hX4 hb4 ⊢
            clear hW4 z0 z1 z2 zf0 zf1 zf2 k0 k1 k2 kf0 kf1 kf2
            have hB4 := hBa.keep hb4
            have hC4 := hCa.keep hb4
            have hbel4 := b_then hbela hb4
            clear hc0a hc1a
            have hq1 : ¬ ((m : Nat) : Int) < 0 := by omega
            have hq3 : ¬ 8 * (s.n : Int) ≤ (m : Int) := by omega
            have x0 := hX4.cell 0 rfl
            have xf0 := hX4.free 0
            have x1 := hX4.cell 1 rfl
            have xf1 := hX4.free 1
            have hsb4 := hsb.keep hbel4
            have hsn0 : 0 < s.n := by omega
            go_upto_region 11 with (at_builtin; refine wp_append rfl _ _ 47 5 rfl Tryd.underlying47 Tryd.info5 W4.heap.size none 0 0 [] s.A s.n s.c s.b s.n (Nat.zero_add _).symm rfl rfl (Own.nil _ _ _) hsb4 (Nat.le_refl _) (by omega) ?_; intro B cb x5 hownb hgb hatb)
            rw [List.nil_append, hsx.1] at hownb
            obtain ⟨gb, rfl, hgb1, hgb2, hgb3⟩ := hownb.form hsn0
            have hb5 : Below W4.heap.size W4 x5 := below_of_none hgb
            clear hgb hatb x0 x1 xf0 xf1
            obtain ⟨q, hqd⟩ : ∃ q, m / 8 = q := ⟨_, rfl⟩
            have hqd' := Lib.hid hqd
            have hqq : q < s.n := by omega
            obtain ⟨hcq, hfq, _, _⟩ := hownb.cell q hqq
            have hv : sb.getD q 0 < 256 := getD_small hownb.small _
            have hr8 : m % 8 < 8 := by omega
            obtain ⟨v, hvd⟩ : ∃ v, sb.getD q 0 = v := ⟨_, rfl⟩
            obtain ⟨r, hrd⟩ : ∃ r, m % 8 = r := ⟨_, rfl⟩
            have hvd' := Lib.hid hvd
            have hrd' := Lib.hid hrd
            have hq2 : ((m : Nat) : Int).tdiv 8 = (q : Int) := by rw [Int.tdiv_eq_ediv_of_nonneg (by omega)]; omega
            have hq6 : ((m : Nat) : Int).tmod 8 = (r : Int) := by rw [Int.tmod_eq_emod_of_nonneg (by omega)]; omega
            have hq4 : (0 : Int) ≤ (q : Int) := by omega
            have hq5 : (q : Int) < (s.n : Int) := by omega
            rw [hvd] at hcq hv
            rw [hrd] at hr8
            clear hvd hrd
            have hcqd : x5.drew.cell? ⟨gb, q, none⟩ = some (.int .u8 (v : Int)) := hcq
            have hfqd : x5.drew.frozen? ⟨gb, q, none⟩ = false := hfq
            have hq2h := Lib.hid (show IntKind.i64.wrap (q : Int) = (q : Int) from IntWalk.i64_in _ (by omega))
            clear hqd
            have hq8 : 128 / 2 ^ r < 256 := Nat.lt_of_le_of_lt (Nat.div_le_self _ _) (by decide)
            have hxv : bits .xor .u8 (v : Int) (128 / 2 ^ r) = ((v ^^^ 128 / 2 ^ r : Nat) : Int) := by
              have := u8_xor_nat v (128 / 2 ^ r) hv hq8
              rw [← this]
              simp
            have hx8 : v ^^^ 128 / 2 ^ r < 256 := Nat.xor_lt_two_pow (n := 8) hv hq8
            have hq2w := hq2h.out
            go_region
            clear hq2w
            go_upto_region 13 with (fail)
            try rw [hxv]
            have hown11 := (hownb.set q (v ^^^ 128 / 2 ^ r) hx8).keep (b_drew (Below.refl _ _))
            have hb11 : Below W4.heap.size W4 (x5.setCell ⟨gb, q, none⟩ (.int .u8 ((v ^^^ 128 / 2 ^ r : Nat) : Int))).drew := b_drew (b_set (p := ⟨gb, q, none⟩) hb5 hgb1 _)
            generalize (x5.setCell ⟨gb, q, none⟩ (.int .u8 ((v ^^^ 128 / 2 ^ r : Nat) : Int))).drew = W11 at hown11 hb11 ⊢
            clear hxv hx8 hcq hcqd hfq hfqd hownb hb5 hgb3 hq2 hq6
            have hB11 := hB4.keep hb11
            have hC11 := hC4.keep hb11
            have hbel11 := b_then hbel4 hb11
            have hX11 := hX.keep hbel11
            have k0 := hB11.cell 0 rfl
            have kf0 := hB11.free 0
            have k1 := hB11.cell 1 rfl
            have kf1 := hB11.free 1
            have k2 := hB11.cell 2 rfl
            have kf2 := hB11.free 2
            go_upto_region 14 with (at_builtin; refine wp_appendI rfl _ _ 57 91 rfl Tryd.underlying57 Tryd.info91 W11.heap.size none 0 0 [] (some ⟨b, off, none⟩) n1 c1 L1 n1 (Nat.zero_add _).symm rfl rfl (OwnI.nil _ _ _) hX11 (fun s hs hn k hk => by simp at hk) (Nat.le_refl _) (Nat.le_trans (Nat.le_of_eq (Nat.zero_add _)) hX.max) ?_; intro C cC x7 hownI hgI hatI)
            rw [List.nil_append] at hownI
            obtain ⟨gC, rfl, hgC1, hgC2, hgC3⟩ := hownI.form (by omega)
            have hb7 : Below W11.heap.size W11 x7 := below_of_none hgI
            clear hgI hatI k0 k1 k2 kf0 kf1 kf2
            have hown7 := hown11.keep hb7
            obtain ⟨s9, b9, o9, hs9, he9, hd0, hd1, _⟩ := hownI.items.at_ i hi
            simp only [Option.some.injEq, Addr.mk.injEq, and_true] at he9
            obtain ⟨rfl, rfl⟩ := he9
            simp only [Nat.zero_add] at hd0 hd1
            have hdf0 := hgC3 (i * 2)
            have hdf1 := hgC3 (i * 2 + 1)
            have hgbC : gb ≠ gC := by have := (hown11.ge gb rfl).2; omega
            have hO1 := hownI.set0 i s ⟨some ⟨gb, 0, none⟩, s.n, cb, sb.set q (v ^^^ 128 / 2 ^ r), s.t⟩ hs rfl hown7.bs (fun _ e => hgbC (Option.some.inj e))
            have hO2 := hO1.set1 i ⟨some ⟨gb, 0, none⟩, s.n, cb, sb.set q (v ^^^ 128 / 2 ^ r), s.t⟩ ⟨some ⟨gb, 0, none⟩, s.n, cb, sb.set q (v ^^^ 128 / 2 ^ r), true⟩ (by rw [List.getElem?_set_self]; rw [hownI.len]; exact hi) rfl rfl rfl rfl
            go_upto_region 15 with (fail)
            have hpC : w.heap.size + 1 < gC := by have := hC11.lt; omega
            have hB14 := ((hB11.keep hb7).far (p := ⟨gC, i * 2, none⟩) (by show w.heap.size ≠ gC; omega) (.slice (some ⟨gb, 0, none⟩) s.n cb)).far (p := ⟨gC, i * 2 + 1, none⟩) (by show w.heap.size ≠ gC; omega) (.bool true)
            have hC14 := ((hC11.keep hb7).far (p := ⟨gC, i * 2, none⟩) (by show w.heap.size + 1 ≠ gC; omega) (.slice (some ⟨gb, 0, none⟩) s.n cb)).far (p := ⟨gC, i * 2 + 1, none⟩) (by show w.heap.size + 1 ≠ gC; omega) (.bool true)
            have hbel14 : Below w.heap.size w ((x7.setCell ⟨gC, i * 2, none⟩ (.slice (some ⟨gb, 0, none⟩) s.n cb)).setCell ⟨gC, i * 2 + 1, none⟩ (.bool true)) := b_set (p := ⟨gC, i * 2 + 1, none⟩) (b_set (p := ⟨gC, i * 2, none⟩) (b_then hbel11 hb7) (by show w.heap.size ≤ gC; omega) _) (by show w.heap.size ≤ gC; omega) _
            have hsy : says ((L1.set i ⟨some ⟨gb, 0, none⟩, s.n, cb, sb.set q (v ^^^ 128 / 2 ^ r), s.t⟩).set i ⟨some ⟨gb, 0, none⟩, s.n, cb, sb.set q (v ^^^ 128 / 2 ^ r), true⟩) = (says L1).set i (turned (sb, false) m) := by
              rw [List.set_set]
              simp only [says, List.map_set, ItemV.say, turned, hqd'.out, hrd'.out, hvd'.out]
            have hI14 := hO2.items
            generalize ((x7.setCell ⟨gC, i * 2, none⟩ (.slice (some ⟨gb, 0, none⟩) s.n cb)).setCell ⟨gC, i * 2 + 1, none⟩ (.bool true)) = W14 at hB14 hC14 hbel14 hI14 ⊢
            clear hO1 hO2 hownI hown7 hd0 hd1 hdf0 hdf1 hgC3
            have k0 := hB14.cell 0 rfl
            have kf0 := hB14.free 0
            have k1 := hB14.cell 1 rfl
            have kf1 := hB14.free 1
            have k2 := hB14.cell 2 rfl
            have kf2 := hB14.free 2
            go_wp2_with (go_at_call 43; refine (with_any A0 n0 c0 (some ⟨b, off, none⟩) n1 c1 d 1 (by omega) (some ⟨gC, 0, none⟩) n1 cC _).mono ?_; rintro e x9 ⟨rfl, hb9⟩; have hC9 := hC14.keep hb9; have y0 := hC9.cell 0 rfl; have y1 := hC9.cell 1 rfl; have y2 := hC9.cell 2 rfl; have yf0 := hC9.free 0; have yf1 := hC9.free 1; have yf2 := hC9.free 2)
            have hbz := below3 (p := w.heap.size + 1) (a := .slice A0 n0 c0) (b := .slice (some ⟨gC, 0, none⟩) n1 cC) (c := .bool d) (b_then hbel14 hb9) (Nat.le_succ _)
            have hI9 := hI14.keep hb9
            have hIf := hI9.kept (kept3 (p := w.heap.size + 1) (a := .slice A0 n0 c0) (b := .slice (some ⟨gC, 0, none⟩) n1 cC) (c := .bool d)) (fun q hq e => by have : gC = q := Option.some.inj hq; omega) (fun s hs hn q hq e => (hI9.ok s hs).apart hC9 (link_no8 _ _ _ _ _ _ _) hn (by rw [hq, e]))
            exact bodyPost_ret (v := .tuple #[.agg #[.slice A0 n0 c0, .slice (some ⟨gC, 0, none⟩) n1 cC, .bool d], .int .i64 0]) (by simp [results, Tryd.results35, y0, y1, y2, yf0, yf1, yf2, go_sem]) rfl ⟨A0, n0, c0, L0, some ⟨gC, 0, none⟩, n1, cC, _, rfl, h0.keep hbz, hIf, rfl, hsy, hbz⟩
end Go.Proofs.YtbmfcaobhgeogaaDoor
