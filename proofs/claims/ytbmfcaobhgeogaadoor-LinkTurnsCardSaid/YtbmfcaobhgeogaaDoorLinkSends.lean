/-
  The law LinkSends, by its contract.
-/
import Derived.Test.YtbmfcaobhgeogaaDoorLinkRef
namespace Go.Proofs.YtbmfcaobhgeogaaDoor
open Go.RowKit
set_option linter.unusedVariables false
set_option linter.unusedSimpArgs false
set_option maxRecDepth 100000

theorem errV_of (x : Int) : ErrV (errOf x) x := by
  unfold errOf
  by_cases h : x = 0
  · subst h; rw [if_pos rfl]; exact ErrV.none
  · rw [if_neg h]; exact ErrV.num x
theorem same_any (A0 : Option Addr) (n0 c0 : Nat) (L0 : List ItemV) (A1 : Option Addr) (n1 c1 : Nat) (L1 : List ItemV) (d : Bool) (B0 : Option Addr) (m0 d0 : Nat) (M0 : List ItemV) (B1 : Option Addr) (m1 d1 : Nat) (M1 : List ItemV) (d' : Bool) (w : World) (h0 : Items w A0 n0 c0 L0) (h1 : Items w A1 n1 c1 L1) (i0 : Items w B0 m0 d0 M0) (i1 : Items w B1 m1 d1 M1) (e0 : says L0 = says M0) (e1 : says L1 = says M1) (hd : d = d') :
    Calls Tryd.prog 29 #[(.agg #[.slice A0 n0 c0, .slice A1 n1 c1, .bool d]), .agg #[.slice B0 m0 d0, .slice B1 m1 d1, .bool d']] w (fun e w' => e = .returned (.bool true) ∧ Below w.heap.size w w') := by
  subst hd
  have z0 : m0 = n0 := by rw [← h0.len, ← i0.len, ← says_len, ← says_len, e0]
  have z1 : m1 = n1 := by rw [← h1.len, ← i1.len, ← says_len, ← says_len, e1]
  subst z0 z1
  exact same_n _ _ _ _ _ _ _ _ _ _ _ _ _ _ _ w h0 h1 i0 i1 e0 e1

set_option maxHeartbeats 16000000 in
theorem law_sends (A0 : Option Addr) (n0 c0 : Nat) (L0 : List ItemV) (A1 : Option Addr) (n1 c1 : Nat) (L1 : List ItemV) (d : Bool) (side : Int) (A : Option Addr) (n c : Nat) (b : List Nat) (w : World) (h0 : Items w A0 n0 c0 L0) (h1 : Items w A1 n1 c1 L1) (hb : Bs w A n c b) (hE : ErrW w) :
    Calls Tryd.prog 6 #[(.agg #[.slice A0 n0 c0, .slice A1 n1 c1, .bool d]), .int .i64 side, .slice A n c] w (fun e w' => e = .returned (.bool true) ∧ Below w.heap.size w w') := by
  have hm := hb.max
  have hsd := fun (W : World) (B0 : Option Addr) (m0 d0 : Nat) (M0 : List ItemV) (B1 : Option Addr) (m1 d1 : Nat) (M1 : List ItemV) (e0 : says M0 = says L0) (e1 : says M1 = says L1) (g0 : Items W B0 m0 d0 M0) (g1 : Items W B1 m1 d1 M1) (gb : Bs W A n c b) => send_any B0 m0 d0 M0 B1 m1 d1 M1 d ⟨says L0, says L1, d⟩ (by rw [e0, e1]) side A n c b W g0 g1 gb
  have hrs := fun (W : World) (g0 : Items W A0 n0 c0 L0) (g1 : Items W A1 n1 c1 L1) (gb : Bs W A n c b) => rSend_any A0 n0 c0 L0 A1 n1 c1 L1 d ⟨says L0, says L1, d⟩ rfl side A n c b W g0 g1 gb
  generalize sendR ⟨says L0, says L1, d⟩ side b = r at hsd hrs
  obtain ⟨⟨r0, r1, rd⟩, rn⟩ := r
  have hsd := Lib.hid hsd
  have hrs := Lib.hid hrs
  have hbx := Lib.hid (box_one w #[.slice A0 n0 c0, .slice A1 n1 c1, .bool d] 60)
  go_enter Tryd.func6, Tryd.ntmps6
  go_upto_region 1 with (fail)
  obtain ⟨hB, hbel⟩ := hbx.out _ rfl
  generalize w.alloc (Obj.cells #[.slice A0 n0 c0, .slice A1 n1 c1, .bool d] 60) = W0 at hB hbel ⊢
  clear hbx
  have hA0 := h0.keep hbel
  have hA1 := h1.keep hbel
  have hbb := hb.keep hbel
  have hEw := hE.keep hbel
  have k0 := hB.cell 0 rfl
  have k1 := hB.cell 1 rfl
  have k2 := hB.cell 2 rfl
  go_wp2_with fail
  refine (long_any A0 n0 c0 L0 A1 n1 c1 L1 d _ hA0 hA1).mono ?_
  rintro e x1 ⟨bl, rfl, hb1⟩
  replace hA0 := hA0.keep hb1
  replace hA1 := hA1.keep hb1
  replace hbb := hbb.keep hb1
  replace hEw := hEw.keep hb1
  replace hB := hB.keep hb1
  replace hbel := b_then hbel hb1
  clear k0 k1 k2 hb1
  have k0 := hB.cell 0 rfl
  have k1 := hB.cell 1 rfl
  have k2 := hB.cell 2 rfl
  cases bl with
  | true =>
    go_wp2_with (go_at_call 24; refine (sure23_any _).mono ?_; rintro e x2 ⟨rfl, hbs⟩)
    go_ret
    exact ⟨rfl, b_then hbel hbs⟩
  | false =>
    by_cases hmid : 5000 < n ∧ n ≤ 1048576
    · obtain ⟨hq1, hq2⟩ := hmid
      have hq1' : (5000 : Int) < (n : Int) := by omega
      have hq2' : (n : Int) ≤ 1048576 := by omega
      go_wp2_with (go_at_call 24; refine (sure23_any _).mono ?_; rintro e x2 ⟨rfl, hbs⟩)
      go_ret
      exact ⟨rfl, b_then hbel hbs⟩
    · have hmid' : ¬ (5000 : Int) < (n : Int) ∨ ((5000 : Int) < (n : Int) ∧ ¬ (n : Int) ≤ 1048576) := by omega
      clear hmid
      rcases hmid' with hq1 | ⟨hq1, hq2⟩
      all_goals
        go_upto_region 4 with (go_at_call 26; refine (give_any A0 n0 c0 L0 A1 n1 c1 L1 d _ hA0 hA1).mono ?_; rintro e x2 ⟨lv, rfl, ⟨G0, Gn0, Gd0, GM0, G1, Gn1, Gd1, GM1, rfl, hI0, hI1, Ge0, Ge1, -, -⟩, hbx⟩)
        try dsimp only
        have hfl := fresh_link (t := 51) d hI0 hI1 _ rfl
        generalize x2.alloc (.cells #[.slice G0 Gn0 Gd0, .slice G1 Gn1 Gd1, .bool d] 51) = W2 at hfl ⊢
        obtain ⟨GP, GI0, GI1, hbn, -⟩ := hfl
        replace hA0 := (hA0.keep hbx).keep hbn
        replace hA1 := (hA1.keep hbx).keep hbn
        replace hbb := (hbb.keep hbx).keep hbn
        replace hEw := (hEw.keep hbx).keep hbn
        replace hB := (hB.keep hbx).keep hbn
        have hbel' := b_then (b_then hbel hbx) hbn
        clear hbel
        have hbel := hbel'
        clear hbel'
        generalize x2.heap.size = Gq at GP ⊢
        clear hI0 hI1 hbn hbx
        have g0 := GP.cell 0 rfl
        have g1 := GP.cell 1 rfl
        have g2 := GP.cell 2 rfl
        go_upto_region 5 with (go_at_call 21; refine (hsd.out _ G0 Gn0 Gd0 GM0 G1 Gn1 Gd1 GM1 Ge0 Ge1 GI0 GI1 hbb).mono ?_; rintro e x3 ⟨lv, rfl, ⟨Y0, Yn0, Yd0, YM0, Y1, Yn1, Yd1, YM1, rfl, hI0, hI1, Ye0, Ye1, -, -⟩, hbx⟩)
        try dsimp only
        clear g0 g1 g2 k0 k1 k2
        have hfl := fresh_link (t := 51) rd hI0 hI1 _ rfl
        generalize x3.alloc (.cells #[.slice Y0 Yn0 Yd0, .slice Y1 Yn1 Yd1, .bool rd] 51) = W3 at hfl ⊢
        obtain ⟨YP, YI0, YI1, hbn, -⟩ := hfl
        replace hA0 := (hA0.keep hbx).keep hbn
        replace hA1 := (hA1.keep hbx).keep hbn
        replace hbb := (hbb.keep hbx).keep hbn
        replace hEw := (hEw.keep hbx).keep hbn
        replace hB := (hB.keep hbx).keep hbn
        replace GP := (GP.keep hbx).keep hbn
        replace GI0 := (GI0.keep hbx).keep hbn
        replace GI1 := (GI1.keep hbx).keep hbn
        have hbel' := b_then (b_then hbel hbx) hbn
        clear hbel
        have hbel := hbel'
        clear hbel'
        generalize x3.heap.size = Yq at YP ⊢
        clear hI0 hI1 hbn hbx
        have k0 := hB.cell 0 rfl
        have k1 := hB.cell 1 rfl
        have k2 := hB.cell 2 rfl
        go_upto_region 6 with (go_at_call 27; refine (hrs.out _ hA0 hA1 hbb).mono ?_; rintro e x4 ⟨Z0, Zn0, Zd0, ZM0, Z1, Zn1, Zd1, ZM1, rfl, hI0, hI1, Ze0, Ze1, hbx⟩)
        try dsimp only
        clear k0 k1 k2
        have hfl := fresh_link (t := 60) rd hI0 hI1 _ rfl
        generalize x4.alloc (.cells #[.slice Z0 Zn0 Zd0, .slice Z1 Zn1 Zd1, .bool rd] 60) = W4 at hfl ⊢
        obtain ⟨ZP, ZI0, ZI1, hbn, -⟩ := hfl
        replace hA0 := (hA0.keep hbx).keep hbn
        replace hA1 := (hA1.keep hbx).keep hbn
        replace hbb := (hbb.keep hbx).keep hbn
        replace hEw := (hEw.keep hbx).keep hbn
        replace hB := (hB.keep hbx).keep hbn
        replace GP := (GP.keep hbx).keep hbn
        replace GI0 := (GI0.keep hbx).keep hbn
        replace GI1 := (GI1.keep hbx).keep hbn
        replace YP := (YP.keep hbx).keep hbn
        replace YI0 := (YI0.keep hbx).keep hbn
        replace YI1 := (YI1.keep hbx).keep hbn
        have hbel' := b_then (b_then hbel hbx) hbn
        clear hbel
        have hbel := hbel'
        clear hbel'
        generalize x4.heap.size = Zq at ZP ⊢
        clear hI0 hI1 hbn hbx
        have g0 := GP.cell 0 rfl
        have g1 := GP.cell 1 rfl
        have g2 := GP.cell 2 rfl
        go_upto_region 7 with (go_at_call 28; refine (kill_any G0 Gn0 Gd0 GM0 G1 Gn1 Gd1 GM1 d _ GI0 GI1).mono ?_; rintro e x5 ⟨rfl, hbx⟩; have hI0 := Items.nil x5; have hI1 := Items.nil x5)
        try dsimp only
        clear g0 g1 g2
        have hfl := fresh_link (t := 51) true hI0 hI1 _ rfl
        generalize x5.alloc (.cells #[.slice none 0 0, .slice none 0 0, .bool true] 51) = W5 at hfl ⊢
        obtain ⟨QP, QI0, QI1, hbn, -⟩ := hfl
        replace hA0 := (hA0.keep hbx).keep hbn
        replace hA1 := (hA1.keep hbx).keep hbn
        replace hbb := (hbb.keep hbx).keep hbn
        replace hEw := (hEw.keep hbx).keep hbn
        replace hB := (hB.keep hbx).keep hbn
        replace GP := (GP.keep hbx).keep hbn
        replace GI0 := (GI0.keep hbx).keep hbn
        replace GI1 := (GI1.keep hbx).keep hbn
        replace YP := (YP.keep hbx).keep hbn
        replace YI0 := (YI0.keep hbx).keep hbn
        replace YI1 := (YI1.keep hbx).keep hbn
        replace ZP := (ZP.keep hbx).keep hbn
        replace ZI0 := (ZI0.keep hbx).keep hbn
        replace ZI1 := (ZI1.keep hbx).keep hbn
        have hbel' := b_then (b_then hbel hbx) hbn
        clear hbel
        have hbel := hbel'
        clear hbel'
        generalize x5.heap.size = Qq at QP ⊢
        clear hI0 hI1 hbn hbx
        have k0 := hB.cell 0 rfl
        have k1 := hB.cell 1 rfl
        have k2 := hB.cell 2 rfl
        have g0 := GP.cell 0 rfl
        have g1 := GP.cell 1 rfl
        have g2 := GP.cell 2 rfl
        have y0 := YP.cell 0 rfl
        have y1 := YP.cell 1 rfl
        have y2 := YP.cell 2 rfl
        have z0 := ZP.cell 0 rfl
        have z1 := ZP.cell 1 rfl
        have z2 := ZP.cell 2 rfl
        have q0 := QP.cell 0 rfl
        have q1 := QP.cell 1 rfl
        have q2 := QP.cell 2 rfl
        have hS : Hid (∀ V, Below W5.heap.size W5 V → (V.cell? ⟨w.heap.size, 0, none⟩ = some (.slice A0 n0 c0) ∧ V.cell? ⟨w.heap.size, 1, none⟩ = some (.slice A1 n1 c1) ∧ V.cell? ⟨w.heap.size, 2, none⟩ = some (.bool d)) ∧ (V.cell? ⟨Gq, 0, none⟩ = some (.slice G0 Gn0 Gd0) ∧ V.cell? ⟨Gq, 1, none⟩ = some (.slice G1 Gn1 Gd1) ∧ V.cell? ⟨Gq, 2, none⟩ = some (.bool d)) ∧ V.cell? ⟨Qq, 0, none⟩ = some (.slice none 0 0) ∧ V.cell? ⟨Qq, 1, none⟩ = some (.slice none 0 0) ∧ V.cell? ⟨Qq, 2, none⟩ = some (.bool true)) := Lib.hid fun V hV => ⟨⟨cell_keep k0 hV, cell_keep k1 hV, cell_keep k2 hV⟩, ⟨cell_keep g0 hV, cell_keep g1 hV, cell_keep g2 hV⟩, cell_keep q0 hV, cell_keep q1 hV, cell_keep q2 hV⟩
        clear k0 k1 k2 g0 g1 g2 q0 q1 q2
        go_wp2_with fail
        refine (same_any Y0 Yn0 Yd0 YM0 Y1 Yn1 Yd1 YM1 rd Z0 Zn0 Zd0 ZM0 Z1 Zn1 Zd1 ZM1 rd _ YI0 YI1 ZI0 ZI1 (Ye0.trans Ze0.symm) (Ye1.trans Ze1.symm) rfl).mono ?_
        rintro e x6 ⟨rfl, hb6⟩
        clear y0 y1 y2 z0 z1 z2
        go_wp2_with fail
        refine (num23_any _ rn _ (errV_of rn) (hEw.keep hb6)).mono ?_
        rintro e x7 ⟨rfl, hb7⟩
        have hb67 := hb6.trans (hb7.mono hb6.size)
        obtain ⟨⟨k0, k1, k2⟩, ⟨g0, g1, g2⟩, -⟩ := hS.out _ hb67
        go_wp2_with fail
        refine (same_any G0 Gn0 Gd0 GM0 G1 Gn1 Gd1 GM1 d A0 n0 c0 L0 A1 n1 c1 L1 d _ (GI0.keep hb67) (GI1.keep hb67) (hA0.keep hb67) (hA1.keep hb67) Ge0 Ge1 rfl).mono ?_
        rintro e x8 ⟨rfl, hb8⟩
        have hb68 := hb67.trans (hb8.mono hb67.size)
        clear k0 k1 k2 g0 g1 g2
        obtain ⟨-, -, q0, q1, q2⟩ := hS.out _ hb68
        go_wp2_with fail
        refine (sure23_any _).mono ?_
        rintro e x9 ⟨rfl, hb9⟩
        go_wp2_with fail
        go_ret
        exact ⟨rfl, b_then (b_then hbel hb68) hb9⟩
end Go.Proofs.YtbmfcaobhgeogaaDoor
