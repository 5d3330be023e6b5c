/-
  The law LinkTurns, by its contract.
-/
import Derived.Test.YtbmfcaobhgeogaaDoorLinkRTurn
import Derived.Test.YtbmfcaobhgeogaaDoorLinkSends
namespace Go.Proofs.YtbmfcaobhgeogaaDoor
open Go.RowKit
set_option linter.unusedVariables false
set_option linter.unusedSimpArgs false
set_option maxRecDepth 100000

set_option maxHeartbeats 16000000 in
theorem law_turns (A0 : Option Addr) (n0 c0 : Nat) (L0 : List ItemV) (A1 : Option Addr) (n1 c1 : Nat) (L1 : List ItemV) (d : Bool) (ox oy bit : Int) (hbit : bit < 9223372036854775808) (w : World) (h0 : Items w A0 n0 c0 L0) (h1 : Items w A1 n1 c1 L1) (hE : ErrW w) :
    Calls Tryd.prog 8 #[(.agg #[.slice A0 n0 c0, .slice A1 n1 c1, .bool d]), .agg #[.int .i64 ox, .int .i64 oy], .int .i64 bit] w (fun e w' => e = .returned (.bool true) ∧ Below w.heap.size w w') := by
  have htw := fun (W : World) (B0 : Option Addr) (m0 d0 : Nat) (M0 : List ItemV) (B1 : Option Addr) (m1 d1 : Nat) (M1 : List ItemV) (e0 : says M0 = says L0) (e1 : says M1 = says L1) (g0 : Items W B0 m0 d0 M0) (g1 : Items W B1 m1 d1 M1) => twice_any B0 m0 d0 M0 B1 m1 d1 M1 d ⟨says L0, says L1, d⟩ (by rw [e0, e1]) ox oy W g0 g1
  have hrw := fun (W : World) (g0 : Items W A0 n0 c0 L0) (g1 : Items W A1 n1 c1 L1) => rTwice_any A0 n0 c0 L0 A1 n1 c1 L1 d ⟨says L0, says L1, d⟩ rfl ox oy W g0 g1
  have htn := fun (W : World) (B0 : Option Addr) (m0 d0 : Nat) (M0 : List ItemV) (B1 : Option Addr) (m1 d1 : Nat) (M1 : List ItemV) (e0 : says M0 = says L0) (e1 : says M1 = says L1) (g0 : Items W B0 m0 d0 M0) (g1 : Items W B1 m1 d1 M1) => turn_any B0 m0 d0 M0 B1 m1 d1 M1 d ⟨says L0, says L1, d⟩ (by rw [e0, e1]) ox oy bit W hbit g0 g1
  have hrn := fun (W : World) (g0 : Items W A0 n0 c0 L0) (g1 : Items W A1 n1 c1 L1) => rTurn_any A0 n0 c0 L0 A1 n1 c1 L1 d ⟨says L0, says L1, d⟩ rfl ox oy bit W hbit g0 g1
  generalize twiceR ⟨says L0, says L1, d⟩ ox oy = s at htw hrw
  generalize turnR ⟨says L0, says L1, d⟩ ox oy bit = r at htn hrn
  obtain ⟨⟨s0, s1, sd⟩, sn⟩ := s
  obtain ⟨⟨r0, r1, rd⟩, rn⟩ := r
  have htw := Lib.hid htw
  have hrw := Lib.hid hrw
  have htn := Lib.hid htn
  have hrn := Lib.hid hrn
  have hbx := Lib.hid (box_two w #[.slice A0 n0 c0, .slice A1 n1 c1, .bool d] #[.int .i64 ox, .int .i64 oy] 60 72)
  go_enter Tryd.func8, Tryd.ntmps8
  go_upto_region 1 with (fail)
  obtain ⟨hB, hO, hbel⟩ := hbx.out _ rfl
  generalize (w.alloc (Obj.cells #[.slice A0 n0 c0, .slice A1 n1 c1, .bool d] 60)).alloc (Obj.cells #[.int .i64 ox, .int .i64 oy] 72) = W0 at hB hO hbel ⊢
  clear hbx
  have hA0 := h0.keep hbel
  have hA1 := h1.keep hbel
  have hEw := hE.keep hbel
  have k0 := hB.cell 0 rfl
  have k1 := hB.cell 1 rfl
  have k2 := hB.cell 2 rfl
  go_wp2_with fail
  refine (long_any A0 n0 c0 L0 A1 n1 c1 L1 d _ hA0 hA1).mono ?_
  rintro e x1 ⟨bl, rfl, hb1⟩
  replace hA0 := hA0.keep hb1
  replace hA1 := hA1.keep hb1
  replace hEw := hEw.keep hb1
  replace hB := hB.keep hb1
  replace hO := hO.keep hb1
  replace hbel := b_then hbel hb1
  clear k0 k1 k2 hb1
  have k0 := hB.cell 0 rfl
  have k1 := hB.cell 1 rfl
  have k2 := hB.cell 2 rfl
  cases bl with
  | true =>
    go_wp2_with (go_at_call 24; refine (sure23_any _).mono ?_; rintro e x2 ⟨rfl, hbs⟩)
    go_ret
    exact ⟨rfl, b_then hbel hbs⟩
  | false =>
    go_upto_region 4 with (go_at_call 26; refine (give_any A0 n0 c0 L0 A1 n1 c1 L1 d _ hA0 hA1).mono ?_; rintro e x2 ⟨lv, rfl, ⟨G0, Gn0, Gd0, GM0, G1, Gn1, Gd1, GM1, rfl, hI0, hI1, Ge0, Ge1, -, -⟩, hbx⟩)
    try dsimp only
    clear k0 k1 k2
    have hfl := fresh_link (t := 51) d hI0 hI1 _ rfl
    generalize x2.alloc (.cells #[.slice G0 Gn0 Gd0, .slice G1 Gn1 Gd1, .bool d] 51) = W2 at hfl ⊢
    obtain ⟨GP, GI0, GI1, hbn, -⟩ := hfl
    replace hA0 := (hA0.keep hbx).keep hbn
    replace hA1 := (hA1.keep hbx).keep hbn
    replace hEw := (hEw.keep hbx).keep hbn
    replace hB := (hB.keep hbx).keep hbn
    replace hO := (hO.keep hbx).keep hbn
    have hbel' := b_then (b_then hbel hbx) hbn
    clear hbel
    have hbel := hbel'
    clear hbel'
    generalize x2.heap.size = Gq at GP ⊢
    clear hI0 hI1 hbn hbx
    have g0 := GP.cell 0 rfl
    have g1 := GP.cell 1 rfl
    have g2 := GP.cell 2 rfl
    have o0 := hO.cell 0 rfl
    have o1 := hO.cell 1 rfl
    go_upto_region 5 with (go_at_call 32; refine (htw.out _ G0 Gn0 Gd0 GM0 G1 Gn1 Gd1 GM1 Ge0 Ge1 GI0 GI1).mono ?_; rintro e x3 ⟨lv, rfl, ⟨Y0, Yn0, Yd0, YM0, Y1, Yn1, Yd1, YM1, rfl, hI0, hI1, Ye0, Ye1, -, -⟩, hbx⟩)
    try dsimp only
    clear g0 g1 g2 o0 o1
    have hfl := fresh_link (t := 51) sd hI0 hI1 _ rfl
    generalize x3.alloc (.cells #[.slice Y0 Yn0 Yd0, .slice Y1 Yn1 Yd1, .bool sd] 51) = W3 at hfl ⊢
    obtain ⟨YP, YI0, YI1, hbn, -⟩ := hfl
    replace hA0 := (hA0.keep hbx).keep hbn
    replace hA1 := (hA1.keep hbx).keep hbn
    replace hEw := (hEw.keep hbx).keep hbn
    replace hB := (hB.keep hbx).keep hbn
    replace hO := (hO.keep hbx).keep hbn
    replace GP := (GP.keep hbx).keep hbn
    replace GI0 := (GI0.keep hbx).keep hbn
    replace GI1 := (GI1.keep hbx).keep hbn
    have hbel' := b_then (b_then hbel hbx) hbn
    clear hbel
    have hbel := hbel'
    clear hbel'
    generalize x3.heap.size = Yq at YP ⊢
    clear hI0 hI1 hbn hbx
    have g0 := hB.cell 0 rfl
    have g1 := hB.cell 1 rfl
    have g2 := hB.cell 2 rfl
    have o0 := hO.cell 0 rfl
    have o1 := hO.cell 1 rfl
    go_upto_region 6 with (go_at_call 33; refine (hrw.out _ hA0 hA1).mono ?_; rintro e x4 ⟨Z0, Zn0, Zd0, ZM0, Z1, Zn1, Zd1, ZM1, rfl, hI0, hI1, Ze0, Ze1, hbx⟩)
    try dsimp only
    clear g0 g1 g2 o0 o1
    have hfl := fresh_link (t := 60) sd hI0 hI1 _ rfl
    generalize x4.alloc (.cells #[.slice Z0 Zn0 Zd0, .slice Z1 Zn1 Zd1, .bool sd] 60) = W4 at hfl ⊢
    obtain ⟨ZP, ZI0, ZI1, hbn, -⟩ := hfl
    replace hA0 := (hA0.keep hbx).keep hbn
    replace hA1 := (hA1.keep hbx).keep hbn
    replace hEw := (hEw.keep hbx).keep hbn
    replace hB := (hB.keep hbx).keep hbn
    replace hO := (hO.keep hbx).keep hbn
    replace GP := (GP.keep hbx).keep hbn
    replace GI0 := (GI0.keep hbx).keep hbn
    replace GI1 := (GI1.keep hbx).keep hbn
    replace YP := (YP.keep hbx).keep hbn
    replace YI0 := (YI0.keep hbx).keep hbn
    replace YI1 := (YI1.keep hbx).keep hbn
    have hbel' := b_then (b_then hbel hbx) hbn
    clear hbel
    have hbel := hbel'
    clear hbel'
    generalize x4.heap.size = Zq at ZP ⊢
    clear hI0 hI1 hbn hbx
    have g0 := GP.cell 0 rfl
    have g1 := GP.cell 1 rfl
    have g2 := GP.cell 2 rfl
    have o0 := hO.cell 0 rfl
    have o1 := hO.cell 1 rfl
    go_upto_region 7 with (go_at_call 34; refine (htn.out _ G0 Gn0 Gd0 GM0 G1 Gn1 Gd1 GM1 Ge0 Ge1 GI0 GI1).mono ?_; rintro e x5 ⟨lv, rfl, ⟨U0, Un0, Ud0, UM0, U1, Un1, Ud1, UM1, rfl, hI0, hI1, Ue0, Ue1, -, -⟩, hbx⟩)
    try dsimp only
    clear g0 g1 g2 o0 o1
    have hfl := fresh_link (t := 51) rd hI0 hI1 _ rfl
    generalize x5.alloc (.cells #[.slice U0 Un0 Ud0, .slice U1 Un1 Ud1, .bool rd] 51) = W5 at hfl ⊢
    obtain ⟨UP, UI0, UI1, hbn, -⟩ := hfl
    replace hA0 := (hA0.keep hbx).keep hbn
    replace hA1 := (hA1.keep hbx).keep hbn
    replace hEw := (hEw.keep hbx).keep hbn
    replace hB := (hB.keep hbx).keep hbn
    replace hO := (hO.keep hbx).keep hbn
    replace GP := (GP.keep hbx).keep hbn
    replace GI0 := (GI0.keep hbx).keep hbn
    replace GI1 := (GI1.keep hbx).keep hbn
    replace YP := (YP.keep hbx).keep hbn
    replace YI0 := (YI0.keep hbx).keep hbn
    replace YI1 := (YI1.keep hbx).keep hbn
    replace ZP := (ZP.keep hbx).keep hbn
    replace ZI0 := (ZI0.keep hbx).keep hbn
    replace ZI1 := (ZI1.keep hbx).keep hbn
    have hbel' := b_then (b_then hbel hbx) hbn
    clear hbel
    have hbel := hbel'
    clear hbel'
    generalize x5.heap.size = Uq at UP ⊢
    clear hI0 hI1 hbn hbx
    have g0 := hB.cell 0 rfl
    have g1 := hB.cell 1 rfl
    have g2 := hB.cell 2 rfl
    have o0 := hO.cell 0 rfl
    have o1 := hO.cell 1 rfl
    go_upto_region 8 with (go_at_call 35; refine (hrn.out _ hA0 hA1).mono ?_; rintro e x6 ⟨V0, Vn0, Vd0, VM0, V1, Vn1, Vd1, VM1, rfl, hI0, hI1, Ve0, Ve1, hbx⟩)
    try dsimp only
    clear g0 g1 g2 o0 o1
    have hfl := fresh_link (t := 60) rd hI0 hI1 _ rfl
    generalize x6.alloc (.cells #[.slice V0 Vn0 Vd0, .slice V1 Vn1 Vd1, .bool rd] 60) = W6 at hfl ⊢
    obtain ⟨VP, VI0, VI1, hbn, -⟩ := hfl
    replace hA0 := (hA0.keep hbx).keep hbn
    replace hA1 := (hA1.keep hbx).keep hbn
    replace hEw := (hEw.keep hbx).keep hbn
    replace hB := (hB.keep hbx).keep hbn
    replace hO := (hO.keep hbx).keep hbn
    replace GP := (GP.keep hbx).keep hbn
    replace GI0 := (GI0.keep hbx).keep hbn
    replace GI1 := (GI1.keep hbx).keep hbn
    replace YP := (YP.keep hbx).keep hbn
    replace YI0 := (YI0.keep hbx).keep hbn
    replace YI1 := (YI1.keep hbx).keep hbn
    replace ZP := (ZP.keep hbx).keep hbn
    replace ZI0 := (ZI0.keep hbx).keep hbn
    replace ZI1 := (ZI1.keep hbx).keep hbn
    replace UP := (UP.keep hbx).keep hbn
    replace UI0 := (UI0.keep hbx).keep hbn
    replace UI1 := (UI1.keep hbx).keep hbn
    have hbel' := b_then (b_then hbel hbx) hbn
    clear hbel
    have hbel := hbel'
    clear hbel'
    generalize x6.heap.size = Vq at VP ⊢
    clear hI0 hI1 hbn hbx
    have hSl : Hid (∀ V, Below W6.heap.size W6 V → V.cell? ⟨w.heap.size, 0, none⟩ = some (.slice A0 n0 c0) ∧ V.cell? ⟨w.heap.size, 1, none⟩ = some (.slice A1 n1 c1) ∧ V.cell? ⟨w.heap.size, 2, none⟩ = some (.bool d)) := Lib.hid fun V hV => ⟨(hB.keep hV).cell 0 rfl, (hB.keep hV).cell 1 rfl, (hB.keep hV).cell 2 rfl⟩
    have hSg : Hid (∀ V, Below W6.heap.size W6 V → V.cell? ⟨Gq, 0, none⟩ = some (.slice G0 Gn0 Gd0) ∧ V.cell? ⟨Gq, 1, none⟩ = some (.slice G1 Gn1 Gd1) ∧ V.cell? ⟨Gq, 2, none⟩ = some (.bool d)) := Lib.hid fun V hV => ⟨(GP.keep hV).cell 0 rfl, (GP.keep hV).cell 1 rfl, (GP.keep hV).cell 2 rfl⟩
    have hSv : Hid (∀ V, Below W6.heap.size W6 V → V.cell? ⟨Vq, 0, none⟩ = some (.slice V0 Vn0 Vd0) ∧ V.cell? ⟨Vq, 1, none⟩ = some (.slice V1 Vn1 Vd1) ∧ V.cell? ⟨Vq, 2, none⟩ = some (.bool rd)) := Lib.hid fun V hV => ⟨(VP.keep hV).cell 0 rfl, (VP.keep hV).cell 1 rfl, (VP.keep hV).cell 2 rfl⟩
    have hSu : Hid (∀ V, Below W6.heap.size W6 V → V.cell? ⟨Uq, 0, none⟩ = some (.slice U0 Un0 Ud0) ∧ V.cell? ⟨Uq, 1, none⟩ = some (.slice U1 Un1 Ud1) ∧ V.cell? ⟨Uq, 2, none⟩ = some (.bool rd)) := Lib.hid fun V hV => ⟨(UP.keep hV).cell 0 rfl, (UP.keep hV).cell 1 rfl, (UP.keep hV).cell 2 rfl⟩
    have y0 := YP.cell 0 rfl
    have y1 := YP.cell 1 rfl
    have y2 := YP.cell 2 rfl
    have z0 := ZP.cell 0 rfl
    have z1 := ZP.cell 1 rfl
    have z2 := ZP.cell 2 rfl
    go_wp2_with fail
    refine (same_any Y0 Yn0 Yd0 YM0 Y1 Yn1 Yd1 YM1 sd Z0 Zn0 Zd0 ZM0 Z1 Zn1 Zd1 ZM1 sd _ YI0 YI1 ZI0 ZI1 (Ye0.trans Ze0.symm) (Ye1.trans Ze1.symm) rfl).mono ?_
    rintro e x7 ⟨rfl, hb7⟩
    clear y0 y1 y2 z0 z1 z2
    go_wp2_with fail
    refine (num23_any _ sn _ (errV_of sn) (hEw.keep hb7)).mono ?_
    rintro e x8 ⟨rfl, hb8⟩
    have hb78 := hb7.trans (hb8.mono hb7.size)
    obtain ⟨u0, u1, u2⟩ := hSu.out _ hb78
    obtain ⟨z0, z1, z2⟩ := hSv.out _ hb78
    go_wp2_with fail
    refine (same_any U0 Un0 Ud0 UM0 U1 Un1 Ud1 UM1 rd V0 Vn0 Vd0 VM0 V1 Vn1 Vd1 VM1 rd _ (UI0.keep hb78) (UI1.keep hb78) (VI0.keep hb78) (VI1.keep hb78) (Ue0.trans Ve0.symm) (Ue1.trans Ve1.symm) rfl).mono ?_
    rintro e x9 ⟨rfl, hb9⟩
    have hb79 := hb78.trans (hb9.mono hb78.size)
    clear u0 u1 u2 z0 z1 z2
    go_wp2_with fail
    refine (num23_any _ rn _ (errV_of rn) (hEw.keep hb79)).mono ?_
    rintro e x10 ⟨rfl, hb10⟩
    have hb70 := hb79.trans (hb10.mono hb79.size)
    obtain ⟨k0, k1, k2⟩ := hSl.out _ hb70
    obtain ⟨g0, g1, g2⟩ := hSg.out _ hb70
    go_wp2_with fail
    refine (same_any G0 Gn0 Gd0 GM0 G1 Gn1 Gd1 GM1 d A0 n0 c0 L0 A1 n1 c1 L1 d _ (GI0.keep hb70) (GI1.keep hb70) (hA0.keep hb70) (hA1.keep hb70) Ge0 Ge1 rfl).mono ?_
    rintro e x11 ⟨rfl, hb11⟩
    have hb71 := hb70.trans (hb11.mono hb70.size)
    clear k0 k1 k2 g0 g1 g2
    go_wp2_with fail
    refine (sure23_any _).mono ?_
    rintro e x12 ⟨rfl, hb12⟩
    go_wp2_with fail
    go_ret
    exact ⟨rfl, b_then (b_then hbel hb71) hb12⟩
end Go.Proofs.YtbmfcaobhgeogaaDoor
