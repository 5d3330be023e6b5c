/-
  The law LinkTakes, by its contract.
-/
import Derived.Test.YtbmfcaobhgeogaaDoorLinkRTake
import Derived.Test.YtbmfcaobhgeogaaDoorLinkSends
namespace Go.Proofs.YtbmfcaobhgeogaaDoor
open Go.RowKit
set_option linter.unusedVariables false
set_option linter.unusedSimpArgs false
set_option maxRecDepth 100000

set_option maxHeartbeats 16000000 in
theorem law_takes (A0 : Option Addr) (n0 c0 : Nat) (L0 : List ItemV) (A1 : Option Addr) (n1 c1 : Nat) (L1 : List ItemV) (d : Bool) (side at_ : Int) (w : World) (h0 : Items w A0 n0 c0 L0) (h1 : Items w A1 n1 c1 L1) (hE : ErrW w) :
    Calls Tryd.prog 7 #[(.agg #[.slice A0 n0 c0, .slice A1 n1 c1, .bool d]), .int .i64 side, .int .i64 at_] w (fun e w' => e = .returned (.bool true) ∧ Below w.heap.size w w') := by
  have hsd := fun (W : World) (B0 : Option Addr) (m0 d0 : Nat) (M0 : List ItemV) (B1 : Option Addr) (m1 d1 : Nat) (M1 : List ItemV) (e0 : says M0 = says L0) (e1 : says M1 = says L1) (g0 : Items W B0 m0 d0 M0) (g1 : Items W B1 m1 d1 M1) => take_any B0 m0 d0 M0 B1 m1 d1 M1 d ⟨says L0, says L1, d⟩ (by rw [e0, e1]) side at_ W g0 g1
  have hls := fun (W : World) (B0 : Option Addr) (m0 d0 : Nat) (M0 : List ItemV) (B1 : Option Addr) (m1 d1 : Nat) (M1 : List ItemV) (e0 : says M0 = says L0) (e1 : says M1 = says L1) (g0 : Items W B0 m0 d0 M0) (g1 : Items W B1 m1 d1 M1) => lose_any B0 m0 d0 M0 B1 m1 d1 M1 d ⟨says L0, says L1, d⟩ (by rw [e0, e1]) side at_ W g0 g1
  have hrs := fun (W : World) (g0 : Items W A0 n0 c0 L0) (g1 : Items W A1 n1 c1 L1) => rTake_any A0 n0 c0 L0 A1 n1 c1 L1 d ⟨says L0, says L1, d⟩ rfl side at_ W g0 g1
  unfold loseR at hls
  generalize takeR ⟨says L0, says L1, d⟩ side at_ = r at hsd hls hrs
  obtain ⟨⟨r0, r1, rd⟩, rb, rn⟩ := r
  have hsd := Lib.hid hsd
  have hls := Lib.hid hls
  have hrs := Lib.hid hrs
  have hbx := Lib.hid (box_one w #[.slice A0 n0 c0, .slice A1 n1 c1, .bool d] 60)
  go_enter Tryd.func7, Tryd.ntmps7
  go_upto_region 1 with (fail)
  obtain ⟨hB, hbel⟩ := hbx.out _ rfl
  generalize w.alloc (Obj.cells #[.slice A0 n0 c0, .slice A1 n1 c1, .bool d] 60) = W0 at hB hbel ⊢
  clear hbx
  have hA0 := h0.keep hbel
  have hA1 := h1.keep hbel
  have hEw := hE.keep hbel
  have k0 := hB.cell 0 rfl
  have k1 := hB.cell 1 rfl
  have k2 := hB.cell 2 rfl
  go_wp2_with fail
  refine (long_any A0 n0 c0 L0 A1 n1 c1 L1 d _ hA0 hA1).mono ?_
  rintro e x1 ⟨bl, rfl, hb1⟩
  replace hA0 := hA0.keep hb1
  replace hA1 := hA1.keep hb1
  replace hEw := hEw.keep hb1
  replace hB := hB.keep hb1
  replace hbel := b_then hbel hb1
  clear k0 k1 k2 hb1
  have k0 := hB.cell 0 rfl
  have k1 := hB.cell 1 rfl
  have k2 := hB.cell 2 rfl
  cases bl with
  | true =>
    go_wp2_with (go_at_call 24; refine (sure23_any _).mono ?_; rintro e x2 ⟨rfl, hbs⟩)
    go_ret
    exact ⟨rfl, b_then hbel hbs⟩
  | false =>
    go_upto_region 4 with (go_at_call 26; refine (give_any A0 n0 c0 L0 A1 n1 c1 L1 d _ hA0 hA1).mono ?_; rintro e x2 ⟨lv, rfl, ⟨G0, Gn0, Gd0, GM0, G1, Gn1, Gd1, GM1, rfl, hI0, hI1, Ge0, Ge1, -, -⟩, hbx⟩)
    try dsimp only
    have hfl := fresh_link (t := 51) d hI0 hI1 _ rfl
    generalize x2.alloc (.cells #[.slice G0 Gn0 Gd0, .slice G1 Gn1 Gd1, .bool d] 51) = W2 at hfl ⊢
    obtain ⟨GP, GI0, GI1, hbn, -⟩ := hfl
    replace hA0 := (hA0.keep hbx).keep hbn
    replace hA1 := (hA1.keep hbx).keep hbn
    replace hEw := (hEw.keep hbx).keep hbn
    replace hB := (hB.keep hbx).keep hbn
    have hbel' := b_then (b_then hbel hbx) hbn
    clear hbel
    have hbel := hbel'
    clear hbel'
    generalize x2.heap.size = Gq at GP ⊢
    clear hI0 hI1 hbn hbx
    have g0 := GP.cell 0 rfl
    have g1 := GP.cell 1 rfl
    have g2 := GP.cell 2 rfl
    go_upto_region 5 with (go_at_call 22; refine (hsd.out _ G0 Gn0 Gd0 GM0 G1 Gn1 Gd1 GM1 Ge0 Ge1 GI0 GI1).mono ?_; rintro e x3 ⟨lv, Ba, bn, bc, rfl, ⟨Y0, Yn0, Yd0, YM0, Y1, Yn1, Yd1, YM1, rfl, hI0, hI1, Ye0, Ye1, -, -⟩, hbb, hbx⟩)
    try dsimp only
    clear g0 g1 g2 k0 k1 k2
    have hbc := hbx
    replace hbb := hbb.keep (b_alloc (Below.refl _ _) (.cells #[.slice Y0 Yn0 Yd0, .slice Y1 Yn1 Yd1, .bool rd] 51))
    have hfl := fresh_link (t := 51) rd hI0 hI1 _ rfl
    generalize x3.alloc (.cells #[.slice Y0 Yn0 Yd0, .slice Y1 Yn1 Yd1, .bool rd] 51) = W3 at hfl hbb ⊢
    obtain ⟨YP, YI0, YI1, hbn, -⟩ := hfl
    replace hA0 := (hA0.keep hbx).keep hbn
    replace hA1 := (hA1.keep hbx).keep hbn
    replace hEw := (hEw.keep hbx).keep hbn
    replace hB := (hB.keep hbx).keep hbn
    replace GP := (GP.keep hbx).keep hbn
    replace GI0 := (GI0.keep hbx).keep hbn
    replace GI1 := (GI1.keep hbx).keep hbn
    have hbel' := b_then (b_then hbel hbx) hbn
    clear hbel
    have hbel := hbel'
    clear hbel'
    generalize x3.heap.size = Yq at YP ⊢
    clear hI0 hI1 hbn hbx
    clear hbc
    have k0 := hB.cell 0 rfl
    have k1 := hB.cell 1 rfl
    have k2 := hB.cell 2 rfl
    go_upto_region 6 with (go_at_call 30; refine (hrs.out _ hA0 hA1).mono ?_; rintro e x4 ⟨Z0, Zn0, Zd0, ZM0, Z1, Zn1, Zd1, ZM1, Ca, cn, cc, rfl, hI0, hI1, Ze0, Ze1, hbd, hbx⟩)
    try dsimp only
    clear k0 k1 k2
    replace hbd := hbd.keep (b_alloc (Below.refl _ _) (.cells #[.slice Z0 Zn0 Zd0, .slice Z1 Zn1 Zd1, .bool rd] 60))
    have hfl := fresh_link (t := 60) rd hI0 hI1 _ rfl
    generalize x4.alloc (.cells #[.slice Z0 Zn0 Zd0, .slice Z1 Zn1 Zd1, .bool rd] 60) = W4 at hfl hbd ⊢
    obtain ⟨ZP, ZI0, ZI1, hbn, -⟩ := hfl
    replace hA0 := (hA0.keep hbx).keep hbn
    replace hA1 := (hA1.keep hbx).keep hbn
    replace hEw := (hEw.keep hbx).keep hbn
    replace hB := (hB.keep hbx).keep hbn
    replace GP := (GP.keep hbx).keep hbn
    replace GI0 := (GI0.keep hbx).keep hbn
    replace GI1 := (GI1.keep hbx).keep hbn
    replace YP := (YP.keep hbx).keep hbn
    replace YI0 := (YI0.keep hbx).keep hbn
    replace YI1 := (YI1.keep hbx).keep hbn
    replace hbb := (hbb.keep hbx).keep hbn
    have hbel' := b_then (b_then hbel hbx) hbn
    clear hbel
    have hbel := hbel'
    clear hbel'
    generalize x4.heap.size = Zq at ZP ⊢
    clear hI0 hI1 hbn hbx
    have g0 := GP.cell 0 rfl
    have g1 := GP.cell 1 rfl
    have g2 := GP.cell 2 rfl
    go_upto_region 7 with (go_at_call 31; refine (hls.out _ G0 Gn0 Gd0 GM0 G1 Gn1 Gd1 GM1 Ge0 Ge1 GI0 GI1).mono ?_; rintro e x5 ⟨lv, rfl, ⟨U0, Un0, Ud0, UM0, U1, Un1, Ud1, UM1, rfl, hI0, hI1, Ue0, Ue1, -, -⟩, hbx⟩)
    try dsimp only
    clear g0 g1 g2
    have hfl := fresh_link (t := 51) rd hI0 hI1 _ rfl
    generalize x5.alloc (.cells #[.slice U0 Un0 Ud0, .slice U1 Un1 Ud1, .bool rd] 51) = W5 at hfl ⊢
    obtain ⟨UP, UI0, UI1, hbn, -⟩ := hfl
    replace hA0 := (hA0.keep hbx).keep hbn
    replace hA1 := (hA1.keep hbx).keep hbn
    replace hEw := (hEw.keep hbx).keep hbn
    replace hB := (hB.keep hbx).keep hbn
    replace GP := (GP.keep hbx).keep hbn
    replace GI0 := (GI0.keep hbx).keep hbn
    replace GI1 := (GI1.keep hbx).keep hbn
    replace YP := (YP.keep hbx).keep hbn
    replace YI0 := (YI0.keep hbx).keep hbn
    replace YI1 := (YI1.keep hbx).keep hbn
    replace ZP := (ZP.keep hbx).keep hbn
    replace ZI0 := (ZI0.keep hbx).keep hbn
    replace ZI1 := (ZI1.keep hbx).keep hbn
    replace hbb := (hbb.keep hbx).keep hbn
    replace hbd := (hbd.keep hbx).keep hbn
    have hbel' := b_then (b_then hbel hbx) hbn
    clear hbel
    have hbel := hbel'
    clear hbel'
    generalize x5.heap.size = Uq at UP ⊢
    clear hI0 hI1 hbn hbx
    have hSl : Hid (∀ V, Below W5.heap.size W5 V → V.cell? ⟨w.heap.size, 0, none⟩ = some (.slice A0 n0 c0) ∧ V.cell? ⟨w.heap.size, 1, none⟩ = some (.slice A1 n1 c1) ∧ V.cell? ⟨w.heap.size, 2, none⟩ = some (.bool d)) := Lib.hid fun V hV => ⟨(hB.keep hV).cell 0 rfl, (hB.keep hV).cell 1 rfl, (hB.keep hV).cell 2 rfl⟩
    have hSg : Hid (∀ V, Below W5.heap.size W5 V → V.cell? ⟨Gq, 0, none⟩ = some (.slice G0 Gn0 Gd0) ∧ V.cell? ⟨Gq, 1, none⟩ = some (.slice G1 Gn1 Gd1) ∧ V.cell? ⟨Gq, 2, none⟩ = some (.bool d)) := Lib.hid fun V hV => ⟨(GP.keep hV).cell 0 rfl, (GP.keep hV).cell 1 rfl, (GP.keep hV).cell 2 rfl⟩
    have hSz : Hid (∀ V, Below W5.heap.size W5 V → V.cell? ⟨Zq, 0, none⟩ = some (.slice Z0 Zn0 Zd0) ∧ V.cell? ⟨Zq, 1, none⟩ = some (.slice Z1 Zn1 Zd1) ∧ V.cell? ⟨Zq, 2, none⟩ = some (.bool rd)) := Lib.hid fun V hV => ⟨(ZP.keep hV).cell 0 rfl, (ZP.keep hV).cell 1 rfl, (ZP.keep hV).cell 2 rfl⟩
    have hSu : Hid (∀ V, Below W5.heap.size W5 V → V.cell? ⟨Uq, 0, none⟩ = some (.slice U0 Un0 Ud0) ∧ V.cell? ⟨Uq, 1, none⟩ = some (.slice U1 Un1 Ud1) ∧ V.cell? ⟨Uq, 2, none⟩ = some (.bool rd)) := Lib.hid fun V hV => ⟨(UP.keep hV).cell 0 rfl, (UP.keep hV).cell 1 rfl, (UP.keep hV).cell 2 rfl⟩
    have y0 := YP.cell 0 rfl
    have y1 := YP.cell 1 rfl
    have y2 := YP.cell 2 rfl
    have z0 := ZP.cell 0 rfl
    have z1 := ZP.cell 1 rfl
    have z2 := ZP.cell 2 rfl
    obtain ⟨st, hstr⟩ : ∃ st, strOf rb = st := ⟨_, rfl⟩
    have hcv : Hid (∀ V, Below W5.heap.size W5 V → (convert 47 9 (.slice Ba bn bc)).run Tryd.prog V = .ok (.string st) V ∧ (convert 47 9 (.slice Ca cn cc)).run Tryd.prog V = .ok (.string st) V) := Lib.hid fun V hV => ⟨hstr ▸ run_str (P := Tryd.prog) 47 5 9 Tryd.underlying47 Tryd.underlying5 Tryd.underlying9 (hbb.keep hV), hstr ▸ run_str (P := Tryd.prog) 47 5 9 Tryd.underlying47 Tryd.underlying5 Tryd.underlying9 (hbd.keep hV)⟩
    clear hstr
    go_wp2_with fail
    refine (same_any Y0 Yn0 Yd0 YM0 Y1 Yn1 Yd1 YM1 rd Z0 Zn0 Zd0 ZM0 Z1 Zn1 Zd1 ZM1 rd _ YI0 YI1 ZI0 ZI1 (Ye0.trans Ze0.symm) (Ye1.trans Ze1.symm) rfl).mono ?_
    rintro e x6 ⟨rfl, hb6⟩
    clear y0 y1 y2 z0 z1 z2
    obtain ⟨cv1, cv2⟩ := hcv.out _ hb6
    go_wp2_with fail
    refine (num23_any _ rn _ (errV_of rn) (hEw.keep hb6)).mono ?_
    rintro e x7 ⟨rfl, hb7⟩
    have hb67 := hb6.trans (hb7.mono hb6.size)
    clear cv1 cv2
    obtain ⟨u0, u1, u2⟩ := hSu.out _ hb67
    obtain ⟨z0, z1, z2⟩ := hSz.out _ hb67
    go_wp2_with fail
    refine (same_any U0 Un0 Ud0 UM0 U1 Un1 Ud1 UM1 rd Z0 Zn0 Zd0 ZM0 Z1 Zn1 Zd1 ZM1 rd _ (UI0.keep hb67) (UI1.keep hb67) (ZI0.keep hb67) (ZI1.keep hb67) (Ue0.trans Ze0.symm) (Ue1.trans Ze1.symm) rfl).mono ?_
    rintro e x8 ⟨rfl, hb8⟩
    have hb68 := hb67.trans (hb8.mono hb67.size)
    clear u0 u1 u2 z0 z1 z2
    go_wp2_with fail
    refine (num23_any _ rn _ (errV_of rn) (hEw.keep hb68)).mono ?_
    rintro e x9 ⟨rfl, hb9⟩
    have hb69 := hb68.trans (hb9.mono hb68.size)
    obtain ⟨k0, k1, k2⟩ := hSl.out _ hb69
    obtain ⟨g0, g1, g2⟩ := hSg.out _ hb69
    go_wp2_with fail
    refine (same_any G0 Gn0 Gd0 GM0 G1 Gn1 Gd1 GM1 d A0 n0 c0 L0 A1 n1 c1 L1 d _ (GI0.keep hb69) (GI1.keep hb69) (hA0.keep hb69) (hA1.keep hb69) Ge0 Ge1 rfl).mono ?_
    rintro e x10 ⟨rfl, hb10⟩
    have hb610 := hb69.trans (hb10.mono hb69.size)
    clear k0 k1 k2 g0 g1 g2
    go_wp2_with fail
    refine (sure23_any _).mono ?_
    rintro e x11 ⟨rfl, hb11⟩
    go_wp2_with fail
    go_ret
    exact ⟨rfl, b_then (b_then hbel hb610) hb11⟩
end Go.Proofs.YtbmfcaobhgeogaaDoor
