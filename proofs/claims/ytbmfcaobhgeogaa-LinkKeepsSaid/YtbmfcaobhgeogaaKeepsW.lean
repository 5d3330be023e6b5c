/-
  LinkKeeps: the rounds in which something comes twice.
-/
import Derived.Test.YtbmfcaobhgeogaaKeepsHead
namespace Go.Proofs.Ytbmfcaobhgeogaa
open Go.RowKit
set_option linter.unusedVariables false
set_option linter.unusedSimpArgs false
set_option maxRecDepth 1000000
set_option maxHeartbeats 8000000 in
theorem twice_err0 (A : Option Addr) (n c : Nat) (L : List ActV) (w : World) (hL : Acts w A n c L) (nk : Nat) (hnk : nk ≤ n) (hnh : nk ≤ 100) (K0 : Act → World → Prop) (U : Nat → Value) (wo : World) (k : Nat) (hkk : k < nk) (hsz : w.heap.size + 2 < wo.heap.size) (a : ActV) (ha : L[k]? = some a) (hz : (IntKind.u64.wrap a.kind).tmod 6 = (4 : Nat)) (hs2 : bits .and .i64 a.side 1 = 0) (B0 : Option Addr) (m0 : Nat) (d0 : Nat) (M0 : List ItemV) (B1 : Option Addr) (m1 : Nat) (d1 : Nat) (M1 : List ItemV) (S0 : Option Addr) (t0 : Nat) (u0 : Nat) (l0 : List Nat) (S1 : Option Addr) (t1 : Nat) (u1 : Nat) (l1 : List Nat) (hK : KW w w.heap.size wo B0 m0 d0 M0 B1 m1 d1 M1 S0 t0 u0 l0 S1 t1 u1 l1 (m0 : Int) (m1 : Int)) (hF0 : Fit l0 (says M0)) (hF1 : Fit l1 (says M1)) (hmm : m0 + m1 ≤ k) (htt : t0 + t1 ≤ k) (hr : (twiceR ⟨says M0, says M1, false⟩ 0 a.at_).2 ≠ 0) :
    KRound A n c nk w K0 k U wo := by
  have hmx := hL.max
  have h1 : k < n := by omega
  have h2 : k < 100 := by omega
  obtain ⟨b, off, rfl, hc0, hc1, hc2, hc3, hc4⟩ := hL.cells k a ha
  obtain ⟨hbit, hb8⟩ := hL.ok a (List.mem_of_getElem? ha)
  clear ha
  replace hc0 := cell_keep hc0 hK.bel
  replace hc1 := cell_keep hc1 hK.bel
  replace hc2 := cell_keep hc2 hK.bel
  replace hc3 := cell_keep hc3 hK.bel
  replace hc4 := cell_keep hc4 hK.bel
  have hk0 : (0 : Int) ≤ (k : Int) := by omega
  have hkn : (k : Int) < (n : Int) := by omega
  have hkh : (k : Int) < 100 := by omega
  have hT := Blk.new wo #[.int .i64 a.kind, .int .i64 a.side, .int .i64 a.at_, .int .i64 a.bit, .int .u8 (a.b : Int)] 53
  have hbT := b_alloc (Below.refl wo.heap.size wo) (.cells #[.int .i64 a.kind, .int .i64 a.side, .int .i64 a.at_, .int .i64 a.bit, .int .u8 (a.b : Int)] 53)
  unfold KRound
  conv => arg 2; whnf
  go_upto_region 8 with (fail)
  generalize wo.alloc (.cells #[.int .i64 a.kind, .int .i64 a.side, .int .i64 a.at_, .int .i64 a.bit, .int .u8 (a.b : Int)] 53) = W1 at hT hbT ⊢
  have hlb : w.heap.size + 3 ≤ wo.heap.size := by omega
  replace hK := hK.keep hbT
  replace hsz : w.heap.size + 2 < W1.heap.size := Nat.lt_of_lt_of_le hsz hbT.size
  generalize wo.heap.size = g at hT hlb ⊢
  clear hc0 hc1 hc2 hc3 hc4 hbT
  have ax0 := hT.cell 0 rfl
  have axf0 := hT.free 0
  have ax1 := hT.cell 1 rfl
  have axf1 := hT.free 1
  have ax2 := hT.cell 2 rfl
  have axf2 := hT.free 2
  have ax3 := hT.cell 3 rfl
  have axf3 := hT.free 3
  have ax4 := hT.cell 4 rfl
  have axf4 := hT.free 4
  have hr' := Lib.hid (errOf_ne hr)
  have p0 := hK.P.cell 0 rfl
  have p1 := hK.P.cell 1 rfl
  have p2 := hK.P.cell 2 rfl
  go_upto_region 36 with (go_at_call 17; refine (twice_any B0 m0 d0 M0 B1 m1 d1 M1 false ⟨says M0, says M1, false⟩ rfl 0 a.at_ _ hK.I0 hK.I1).mono ?_; unfold LinkP; rw [hr'.out]; rintro e x1 ⟨lv, rfl, ⟨C0, n0, e0, N0, C1, n1, e1, N1, rfl, hJ0, hJ1, -, -, -, -, -, -⟩, hbx⟩)
  have hbn := b_alloc (Below.refl x1.heap.size x1) (.cells #[.slice C0 n0 e0, .slice C1 n1 e1, .bool (twiceR ⟨says M0, says M1, false⟩ 0 a.at_).1.d] 49)
  have hKe := (hK.keep hbx).keep hbn
  replace hsz := Nat.lt_of_lt_of_le hsz (Nat.le_trans hbx.size hbn.size)
  have hFe0 := hF0
  have hFe1 := hF1
  generalize x1.alloc (.cells #[.slice C0 n0 e0, .slice C1 n1 e1, .bool (twiceR ⟨says M0, says M1, false⟩ 0 a.at_).1.d] 49) = W2 at hKe hsz ⊢
  clear hbn hK hT p0 p1 p2
  have hq0 := hKe.P.cell 0 rfl
  have hq1 := hKe.P.cell 1 rfl
  have hq3 := hKe.M.cell 0 rfl
  have hq4 := hKe.M.cell 1 rfl
  go_wp2_with fail
  refine ⟨KI.mk (k := k + 1) (by omega) hsz ⟨_, _, _, _, _, _, _, _, _, _, _, _, _, _, _, _, hKe, hFe0, hFe1, by omega, by omega⟩ ?_, ?_⟩
  · rw [show ((k + 1 : Nat) : Int) = (k : Int) + 1 from by omega]; rfl
  · simp [kmu, intOf]; omega
set_option maxHeartbeats 8000000 in
theorem twice_ok0 (A : Option Addr) (n c : Nat) (L : List ActV) (w : World) (hL : Acts w A n c L) (nk : Nat) (hnk : nk ≤ n) (hnh : nk ≤ 100) (K0 : Act → World → Prop) (U : Nat → Value) (wo : World) (k : Nat) (hkk : k < nk) (hsz : w.heap.size + 2 < wo.heap.size) (a : ActV) (ha : L[k]? = some a) (hz : (IntKind.u64.wrap a.kind).tmod 6 = (4 : Nat)) (hs2 : bits .and .i64 a.side 1 = 0) (B0 : Option Addr) (m0 : Nat) (d0 : Nat) (M0 : List ItemV) (B1 : Option Addr) (m1 : Nat) (d1 : Nat) (M1 : List ItemV) (S0 : Option Addr) (t0 : Nat) (u0 : Nat) (l0 : List Nat) (S1 : Option Addr) (t1 : Nat) (u1 : Nat) (l1 : List Nat) (hK : KW w w.heap.size wo B0 m0 d0 M0 B1 m1 d1 M1 S0 t0 u0 l0 S1 t1 u1 l1 (m0 : Int) (m1 : Int)) (hF0 : Fit l0 (says M0)) (hF1 : Fit l1 (says M1)) (hmm : m0 + m1 ≤ k) (htt : t0 + t1 ≤ k) (i : Nat) (hi : i < (says M0).length) (hr : twiceR ⟨says M0, says M1, false⟩ 0 a.at_ = (⟨says M0 ++ ((says M0)[i]?).toList, says M1, false⟩, 0)) :
    KRound A n c nk w K0 k U wo := by
  have hmx := hL.max
  have h1 : k < n := by omega
  have h2 : k < 100 := by omega
  obtain ⟨b, off, rfl, hc0, hc1, hc2, hc3, hc4⟩ := hL.cells k a ha
  obtain ⟨hbit, hb8⟩ := hL.ok a (List.mem_of_getElem? ha)
  clear ha
  replace hc0 := cell_keep hc0 hK.bel
  replace hc1 := cell_keep hc1 hK.bel
  replace hc2 := cell_keep hc2 hK.bel
  replace hc3 := cell_keep hc3 hK.bel
  replace hc4 := cell_keep hc4 hK.bel
  have hk0 : (0 : Int) ≤ (k : Int) := by omega
  have hkn : (k : Int) < (n : Int) := by omega
  have hkh : (k : Int) < 100 := by omega
  have hT := Blk.new wo #[.int .i64 a.kind, .int .i64 a.side, .int .i64 a.at_, .int .i64 a.bit, .int .u8 (a.b : Int)] 53
  have hbT := b_alloc (Below.refl wo.heap.size wo) (.cells #[.int .i64 a.kind, .int .i64 a.side, .int .i64 a.at_, .int .i64 a.bit, .int .u8 (a.b : Int)] 53)
  unfold KRound
  conv => arg 2; whnf
  go_upto_region 8 with (fail)
  generalize wo.alloc (.cells #[.int .i64 a.kind, .int .i64 a.side, .int .i64 a.at_, .int .i64 a.bit, .int .u8 (a.b : Int)] 53) = W1 at hT hbT ⊢
  have hlb : w.heap.size + 3 ≤ wo.heap.size := by omega
  replace hK := hK.keep hbT
  replace hsz : w.heap.size + 2 < W1.heap.size := Nat.lt_of_lt_of_le hsz hbT.size
  generalize wo.heap.size = g at hT hlb ⊢
  clear hc0 hc1 hc2 hc3 hc4 hbT
  have ax0 := hT.cell 0 rfl
  have axf0 := hT.free 0
  have ax1 := hT.cell 1 rfl
  have axf1 := hT.free 1
  have ax2 := hT.cell 2 rfl
  have axf2 := hT.free 2
  have ax3 := hT.cell 3 rfl
  have axf3 := hT.free 3
  have ax4 := hT.cell 4 rfl
  have axf4 := hT.free 4
  have hr' := Lib.hid hr
  have p0 := hK.P.cell 0 rfl
  have p1 := hK.P.cell 1 rfl
  have p2 := hK.P.cell 2 rfl
  go_upto_region 36 with (go_at_call 17; refine (twice_any B0 m0 d0 M0 B1 m1 d1 M1 false ⟨says M0, says M1, false⟩ rfl 0 a.at_ _ hK.I0 hK.I1).mono ?_; rw [hr'.out]; unfold LinkP; dsimp only; rw [errOf_0]; rintro e x1 ⟨lv, rfl, ⟨C0, n0, e0, N0, C1, n1, e1, N1, rfl, hJ0, hJ1, i0, i1, hb0, hb1, hx0, hx1⟩, hbx⟩)
  have hl0 := congrArg List.length i0
  have hl1 := congrArg List.length i1
  rw [says_len, hJ0.len] at hl0
  rw [says_len, hJ1.len] at hl1
  rw [List.length_append, List.getElem?_eq_getElem hi] at hl0
  simp at hl0
  rw [says_len, hK.I0.len] at hl0
  rw [says_len, hK.I1.len] at hl1
  have hip := hi
  rw [says_len, hK.I0.len] at hip
  have hq := Lib.hid (And.intro hl0 hl1)
  clear hl0 hl1
  have hbn := b_alloc (Below.refl x1.heap.size x1) (.cells #[.slice C0 n0 e0, .slice C1 n1 e1, .bool false] 49)
  have hQ := Blk.new x1 #[.slice C0 n0 e0, .slice C1 n1 e1, .bool false] 49
  have hgb := hK.O0.ge
  have hgc := hK.O1.ge
  have hK2 := (hK.keep hbx).keep hbn
  have hJ0' := hJ0.keep hbn
  have hJ1' := hJ1.keep hbn
  have hszW := hsz
  replace hsz := Nat.lt_of_lt_of_le hsz (Nat.le_trans hbx.size hbn.size)
  generalize x1.alloc (.cells #[.slice C0 n0 e0, .slice C1 n1 e1, .bool false] 49) = W2 at hK2 hQ hJ0' hJ1' hsz ⊢
  generalize x1.heap.size = g2 at hQ ⊢
  have hK3 := hK2.link hJ0' hJ1' hb0 hb1 hx0 hx1 (by omega) (fun q hq => (hgb q hq).2) (fun q hq => (hgc q hq).2)
  clear p0 p1 p2 hK hT
  have p0 := hK2.P.cell 0 rfl
  have p1 := hK2.P.cell 1 rfl
  have p2 := hK2.P.cell 2 rfl
  have pf0 := hK2.P.free 0
  have pf1 := hK2.P.free 1
  have pf2 := hK2.P.free 2
  have q0 := hQ.cell 0 rfl
  have q1 := hQ.cell 1 rfl
  have q2 := hQ.cell 2 rfl
  go_upto_region 38 with (fail)
  replace hsz : w.heap.size + 2 < (((W2.setCell ⟨w.heap.size, 0, none⟩ (.slice C0 n0 e0)).setCell ⟨w.heap.size, 1, none⟩ (.slice C1 n1 e1)).setCell ⟨w.heap.size, 2, none⟩ (.bool false)).heap.size := by simpa using hsz
  generalize ((W2.setCell ⟨w.heap.size, 0, none⟩ (.slice C0 n0 e0)).setCell ⟨w.heap.size, 1, none⟩ (.slice C1 n1 e1)).setCell ⟨w.heap.size, 2, none⟩ (.bool false) = W3 at hK3 hsz ⊢
  clear p0 p1 p2 pf0 pf1 pf2 q0 q1 q2 hK2 hQ hJ0 hJ1 hJ0' hJ1' hgb hgc
  obtain ⟨hqx, hqy⟩ := hq.out
  have hY : n1 = m1 := hqy
  have hXn : m0 + 1 = n0 := hqx.symm
  clear hqx hqy
  subst hY
  have s0 := hK3.M.cell 0 rfl
  have sf0 := hK3.M.free 0
  have hK4 := hK3.count0 (n0 : Int)
  have hFe0 := (hF0.twice i)
  rw [← i0] at hFe0
  have hFe1 := hF1
  rw [← i1] at hFe1
  have hce : (m0 : Int) + 1 = (n0 : Int) := by omega
  have hcw : IntKind.i64.wrap ((m0 : Int) + 1) = (n0 : Int) := by rw [hce]; exact IntWalk.i64_in _ (by omega)
  go_upto_region 43 with (fail)
  clear hce hcw
  replace hsz : w.heap.size + 2 < (W3.setCell ⟨w.heap.size + 2, 0, none⟩ (.int .i64 (n0 : Int))).heap.size := by simpa using hsz
  have hKe := hK4
  generalize W3.setCell ⟨w.heap.size + 2, 0, none⟩ (.int .i64 (n0 : Int)) = W4 at hKe hsz ⊢
  clear hK3 hK4 s0 sf0
  have hq0 := hKe.P.cell 0 rfl
  have hq1 := hKe.P.cell 1 rfl
  have hq3 := hKe.M.cell 0 rfl
  have hq4 := hKe.M.cell 1 rfl
  go_wp2_with fail
  refine ⟨KI.mk (k := k + 1) (by omega) hsz ⟨_, _, _, _, _, _, _, _, _, _, _, _, _, _, _, _, hKe, hFe0, hFe1, by omega, by omega⟩ ?_, ?_⟩
  · rw [show ((k + 1 : Nat) : Int) = (k : Int) + 1 from by omega]; rfl
  · simp [kmu, intOf]; omega
set_option maxHeartbeats 8000000 in
theorem twice_err1 (A : Option Addr) (n c : Nat) (L : List ActV) (w : World) (hL : Acts w A n c L) (nk : Nat) (hnk : nk ≤ n) (hnh : nk ≤ 100) (K0 : Act → World → Prop) (U : Nat → Value) (wo : World) (k : Nat) (hkk : k < nk) (hsz : w.heap.size + 2 < wo.heap.size) (a : ActV) (ha : L[k]? = some a) (hz : (IntKind.u64.wrap a.kind).tmod 6 = (4 : Nat)) (hs2 : bits .and .i64 a.side 1 = 1) (B0 : Option Addr) (m0 : Nat) (d0 : Nat) (M0 : List ItemV) (B1 : Option Addr) (m1 : Nat) (d1 : Nat) (M1 : List ItemV) (S0 : Option Addr) (t0 : Nat) (u0 : Nat) (l0 : List Nat) (S1 : Option Addr) (t1 : Nat) (u1 : Nat) (l1 : List Nat) (hK : KW w w.heap.size wo B0 m0 d0 M0 B1 m1 d1 M1 S0 t0 u0 l0 S1 t1 u1 l1 (m0 : Int) (m1 : Int)) (hF0 : Fit l0 (says M0)) (hF1 : Fit l1 (says M1)) (hmm : m0 + m1 ≤ k) (htt : t0 + t1 ≤ k) (hr : (twiceR ⟨says M0, says M1, false⟩ 1 a.at_).2 ≠ 0) :
    KRound A n c nk w K0 k U wo := by
  have hmx := hL.max
  have h1 : k < n := by omega
  have h2 : k < 100 := by omega
  obtain ⟨b, off, rfl, hc0, hc1, hc2, hc3, hc4⟩ := hL.cells k a ha
  obtain ⟨hbit, hb8⟩ := hL.ok a (List.mem_of_getElem? ha)
  clear ha
  replace hc0 := cell_keep hc0 hK.bel
  replace hc1 := cell_keep hc1 hK.bel
  replace hc2 := cell_keep hc2 hK.bel
  replace hc3 := cell_keep hc3 hK.bel
  replace hc4 := cell_keep hc4 hK.bel
  have hk0 : (0 : Int) ≤ (k : Int) := by omega
  have hkn : (k : Int) < (n : Int) := by omega
  have hkh : (k : Int) < 100 := by omega
  have hT := Blk.new wo #[.int .i64 a.kind, .int .i64 a.side, .int .i64 a.at_, .int .i64 a.bit, .int .u8 (a.b : Int)] 53
  have hbT := b_alloc (Below.refl wo.heap.size wo) (.cells #[.int .i64 a.kind, .int .i64 a.side, .int .i64 a.at_, .int .i64 a.bit, .int .u8 (a.b : Int)] 53)
  unfold KRound
  conv => arg 2; whnf
  go_upto_region 8 with (fail)
  generalize wo.alloc (.cells #[.int .i64 a.kind, .int .i64 a.side, .int .i64 a.at_, .int .i64 a.bit, .int .u8 (a.b : Int)] 53) = W1 at hT hbT ⊢
  have hlb : w.heap.size + 3 ≤ wo.heap.size := by omega
  replace hK := hK.keep hbT
  replace hsz : w.heap.size + 2 < W1.heap.size := Nat.lt_of_lt_of_le hsz hbT.size
  generalize wo.heap.size = g at hT hlb ⊢
  clear hc0 hc1 hc2 hc3 hc4 hbT
  have ax0 := hT.cell 0 rfl
  have axf0 := hT.free 0
  have ax1 := hT.cell 1 rfl
  have axf1 := hT.free 1
  have ax2 := hT.cell 2 rfl
  have axf2 := hT.free 2
  have ax3 := hT.cell 3 rfl
  have axf3 := hT.free 3
  have ax4 := hT.cell 4 rfl
  have axf4 := hT.free 4
  have hr' := Lib.hid (errOf_ne hr)
  have p0 := hK.P.cell 0 rfl
  have p1 := hK.P.cell 1 rfl
  have p2 := hK.P.cell 2 rfl
  go_upto_region 36 with (go_at_call 17; refine (twice_any B0 m0 d0 M0 B1 m1 d1 M1 false ⟨says M0, says M1, false⟩ rfl 1 a.at_ _ hK.I0 hK.I1).mono ?_; unfold LinkP; rw [hr'.out]; rintro e x1 ⟨lv, rfl, ⟨C0, n0, e0, N0, C1, n1, e1, N1, rfl, hJ0, hJ1, -, -, -, -, -, -⟩, hbx⟩)
  have hbn := b_alloc (Below.refl x1.heap.size x1) (.cells #[.slice C0 n0 e0, .slice C1 n1 e1, .bool (twiceR ⟨says M0, says M1, false⟩ 1 a.at_).1.d] 49)
  have hKe := (hK.keep hbx).keep hbn
  replace hsz := Nat.lt_of_lt_of_le hsz (Nat.le_trans hbx.size hbn.size)
  have hFe0 := hF0
  have hFe1 := hF1
  generalize x1.alloc (.cells #[.slice C0 n0 e0, .slice C1 n1 e1, .bool (twiceR ⟨says M0, says M1, false⟩ 1 a.at_).1.d] 49) = W2 at hKe hsz ⊢
  clear hbn hK hT p0 p1 p2
  have hq0 := hKe.P.cell 0 rfl
  have hq1 := hKe.P.cell 1 rfl
  have hq3 := hKe.M.cell 0 rfl
  have hq4 := hKe.M.cell 1 rfl
  go_wp2_with fail
  refine ⟨KI.mk (k := k + 1) (by omega) hsz ⟨_, _, _, _, _, _, _, _, _, _, _, _, _, _, _, _, hKe, hFe0, hFe1, by omega, by omega⟩ ?_, ?_⟩
  · rw [show ((k + 1 : Nat) : Int) = (k : Int) + 1 from by omega]; rfl
  · simp [kmu, intOf]; omega
set_option maxHeartbeats 8000000 in
theorem twice_ok1 (A : Option Addr) (n c : Nat) (L : List ActV) (w : World) (hL : Acts w A n c L) (nk : Nat) (hnk : nk ≤ n) (hnh : nk ≤ 100) (K0 : Act → World → Prop) (U : Nat → Value) (wo : World) (k : Nat) (hkk : k < nk) (hsz : w.heap.size + 2 < wo.heap.size) (a : ActV) (ha : L[k]? = some a) (hz : (IntKind.u64.wrap a.kind).tmod 6 = (4 : Nat)) (hs2 : bits .and .i64 a.side 1 = 1) (B0 : Option Addr) (m0 : Nat) (d0 : Nat) (M0 : List ItemV) (B1 : Option Addr) (m1 : Nat) (d1 : Nat) (M1 : List ItemV) (S0 : Option Addr) (t0 : Nat) (u0 : Nat) (l0 : List Nat) (S1 : Option Addr) (t1 : Nat) (u1 : Nat) (l1 : List Nat) (hK : KW w w.heap.size wo B0 m0 d0 M0 B1 m1 d1 M1 S0 t0 u0 l0 S1 t1 u1 l1 (m0 : Int) (m1 : Int)) (hF0 : Fit l0 (says M0)) (hF1 : Fit l1 (says M1)) (hmm : m0 + m1 ≤ k) (htt : t0 + t1 ≤ k) (i : Nat) (hi : i < (says M1).length) (hr : twiceR ⟨says M0, says M1, false⟩ 1 a.at_ = (⟨says M0, says M1 ++ ((says M1)[i]?).toList, false⟩, 0)) :
    KRound A n c nk w K0 k U wo := by
  have hmx := hL.max
  have h1 : k < n := by omega
  have h2 : k < 100 := by omega
  obtain ⟨b, off, rfl, hc0, hc1, hc2, hc3, hc4⟩ := hL.cells k a ha
  obtain ⟨hbit, hb8⟩ := hL.ok a (List.mem_of_getElem? ha)
  clear ha
  replace hc0 := cell_keep hc0 hK.bel
  replace hc1 := cell_keep hc1 hK.bel
  replace hc2 := cell_keep hc2 hK.bel
  replace hc3 := cell_keep hc3 hK.bel
  replace hc4 := cell_keep hc4 hK.bel
  have hk0 : (0 : Int) ≤ (k : Int) := by omega
  have hkn : (k : Int) < (n : Int) := by omega
  have hkh : (k : Int) < 100 := by omega
  have hT := Blk.new wo #[.int .i64 a.kind, .int .i64 a.side, .int .i64 a.at_, .int .i64 a.bit, .int .u8 (a.b : Int)] 53
  have hbT := b_alloc (Below.refl wo.heap.size wo) (.cells #[.int .i64 a.kind, .int .i64 a.side, .int .i64 a.at_, .int .i64 a.bit, .int .u8 (a.b : Int)] 53)
  unfold KRound
  conv => arg 2; whnf
  go_upto_region 8 with (fail)
  generalize wo.alloc (.cells #[.int .i64 a.kind, .int .i64 a.side, .int .i64 a.at_, .int .i64 a.bit, .int .u8 (a.b : Int)] 53) = W1 at hT hbT ⊢
  have hlb : w.heap.size + 3 ≤ wo.heap.size := by omega
  replace hK := hK.keep hbT
  replace hsz : w.heap.size + 2 < W1.heap.size := Nat.lt_of_lt_of_le hsz hbT.size
  generalize wo.heap.size = g at hT hlb ⊢
  clear hc0 hc1 hc2 hc3 hc4 hbT
  have ax0 := hT.cell 0 rfl
  have axf0 := hT.free 0
  have ax1 := hT.cell 1 rfl
  have axf1 := hT.free 1
  have ax2 := hT.cell 2 rfl
  have axf2 := hT.free 2
  have ax3 := hT.cell 3 rfl
  have axf3 := hT.free 3
  have ax4 := hT.cell 4 rfl
  have axf4 := hT.free 4
  have hr' := Lib.hid hr
  have p0 := hK.P.cell 0 rfl
  have p1 := hK.P.cell 1 rfl
  have p2 := hK.P.cell 2 rfl
  go_upto_region 36 with (go_at_call 17; refine (twice_any B0 m0 d0 M0 B1 m1 d1 M1 false ⟨says M0, says M1, false⟩ rfl 1 a.at_ _ hK.I0 hK.I1).mono ?_; rw [hr'.out]; unfold LinkP; dsimp only; rw [errOf_0]; rintro e x1 ⟨lv, rfl, ⟨C0, n0, e0, N0, C1, n1, e1, N1, rfl, hJ0, hJ1, i0, i1, hb0, hb1, hx0, hx1⟩, hbx⟩)
  have hl0 := congrArg List.length i0
  have hl1 := congrArg List.length i1
  rw [says_len, hJ0.len] at hl0
  rw [says_len, hJ1.len] at hl1
  rw [List.length_append, List.getElem?_eq_getElem hi] at hl1
  simp at hl1
  rw [says_len, hK.I0.len] at hl0
  rw [says_len, hK.I1.len] at hl1
  have hip := hi
  rw [says_len, hK.I1.len] at hip
  have hq := Lib.hid (And.intro hl0 hl1)
  clear hl0 hl1
  have hbn := b_alloc (Below.refl x1.heap.size x1) (.cells #[.slice C0 n0 e0, .slice C1 n1 e1, .bool false] 49)
  have hQ := Blk.new x1 #[.slice C0 n0 e0, .slice C1 n1 e1, .bool false] 49
  have hgb := hK.O0.ge
  have hgc := hK.O1.ge
  have hK2 := (hK.keep hbx).keep hbn
  have hJ0' := hJ0.keep hbn
  have hJ1' := hJ1.keep hbn
  have hszW := hsz
  replace hsz := Nat.lt_of_lt_of_le hsz (Nat.le_trans hbx.size hbn.size)
  generalize x1.alloc (.cells #[.slice C0 n0 e0, .slice C1 n1 e1, .bool false] 49) = W2 at hK2 hQ hJ0' hJ1' hsz ⊢
  generalize x1.heap.size = g2 at hQ ⊢
  have hK3 := hK2.link hJ0' hJ1' hb0 hb1 hx0 hx1 (by omega) (fun q hq => (hgb q hq).2) (fun q hq => (hgc q hq).2)
  clear p0 p1 p2 hK hT
  have p0 := hK2.P.cell 0 rfl
  have p1 := hK2.P.cell 1 rfl
  have p2 := hK2.P.cell 2 rfl
  have pf0 := hK2.P.free 0
  have pf1 := hK2.P.free 1
  have pf2 := hK2.P.free 2
  have q0 := hQ.cell 0 rfl
  have q1 := hQ.cell 1 rfl
  have q2 := hQ.cell 2 rfl
  go_upto_region 38 with (fail)
  replace hsz : w.heap.size + 2 < (((W2.setCell ⟨w.heap.size, 0, none⟩ (.slice C0 n0 e0)).setCell ⟨w.heap.size, 1, none⟩ (.slice C1 n1 e1)).setCell ⟨w.heap.size, 2, none⟩ (.bool false)).heap.size := by simpa using hsz
  generalize ((W2.setCell ⟨w.heap.size, 0, none⟩ (.slice C0 n0 e0)).setCell ⟨w.heap.size, 1, none⟩ (.slice C1 n1 e1)).setCell ⟨w.heap.size, 2, none⟩ (.bool false) = W3 at hK3 hsz ⊢
  clear p0 p1 p2 pf0 pf1 pf2 q0 q1 q2 hK2 hQ hJ0 hJ1 hJ0' hJ1' hgb hgc
  obtain ⟨hqx, hqy⟩ := hq.out
  have hY : n0 = m0 := hqx
  have hXn : m1 + 1 = n1 := hqy.symm
  clear hqx hqy
  subst hY
  have s0 := hK3.M.cell 1 rfl
  have sf0 := hK3.M.free 1
  have hK4 := hK3.count1 (n1 : Int)
  have hFe1 := (hF1.twice i)
  rw [← i1] at hFe1
  have hFe0 := hF0
  rw [← i0] at hFe0
  have hce : (m1 : Int) + 1 = (n1 : Int) := by omega
  have hcw : IntKind.i64.wrap ((m1 : Int) + 1) = (n1 : Int) := by rw [hce]; exact IntWalk.i64_in _ (by omega)
  go_upto_region 43 with (fail)
  clear hce hcw
  replace hsz : w.heap.size + 2 < (W3.setCell ⟨w.heap.size + 2, 1, none⟩ (.int .i64 (n1 : Int))).heap.size := by simpa using hsz
  have hKe := hK4
  generalize W3.setCell ⟨w.heap.size + 2, 1, none⟩ (.int .i64 (n1 : Int)) = W4 at hKe hsz ⊢
  clear hK3 hK4 s0 sf0
  have hq0 := hKe.P.cell 0 rfl
  have hq1 := hKe.P.cell 1 rfl
  have hq3 := hKe.M.cell 0 rfl
  have hq4 := hKe.M.cell 1 rfl
  go_wp2_with fail
  refine ⟨KI.mk (k := k + 1) (by omega) hsz ⟨_, _, _, _, _, _, _, _, _, _, _, _, _, _, _, _, hKe, hFe0, hFe1, by omega, by omega⟩ ?_, ?_⟩
  · rw [show ((k + 1 : Nat) : Int) = (k : Int) + 1 from by omega]; rfl
  · simp [kmu, intOf]; omega
end Go.Proofs.Ytbmfcaobhgeogaa
