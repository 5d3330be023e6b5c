/-
  LinkKeeps: the rounds in which something is taken.
-/
import Derived.Test.YtbmfcaobhgeogaaKeepsHead
namespace Go.Proofs.Ytbmfcaobhgeogaa
open Go.RowKit
set_option linter.unusedVariables false
set_option linter.unusedSimpArgs false
set_option maxRecDepth 1000000
set_option maxHeartbeats 8000000 in
theorem take_err0 (A : Option Addr) (n c : Nat) (L : List ActV) (w : World) (hL : Acts w A n c L) (nk : Nat) (hnk : nk ≤ n) (hnh : nk ≤ 100) (K0 : Act → World → Prop) (U : Nat → Value) (wo : World) (k : Nat) (hkk : k < nk) (hsz : w.heap.size + 2 < wo.heap.size) (a : ActV) (ha : L[k]? = some a) (hz : (IntKind.u64.wrap a.kind).tmod 6 = (2 : Nat)) (hs2 : bits .and .i64 a.side 1 = 0) (B0 : Option Addr) (m0 : Nat) (d0 : Nat) (M0 : List ItemV) (B1 : Option Addr) (m1 : Nat) (d1 : Nat) (M1 : List ItemV) (S0 : Option Addr) (t0 : Nat) (u0 : Nat) (l0 : List Nat) (S1 : Option Addr) (t1 : Nat) (u1 : Nat) (l1 : List Nat) (hK : KW w w.heap.size wo B0 m0 d0 M0 B1 m1 d1 M1 S0 t0 u0 l0 S1 t1 u1 l1 (m0 : Int) (m1 : Int)) (hF0 : Fit l0 (says M0)) (hF1 : Fit l1 (says M1)) (hmm : m0 + m1 ≤ k) (htt : t0 + t1 ≤ k) (hr : (takeR ⟨says M0, says M1, false⟩ 0 a.at_).2.2 ≠ 0) :
    KRound A n c nk w K0 k U wo := by
  have hmx := hL.max
  have h1 : k < n := by omega
  have h2 : k < 100 := by omega
  obtain ⟨b, off, rfl, hc0, hc1, hc2, hc3, hc4⟩ := hL.cells k a ha
  obtain ⟨hbit, hb8⟩ := hL.ok a (List.mem_of_getElem? ha)
  clear ha
  replace hc0 := cell_keep hc0 hK.bel
  replace hc1 := cell_keep hc1 hK.bel
  replace hc2 := cell_keep hc2 hK.bel
  replace hc3 := cell_keep hc3 hK.bel
  replace hc4 := cell_keep hc4 hK.bel
  have hk0 : (0 : Int) ≤ (k : Int) := by omega
  have hkn : (k : Int) < (n : Int) := by omega
  have hkh : (k : Int) < 100 := by omega
  have hT := Blk.new wo #[.int .i64 a.kind, .int .i64 a.side, .int .i64 a.at_, .int .i64 a.bit, .int .u8 (a.b : Int)] 53
  have hbT := b_alloc (Below.refl wo.heap.size wo) (.cells #[.int .i64 a.kind, .int .i64 a.side, .int .i64 a.at_, .int .i64 a.bit, .int .u8 (a.b : Int)] 53)
  unfold KRound
  conv => arg 2; whnf
  go_upto_region 8 with (fail)
  generalize wo.alloc (.cells #[.int .i64 a.kind, .int .i64 a.side, .int .i64 a.at_, .int .i64 a.bit, .int .u8 (a.b : Int)] 53) = W1 at hT hbT ⊢
  have hlb : w.heap.size + 3 ≤ wo.heap.size := by omega
  replace hK := hK.keep hbT
  replace hsz : w.heap.size + 2 < W1.heap.size := Nat.lt_of_lt_of_le hsz hbT.size
  generalize wo.heap.size = g at hT hlb ⊢
  clear hc0 hc1 hc2 hc3 hc4 hbT
  have ax0 := hT.cell 0 rfl
  have axf0 := hT.free 0
  have ax1 := hT.cell 1 rfl
  have axf1 := hT.free 1
  have ax2 := hT.cell 2 rfl
  have axf2 := hT.free 2
  have ax3 := hT.cell 3 rfl
  have axf3 := hT.free 3
  have ax4 := hT.cell 4 rfl
  have axf4 := hT.free 4
  have hr' := Lib.hid (errOf_ne hr)
  have p0 := hK.P.cell 0 rfl
  have p1 := hK.P.cell 1 rfl
  have p2 := hK.P.cell 2 rfl
  go_upto_region 18 with (go_at_call 15; refine (take_any B0 m0 d0 M0 B1 m1 d1 M1 false ⟨says M0, says M1, false⟩ rfl 0 a.at_ _ hK.I0 hK.I1).mono ?_; unfold TakeP; rw [hr'.out]; rintro e x1 ⟨lv, Ab, nb, cb, rfl, ⟨C0, n0, e0, N0, C1, n1, e1, N1, rfl, hJ0, hJ1, -, -, -, -, -, -⟩, -, hbx⟩)
  have hbn := b_alloc (Below.refl x1.heap.size x1) (.cells #[.slice C0 n0 e0, .slice C1 n1 e1, .bool (takeR ⟨says M0, says M1, false⟩ 0 a.at_).1.d] 49)
  have hKe := (hK.keep hbx).keep hbn
  replace hsz := Nat.lt_of_lt_of_le hsz (Nat.le_trans hbx.size hbn.size)
  generalize x1.alloc (.cells #[.slice C0 n0 e0, .slice C1 n1 e1, .bool (takeR ⟨says M0, says M1, false⟩ 0 a.at_).1.d] 49) = W2 at hKe hsz ⊢
  clear hbn hK hT p0 p1 p2
  go_wp2_with fail
  refine ⟨KI.mk (k := k + 1) (by omega) hsz ⟨_, _, _, _, _, _, _, _, _, _, _, _, _, _, _, _, hKe, hF0, hF1, by omega, by omega⟩ ?_, ?_⟩
  · rw [show ((k + 1 : Nat) : Int) = (k : Int) + 1 from by omega]; rfl
  · simp [kmu, intOf]; omega
set_option maxHeartbeats 8000000 in
theorem take_ok0 (A : Option Addr) (n c : Nat) (L : List ActV) (w : World) (hL : Acts w A n c L) (nk : Nat) (hnk : nk ≤ n) (hnh : nk ≤ 100) (K0 : Act → World → Prop) (U : Nat → Value) (wo : World) (k : Nat) (hkk : k < nk) (hsz : w.heap.size + 2 < wo.heap.size) (a : ActV) (ha : L[k]? = some a) (hz : (IntKind.u64.wrap a.kind).tmod 6 = (2 : Nat)) (hs2 : bits .and .i64 a.side 1 = 0) (B0 : Option Addr) (m0 : Nat) (d0 : Nat) (M0 : List ItemV) (B1 : Option Addr) (m1 : Nat) (d1 : Nat) (M1 : List ItemV) (S0 : Option Addr) (t0 : Nat) (u0 : Nat) (l0 : List Nat) (S1 : Option Addr) (t1 : Nat) (u1 : Nat) (l1 : List Nat) (hK : KW w w.heap.size wo B0 m0 d0 M0 B1 m1 d1 M1 S0 t0 u0 l0 S1 t1 u1 l1 (m0 : Int) (m1 : Int)) (hF0 : Fit l0 (says M0)) (hF1 : Fit l1 (says M1)) (hmm : m0 + m1 ≤ k) (htt : t0 + t1 ≤ k) (i : Nat) (hi : i < (says M0).length) (x : Nat) (hx8 : x < 256) (j : Nat) (hj : j < l0.length) (hnear : near1 (l0.getD j 0) x) (hr : takeR ⟨says M0, says M1, false⟩ 0 a.at_ = (⟨(says M0).eraseIdx i, says M1, false⟩, [x], 0)) :
    KRound A n c nk w K0 k U wo := by
  have hmx := hL.max
  have h1 : k < n := by omega
  have h2 : k < 100 := by omega
  obtain ⟨b, off, rfl, hc0, hc1, hc2, hc3, hc4⟩ := hL.cells k a ha
  obtain ⟨hbit, hb8⟩ := hL.ok a (List.mem_of_getElem? ha)
  clear ha
  replace hc0 := cell_keep hc0 hK.bel
  replace hc1 := cell_keep hc1 hK.bel
  replace hc2 := cell_keep hc2 hK.bel
  replace hc3 := cell_keep hc3 hK.bel
  replace hc4 := cell_keep hc4 hK.bel
  have hk0 : (0 : Int) ≤ (k : Int) := by omega
  have hkn : (k : Int) < (n : Int) := by omega
  have hkh : (k : Int) < 100 := by omega
  have hT := Blk.new wo #[.int .i64 a.kind, .int .i64 a.side, .int .i64 a.at_, .int .i64 a.bit, .int .u8 (a.b : Int)] 53
  have hbT := b_alloc (Below.refl wo.heap.size wo) (.cells #[.int .i64 a.kind, .int .i64 a.side, .int .i64 a.at_, .int .i64 a.bit, .int .u8 (a.b : Int)] 53)
  unfold KRound
  conv => arg 2; whnf
  go_upto_region 8 with (fail)
  generalize wo.alloc (.cells #[.int .i64 a.kind, .int .i64 a.side, .int .i64 a.at_, .int .i64 a.bit, .int .u8 (a.b : Int)] 53) = W1 at hT hbT ⊢
  have hlb : w.heap.size + 3 ≤ wo.heap.size := by omega
  replace hK := hK.keep hbT
  replace hsz : w.heap.size + 2 < W1.heap.size := Nat.lt_of_lt_of_le hsz hbT.size
  generalize wo.heap.size = g at hT hlb ⊢
  clear hc0 hc1 hc2 hc3 hc4 hbT
  have ax0 := hT.cell 0 rfl
  have axf0 := hT.free 0
  have ax1 := hT.cell 1 rfl
  have axf1 := hT.free 1
  have ax2 := hT.cell 2 rfl
  have axf2 := hT.free 2
  have ax3 := hT.cell 3 rfl
  have axf3 := hT.free 3
  have ax4 := hT.cell 4 rfl
  have axf4 := hT.free 4
  obtain ⟨bS, oS, rfl, hcS⟩ := hK.O0.bs.cells (by have := hK.O0.len; omega)
  have hsm := hK.O0.bs.small
  have hlS := hK.O0.len
  have hr' := Lib.hid hr
  clear hcS
  have p0 := hK.P.cell 0 rfl
  have p1 := hK.P.cell 1 rfl
  have p2 := hK.P.cell 2 rfl
  go_upto_region 18 with (go_at_call 15; refine (take_any B0 m0 d0 M0 B1 m1 d1 M1 false ⟨says M0, says M1, false⟩ rfl 0 a.at_ _ hK.I0 hK.I1).mono ?_; rw [hr'.out]; unfold TakeP; dsimp only; rw [errOf_0]; rintro e x1 ⟨lv, Ab, nb, cb, rfl, ⟨C0, n0, e0, N0, C1, n1, e1, N1, rfl, hJ0, hJ1, i0, i1, hb0, hb1, hx0, hx1⟩, hbb, hbx⟩)
  obtain rfl : 1 = nb := by simpa using hbb.len
  have hl0 := congrArg List.length i0
  have hl1 := congrArg List.length i1
  rw [says_len, hJ0.len] at hl0
  rw [says_len, hJ1.len] at hl1
  rw [List.length_eraseIdx, if_pos hi] at hl0
  rw [says_len, hK.I0.len] at hl0
  rw [says_len, hK.I1.len] at hl1
  have hip := hi
  rw [says_len, hK.I0.len] at hip
  have hq := Lib.hid (And.intro hl0 hl1)
  clear hl0 hl1
  have hbn := b_alloc (Below.refl x1.heap.size x1) (.cells #[.slice C0 n0 e0, .slice C1 n1 e1, .bool false] 49)
  have hQ := Blk.new x1 #[.slice C0 n0 e0, .slice C1 n1 e1, .bool false] 49
  have hgb := hK.O0.ge
  have hgc := hK.O1.ge
  have hK2 := (hK.keep hbx).keep hbn
  have hJ0' := hJ0.keep hbn
  have hJ1' := hJ1.keep hbn
  have hbb' := hbb.keep hbn
  have hszW := hsz
  replace hsz := Nat.lt_of_lt_of_le hsz (Nat.le_trans hbx.size hbn.size)
  generalize x1.alloc (.cells #[.slice C0 n0 e0, .slice C1 n1 e1, .bool false] 49) = W2 at hK2 hQ hJ0' hJ1' hbb' hsz ⊢
  generalize x1.heap.size = g2 at hQ ⊢
  clear p0 p1 p2 hK hT hJ0 hJ1 hbb hbn
  obtain ⟨bB, oB, rfl, hcB⟩ := hbb'.cells (by omega)
  have hcB0 := hcB 0 (by omega)
  clear hcB
  go_wp2_with fail
  go_loopw [12, 13, 14] (fun okv kv dv wr => ∃ (q : Nat) (bb : Bool), q ≤ t0 ∧ kv = .int .i64 q ∧ okv = .bool bb ∧ (j < q → bb = true) ∧ Below W2.heap.size W2 wr) (fun _ kv _ _ => t0 - (intOf kv).toNat)
  case atStart => exact ⟨0, false, by omega, rfl, rfl, fun h => absurd h (by omega), Below.refl _ _⟩
  case round =>
    obtain ⟨q, bb, hqt, rfl, rfl, hjq, hbw⟩ := hrel
    have r0 := (hK2.S.keep hbw).cell 0 rfl
    by_cases hlt : q < t0
    · obtain ⟨bS', oS', e', hcS⟩ := (hK2.O0.bs.keep hbw).cells (by omega)
      have hcq := hcS q hlt
      have e2 := Option.some.inj e'
      obtain rfl : bS = bS' := congrArg Addr.block e2
      obtain rfl : oS = oS' := congrArg Addr.off e2
      clear e' e2 hcS
      have hv8 : l0.getD q 0 < 256 := hsm _ (by rw [List.getD_eq_getElem?_getD, List.getElem?_eq_getElem (by omega)]; exact List.getElem_mem _)
      have hnr : j = q → near1 (l0.getD q 0) x := fun e => e ▸ hnear
      have hcx := cell_keep hcB0 hbw
      simp only [Nat.add_zero, List.getD_cons_zero] at hcx
      generalize l0.getD q 0 = v at hcq hv8 hnr
      have hxv : bits .xor .u8 (v : Int) (x : Int) = ((v ^^^ x : Nat) : Int) := u8_xor_nat v x hv8 hx8
      have hq0 : (0 : Int) ≤ (q : Int) := by omega
      have hqn : (q : Int) < (t0 : Int) := by omega
      go_upto_region 23 with (fail)
      go_quiet (fail)
      cases bb with
      | true =>
        go_wp2_with fail
        go_roundw
        case rel => exact ⟨q + 1, true, by omega, by go_num, rfl, fun _ => rfl, b_drewN hbw _⟩
        case measure => simp [intOf]; omega
      | false =>
        have hjq' : ¬ j < q := fun h => by cases hjq h
        clear hjq
        go_wp2_with fail
        go_roundw
        case rel => exact ⟨q + 1, _, by omega, by go_num, rfl, fun h => beq_iff_eq.2 (hnr (by omega)), b_drewN hbw _⟩
        case measure => simp [intOf]; omega
    · have hbt := hjq (by omega)
      subst hbt
      obtain rfl : q = t0 := by omega
      clear hjq hcB0
      have hK2w := hK2.keep hbw
      have hQw := hQ.keep hbw
      have hJ0w := hJ0'.keep hbw
      have hJ1w := hJ1'.keep hbw
      replace hsz := Nat.lt_of_lt_of_le hsz hbw.size
      have hK3 := hK2w.link hJ0w hJ1w hb0 hb1 hx0 hx1 (by omega) (fun q hq => (hgb q hq).2) (fun q hq => (hgc q hq).2)
      have p0 := hK2w.P.cell 0 rfl
      have p1 := hK2w.P.cell 1 rfl
      have p2 := hK2w.P.cell 2 rfl
      have pf0 := hK2w.P.free 0
      have pf1 := hK2w.P.free 1
      have pf2 := hK2w.P.free 2
      have q0 := hQw.cell 0 rfl
      have q1 := hQw.cell 1 rfl
      have q2 := hQw.cell 2 rfl
      clear hK2 hQ hJ0' hJ1'
      go_upto_region 28 with (fail)
      replace hsz : w.heap.size + 2 < (((wr.setCell ⟨w.heap.size, 0, none⟩ (.slice C0 n0 e0)).setCell ⟨w.heap.size, 1, none⟩ (.slice C1 n1 e1)).setCell ⟨w.heap.size, 2, none⟩ (.bool false)).heap.size := by simpa using hsz
      generalize ((wr.setCell ⟨w.heap.size, 0, none⟩ (.slice C0 n0 e0)).setCell ⟨w.heap.size, 1, none⟩ (.slice C1 n1 e1)).setCell ⟨w.heap.size, 2, none⟩ (.bool false) = W3 at hK3 hsz ⊢
      clear p0 p1 p2 pf0 pf1 pf2 q0 q1 q2 hK2w hQw hJ0w hJ1w hgb hgc r0
      obtain ⟨hqx, hqy⟩ := hq.out
      have hY : n1 = m1 := hqy
      have hXn : n0 + 1 = m0 := by have := hip; have := hqx; omega
      clear hqx hqy
      subst hY
      have s0 := hK3.M.cell 0 rfl
      have sf0 := hK3.M.free 0
      have hK4 := hK3.count0 (n0 : Int)
      have hFe0 := hF0.erase i
      rw [← i0] at hFe0
      have hFe1 := hF1
      rw [← i1] at hFe1
      have hce : (m0 : Int) - 1 = (n0 : Int) := by omega
      have hcw : IntKind.i64.wrap ((m0 : Int) - 1) = (n0 : Int) := by rw [hce]; exact IntWalk.i64_in _ (by omega)
      go_upto_region 43 with (fail)
      clear hce hcw
      replace hsz : w.heap.size + 2 < (W3.setCell ⟨w.heap.size + 2, 0, none⟩ (.int .i64 (n0 : Int))).heap.size := by simpa using hsz
      have hKe := hK4
      generalize W3.setCell ⟨w.heap.size + 2, 0, none⟩ (.int .i64 (n0 : Int)) = W4 at hKe hsz ⊢
      clear hK3 hK4 s0 sf0
      have hq0 := hKe.P.cell 0 rfl
      have hq1 := hKe.P.cell 1 rfl
      have hq3 := hKe.M.cell 0 rfl
      have hq4 := hKe.M.cell 1 rfl
      go_wp2_with fail
      refine ⟨KI.mk (k := k + 1) (by omega) hsz ⟨_, _, _, _, _, _, _, _, _, _, _, _, _, _, _, _, hKe, hFe0, hFe1, by omega, by omega⟩ ?_, ?_⟩
      · rw [show ((k + 1 : Nat) : Int) = (k : Int) + 1 from by omega]; rfl
      · simp [kmu, intOf]; omega
set_option maxHeartbeats 8000000 in
theorem take_err1 (A : Option Addr) (n c : Nat) (L : List ActV) (w : World) (hL : Acts w A n c L) (nk : Nat) (hnk : nk ≤ n) (hnh : nk ≤ 100) (K0 : Act → World → Prop) (U : Nat → Value) (wo : World) (k : Nat) (hkk : k < nk) (hsz : w.heap.size + 2 < wo.heap.size) (a : ActV) (ha : L[k]? = some a) (hz : (IntKind.u64.wrap a.kind).tmod 6 = (2 : Nat)) (hs2 : bits .and .i64 a.side 1 = 1) (B0 : Option Addr) (m0 : Nat) (d0 : Nat) (M0 : List ItemV) (B1 : Option Addr) (m1 : Nat) (d1 : Nat) (M1 : List ItemV) (S0 : Option Addr) (t0 : Nat) (u0 : Nat) (l0 : List Nat) (S1 : Option Addr) (t1 : Nat) (u1 : Nat) (l1 : List Nat) (hK : KW w w.heap.size wo B0 m0 d0 M0 B1 m1 d1 M1 S0 t0 u0 l0 S1 t1 u1 l1 (m0 : Int) (m1 : Int)) (hF0 : Fit l0 (says M0)) (hF1 : Fit l1 (says M1)) (hmm : m0 + m1 ≤ k) (htt : t0 + t1 ≤ k) (hr : (takeR ⟨says M0, says M1, false⟩ 1 a.at_).2.2 ≠ 0) :
    KRound A n c nk w K0 k U wo := by
  have hmx := hL.max
  have h1 : k < n := by omega
  have h2 : k < 100 := by omega
  obtain ⟨b, off, rfl, hc0, hc1, hc2, hc3, hc4⟩ := hL.cells k a ha
  obtain ⟨hbit, hb8⟩ := hL.ok a (List.mem_of_getElem? ha)
  clear ha
  replace hc0 := cell_keep hc0 hK.bel
  replace hc1 := cell_keep hc1 hK.bel
  replace hc2 := cell_keep hc2 hK.bel
  replace hc3 := cell_keep hc3 hK.bel
  replace hc4 := cell_keep hc4 hK.bel
  have hk0 : (0 : Int) ≤ (k : Int) := by omega
  have hkn : (k : Int) < (n : Int) := by omega
  have hkh : (k : Int) < 100 := by omega
  have hT := Blk.new wo #[.int .i64 a.kind, .int .i64 a.side, .int .i64 a.at_, .int .i64 a.bit, .int .u8 (a.b : Int)] 53
  have hbT := b_alloc (Below.refl wo.heap.size wo) (.cells #[.int .i64 a.kind, .int .i64 a.side, .int .i64 a.at_, .int .i64 a.bit, .int .u8 (a.b : Int)] 53)
  unfold KRound
  conv => arg 2; whnf
  go_upto_region 8 with (fail)
  generalize wo.alloc (.cells #[.int .i64 a.kind, .int .i64 a.side, .int .i64 a.at_, .int .i64 a.bit, .int .u8 (a.b : Int)] 53) = W1 at hT hbT ⊢
  have hlb : w.heap.size + 3 ≤ wo.heap.size := by omega
  replace hK := hK.keep hbT
  replace hsz : w.heap.size + 2 < W1.heap.size := Nat.lt_of_lt_of_le hsz hbT.size
  generalize wo.heap.size = g at hT hlb ⊢
  clear hc0 hc1 hc2 hc3 hc4 hbT
  have ax0 := hT.cell 0 rfl
  have axf0 := hT.free 0
  have ax1 := hT.cell 1 rfl
  have axf1 := hT.free 1
  have ax2 := hT.cell 2 rfl
  have axf2 := hT.free 2
  have ax3 := hT.cell 3 rfl
  have axf3 := hT.free 3
  have ax4 := hT.cell 4 rfl
  have axf4 := hT.free 4
  have hr' := Lib.hid (errOf_ne hr)
  have p0 := hK.P.cell 0 rfl
  have p1 := hK.P.cell 1 rfl
  have p2 := hK.P.cell 2 rfl
  go_upto_region 18 with (go_at_call 15; refine (take_any B0 m0 d0 M0 B1 m1 d1 M1 false ⟨says M0, says M1, false⟩ rfl 1 a.at_ _ hK.I0 hK.I1).mono ?_; unfold TakeP; rw [hr'.out]; rintro e x1 ⟨lv, Ab, nb, cb, rfl, ⟨C0, n0, e0, N0, C1, n1, e1, N1, rfl, hJ0, hJ1, -, -, -, -, -, -⟩, -, hbx⟩)
  have hbn := b_alloc (Below.refl x1.heap.size x1) (.cells #[.slice C0 n0 e0, .slice C1 n1 e1, .bool (takeR ⟨says M0, says M1, false⟩ 1 a.at_).1.d] 49)
  have hKe := (hK.keep hbx).keep hbn
  replace hsz := Nat.lt_of_lt_of_le hsz (Nat.le_trans hbx.size hbn.size)
  generalize x1.alloc (.cells #[.slice C0 n0 e0, .slice C1 n1 e1, .bool (takeR ⟨says M0, says M1, false⟩ 1 a.at_).1.d] 49) = W2 at hKe hsz ⊢
  clear hbn hK hT p0 p1 p2
  go_wp2_with fail
  refine ⟨KI.mk (k := k + 1) (by omega) hsz ⟨_, _, _, _, _, _, _, _, _, _, _, _, _, _, _, _, hKe, hF0, hF1, by omega, by omega⟩ ?_, ?_⟩
  · rw [show ((k + 1 : Nat) : Int) = (k : Int) + 1 from by omega]; rfl
  · simp [kmu, intOf]; omega
set_option maxHeartbeats 8000000 in
theorem take_ok1 (A : Option Addr) (n c : Nat) (L : List ActV) (w : World) (hL : Acts w A n c L) (nk : Nat) (hnk : nk ≤ n) (hnh : nk ≤ 100) (K0 : Act → World → Prop) (U : Nat → Value) (wo : World) (k : Nat) (hkk : k < nk) (hsz : w.heap.size + 2 < wo.heap.size) (a : ActV) (ha : L[k]? = some a) (hz : (IntKind.u64.wrap a.kind).tmod 6 = (2 : Nat)) (hs2 : bits .and .i64 a.side 1 = 1) (B0 : Option Addr) (m0 : Nat) (d0 : Nat) (M0 : List ItemV) (B1 : Option Addr) (m1 : Nat) (d1 : Nat) (M1 : List ItemV) (S0 : Option Addr) (t0 : Nat) (u0 : Nat) (l0 : List Nat) (S1 : Option Addr) (t1 : Nat) (u1 : Nat) (l1 : List Nat) (hK : KW w w.heap.size wo B0 m0 d0 M0 B1 m1 d1 M1 S0 t0 u0 l0 S1 t1 u1 l1 (m0 : Int) (m1 : Int)) (hF0 : Fit l0 (says M0)) (hF1 : Fit l1 (says M1)) (hmm : m0 + m1 ≤ k) (htt : t0 + t1 ≤ k) (i : Nat) (hi : i < (says M1).length) (x : Nat) (hx8 : x < 256) (j : Nat) (hj : j < l1.length) (hnear : near1 (l1.getD j 0) x) (hr : takeR ⟨says M0, says M1, false⟩ 1 a.at_ = (⟨says M0, (says M1).eraseIdx i, false⟩, [x], 0)) :
    KRound A n c nk w K0 k U wo := by
  have hmx := hL.max
  have h1 : k < n := by omega
  have h2 : k < 100 := by omega
  obtain ⟨b, off, rfl, hc0, hc1, hc2, hc3, hc4⟩ := hL.cells k a ha
  obtain ⟨hbit, hb8⟩ := hL.ok a (List.mem_of_getElem? ha)
  clear ha
  replace hc0 := cell_keep hc0 hK.bel
  replace hc1 := cell_keep hc1 hK.bel
  replace hc2 := cell_keep hc2 hK.bel
  replace hc3 := cell_keep hc3 hK.bel
  replace hc4 := cell_keep hc4 hK.bel
  have hk0 : (0 : Int) ≤ (k : Int) := by omega
  have hkn : (k : Int) < (n : Int) := by omega
  have hkh : (k : Int) < 100 := by omega
  have hT := Blk.new wo #[.int .i64 a.kind, .int .i64 a.side, .int .i64 a.at_, .int .i64 a.bit, .int .u8 (a.b : Int)] 53
  have hbT := b_alloc (Below.refl wo.heap.size wo) (.cells #[.int .i64 a.kind, .int .i64 a.side, .int .i64 a.at_, .int .i64 a.bit, .int .u8 (a.b : Int)] 53)
  unfold KRound
  conv => arg 2; whnf
  go_upto_region 8 with (fail)
  generalize wo.alloc (.cells #[.int .i64 a.kind, .int .i64 a.side, .int .i64 a.at_, .int .i64 a.bit, .int .u8 (a.b : Int)] 53) = W1 at hT hbT ⊢
  have hlb : w.heap.size + 3 ≤ wo.heap.size := by omega
  replace hK := hK.keep hbT
  replace hsz : w.heap.size + 2 < W1.heap.size := Nat.lt_of_lt_of_le hsz hbT.size
  generalize wo.heap.size = g at hT hlb ⊢
  clear hc0 hc1 hc2 hc3 hc4 hbT
  have ax0 := hT.cell 0 rfl
  have axf0 := hT.free 0
  have ax1 := hT.cell 1 rfl
  have axf1 := hT.free 1
  have ax2 := hT.cell 2 rfl
  have axf2 := hT.free 2
  have ax3 := hT.cell 3 rfl
  have axf3 := hT.free 3
  have ax4 := hT.cell 4 rfl
  have axf4 := hT.free 4
  obtain ⟨bS, oS, rfl, hcS⟩ := hK.O1.bs.cells (by have := hK.O1.len; omega)
  have hsm := hK.O1.bs.small
  have hlS := hK.O1.len
  have hr' := Lib.hid hr
  clear hcS
  have p0 := hK.P.cell 0 rfl
  have p1 := hK.P.cell 1 rfl
  have p2 := hK.P.cell 2 rfl
  go_upto_region 18 with (go_at_call 15; refine (take_any B0 m0 d0 M0 B1 m1 d1 M1 false ⟨says M0, says M1, false⟩ rfl 1 a.at_ _ hK.I0 hK.I1).mono ?_; rw [hr'.out]; unfold TakeP; dsimp only; rw [errOf_0]; rintro e x1 ⟨lv, Ab, nb, cb, rfl, ⟨C0, n0, e0, N0, C1, n1, e1, N1, rfl, hJ0, hJ1, i0, i1, hb0, hb1, hx0, hx1⟩, hbb, hbx⟩)
  obtain rfl : 1 = nb := by simpa using hbb.len
  have hl0 := congrArg List.length i0
  have hl1 := congrArg List.length i1
  rw [says_len, hJ0.len] at hl0
  rw [says_len, hJ1.len] at hl1
  rw [List.length_eraseIdx, if_pos hi] at hl1
  rw [says_len, hK.I0.len] at hl0
  rw [says_len, hK.I1.len] at hl1
  have hip := hi
  rw [says_len, hK.I1.len] at hip
  have hq := Lib.hid (And.intro hl0 hl1)
  clear hl0 hl1
  have hbn := b_alloc (Below.refl x1.heap.size x1) (.cells #[.slice C0 n0 e0, .slice C1 n1 e1, .bool false] 49)
  have hQ := Blk.new x1 #[.slice C0 n0 e0, .slice C1 n1 e1, .bool false] 49
  have hgb := hK.O0.ge
  have hgc := hK.O1.ge
  have hK2 := (hK.keep hbx).keep hbn
  have hJ0' := hJ0.keep hbn
  have hJ1' := hJ1.keep hbn
  have hbb' := hbb.keep hbn
  have hszW := hsz
  replace hsz := Nat.lt_of_lt_of_le hsz (Nat.le_trans hbx.size hbn.size)
  generalize x1.alloc (.cells #[.slice C0 n0 e0, .slice C1 n1 e1, .bool false] 49) = W2 at hK2 hQ hJ0' hJ1' hbb' hsz ⊢
  generalize x1.heap.size = g2 at hQ ⊢
  clear p0 p1 p2 hK hT hJ0 hJ1 hbb hbn
  obtain ⟨bB, oB, rfl, hcB⟩ := hbb'.cells (by omega)
  have hcB0 := hcB 0 (by omega)
  clear hcB
  go_wp2_with fail
  go_loopw [12, 13, 14] (fun okv kv dv wr => ∃ (q : Nat) (bb : Bool), q ≤ t1 ∧ kv = .int .i64 q ∧ okv = .bool bb ∧ (j < q → bb = true) ∧ Below W2.heap.size W2 wr) (fun _ kv _ _ => t1 - (intOf kv).toNat)
  case atStart => exact ⟨0, false, by omega, rfl, rfl, fun h => absurd h (by omega), Below.refl _ _⟩
  case round =>
    obtain ⟨q, bb, hqt, rfl, rfl, hjq, hbw⟩ := hrel
    have r0 := (hK2.S.keep hbw).cell 1 rfl
    by_cases hlt : q < t1
    · obtain ⟨bS', oS', e', hcS⟩ := (hK2.O1.bs.keep hbw).cells (by omega)
      have hcq := hcS q hlt
      have e2 := Option.some.inj e'
      obtain rfl : bS = bS' := congrArg Addr.block e2
      obtain rfl : oS = oS' := congrArg Addr.off e2
      clear e' e2 hcS
      have hv8 : l1.getD q 0 < 256 := hsm _ (by rw [List.getD_eq_getElem?_getD, List.getElem?_eq_getElem (by omega)]; exact List.getElem_mem _)
      have hnr : j = q → near1 (l1.getD q 0) x := fun e => e ▸ hnear
      have hcx := cell_keep hcB0 hbw
      simp only [Nat.add_zero, List.getD_cons_zero] at hcx
      generalize l1.getD q 0 = v at hcq hv8 hnr
      have hxv : bits .xor .u8 (v : Int) (x : Int) = ((v ^^^ x : Nat) : Int) := u8_xor_nat v x hv8 hx8
      have hq0 : (0 : Int) ≤ (q : Int) := by omega
      have hqn : (q : Int) < (t1 : Int) := by omega
      go_upto_region 23 with (fail)
      go_quiet (fail)
      cases bb with
      | true =>
        go_wp2_with fail
        go_roundw
        case rel => exact ⟨q + 1, true, by omega, by go_num, rfl, fun _ => rfl, b_drewN hbw _⟩
        case measure => simp [intOf]; omega
      | false =>
        have hjq' : ¬ j < q := fun h => by cases hjq h
        clear hjq
        go_wp2_with fail
        go_roundw
        case rel => exact ⟨q + 1, _, by omega, by go_num, rfl, fun h => beq_iff_eq.2 (hnr (by omega)), b_drewN hbw _⟩
        case measure => simp [intOf]; omega
    · have hbt := hjq (by omega)
      subst hbt
      obtain rfl : q = t1 := by omega
      clear hjq hcB0
      have hK2w := hK2.keep hbw
      have hQw := hQ.keep hbw
      have hJ0w := hJ0'.keep hbw
      have hJ1w := hJ1'.keep hbw
      replace hsz := Nat.lt_of_lt_of_le hsz hbw.size
      have hK3 := hK2w.link hJ0w hJ1w hb0 hb1 hx0 hx1 (by omega) (fun q hq => (hgb q hq).2) (fun q hq => (hgc q hq).2)
      have p0 := hK2w.P.cell 0 rfl
      have p1 := hK2w.P.cell 1 rfl
      have p2 := hK2w.P.cell 2 rfl
      have pf0 := hK2w.P.free 0
      have pf1 := hK2w.P.free 1
      have pf2 := hK2w.P.free 2
      have q0 := hQw.cell 0 rfl
      have q1 := hQw.cell 1 rfl
      have q2 := hQw.cell 2 rfl
      clear hK2 hQ hJ0' hJ1'
      go_upto_region 28 with (fail)
      replace hsz : w.heap.size + 2 < (((wr.setCell ⟨w.heap.size, 0, none⟩ (.slice C0 n0 e0)).setCell ⟨w.heap.size, 1, none⟩ (.slice C1 n1 e1)).setCell ⟨w.heap.size, 2, none⟩ (.bool false)).heap.size := by simpa using hsz
      generalize ((wr.setCell ⟨w.heap.size, 0, none⟩ (.slice C0 n0 e0)).setCell ⟨w.heap.size, 1, none⟩ (.slice C1 n1 e1)).setCell ⟨w.heap.size, 2, none⟩ (.bool false) = W3 at hK3 hsz ⊢
      clear p0 p1 p2 pf0 pf1 pf2 q0 q1 q2 hK2w hQw hJ0w hJ1w hgb hgc r0
      obtain ⟨hqx, hqy⟩ := hq.out
      have hY : n0 = m0 := hqx
      have hXn : n1 + 1 = m1 := by have := hip; have := hqy; omega
      clear hqx hqy
      subst hY
      have s0 := hK3.M.cell 1 rfl
      have sf0 := hK3.M.free 1
      have hK4 := hK3.count1 (n1 : Int)
      have hFe1 := hF1.erase i
      rw [← i1] at hFe1
      have hFe0 := hF0
      rw [← i0] at hFe0
      have hce : (m1 : Int) - 1 = (n1 : Int) := by omega
      have hcw : IntKind.i64.wrap ((m1 : Int) - 1) = (n1 : Int) := by rw [hce]; exact IntWalk.i64_in _ (by omega)
      go_upto_region 43 with (fail)
      clear hce hcw
      replace hsz : w.heap.size + 2 < (W3.setCell ⟨w.heap.size + 2, 1, none⟩ (.int .i64 (n1 : Int))).heap.size := by simpa using hsz
      have hKe := hK4
      generalize W3.setCell ⟨w.heap.size + 2, 1, none⟩ (.int .i64 (n1 : Int)) = W4 at hKe hsz ⊢
      clear hK3 hK4 s0 sf0
      have hq0 := hKe.P.cell 0 rfl
      have hq1 := hKe.P.cell 1 rfl
      have hq3 := hKe.M.cell 0 rfl
      have hq4 := hKe.M.cell 1 rfl
      go_wp2_with fail
      refine ⟨KI.mk (k := k + 1) (by omega) hsz ⟨_, _, _, _, _, _, _, _, _, _, _, _, _, _, _, _, hKe, hFe0, hFe1, by omega, by omega⟩ ?_, ?_⟩
      · rw [show ((k + 1 : Nat) : Int) = (k : Int) + 1 from by omega]; rfl
      · simp [kmu, intOf]; omega
end Go.Proofs.Ytbmfcaobhgeogaa
