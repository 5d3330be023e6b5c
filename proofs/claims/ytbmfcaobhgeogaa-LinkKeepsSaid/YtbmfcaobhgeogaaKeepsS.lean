/-
  LinkKeeps: the rounds in which something is sent.
-/
import Derived.Test.YtbmfcaobhgeogaaKeepsHead
namespace Go.Proofs.Ytbmfcaobhgeogaa
open Go.RowKit
set_option linter.unusedVariables false
set_option linter.unusedSimpArgs false
set_option maxRecDepth 1000000
theorem send_case0 (s0 s1 : List (List Nat × Bool)) (b : Nat) (h : s0.length < 256) : sendR ⟨s0, s1, false⟩ 0 [b] = (⟨s0 ++ [([b], false)], s1, false⟩, 0) := by
  unfold sendR
  rw [if_neg (by omega), if_neg (by simp), if_neg (by simp), if_neg (by simp; omega), if_pos rfl]
theorem send_case1 (s0 s1 : List (List Nat × Bool)) (b : Nat) (h : s1.length < 256) : sendR ⟨s0, s1, false⟩ 1 [b] = (⟨s0, s1 ++ [([b], false)], false⟩, 0) := by
  unfold sendR
  rw [if_neg (by omega), if_neg (by simp), if_neg (by simp), if_neg (by simp; omega), if_neg (by omega)]
set_option maxHeartbeats 8000000 in
theorem send0_0 (A : Option Addr) (n c : Nat) (L : List ActV) (w : World) (hL : Acts w A n c L) (nk : Nat) (hnk : nk ≤ n) (hnh : nk ≤ 100) (K0 : Act → World → Prop) (U : Nat → Value) (wo : World) (k : Nat) (hkk : k < nk) (hsz : w.heap.size + 2 < wo.heap.size) (a : ActV) (ha : L[k]? = some a) (hz : (IntKind.u64.wrap a.kind).tmod 6 = (0 : Nat)) (hs2 : bits .and .i64 a.side 1 = 0) (B0 : Option Addr) (m0 : Nat) (d0 : Nat) (M0 : List ItemV) (B1 : Option Addr) (m1 : Nat) (d1 : Nat) (M1 : List ItemV) (S0 : Option Addr) (t0 : Nat) (u0 : Nat) (l0 : List Nat) (S1 : Option Addr) (t1 : Nat) (u1 : Nat) (l1 : List Nat) (hK : KW w w.heap.size wo B0 m0 d0 M0 B1 m1 d1 M1 S0 t0 u0 l0 S1 t1 u1 l1 (m0 : Int) (m1 : Int)) (hF0 : Fit l0 (says M0)) (hF1 : Fit l1 (says M1)) (hmm : m0 + m1 ≤ k) (htt : t0 + t1 ≤ k) :
    KRound A n c nk w K0 k U wo := by
  have hmx := hL.max
  have h1 : k < n := by omega
  have h2 : k < 100 := by omega
  obtain ⟨b, off, rfl, hc0, hc1, hc2, hc3, hc4⟩ := hL.cells k a ha
  obtain ⟨hbit, hb8⟩ := hL.ok a (List.mem_of_getElem? ha)
  clear ha
  replace hc0 := cell_keep hc0 hK.bel
  replace hc1 := cell_keep hc1 hK.bel
  replace hc2 := cell_keep hc2 hK.bel
  replace hc3 := cell_keep hc3 hK.bel
  replace hc4 := cell_keep hc4 hK.bel
  have hk0 : (0 : Int) ≤ (k : Int) := by omega
  have hkn : (k : Int) < (n : Int) := by omega
  have hkh : (k : Int) < 100 := by omega
  have hT := Blk.new wo #[.int .i64 a.kind, .int .i64 a.side, .int .i64 a.at_, .int .i64 a.bit, .int .u8 (a.b : Int)] 53
  have hbT := b_alloc (Below.refl wo.heap.size wo) (.cells #[.int .i64 a.kind, .int .i64 a.side, .int .i64 a.at_, .int .i64 a.bit, .int .u8 (a.b : Int)] 53)
  unfold KRound
  conv => arg 2; whnf
  go_upto_region 8 with (fail)
  generalize wo.alloc (.cells #[.int .i64 a.kind, .int .i64 a.side, .int .i64 a.at_, .int .i64 a.bit, .int .u8 (a.b : Int)] 53) = W1 at hT hbT ⊢
  have hlb : w.heap.size + 3 ≤ wo.heap.size := by omega
  replace hK := hK.keep hbT
  replace hsz : w.heap.size + 2 < W1.heap.size := Nat.lt_of_lt_of_le hsz hbT.size
  generalize wo.heap.size = g at hT hlb ⊢
  clear hc0 hc1 hc2 hc3 hc4 hbT
  have ax0 := hT.cell 0 rfl
  have axf0 := hT.free 0
  have ax1 := hT.cell 1 rfl
  have axf1 := hT.free 1
  have ax2 := hT.cell 2 rfl
  have axf2 := hT.free 2
  have ax3 := hT.cell 3 rfl
  have axf3 := hT.free 3
  have ax4 := hT.cell 4 rfl
  have axf4 := hT.free 4
  have hlX : (says M0).length = m0 := (says_len _).trans hK.I0.len
  have hr' := Lib.hid (send_case0 (says M0) (says M1) a.b (by omega))
  clear hlX
  have hbA := b_alloc (Below.refl W1.heap.size W1) (.cells #[.int .u8 (a.b : Int)] 5)
  have hbs1 : Bs (W1.alloc (.cells #[.int .u8 (a.b : Int)] 5)) (some ⟨W1.heap.size, 0, none⟩) 1 1 [a.b] := Bs.made W1 5 [a.b] 1 rfl (by omega) (by simpa using hb8)
  have p0 := hK.P.cell 0 rfl
  have p1 := hK.P.cell 1 rfl
  have p2 := hK.P.cell 2 rfl
  go_upto_region 11 with (go_at_call 19; refine (send_any B0 m0 d0 M0 B1 m1 d1 M1 false ⟨says M0, says M1, false⟩ rfl 0 (some ⟨W1.heap.size, 0, none⟩) 1 1 [a.b] _ (hK.I0.keep hbA) (hK.I1.keep hbA) hbs1).mono ?_; rw [hr'.out]; unfold LinkP; dsimp only; rw [errOf_0]; rintro e x1 ⟨lv, rfl, ⟨C0, n0, e0, N0, C1, n1, e1, N1, rfl, hJ0, hJ1, i0, i1, hb0, hb1, hx0, hx1⟩, hbx⟩)
  have hbase : (W1.alloc (.cells #[.int .u8 (a.b : Int)] 5)).heap.size = W1.heap.size + 1 := by simp
  replace hbx : Below W1.heap.size W1 x1 := b_then hbA hbx
  rw [hbase] at hb0 hb1 hx0 hx1
  clear hbase hbs1 hbA
  have hl0 := congrArg List.length i0
  have hl1 := congrArg List.length i1
  rw [says_len, hJ0.len] at hl0
  rw [says_len, hJ1.len] at hl1
  rw [List.length_append] at hl0
  simp at hl0
  rw [says_len, hK.I0.len] at hl0
  rw [says_len, hK.I1.len] at hl1
  have hq := Lib.hid (And.intro hl0 hl1)
  clear hl0 hl1
  have hbn := b_alloc (Below.refl x1.heap.size x1) (.cells #[.slice C0 n0 e0, .slice C1 n1 e1, .bool false] 49)
  have hQ := Blk.new x1 #[.slice C0 n0 e0, .slice C1 n1 e1, .bool false] 49
  have hgb := hK.O0.ge
  have hgc := hK.O1.ge
  have hK2 := (hK.keep hbx).keep hbn
  have hT2 := (hT.keep hbx).keep hbn
  have hJ0' := hJ0.keep hbn
  have hJ1' := hJ1.keep hbn
  have hszW := hsz
  replace hsz := Nat.lt_of_lt_of_le hsz (Nat.le_trans hbx.size hbn.size)
  generalize x1.alloc (.cells #[.slice C0 n0 e0, .slice C1 n1 e1, .bool false] 49) = W2 at hK2 hQ hJ0' hJ1' hT2 hsz ⊢
  generalize x1.heap.size = g2 at hQ ⊢
  have hK3 := hK2.link hJ0' hJ1' hb0 hb1 hx0 hx1 (by omega) (fun q hq => Nat.lt_succ_of_lt (hgb q hq).2) (fun q hq => Nat.lt_succ_of_lt (hgc q hq).2)
  have hT3 := ((hT2.far (p := ⟨w.heap.size, 0, none⟩) (by show g ≠ w.heap.size; omega) (.slice C0 n0 e0)).far (p := ⟨w.heap.size, 1, none⟩) (by show g ≠ w.heap.size; omega) (.slice C1 n1 e1)).far (p := ⟨w.heap.size, 2, none⟩) (by show g ≠ w.heap.size; omega) (.bool false)
  clear p0 p1 p2 hK hT hT2
  have p0 := hK2.P.cell 0 rfl
  have p1 := hK2.P.cell 1 rfl
  have p2 := hK2.P.cell 2 rfl
  have pf0 := hK2.P.free 0
  have pf1 := hK2.P.free 1
  have pf2 := hK2.P.free 2
  have q0 := hQ.cell 0 rfl
  have q1 := hQ.cell 1 rfl
  have q2 := hQ.cell 2 rfl
  clear ax0 axf0 ax1 axf1 ax2 axf2 ax3 axf3 ax4 axf4
  go_upto_region 14 with (fail)
  replace hsz : w.heap.size + 2 < (((W2.setCell ⟨w.heap.size, 0, none⟩ (.slice C0 n0 e0)).setCell ⟨w.heap.size, 1, none⟩ (.slice C1 n1 e1)).setCell ⟨w.heap.size, 2, none⟩ (.bool false)).heap.size := by simpa using hsz
  generalize ((W2.setCell ⟨w.heap.size, 0, none⟩ (.slice C0 n0 e0)).setCell ⟨w.heap.size, 1, none⟩ (.slice C1 n1 e1)).setCell ⟨w.heap.size, 2, none⟩ (.bool false) = W3 at hK3 hT3 hsz ⊢
  clear p0 p1 p2 pf0 pf1 pf2 q0 q1 q2 hK2 hQ hJ0 hJ1 hJ0' hJ1' hgb hgc
  obtain ⟨hqx, hqy⟩ := hq.out
  have hY : n1 = m1 := hqy
  have hXn : m0 + 1 = n0 := hqx.symm
  clear hqx hqy
  subst hY
  have r0 := hK3.S.cell 0 rfl
  have rf0 := hK3.S.free 0
  have ax4 := hT3.cell 4 rfl
  have r0d : W3.drew.cell? ⟨w.heap.size + 1, 0, none⟩ = some (.slice S0 t0 u0) := r0
  have ax4d : W3.drew.cell? ⟨g, 4, none⟩ = some (.int .u8 (a.b : Int)) := ax4
  have hVd := b_alloc (b_drew (Below.refl W3.heap.size W3)) (.cells #[.int .u8 (a.b : Int)] 5)
  have r0a := (hK3.S.keep hVd).cell 0 rfl
  have r0e : (W3.alloc (.cells #[.int .u8 (a.b : Int)] 5)).cell? ⟨w.heap.size + 1, 0, none⟩ = some (.slice S0 t0 u0) := r0a
  have rf0e : (W3.alloc (.cells #[.int .u8 (a.b : Int)] 5)).frozen? ⟨w.heap.size + 1, 0, none⟩ = false := (hK3.S.keep hVd).free 0
  have hsA : Hid (w.heap.size + 3 ≤ (W3.drew.alloc (.cells #[.int .u8 (a.b : Int)] 5)).heap.size) := Lib.hid (by simp; omega)
  have hbs2 : Hid (Bs (W3.drew.alloc (.cells #[.int .u8 (a.b : Int)] 5)) (some ⟨W3.heap.size, 0, none⟩) 1 1 [a.b]) := Lib.hid (Bs.made W3.drew 5 [a.b] 1 rfl (by omega) (by simpa using hb8))
  have hOw : Hid (Own (W3.drew.alloc (.cells #[.int .u8 (a.b : Int)] 5)) (w.heap.size + 3) 5 S0 t0 u0 l0) := Lib.hid (hK3.O0.keep hVd)
  have htt2 : t0 + 1 ≤ 140737488355328 := by omega
  go_cut [] from 25 to 191 (fun wx => ∃ T u', KW w w.heap.size wx C0 n0 e0 N0 C1 n1 e1 N1 T (t0 + 1) u' (l0 ++ [a.b]) S1 t1 u1 l1 (m0 : Int) (n1 : Int) ∧ w.heap.size + 2 < wx.heap.size)
  case first =>
    go_region_law (first | (refine step_append rfl _ _ 50 5 rfl Try.underlying50 Try.info5 (w.heap.size + 3) S0 t0 u0 l0 (some ⟨W3.heap.size, 0, none⟩) 1 1 [a.b] (t0 + 1) rfl rfl rfl hOw.out hbs2.out hsA.out htt2 ?_; intro T u' x4 hown4 hg4 hat4; have hK4 := hK3.keep hVd; have hS4 : Blk x4 (w.heap.size + 1) #[.slice S0 t0 u0, .slice S1 t1 u1] 51 := hK4.S.grown hg4 (fun e => by have h1 := (hK4.O0.ge _ e).1; omega); have r1 := hS4.cell 0 rfl; have rf1 := hS4.free 0))
    all_goals
      go_wp2_with fail
      go_meet
      refine ⟨T, u', (hK3.keep hVd).sent0 hown4 hg4 hat4, ?_⟩
      have h9 := hg4.size
      simp at h9 ⊢
      omega
  case rest =>
    obtain ⟨T, u', hK4, hsz⟩ := hcut
    clear hK3 hT3 r0 rf0 ax4 r0d ax4d hVd r0a hsA hbs2 hOw
    have s0 := hK4.M.cell 0 rfl
    have sf0 := hK4.M.free 0
    have hK5 := hK4.count0 (n0 : Int)
    have hFe0 := hF0.send a.b hb8
    rw [← i0] at hFe0
    have hFe1 := hF1.more (l' := l1) (fun x hx => hx)
    rw [← i1] at hFe1
    have hce : (m0 : Int) + 1 = (n0 : Int) := by omega
    have hcw : IntKind.i64.wrap ((m0 : Int) + 1) = (n0 : Int) := by rw [hce]; exact IntWalk.i64_in _ (by omega)
    go_upto_region 43 with (fail)
    clear hce hcw
    replace hsz : w.heap.size + 2 < (wc.setCell ⟨w.heap.size + 2, 0, none⟩ (.int .i64 (n0 : Int))).heap.size := by simpa using hsz
    have hKe := hK5
    generalize wc.setCell ⟨w.heap.size + 2, 0, none⟩ (.int .i64 (n0 : Int)) = W4 at hKe hsz ⊢
    clear hK4 hK5 s0 sf0
    have hq0 := hKe.P.cell 0 rfl
    have hq1 := hKe.P.cell 1 rfl
    have hq3 := hKe.M.cell 0 rfl
    have hq4 := hKe.M.cell 1 rfl
    go_wp2_with fail
    refine ⟨KI.mk (k := k + 1) (by omega) hsz ⟨_, _, _, _, _, _, _, _, _, _, _, _, _, _, _, _, hKe, hFe0, hFe1, by omega, by omega⟩ ?_, ?_⟩
    · rw [show ((k + 1 : Nat) : Int) = (k : Int) + 1 from by omega]; rfl
    · simp [kmu, intOf]; omega
set_option maxHeartbeats 8000000 in
theorem send1_0 (A : Option Addr) (n c : Nat) (L : List ActV) (w : World) (hL : Acts w A n c L) (nk : Nat) (hnk : nk ≤ n) (hnh : nk ≤ 100) (K0 : Act → World → Prop) (U : Nat → Value) (wo : World) (k : Nat) (hkk : k < nk) (hsz : w.heap.size + 2 < wo.heap.size) (a : ActV) (ha : L[k]? = some a) (hz : (IntKind.u64.wrap a.kind).tmod 6 = (1 : Nat)) (hs2 : bits .and .i64 a.side 1 = 0) (B0 : Option Addr) (m0 : Nat) (d0 : Nat) (M0 : List ItemV) (B1 : Option Addr) (m1 : Nat) (d1 : Nat) (M1 : List ItemV) (S0 : Option Addr) (t0 : Nat) (u0 : Nat) (l0 : List Nat) (S1 : Option Addr) (t1 : Nat) (u1 : Nat) (l1 : List Nat) (hK : KW w w.heap.size wo B0 m0 d0 M0 B1 m1 d1 M1 S0 t0 u0 l0 S1 t1 u1 l1 (m0 : Int) (m1 : Int)) (hF0 : Fit l0 (says M0)) (hF1 : Fit l1 (says M1)) (hmm : m0 + m1 ≤ k) (htt : t0 + t1 ≤ k) :
    KRound A n c nk w K0 k U wo := by
  have hmx := hL.max
  have h1 : k < n := by omega
  have h2 : k < 100 := by omega
  obtain ⟨b, off, rfl, hc0, hc1, hc2, hc3, hc4⟩ := hL.cells k a ha
  obtain ⟨hbit, hb8⟩ := hL.ok a (List.mem_of_getElem? ha)
  clear ha
  replace hc0 := cell_keep hc0 hK.bel
  replace hc1 := cell_keep hc1 hK.bel
  replace hc2 := cell_keep hc2 hK.bel
  replace hc3 := cell_keep hc3 hK.bel
  replace hc4 := cell_keep hc4 hK.bel
  have hk0 : (0 : Int) ≤ (k : Int) := by omega
  have hkn : (k : Int) < (n : Int) := by omega
  have hkh : (k : Int) < 100 := by omega
  have hT := Blk.new wo #[.int .i64 a.kind, .int .i64 a.side, .int .i64 a.at_, .int .i64 a.bit, .int .u8 (a.b : Int)] 53
  have hbT := b_alloc (Below.refl wo.heap.size wo) (.cells #[.int .i64 a.kind, .int .i64 a.side, .int .i64 a.at_, .int .i64 a.bit, .int .u8 (a.b : Int)] 53)
  unfold KRound
  conv => arg 2; whnf
  go_upto_region 8 with (fail)
  generalize wo.alloc (.cells #[.int .i64 a.kind, .int .i64 a.side, .int .i64 a.at_, .int .i64 a.bit, .int .u8 (a.b : Int)] 53) = W1 at hT hbT ⊢
  have hlb : w.heap.size + 3 ≤ wo.heap.size := by omega
  replace hK := hK.keep hbT
  replace hsz : w.heap.size + 2 < W1.heap.size := Nat.lt_of_lt_of_le hsz hbT.size
  generalize wo.heap.size = g at hT hlb ⊢
  clear hc0 hc1 hc2 hc3 hc4 hbT
  have ax0 := hT.cell 0 rfl
  have axf0 := hT.free 0
  have ax1 := hT.cell 1 rfl
  have axf1 := hT.free 1
  have ax2 := hT.cell 2 rfl
  have axf2 := hT.free 2
  have ax3 := hT.cell 3 rfl
  have axf3 := hT.free 3
  have ax4 := hT.cell 4 rfl
  have axf4 := hT.free 4
  have hlX : (says M0).length = m0 := (says_len _).trans hK.I0.len
  have hr' := Lib.hid (send_case0 (says M0) (says M1) a.b (by omega))
  clear hlX
  have hbA := b_alloc (Below.refl W1.heap.size W1) (.cells #[.int .u8 (a.b : Int)] 5)
  have hbs1 : Bs (W1.alloc (.cells #[.int .u8 (a.b : Int)] 5)) (some ⟨W1.heap.size, 0, none⟩) 1 1 [a.b] := Bs.made W1 5 [a.b] 1 rfl (by omega) (by simpa using hb8)
  have p0 := hK.P.cell 0 rfl
  have p1 := hK.P.cell 1 rfl
  have p2 := hK.P.cell 2 rfl
  go_upto_region 11 with (go_at_call 19; refine (send_any B0 m0 d0 M0 B1 m1 d1 M1 false ⟨says M0, says M1, false⟩ rfl 0 (some ⟨W1.heap.size, 0, none⟩) 1 1 [a.b] _ (hK.I0.keep hbA) (hK.I1.keep hbA) hbs1).mono ?_; rw [hr'.out]; unfold LinkP; dsimp only; rw [errOf_0]; rintro e x1 ⟨lv, rfl, ⟨C0, n0, e0, N0, C1, n1, e1, N1, rfl, hJ0, hJ1, i0, i1, hb0, hb1, hx0, hx1⟩, hbx⟩)
  have hbase : (W1.alloc (.cells #[.int .u8 (a.b : Int)] 5)).heap.size = W1.heap.size + 1 := by simp
  replace hbx : Below W1.heap.size W1 x1 := b_then hbA hbx
  rw [hbase] at hb0 hb1 hx0 hx1
  clear hbase hbs1 hbA
  have hl0 := congrArg List.length i0
  have hl1 := congrArg List.length i1
  rw [says_len, hJ0.len] at hl0
  rw [says_len, hJ1.len] at hl1
  rw [List.length_append] at hl0
  simp at hl0
  rw [says_len, hK.I0.len] at hl0
  rw [says_len, hK.I1.len] at hl1
  have hq := Lib.hid (And.intro hl0 hl1)
  clear hl0 hl1
  have hbn := b_alloc (Below.refl x1.heap.size x1) (.cells #[.slice C0 n0 e0, .slice C1 n1 e1, .bool false] 49)
  have hQ := Blk.new x1 #[.slice C0 n0 e0, .slice C1 n1 e1, .bool false] 49
  have hgb := hK.O0.ge
  have hgc := hK.O1.ge
  have hK2 := (hK.keep hbx).keep hbn
  have hT2 := (hT.keep hbx).keep hbn
  have hJ0' := hJ0.keep hbn
  have hJ1' := hJ1.keep hbn
  have hszW := hsz
  replace hsz := Nat.lt_of_lt_of_le hsz (Nat.le_trans hbx.size hbn.size)
  generalize x1.alloc (.cells #[.slice C0 n0 e0, .slice C1 n1 e1, .bool false] 49) = W2 at hK2 hQ hJ0' hJ1' hT2 hsz ⊢
  generalize x1.heap.size = g2 at hQ ⊢
  have hK3 := hK2.link hJ0' hJ1' hb0 hb1 hx0 hx1 (by omega) (fun q hq => Nat.lt_succ_of_lt (hgb q hq).2) (fun q hq => Nat.lt_succ_of_lt (hgc q hq).2)
  have hT3 := ((hT2.far (p := ⟨w.heap.size, 0, none⟩) (by show g ≠ w.heap.size; omega) (.slice C0 n0 e0)).far (p := ⟨w.heap.size, 1, none⟩) (by show g ≠ w.heap.size; omega) (.slice C1 n1 e1)).far (p := ⟨w.heap.size, 2, none⟩) (by show g ≠ w.heap.size; omega) (.bool false)
  clear p0 p1 p2 hK hT hT2
  have p0 := hK2.P.cell 0 rfl
  have p1 := hK2.P.cell 1 rfl
  have p2 := hK2.P.cell 2 rfl
  have pf0 := hK2.P.free 0
  have pf1 := hK2.P.free 1
  have pf2 := hK2.P.free 2
  have q0 := hQ.cell 0 rfl
  have q1 := hQ.cell 1 rfl
  have q2 := hQ.cell 2 rfl
  clear ax0 axf0 ax1 axf1 ax2 axf2 ax3 axf3 ax4 axf4
  go_upto_region 14 with (fail)
  replace hsz : w.heap.size + 2 < (((W2.setCell ⟨w.heap.size, 0, none⟩ (.slice C0 n0 e0)).setCell ⟨w.heap.size, 1, none⟩ (.slice C1 n1 e1)).setCell ⟨w.heap.size, 2, none⟩ (.bool false)).heap.size := by simpa using hsz
  generalize ((W2.setCell ⟨w.heap.size, 0, none⟩ (.slice C0 n0 e0)).setCell ⟨w.heap.size, 1, none⟩ (.slice C1 n1 e1)).setCell ⟨w.heap.size, 2, none⟩ (.bool false) = W3 at hK3 hT3 hsz ⊢
  clear p0 p1 p2 pf0 pf1 pf2 q0 q1 q2 hK2 hQ hJ0 hJ1 hJ0' hJ1' hgb hgc
  obtain ⟨hqx, hqy⟩ := hq.out
  have hY : n1 = m1 := hqy
  have hXn : m0 + 1 = n0 := hqx.symm
  clear hqx hqy
  subst hY
  have r0 := hK3.S.cell 0 rfl
  have rf0 := hK3.S.free 0
  have ax4 := hT3.cell 4 rfl
  have r0d : W3.drew.cell? ⟨w.heap.size + 1, 0, none⟩ = some (.slice S0 t0 u0) := r0
  have ax4d : W3.drew.cell? ⟨g, 4, none⟩ = some (.int .u8 (a.b : Int)) := ax4
  have hVd := b_alloc (b_drew (Below.refl W3.heap.size W3)) (.cells #[.int .u8 (a.b : Int)] 5)
  have r0a := (hK3.S.keep hVd).cell 0 rfl
  have r0e : (W3.alloc (.cells #[.int .u8 (a.b : Int)] 5)).cell? ⟨w.heap.size + 1, 0, none⟩ = some (.slice S0 t0 u0) := r0a
  have rf0e : (W3.alloc (.cells #[.int .u8 (a.b : Int)] 5)).frozen? ⟨w.heap.size + 1, 0, none⟩ = false := (hK3.S.keep hVd).free 0
  have hsA : Hid (w.heap.size + 3 ≤ (W3.drew.alloc (.cells #[.int .u8 (a.b : Int)] 5)).heap.size) := Lib.hid (by simp; omega)
  have hbs2 : Hid (Bs (W3.drew.alloc (.cells #[.int .u8 (a.b : Int)] 5)) (some ⟨W3.heap.size, 0, none⟩) 1 1 [a.b]) := Lib.hid (Bs.made W3.drew 5 [a.b] 1 rfl (by omega) (by simpa using hb8))
  have hOw : Hid (Own (W3.drew.alloc (.cells #[.int .u8 (a.b : Int)] 5)) (w.heap.size + 3) 5 S0 t0 u0 l0) := Lib.hid (hK3.O0.keep hVd)
  have htt2 : t0 + 1 ≤ 140737488355328 := by omega
  go_cut [] from 25 to 191 (fun wx => ∃ T u', KW w w.heap.size wx C0 n0 e0 N0 C1 n1 e1 N1 T (t0 + 1) u' (l0 ++ [a.b]) S1 t1 u1 l1 (m0 : Int) (n1 : Int) ∧ w.heap.size + 2 < wx.heap.size)
  case first =>
    go_region_law (first | (refine step_append rfl _ _ 50 5 rfl Try.underlying50 Try.info5 (w.heap.size + 3) S0 t0 u0 l0 (some ⟨W3.heap.size, 0, none⟩) 1 1 [a.b] (t0 + 1) rfl rfl rfl hOw.out hbs2.out hsA.out htt2 ?_; intro T u' x4 hown4 hg4 hat4; have hK4 := hK3.keep hVd; have hS4 : Blk x4 (w.heap.size + 1) #[.slice S0 t0 u0, .slice S1 t1 u1] 51 := hK4.S.grown hg4 (fun e => by have h1 := (hK4.O0.ge _ e).1; omega); have r1 := hS4.cell 0 rfl; have rf1 := hS4.free 0))
    all_goals
      go_wp2_with fail
      go_meet
      refine ⟨T, u', (hK3.keep hVd).sent0 hown4 hg4 hat4, ?_⟩
      have h9 := hg4.size
      simp at h9 ⊢
      omega
  case rest =>
    obtain ⟨T, u', hK4, hsz⟩ := hcut
    clear hK3 hT3 r0 rf0 ax4 r0d ax4d hVd r0a hsA hbs2 hOw
    have s0 := hK4.M.cell 0 rfl
    have sf0 := hK4.M.free 0
    have hK5 := hK4.count0 (n0 : Int)
    have hFe0 := hF0.send a.b hb8
    rw [← i0] at hFe0
    have hFe1 := hF1.more (l' := l1) (fun x hx => hx)
    rw [← i1] at hFe1
    have hce : (m0 : Int) + 1 = (n0 : Int) := by omega
    have hcw : IntKind.i64.wrap ((m0 : Int) + 1) = (n0 : Int) := by rw [hce]; exact IntWalk.i64_in _ (by omega)
    go_upto_region 43 with (fail)
    clear hce hcw
    replace hsz : w.heap.size + 2 < (wc.setCell ⟨w.heap.size + 2, 0, none⟩ (.int .i64 (n0 : Int))).heap.size := by simpa using hsz
    have hKe := hK5
    generalize wc.setCell ⟨w.heap.size + 2, 0, none⟩ (.int .i64 (n0 : Int)) = W4 at hKe hsz ⊢
    clear hK4 hK5 s0 sf0
    have hq0 := hKe.P.cell 0 rfl
    have hq1 := hKe.P.cell 1 rfl
    have hq3 := hKe.M.cell 0 rfl
    have hq4 := hKe.M.cell 1 rfl
    go_wp2_with fail
    refine ⟨KI.mk (k := k + 1) (by omega) hsz ⟨_, _, _, _, _, _, _, _, _, _, _, _, _, _, _, _, hKe, hFe0, hFe1, by omega, by omega⟩ ?_, ?_⟩
    · rw [show ((k + 1 : Nat) : Int) = (k : Int) + 1 from by omega]; rfl
    · simp [kmu, intOf]; omega
set_option maxHeartbeats 8000000 in
theorem send0_1 (A : Option Addr) (n c : Nat) (L : List ActV) (w : World) (hL : Acts w A n c L) (nk : Nat) (hnk : nk ≤ n) (hnh : nk ≤ 100) (K0 : Act → World → Prop) (U : Nat → Value) (wo : World) (k : Nat) (hkk : k < nk) (hsz : w.heap.size + 2 < wo.heap.size) (a : ActV) (ha : L[k]? = some a) (hz : (IntKind.u64.wrap a.kind).tmod 6 = (0 : Nat)) (hs2 : bits .and .i64 a.side 1 = 1) (B0 : Option Addr) (m0 : Nat) (d0 : Nat) (M0 : List ItemV) (B1 : Option Addr) (m1 : Nat) (d1 : Nat) (M1 : List ItemV) (S0 : Option Addr) (t0 : Nat) (u0 : Nat) (l0 : List Nat) (S1 : Option Addr) (t1 : Nat) (u1 : Nat) (l1 : List Nat) (hK : KW w w.heap.size wo B0 m0 d0 M0 B1 m1 d1 M1 S0 t0 u0 l0 S1 t1 u1 l1 (m0 : Int) (m1 : Int)) (hF0 : Fit l0 (says M0)) (hF1 : Fit l1 (says M1)) (hmm : m0 + m1 ≤ k) (htt : t0 + t1 ≤ k) :
    KRound A n c nk w K0 k U wo := by
  have hmx := hL.max
  have h1 : k < n := by omega
  have h2 : k < 100 := by omega
  obtain ⟨b, off, rfl, hc0, hc1, hc2, hc3, hc4⟩ := hL.cells k a ha
  obtain ⟨hbit, hb8⟩ := hL.ok a (List.mem_of_getElem? ha)
  clear ha
  replace hc0 := cell_keep hc0 hK.bel
  replace hc1 := cell_keep hc1 hK.bel
  replace hc2 := cell_keep hc2 hK.bel
  replace hc3 := cell_keep hc3 hK.bel
  replace hc4 := cell_keep hc4 hK.bel
  have hk0 : (0 : Int) ≤ (k : Int) := by omega
  have hkn : (k : Int) < (n : Int) := by omega
  have hkh : (k : Int) < 100 := by omega
  have hT := Blk.new wo #[.int .i64 a.kind, .int .i64 a.side, .int .i64 a.at_, .int .i64 a.bit, .int .u8 (a.b : Int)] 53
  have hbT := b_alloc (Below.refl wo.heap.size wo) (.cells #[.int .i64 a.kind, .int .i64 a.side, .int .i64 a.at_, .int .i64 a.bit, .int .u8 (a.b : Int)] 53)
  unfold KRound
  conv => arg 2; whnf
  go_upto_region 8 with (fail)
  generalize wo.alloc (.cells #[.int .i64 a.kind, .int .i64 a.side, .int .i64 a.at_, .int .i64 a.bit, .int .u8 (a.b : Int)] 53) = W1 at hT hbT ⊢
  have hlb : w.heap.size + 3 ≤ wo.heap.size := by omega
  replace hK := hK.keep hbT
  replace hsz : w.heap.size + 2 < W1.heap.size := Nat.lt_of_lt_of_le hsz hbT.size
  generalize wo.heap.size = g at hT hlb ⊢
  clear hc0 hc1 hc2 hc3 hc4 hbT
  have ax0 := hT.cell 0 rfl
  have axf0 := hT.free 0
  have ax1 := hT.cell 1 rfl
  have axf1 := hT.free 1
  have ax2 := hT.cell 2 rfl
  have axf2 := hT.free 2
  have ax3 := hT.cell 3 rfl
  have axf3 := hT.free 3
  have ax4 := hT.cell 4 rfl
  have axf4 := hT.free 4
  have hlX : (says M1).length = m1 := (says_len _).trans hK.I1.len
  have hr' := Lib.hid (send_case1 (says M0) (says M1) a.b (by omega))
  clear hlX
  have hbA := b_alloc (Below.refl W1.heap.size W1) (.cells #[.int .u8 (a.b : Int)] 5)
  have hbs1 : Bs (W1.alloc (.cells #[.int .u8 (a.b : Int)] 5)) (some ⟨W1.heap.size, 0, none⟩) 1 1 [a.b] := Bs.made W1 5 [a.b] 1 rfl (by omega) (by simpa using hb8)
  have p0 := hK.P.cell 0 rfl
  have p1 := hK.P.cell 1 rfl
  have p2 := hK.P.cell 2 rfl
  go_upto_region 11 with (go_at_call 19; refine (send_any B0 m0 d0 M0 B1 m1 d1 M1 false ⟨says M0, says M1, false⟩ rfl 1 (some ⟨W1.heap.size, 0, none⟩) 1 1 [a.b] _ (hK.I0.keep hbA) (hK.I1.keep hbA) hbs1).mono ?_; rw [hr'.out]; unfold LinkP; dsimp only; rw [errOf_0]; rintro e x1 ⟨lv, rfl, ⟨C0, n0, e0, N0, C1, n1, e1, N1, rfl, hJ0, hJ1, i0, i1, hb0, hb1, hx0, hx1⟩, hbx⟩)
  have hbase : (W1.alloc (.cells #[.int .u8 (a.b : Int)] 5)).heap.size = W1.heap.size + 1 := by simp
  replace hbx : Below W1.heap.size W1 x1 := b_then hbA hbx
  rw [hbase] at hb0 hb1 hx0 hx1
  clear hbase hbs1 hbA
  have hl0 := congrArg List.length i0
  have hl1 := congrArg List.length i1
  rw [says_len, hJ0.len] at hl0
  rw [says_len, hJ1.len] at hl1
  rw [List.length_append] at hl1
  simp at hl1
  rw [says_len, hK.I0.len] at hl0
  rw [says_len, hK.I1.len] at hl1
  have hq := Lib.hid (And.intro hl0 hl1)
  clear hl0 hl1
  have hbn := b_alloc (Below.refl x1.heap.size x1) (.cells #[.slice C0 n0 e0, .slice C1 n1 e1, .bool false] 49)
  have hQ := Blk.new x1 #[.slice C0 n0 e0, .slice C1 n1 e1, .bool false] 49
  have hgb := hK.O0.ge
  have hgc := hK.O1.ge
  have hK2 := (hK.keep hbx).keep hbn
  have hT2 := (hT.keep hbx).keep hbn
  have hJ0' := hJ0.keep hbn
  have hJ1' := hJ1.keep hbn
  have hszW := hsz
  replace hsz := Nat.lt_of_lt_of_le hsz (Nat.le_trans hbx.size hbn.size)
  generalize x1.alloc (.cells #[.slice C0 n0 e0, .slice C1 n1 e1, .bool false] 49) = W2 at hK2 hQ hJ0' hJ1' hT2 hsz ⊢
  generalize x1.heap.size = g2 at hQ ⊢
  have hK3 := hK2.link hJ0' hJ1' hb0 hb1 hx0 hx1 (by omega) (fun q hq => Nat.lt_succ_of_lt (hgb q hq).2) (fun q hq => Nat.lt_succ_of_lt (hgc q hq).2)
  have hT3 := ((hT2.far (p := ⟨w.heap.size, 0, none⟩) (by show g ≠ w.heap.size; omega) (.slice C0 n0 e0)).far (p := ⟨w.heap.size, 1, none⟩) (by show g ≠ w.heap.size; omega) (.slice C1 n1 e1)).far (p := ⟨w.heap.size, 2, none⟩) (by show g ≠ w.heap.size; omega) (.bool false)
  clear p0 p1 p2 hK hT hT2
  have p0 := hK2.P.cell 0 rfl
  have p1 := hK2.P.cell 1 rfl
  have p2 := hK2.P.cell 2 rfl
  have pf0 := hK2.P.free 0
  have pf1 := hK2.P.free 1
  have pf2 := hK2.P.free 2
  have q0 := hQ.cell 0 rfl
  have q1 := hQ.cell 1 rfl
  have q2 := hQ.cell 2 rfl
  clear ax0 axf0 ax1 axf1 ax2 axf2 ax3 axf3 ax4 axf4
  go_upto_region 14 with (fail)
  replace hsz : w.heap.size + 2 < (((W2.setCell ⟨w.heap.size, 0, none⟩ (.slice C0 n0 e0)).setCell ⟨w.heap.size, 1, none⟩ (.slice C1 n1 e1)).setCell ⟨w.heap.size, 2, none⟩ (.bool false)).heap.size := by simpa using hsz
  generalize ((W2.setCell ⟨w.heap.size, 0, none⟩ (.slice C0 n0 e0)).setCell ⟨w.heap.size, 1, none⟩ (.slice C1 n1 e1)).setCell ⟨w.heap.size, 2, none⟩ (.bool false) = W3 at hK3 hT3 hsz ⊢
  clear p0 p1 p2 pf0 pf1 pf2 q0 q1 q2 hK2 hQ hJ0 hJ1 hJ0' hJ1' hgb hgc
  obtain ⟨hqx, hqy⟩ := hq.out
  have hY : n0 = m0 := hqx
  have hXn : m1 + 1 = n1 := hqy.symm
  clear hqx hqy
  subst hY
  have r0 := hK3.S.cell 1 rfl
  have rf0 := hK3.S.free 1
  have ax4 := hT3.cell 4 rfl
  have r0d : W3.drew.cell? ⟨w.heap.size + 1, 1, none⟩ = some (.slice S1 t1 u1) := r0
  have ax4d : W3.drew.cell? ⟨g, 4, none⟩ = some (.int .u8 (a.b : Int)) := ax4
  have hVd := b_alloc (b_drew (Below.refl W3.heap.size W3)) (.cells #[.int .u8 (a.b : Int)] 5)
  have r0a := (hK3.S.keep hVd).cell 1 rfl
  have r0e : (W3.alloc (.cells #[.int .u8 (a.b : Int)] 5)).cell? ⟨w.heap.size + 1, 1, none⟩ = some (.slice S1 t1 u1) := r0a
  have rf0e : (W3.alloc (.cells #[.int .u8 (a.b : Int)] 5)).frozen? ⟨w.heap.size + 1, 1, none⟩ = false := (hK3.S.keep hVd).free 1
  have hsA : Hid (w.heap.size + 3 ≤ (W3.drew.alloc (.cells #[.int .u8 (a.b : Int)] 5)).heap.size) := Lib.hid (by simp; omega)
  have hbs2 : Hid (Bs (W3.drew.alloc (.cells #[.int .u8 (a.b : Int)] 5)) (some ⟨W3.heap.size, 0, none⟩) 1 1 [a.b]) := Lib.hid (Bs.made W3.drew 5 [a.b] 1 rfl (by omega) (by simpa using hb8))
  have hOw : Hid (Own (W3.drew.alloc (.cells #[.int .u8 (a.b : Int)] 5)) (w.heap.size + 3) 5 S1 t1 u1 l1) := Lib.hid (hK3.O1.keep hVd)
  have htt2 : t1 + 1 ≤ 140737488355328 := by omega
  go_cut [] from 25 to 191 (fun wx => ∃ T u', KW w w.heap.size wx C0 n0 e0 N0 C1 n1 e1 N1 S0 t0 u0 l0 T (t1 + 1) u' (l1 ++ [a.b]) (n0 : Int) (m1 : Int) ∧ w.heap.size + 2 < wx.heap.size)
  case first =>
    go_region_law (first | (refine step_append rfl _ _ 50 5 rfl Try.underlying50 Try.info5 (w.heap.size + 3) S1 t1 u1 l1 (some ⟨W3.heap.size, 0, none⟩) 1 1 [a.b] (t1 + 1) rfl rfl rfl hOw.out hbs2.out hsA.out htt2 ?_; intro T u' x4 hown4 hg4 hat4; have hK4 := hK3.keep hVd; have hS4 : Blk x4 (w.heap.size + 1) #[.slice S0 t0 u0, .slice S1 t1 u1] 51 := hK4.S.grown hg4 (fun e => by have h1 := (hK4.O1.ge _ e).1; omega); have r1 := hS4.cell 1 rfl; have rf1 := hS4.free 1))
    all_goals
      go_wp2_with fail
      go_meet
      refine ⟨T, u', (hK3.keep hVd).sent1 hown4 hg4 hat4, ?_⟩
      have h9 := hg4.size
      simp at h9 ⊢
      omega
  case rest =>
    obtain ⟨T, u', hK4, hsz⟩ := hcut
    clear hK3 hT3 r0 rf0 ax4 r0d ax4d hVd r0a hsA hbs2 hOw
    have s0 := hK4.M.cell 1 rfl
    have sf0 := hK4.M.free 1
    have hK5 := hK4.count1 (n1 : Int)
    have hFe1 := hF1.send a.b hb8
    rw [← i1] at hFe1
    have hFe0 := hF0.more (l' := l0) (fun x hx => hx)
    rw [← i0] at hFe0
    have hce : (m1 : Int) + 1 = (n1 : Int) := by omega
    have hcw : IntKind.i64.wrap ((m1 : Int) + 1) = (n1 : Int) := by rw [hce]; exact IntWalk.i64_in _ (by omega)
    go_upto_region 43 with (fail)
    clear hce hcw
    replace hsz : w.heap.size + 2 < (wc.setCell ⟨w.heap.size + 2, 1, none⟩ (.int .i64 (n1 : Int))).heap.size := by simpa using hsz
    have hKe := hK5
    generalize wc.setCell ⟨w.heap.size + 2, 1, none⟩ (.int .i64 (n1 : Int)) = W4 at hKe hsz ⊢
    clear hK4 hK5 s0 sf0
    have hq0 := hKe.P.cell 0 rfl
    have hq1 := hKe.P.cell 1 rfl
    have hq3 := hKe.M.cell 0 rfl
    have hq4 := hKe.M.cell 1 rfl
    go_wp2_with fail
    refine ⟨KI.mk (k := k + 1) (by omega) hsz ⟨_, _, _, _, _, _, _, _, _, _, _, _, _, _, _, _, hKe, hFe0, hFe1, by omega, by omega⟩ ?_, ?_⟩
    · rw [show ((k + 1 : Nat) : Int) = (k : Int) + 1 from by omega]; rfl
    · simp [kmu, intOf]; omega
set_option maxHeartbeats 8000000 in
theorem send1_1 (A : Option Addr) (n c : Nat) (L : List ActV) (w : World) (hL : Acts w A n c L) (nk : Nat) (hnk : nk ≤ n) (hnh : nk ≤ 100) (K0 : Act → World → Prop) (U : Nat → Value) (wo : World) (k : Nat) (hkk : k < nk) (hsz : w.heap.size + 2 < wo.heap.size) (a : ActV) (ha : L[k]? = some a) (hz : (IntKind.u64.wrap a.kind).tmod 6 = (1 : Nat)) (hs2 : bits .and .i64 a.side 1 = 1) (B0 : Option Addr) (m0 : Nat) (d0 : Nat) (M0 : List ItemV) (B1 : Option Addr) (m1 : Nat) (d1 : Nat) (M1 : List ItemV) (S0 : Option Addr) (t0 : Nat) (u0 : Nat) (l0 : List Nat) (S1 : Option Addr) (t1 : Nat) (u1 : Nat) (l1 : List Nat) (hK : KW w w.heap.size wo B0 m0 d0 M0 B1 m1 d1 M1 S0 t0 u0 l0 S1 t1 u1 l1 (m0 : Int) (m1 : Int)) (hF0 : Fit l0 (says M0)) (hF1 : Fit l1 (says M1)) (hmm : m0 + m1 ≤ k) (htt : t0 + t1 ≤ k) :
    KRound A n c nk w K0 k U wo := by
  have hmx := hL.max
  have h1 : k < n := by omega
  have h2 : k < 100 := by omega
  obtain ⟨b, off, rfl, hc0, hc1, hc2, hc3, hc4⟩ := hL.cells k a ha
  obtain ⟨hbit, hb8⟩ := hL.ok a (List.mem_of_getElem? ha)
  clear ha
  replace hc0 := cell_keep hc0 hK.bel
  replace hc1 := cell_keep hc1 hK.bel
  replace hc2 := cell_keep hc2 hK.bel
  replace hc3 := cell_keep hc3 hK.bel
  replace hc4 := cell_keep hc4 hK.bel
  have hk0 : (0 : Int) ≤ (k : Int) := by omega
  have hkn : (k : Int) < (n : Int) := by omega
  have hkh : (k : Int) < 100 := by omega
  have hT := Blk.new wo #[.int .i64 a.kind, .int .i64 a.side, .int .i64 a.at_, .int .i64 a.bit, .int .u8 (a.b : Int)] 53
  have hbT := b_alloc (Below.refl wo.heap.size wo) (.cells #[.int .i64 a.kind, .int .i64 a.side, .int .i64 a.at_, .int .i64 a.bit, .int .u8 (a.b : Int)] 53)
  unfold KRound
  conv => arg 2; whnf
  go_upto_region 8 with (fail)
  generalize wo.alloc (.cells #[.int .i64 a.kind, .int .i64 a.side, .int .i64 a.at_, .int .i64 a.bit, .int .u8 (a.b : Int)] 53) = W1 at hT hbT ⊢
  have hlb : w.heap.size + 3 ≤ wo.heap.size := by omega
  replace hK := hK.keep hbT
  replace hsz : w.heap.size + 2 < W1.heap.size := Nat.lt_of_lt_of_le hsz hbT.size
  generalize wo.heap.size = g at hT hlb ⊢
  clear hc0 hc1 hc2 hc3 hc4 hbT
  have ax0 := hT.cell 0 rfl
  have axf0 := hT.free 0
  have ax1 := hT.cell 1 rfl
  have axf1 := hT.free 1
  have ax2 := hT.cell 2 rfl
  have axf2 := hT.free 2
  have ax3 := hT.cell 3 rfl
  have axf3 := hT.free 3
  have ax4 := hT.cell 4 rfl
  have axf4 := hT.free 4
  have hlX : (says M1).length = m1 := (says_len _).trans hK.I1.len
  have hr' := Lib.hid (send_case1 (says M0) (says M1) a.b (by omega))
  clear hlX
  have hbA := b_alloc (Below.refl W1.heap.size W1) (.cells #[.int .u8 (a.b : Int)] 5)
  have hbs1 : Bs (W1.alloc (.cells #[.int .u8 (a.b : Int)] 5)) (some ⟨W1.heap.size, 0, none⟩) 1 1 [a.b] := Bs.made W1 5 [a.b] 1 rfl (by omega) (by simpa using hb8)
  have p0 := hK.P.cell 0 rfl
  have p1 := hK.P.cell 1 rfl
  have p2 := hK.P.cell 2 rfl
  go_upto_region 11 with (go_at_call 19; refine (send_any B0 m0 d0 M0 B1 m1 d1 M1 false ⟨says M0, says M1, false⟩ rfl 1 (some ⟨W1.heap.size, 0, none⟩) 1 1 [a.b] _ (hK.I0.keep hbA) (hK.I1.keep hbA) hbs1).mono ?_; rw [hr'.out]; unfold LinkP; dsimp only; rw [errOf_0]; rintro e x1 ⟨lv, rfl, ⟨C0, n0, e0, N0, C1, n1, e1, N1, rfl, hJ0, hJ1, i0, i1, hb0, hb1, hx0, hx1⟩, hbx⟩)
  have hbase : (W1.alloc (.cells #[.int .u8 (a.b : Int)] 5)).heap.size = W1.heap.size + 1 := by simp
  replace hbx : Below W1.heap.size W1 x1 := b_then hbA hbx
  rw [hbase] at hb0 hb1 hx0 hx1
  clear hbase hbs1 hbA
  have hl0 := congrArg List.length i0
  have hl1 := congrArg List.length i1
  rw [says_len, hJ0.len] at hl0
  rw [says_len, hJ1.len] at hl1
  rw [List.length_append] at hl1
  simp at hl1
  rw [says_len, hK.I0.len] at hl0
  rw [says_len, hK.I1.len] at hl1
  have hq := Lib.hid (And.intro hl0 hl1)
  clear hl0 hl1
  have hbn := b_alloc (Below.refl x1.heap.size x1) (.cells #[.slice C0 n0 e0, .slice C1 n1 e1, .bool false] 49)
  have hQ := Blk.new x1 #[.slice C0 n0 e0, .slice C1 n1 e1, .bool false] 49
  have hgb := hK.O0.ge
  have hgc := hK.O1.ge
  have hK2 := (hK.keep hbx).keep hbn
  have hT2 := (hT.keep hbx).keep hbn
  have hJ0' := hJ0.keep hbn
  have hJ1' := hJ1.keep hbn
  have hszW := hsz
  replace hsz := Nat.lt_of_lt_of_le hsz (Nat.le_trans hbx.size hbn.size)
  generalize x1.alloc (.cells #[.slice C0 n0 e0, .slice C1 n1 e1, .bool false] 49) = W2 at hK2 hQ hJ0' hJ1' hT2 hsz ⊢
  generalize x1.heap.size = g2 at hQ ⊢
  have hK3 := hK2.link hJ0' hJ1' hb0 hb1 hx0 hx1 (by omega) (fun q hq => Nat.lt_succ_of_lt (hgb q hq).2) (fun q hq => Nat.lt_succ_of_lt (hgc q hq).2)
  have hT3 := ((hT2.far (p := ⟨w.heap.size, 0, none⟩) (by show g ≠ w.heap.size; omega) (.slice C0 n0 e0)).far (p := ⟨w.heap.size, 1, none⟩) (by show g ≠ w.heap.size; omega) (.slice C1 n1 e1)).far (p := ⟨w.heap.size, 2, none⟩) (by show g ≠ w.heap.size; omega) (.bool false)
  clear p0 p1 p2 hK hT hT2
  have p0 := hK2.P.cell 0 rfl
  have p1 := hK2.P.cell 1 rfl
  have p2 := hK2.P.cell 2 rfl
  have pf0 := hK2.P.free 0
  have pf1 := hK2.P.free 1
  have pf2 := hK2.P.free 2
  have q0 := hQ.cell 0 rfl
  have q1 := hQ.cell 1 rfl
  have q2 := hQ.cell 2 rfl
  clear ax0 axf0 ax1 axf1 ax2 axf2 ax3 axf3 ax4 axf4
  go_upto_region 14 with (fail)
  replace hsz : w.heap.size + 2 < (((W2.setCell ⟨w.heap.size, 0, none⟩ (.slice C0 n0 e0)).setCell ⟨w.heap.size, 1, none⟩ (.slice C1 n1 e1)).setCell ⟨w.heap.size, 2, none⟩ (.bool false)).heap.size := by simpa using hsz
  generalize ((W2.setCell ⟨w.heap.size, 0, none⟩ (.slice C0 n0 e0)).setCell ⟨w.heap.size, 1, none⟩ (.slice C1 n1 e1)).setCell ⟨w.heap.size, 2, none⟩ (.bool false) = W3 at hK3 hT3 hsz ⊢
  clear p0 p1 p2 pf0 pf1 pf2 q0 q1 q2 hK2 hQ hJ0 hJ1 hJ0' hJ1' hgb hgc
  obtain ⟨hqx, hqy⟩ := hq.out
  have hY : n0 = m0 := hqx
  have hXn : m1 + 1 = n1 := hqy.symm
  clear hqx hqy
  subst hY
  have r0 := hK3.S.cell 1 rfl
  have rf0 := hK3.S.free 1
  have ax4 := hT3.cell 4 rfl
  have r0d : W3.drew.cell? ⟨w.heap.size + 1, 1, none⟩ = some (.slice S1 t1 u1) := r0
  have ax4d : W3.drew.cell? ⟨g, 4, none⟩ = some (.int .u8 (a.b : Int)) := ax4
  have hVd := b_alloc (b_drew (Below.refl W3.heap.size W3)) (.cells #[.int .u8 (a.b : Int)] 5)
  have r0a := (hK3.S.keep hVd).cell 1 rfl
  have r0e : (W3.alloc (.cells #[.int .u8 (a.b : Int)] 5)).cell? ⟨w.heap.size + 1, 1, none⟩ = some (.slice S1 t1 u1) := r0a
  have rf0e : (W3.alloc (.cells #[.int .u8 (a.b : Int)] 5)).frozen? ⟨w.heap.size + 1, 1, none⟩ = false := (hK3.S.keep hVd).free 1
  have hsA : Hid (w.heap.size + 3 ≤ (W3.drew.alloc (.cells #[.int .u8 (a.b : Int)] 5)).heap.size) := Lib.hid (by simp; omega)
  have hbs2 : Hid (Bs (W3.drew.alloc (.cells #[.int .u8 (a.b : Int)] 5)) (some ⟨W3.heap.size, 0, none⟩) 1 1 [a.b]) := Lib.hid (Bs.made W3.drew 5 [a.b] 1 rfl (by omega) (by simpa using hb8))
  have hOw : Hid (Own (W3.drew.alloc (.cells #[.int .u8 (a.b : Int)] 5)) (w.heap.size + 3) 5 S1 t1 u1 l1) := Lib.hid (hK3.O1.keep hVd)
  have htt2 : t1 + 1 ≤ 140737488355328 := by omega
  go_cut [] from 25 to 191 (fun wx => ∃ T u', KW w w.heap.size wx C0 n0 e0 N0 C1 n1 e1 N1 S0 t0 u0 l0 T (t1 + 1) u' (l1 ++ [a.b]) (n0 : Int) (m1 : Int) ∧ w.heap.size + 2 < wx.heap.size)
  case first =>
    go_region_law (first | (refine step_append rfl _ _ 50 5 rfl Try.underlying50 Try.info5 (w.heap.size + 3) S1 t1 u1 l1 (some ⟨W3.heap.size, 0, none⟩) 1 1 [a.b] (t1 + 1) rfl rfl rfl hOw.out hbs2.out hsA.out htt2 ?_; intro T u' x4 hown4 hg4 hat4; have hK4 := hK3.keep hVd; have hS4 : Blk x4 (w.heap.size + 1) #[.slice S0 t0 u0, .slice S1 t1 u1] 51 := hK4.S.grown hg4 (fun e => by have h1 := (hK4.O1.ge _ e).1; omega); have r1 := hS4.cell 1 rfl; have rf1 := hS4.free 1))
    all_goals
      go_wp2_with fail
      go_meet
      refine ⟨T, u', (hK3.keep hVd).sent1 hown4 hg4 hat4, ?_⟩
      have h9 := hg4.size
      simp at h9 ⊢
      omega
  case rest =>
    obtain ⟨T, u', hK4, hsz⟩ := hcut
    clear hK3 hT3 r0 rf0 ax4 r0d ax4d hVd r0a hsA hbs2 hOw
    have s0 := hK4.M.cell 1 rfl
    have sf0 := hK4.M.free 1
    have hK5 := hK4.count1 (n1 : Int)
    have hFe1 := hF1.send a.b hb8
    rw [← i1] at hFe1
    have hFe0 := hF0.more (l' := l0) (fun x hx => hx)
    rw [← i0] at hFe0
    have hce : (m1 : Int) + 1 = (n1 : Int) := by omega
    have hcw : IntKind.i64.wrap ((m1 : Int) + 1) = (n1 : Int) := by rw [hce]; exact IntWalk.i64_in _ (by omega)
    go_upto_region 43 with (fail)
    clear hce hcw
    replace hsz : w.heap.size + 2 < (wc.setCell ⟨w.heap.size + 2, 1, none⟩ (.int .i64 (n1 : Int))).heap.size := by simpa using hsz
    have hKe := hK5
    generalize wc.setCell ⟨w.heap.size + 2, 1, none⟩ (.int .i64 (n1 : Int)) = W4 at hKe hsz ⊢
    clear hK4 hK5 s0 sf0
    have hq0 := hKe.P.cell 0 rfl
    have hq1 := hKe.P.cell 1 rfl
    have hq3 := hKe.M.cell 0 rfl
    have hq4 := hKe.M.cell 1 rfl
    go_wp2_with fail
    refine ⟨KI.mk (k := k + 1) (by omega) hsz ⟨_, _, _, _, _, _, _, _, _, _, _, _, _, _, _, _, hKe, hFe0, hFe1, by omega, by omega⟩ ?_, ?_⟩
    · rw [show ((k + 1 : Nat) : Int) = (k : Int) + 1 from by omega]; rfl
    · simp [kmu, intOf]; omega
end Go.Proofs.Ytbmfcaobhgeogaa
