/-
  LinkOrder: what is sent to a side is taken there in order, by its contract.
-/
import Derived.Test.YtbmfcaobhgeogaaDoorLinkSure
namespace Go.Proofs.YtbmfcaobhgeogaaDoor
open Go.RowKit
set_option linter.unusedVariables false
set_option linter.unusedSimpArgs false
set_option maxRecDepth 100000

theorem lift_ge {wr W x1 : World} {p : Nat} {C : Option Addr} (h : Below wr.heap.size wr W) (hp : p < wr.heap.size) (hbx : Below W.heap.size W x1) (hb : ∀ r, C.map (·.block) = some r → W.heap.size ≤ r) : ∀ r, C.map (·.block) = some r → p < r := fun r hr => Nat.lt_of_lt_of_le hp (Nat.le_trans h.size (hb r hr))
theorem held2 {a b : Prop} (h : a ∧ b) : b := h.2
/-- Bytes, each an item. -/
def ones (l : List Nat) : List (List Nat × Bool) := l.map fun x => ([x], false)
theorem ones_len (l : List Nat) : (ones l).length = l.length := by simp [ones]
theorem ones_take_succ (l : List Nat) (k : Nat) (h : k < l.length) : ones (l.take (k + 1)) = ones (l.take k) ++ [([l.getD k 0], false)] := by rw [take_succ_getD l k h]; simp [ones]
theorem ones_take_all (l : List Nat) (k : Nat) (h : l.length ≤ k) : ones (l.take (k + 1)) = ones (l.take k) := by rw [List.take_of_length_le (by omega), List.take_of_length_le h]
theorem mid_one (l : List Nat) (k : Nat) (h : k < l.length) : (l.take (k + 1)).drop k = [l.getD k 0] := by
  rw [take_succ_getD l k h, List.drop_append]
  simp [List.length_take, Nat.min_eq_left (Nat.le_of_lt h)]
theorem ones_drop (l : List Nat) (k : Nat) (h : k < l.length) : ones (l.drop k) = ([l.getD k 0], false) :: ones (l.drop (k + 1)) := by
  rw [List.drop_eq_getElem_cons h, show l.getD k 0 = l[k] by simp [List.getD_eq_getElem?_getD, h]]; rfl
theorem ones_drop_all (l : List Nat) (k : Nat) (h : l.length ≤ k) : ones (l.drop (k + 1)) = ones (l.drop k) := by rw [List.drop_eq_nil_of_le (by omega), List.drop_eq_nil_of_le h]
theorem getD_take (l : List Nat) (n k : Nat) (h : k < n) : (l.take n).getD k 0 = l.getD k 0 := by simp [List.getD_eq_getElem?_getD, List.getElem?_take, h]
/-- The link in its variable, and what it says. -/
def LinkV (w : World) (p : Nat) (s0 s1 : List (List Nat × Bool)) (W : World) : Prop := ∃ B0 m0 d0 M0 B1 m1 d1 M1, Blk W p #[.slice B0 m0 d0, .slice B1 m1 d1, .bool false] 51 ∧ Items W B0 m0 d0 M0 ∧ Items W B1 m1 d1 M1 ∧ says M0 = s0 ∧ says M1 = s1 ∧ Below w.heap.size w W
/-- A link that was sent lies in a variable of its own. -/
def NewV (w : World) (p q : Nat) (s0 s1 : List (List Nat × Bool)) (W : World) : Prop := ∃ B0 m0 d0 M0 B1 m1 d1 M1, Blk W q #[.slice B0 m0 d0, .slice B1 m1 d1, .bool false] 51 ∧ Items W B0 m0 d0 M0 ∧ Items W B1 m1 d1 M1 ∧ says M0 = s0 ∧ says M1 = s1 ∧ (∀ r, B0.map (·.block) = some r → p < r) ∧ (∀ r, B1.map (·.block) = some r → p < r) ∧ q ≠ p ∧ (∃ u0 u1 u2, Blk W p #[u0, u1, u2] 51 ∧ (∀ (i : Nat) (v : Value), (#[u0, u1, u2] : Array Value)[i]? = some v → ∀ x : Int, v ≠ Value.int .u8 x)) ∧ Below w.heap.size w W
theorem NewV.copied {w W : World} {p q : Nat} {s0 s1 : List (List Nat × Bool)} (h : NewV w p q s0 s1 W) (hwp : w.heap.size ≤ p) : ∃ v0 v1 v2, W.cell? ⟨q, 0, none⟩ = some v0 ∧ W.cell? ⟨q, 1, none⟩ = some v1 ∧ W.cell? ⟨q, 2, none⟩ = some v2 ∧ (∀ i, W.frozen? ⟨p, i, none⟩ = false) ∧ (∀ i, i < 3 → ∃ u, W.cell? ⟨p, i, none⟩ = some u) ∧ LinkV w p s0 s1 (((W.setCell ⟨p, 0, none⟩ v0).setCell ⟨p, 1, none⟩ v1).setCell ⟨p, 2, none⟩ v2) := by
  obtain ⟨B0, m0, d0, M0, B1, m1, d1, M1, hQ, hI0, hI1, e0, e1, hb0, hb1, hqp, ⟨u0, u1, u2, hP, hno⟩, hbel⟩ := h
  refine ⟨_, _, _, hQ.cell 0 rfl, hQ.cell 1 rfl, hQ.cell 2 rfl, fun i => hP.free i, fun i hi => ?_, ?_⟩
  · match i, hi with
    | 0, _ => exact ⟨_, hP.cell 0 rfl⟩
    | 1, _ => exact ⟨_, hP.cell 1 rfl⟩
    | 2, _ => exact ⟨_, hP.cell 2 rfl⟩
  · obtain ⟨h1, h2, h3, _, _⟩ := laid_link (base := p + 1) false rfl hP hno hI0 hI1 hb0 hb1 (Nat.lt_succ_self p) _ rfl
    exact ⟨B0, m0, d0, M0, B1, m1, d1, M1, h1, h2, h3, e0, e1, below3 hbel hwp⟩
theorem one_of {w : World} {A' : Option Addr} {n' c' : Nat} {l : List Nat} {k : Nat} (h : Bs w A' n' c' ((l.take (k + 1)).drop k)) (hk : k < l.length) : Bs w A' 1 c' [l.getD k 0] := by
  rw [mid_one l k hk] at h
  have := h.len
  simp at this
  subst this
  exact h
theorem newv_after {w x1 : World} {p : Nat} {s0 s1 : List (List Nat × Bool)} {C0 : Option Addr} {n0 f0 : Nat} {N0 : List ItemV} {C1 : Option Addr} {n1 f1 : Nat} {N1 : List ItemV} {u0 u1 u2 : Value} (hJ0 : Items x1 C0 n0 f0 N0) (hJ1 : Items x1 C1 n1 f1 N1) (i0 : says N0 = s0) (i1 : says N1 = s1) (hc0 : ∀ r, C0.map (·.block) = some r → p < r) (hc1 : ∀ r, C1.map (·.block) = some r → p < r)
    (hP : Blk x1 p #[u0, u1, u2] 51) (hno : ∀ (i : Nat) (v : Value), (#[u0, u1, u2] : Array Value)[i]? = some v → ∀ x : Int, v ≠ Value.int .u8 x) (hbel : Below w.heap.size w x1) : NewV w p x1.heap.size s0 s1 (x1.alloc (.cells #[.slice C0 n0 f0, .slice C1 n1 f1, .bool false] 51)) := by
  have hb := b_alloc (Below.refl x1.heap.size x1) (.cells #[.slice C0 n0 f0, .slice C1 n1 f1, .bool false] 51)
  have := hP.lt
  exact ⟨C0, n0, f0, N0, C1, n1, f1, N1, Blk.new _ _ _, hJ0.keep hb, hJ1.keep hb, i0, i1, hc0, hc1, by omega, ⟨u0, u1, u2, hP.keep hb, hno⟩, b_then hbel hb⟩
theorem newv_before {w x1 : World} {p q : Nat} {s0 s1 : List (List Nat × Bool)} {C0 : Option Addr} {n0 f0 : Nat} {N0 : List ItemV} {C1 : Option Addr} {n1 f1 : Nat} {N1 : List ItemV} {u0 u1 u2 : Value} (hJ0 : Items x1 C0 n0 f0 N0) (hJ1 : Items x1 C1 n1 f1 N1) (i0 : says N0 = s0) (i1 : says N1 = s1) (hc0 : ∀ r, C0.map (·.block) = some r → p < r) (hc1 : ∀ r, C1.map (·.block) = some r → p < r)
    (hQ : Blk x1 q #[.slice none 0 0, .slice none 0 0, .bool false] 51) (hpq : p < q) (hr0 : ∀ r, C0.map (·.block) = some r → q < r) (hr1 : ∀ r, C1.map (·.block) = some r → q < r)
    (hP : Blk x1 p #[u0, u1, u2] 51) (hno : ∀ (i : Nat) (v : Value), (#[u0, u1, u2] : Array Value)[i]? = some v → ∀ x : Int, v ≠ Value.int .u8 x) (hbel : Below w.heap.size w x1) (hwq : w.heap.size ≤ p := by exact Nat.le_refl _) : NewV w p q s0 s1 (((x1.setCell ⟨q, 0, none⟩ (.slice C0 n0 f0)).setCell ⟨q, 1, none⟩ (.slice C1 n1 f1)).setCell ⟨q, 2, none⟩ (.bool false)) := by
  obtain ⟨h1, h2, h3, _, hk⟩ := laid_link (base := q + 1) false rfl hQ (link_no8 _ _ _ _ _ _ _) hJ0 hJ1 hr0 hr1 (Nat.lt_succ_self q) _ rfl
  exact ⟨C0, n0, f0, N0, C1, n1, f1, N1, h1, h2, h3, i0, i1, hc0, hc1, by omega, ⟨u0, u1, u2, hP.kept hk (by omega), hno⟩, below3 hbel (by omega)⟩
set_option maxHeartbeats 16000000 in
theorem law_order (Aa : Option Addr) (na ca : Nat) (la : List Nat) (Ab : Option Addr) (nb cb : Nat) (lb : List Nat) (w : World) (ha : Bs w Aa na ca la) (hb : Bs w Ab nb cb lb) (hE : ErrW w) :
    Calls Tryd.prog 5 #[.slice Aa na ca, .slice Ab nb cb] w (fun e w' => e = .returned (.bool true) ∧ Below w.heap.size w w') := by
  have hla := ha.len
  have hlb := hb.len
  have hma := ha.max
  have hmb := hb.max
  have hca := ha.cap
  have hcb := hb.cap
  obtain ⟨nk, hnk⟩ : ∃ nk, min na 100 = nk := ⟨_, rfl⟩
  go_enter Tryd.func5, Tryd.ntmps5
  go_upto_region 2 with (fail)
  have hst : LinkV w w.heap.size (ones (la.take 0)) (ones (lb.take 0)) (w.alloc (.cells #[.slice none 0 0, .slice none 0 0, .bool false] 51)) := ⟨none, 0, 0, [], none, 0, 0, [], Blk.new w _ _, Items.nil _, Items.nil _, rfl, rfl, b_alloc (Below.refl _ _) _⟩
  go_upto_block 0 with (fail)
  go_cut [] (fun wx => LinkV w w.heap.size (ones (la.take nk)) (ones (lb.take nk)) wx)
  case first =>
    go_wp2_with fail
    go_loopw [6, 7, 8, 9, 10] (fun i z1 z2 z3 z4 wr => ∃ k : Nat, k ≤ nk ∧ i = .int .i64 k ∧ LinkV w w.heap.size (ones (la.take k)) (ones (lb.take k)) wr) (fun i _ _ _ _ _ => nk - (intOf i).toNat)
    case atStart => exact ⟨0, by omega, rfl, hst⟩
    case round =>
      obtain ⟨k, hk, rfl, hV⟩ := hrel
      by_cases h12 : k < na ∧ k < 100
      · obtain ⟨h1, h2⟩ := h12
        obtain ⟨B0, m0, d0, M0, B1, m1, d1, M1, hP, hI0, hI1, e0, e1, hbel⟩ := hV
        have hk0 : (0 : Int) ≤ (k : Int) := by omega
        have hkn : (k : Int) < (na : Int) := by omega
        have hkh : (k : Int) < 100 := by omega
        have hwr := hP.lt
        have hst : ∀ W, Below wr.heap.size wr W → (W.cell? ⟨w.heap.size, 0, none⟩ = some (.slice B0 m0 d0) ∧ W.cell? ⟨w.heap.size, 1, none⟩ = some (.slice B1 m1 d1) ∧ W.cell? ⟨w.heap.size, 2, none⟩ = some (.bool false)) ∧ Below wr.heap.size wr W := fun W hW => ⟨⟨(hP.keep hW).cell 0 rfl, (hP.keep hW).cell 1 rfl, (hP.keep hW).cell 2 rfl⟩, hW⟩
        have hst3 := Lib.hid hst
        have hq0 := hst _ (b_drew (Below.refl _ _))
        clear hst
        obtain ⟨A', hcut, hAb⟩ := cut_mid (P := Tryd.prog) 47 5 .i64 .i64 Tryd.underlying47 Tryd.info5 Aa na ca k (k + 1) (by omega) (by omega) hca
        have hsd : sendR ⟨ones (la.take k), ones (lb.take k), false⟩ 0 [la.getD k 0] = (⟨ones (la.take (k + 1)), ones (lb.take k), false⟩, 0) := by
          rw [ones_take_succ la k (by omega)]
          simp [sendR, ones_len]
          omega
        have hsd' := Lib.hid hsd
        rw [show (((k + 1 : Nat) : Int)) = (k : Int) + 1 by omega, show k + 1 - k = 1 by omega] at hcut
        have hbs : Hid (∀ V, Below w.heap.size w V → Bs V A' 1 (ca - k) [la.getD k 0]) := Lib.hid fun V hV => one_of (hAb V la (ha.keep hV)) (by omega)
        clear hsd hAb
        go_upto_region 5 with (fail)
        go_cut [7, 8] from 22 to 61 (fun yv ev wx => ∃ q, yv = .pointer (some ⟨q, 0, none⟩) ∧ ev = .nilIface ∧ NewV w w.heap.size q (ones (la.take (k + 1))) (ones (lb.take k)) wx)
        case first =>
          have hkw : IntKind.i64.wrap ((k : Int) + 1) = (k : Int) + 1 := IntWalk.i64_in _ (by omega)
          go_region_held3 (fun W => (W.cell? ⟨w.heap.size, 0, none⟩ = some (.slice B0 m0 d0) ∧ W.cell? ⟨w.heap.size, 1, none⟩ = some (.slice B1 m1 d1) ∧ W.cell? ⟨w.heap.size, 2, none⟩ = some (.bool false)) ∧ Below wr.heap.size wr W) ((first | exact hq0 | exact hst3.out _ hbx1 | exact hst3.out _ (b_alloc (held2 (by assumption)) _) | exact hst3.out _ (b_alloc hbx1 _) | exact hst3.out _ (below3 hbx1 (Nat.le_refl _)))) (first
            | (go_at_call 21; refine (send_any B0 m0 d0 M0 B1 m1 d1 M1 false ⟨ones (la.take k), ones (lb.take k), false⟩ (by rw [e0, e1]) 0 A' 1 (ca - k) [la.getD k 0] _ (hI0.keep (held2 (by assumption))) (hI1.keep (held2 (by assumption))) (hbs.out _ (b_then hbel (held2 (by assumption))))).mono ?_; rw [hsd'.out]; unfold LinkP; dsimp only; rw [errOf_0]; rintro e x1 ⟨lv, rfl, ⟨C0, n0, f0, N0, C1, n1, f1, N1, rfl, hJ0, hJ1, i0, i1, hb0, hb1⟩, hbx⟩; have hbx1 := b_then (held2 (by assumption)) hbx; have hc0 := lift_ge (held2 (by assumption)) hwr hbx hb0; have hc1 := lift_ge (held2 (by assumption)) hwr hbx hb1; try have hBz : Blk x1 wr.heap.size #[.slice none 0 0, .slice none 0 0, .bool false] 51 := (Blk.new wr.drew _ _).keep hbx; try have hr0 : ∀ r, C0.map (·.block) = some r → wr.heap.size < r := (fun r hr => by have := hb0 r hr; simp at this; omega); try have hr1 : ∀ r, C1.map (·.block) = some r → wr.heap.size < r := (fun r hr => by have := hb1 r hr; simp at this; omega); try have hz0 := hBz.cell 0 rfl; try have hz1 := hBz.cell 1 rfl; try have hz2 := hBz.cell 2 rfl; try have hzf := hBz.free)
            | fail)
          all_goals go_wp2_with fail
          all_goals go_meet
          all_goals first
            | exact ⟨_, rfl, rfl, newv_after hJ0 hJ1 i0 i1 hc0 hc1 ((hP.keep (b_drew (Below.refl _ _))).keep hbx) (link_no8 _ _ _ _ _ _ _) (b_then hbel hbx1)⟩
            | exact ⟨_, rfl, rfl, newv_before hJ0 hJ1 i0 i1 hc0 hc1 hBz hwr hr0 hr1 (hP.keep hbx1) (link_no8 _ _ _ _ _ _ _) (b_then hbel hbx1)⟩
        case rest =>
          obtain ⟨q, rfl, rfl, C0, n0, f0, N0, C1, n1, f1, N1, hQ, hJ0, hJ1, i0, i1, hc0, hc1, hqp, ⟨u0, u1, u2, hP2, hno⟩, hbel2⟩ := hcut
          generalize wc = W2 at hQ hJ0 hJ1 hP2 hbel2 ⊢
          clear hq0 hst3 hsd' hbs
          have q0 := hQ.cell 0 rfl
          have qf0 := hQ.free 0
          have q1 := hQ.cell 1 rfl
          have qf1 := hQ.free 1
          have q2 := hQ.cell 2 rfl
          have qf2 := hQ.free 2
          have k0 := hP2.cell 0 rfl
          have kf0 := hP2.free 0
          have k1 := hP2.cell 1 rfl
          have kf1 := hP2.free 1
          have k2 := hP2.cell 2 rfl
          have kf2 := hP2.free 2
          have hll := laid_link (base := w.heap.size + 1) false rfl hP2 hno hJ0 hJ1 hc0 hc1 (Nat.lt_succ_self _) _ rfl
          have hbel3 := below3 (p := w.heap.size) (a := .slice C0 n0 f0) (b := .slice C1 n1 f1) (c := .bool false) hbel2 (Nat.le_refl _)
          go_upto_region 9 with (fail)
          generalize (((W2.setCell ⟨w.heap.size, 0, none⟩ (.slice C0 n0 f0)).setCell ⟨w.heap.size, 1, none⟩ (.slice C1 n1 f1)).setCell ⟨w.heap.size, 2, none⟩ (.bool false)) = W3 at hll hbel3 ⊢
          obtain ⟨hP3, hK0, hK1, -, -⟩ := hll
          have hwr3 := hP3.lt
          clear q0 q1 q2 qf0 qf1 qf2 k0 k1 k2 kf0 kf1 kf2 hQ hP2 hJ0 hJ1 hc0 hc1 hbel2
          by_cases h3 : k < nb
          · have h3' : (k : Int) < (nb : Int) := by omega
            have hst : ∀ W, Below W3.heap.size W3 W → (W.cell? ⟨w.heap.size, 0, none⟩ = some (.slice C0 n0 f0) ∧ W.cell? ⟨w.heap.size, 1, none⟩ = some (.slice C1 n1 f1) ∧ W.cell? ⟨w.heap.size, 2, none⟩ = some (.bool false)) ∧ Below W3.heap.size W3 W := fun W hW => ⟨⟨(hP3.keep hW).cell 0 rfl, (hP3.keep hW).cell 1 rfl, (hP3.keep hW).cell 2 rfl⟩, hW⟩
            have hst3 := Lib.hid hst
            have hq0 := hst _ (b_drew (Below.refl _ _))
            clear hst
            obtain ⟨A', hcut, hAb⟩ := cut_mid (P := Tryd.prog) 47 5 .i64 .i64 Tryd.underlying47 Tryd.info5 Ab nb cb k (k + 1) (by omega) (by omega) hcb
            have hsd : sendR ⟨ones (la.take (k + 1)), ones (lb.take k), false⟩ 1 [lb.getD k 0] = (⟨ones (la.take (k + 1)), ones (lb.take (k + 1)), false⟩, 0) := by
              rw [ones_take_succ lb k (by omega)]
              simp [sendR, ones_len]
              omega
            have hsd' := Lib.hid hsd
            rw [show (((k + 1 : Nat) : Int)) = (k : Int) + 1 by omega, show k + 1 - k = 1 by omega] at hcut
            have hbs : Hid (∀ V, Below w.heap.size w V → Bs V A' 1 (cb - k) [lb.getD k 0]) := Lib.hid fun V hV => one_of (hAb V lb (hb.keep hV)) (by omega)
            clear hsd hAb
            go_upto_region 10 with (fail)
            go_cut [9, 10] from 22 to 61 (fun yv ev wx => ∃ q, yv = .pointer (some ⟨q, 0, none⟩) ∧ ev = .nilIface ∧ NewV w w.heap.size q (ones (la.take (k + 1))) (ones (lb.take (k + 1))) wx)
            case first =>
              have hkw : IntKind.i64.wrap ((k : Int) + 1) = (k : Int) + 1 := IntWalk.i64_in _ (by omega)
              go_region_held3 (fun W => (W.cell? ⟨w.heap.size, 0, none⟩ = some (.slice C0 n0 f0) ∧ W.cell? ⟨w.heap.size, 1, none⟩ = some (.slice C1 n1 f1) ∧ W.cell? ⟨w.heap.size, 2, none⟩ = some (.bool false)) ∧ Below W3.heap.size W3 W) ((first | exact hq0 | exact hst3.out _ hbx1 | exact hst3.out _ (b_alloc (held2 (by assumption)) _) | exact hst3.out _ (b_alloc hbx1 _) | exact hst3.out _ (below3 hbx1 (Nat.le_refl _)))) (first
                | (go_at_call 21; refine (send_any C0 n0 f0 N0 C1 n1 f1 N1 false ⟨ones (la.take (k + 1)), ones (lb.take k), false⟩ (by rw [i0, i1]) 1 A' 1 (cb - k) [lb.getD k 0] _ (hK0.keep (held2 (by assumption))) (hK1.keep (held2 (by assumption))) (hbs.out _ (b_then hbel3 (held2 (by assumption))))).mono ?_; rw [hsd'.out]; unfold LinkP; dsimp only; rw [errOf_0]; rintro e x1 ⟨lv, rfl, ⟨D0, o0, g0, O0, D1, o1, g1, O1, rfl, hJ0, hJ1, j0, j1, hb0, hb1⟩, hbx⟩; have hbx1 := b_then (held2 (by assumption)) hbx; have hc0 := lift_ge (held2 (by assumption)) hwr3 hbx hb0; have hc1 := lift_ge (held2 (by assumption)) hwr3 hbx hb1; try have hBz : Blk x1 W3.heap.size #[.slice none 0 0, .slice none 0 0, .bool false] 51 := (Blk.new W3.drew _ _).keep hbx; try have hr0 : ∀ r, D0.map (·.block) = some r → W3.heap.size < r := (fun r hr => by have := hb0 r hr; simp at this; omega); try have hr1 : ∀ r, D1.map (·.block) = some r → W3.heap.size < r := (fun r hr => by have := hb1 r hr; simp at this; omega); try have hz0 := hBz.cell 0 rfl; try have hz1 := hBz.cell 1 rfl; try have hz2 := hBz.cell 2 rfl; try have hzf := hBz.free)
                | fail)
              all_goals go_wp2_with fail
              all_goals go_meet
              all_goals first
                | exact ⟨_, rfl, rfl, newv_after hJ0 hJ1 j0 j1 hc0 hc1 ((hP3.keep (b_drew (Below.refl _ _))).keep hbx) (link_no8 _ _ _ _ _ _ _) (b_then hbel3 hbx1)⟩
                | exact ⟨_, rfl, rfl, newv_before hJ0 hJ1 j0 j1 hc0 hc1 hBz hwr3 hr0 hr1 (hP3.keep hbx1) (link_no8 _ _ _ _ _ _ _) (b_then hbel3 hbx1)⟩
            case rest =>
              obtain ⟨q, rfl, rfl, D0, o0, g0, O0, D1, o1, g1, O1, hQ, hJ0, hJ1, j0, j1, hc0, hc1, hqp, ⟨u0, u1, u2, hP2, hno⟩, hbel2⟩ := hcut
              generalize wc = W2 at hQ hJ0 hJ1 hP2 hbel2 ⊢
              clear hq0 hst3 hsd' hbs
              have q0 := hQ.cell 0 rfl
              have qf0 := hQ.free 0
              have q1 := hQ.cell 1 rfl
              have qf1 := hQ.free 1
              have q2 := hQ.cell 2 rfl
              have qf2 := hQ.free 2
              have k0 := hP2.cell 0 rfl
              have kf0 := hP2.free 0
              have k1 := hP2.cell 1 rfl
              have kf1 := hP2.free 1
              have k2 := hP2.cell 2 rfl
              have kf2 := hP2.free 2
              have hll := laid_link (base := w.heap.size + 1) false rfl hP2 hno hJ0 hJ1 hc0 hc1 (Nat.lt_succ_self _) _ rfl
              have hbel5 := below3 (p := w.heap.size) (a := .slice D0 o0 g0) (b := .slice D1 o1 g1) (c := .bool false) hbel2 (Nat.le_refl _)
              go_upto_region 4 with (fail)
              generalize (((W2.setCell ⟨w.heap.size, 0, none⟩ (.slice D0 o0 g0)).setCell ⟨w.heap.size, 1, none⟩ (.slice D1 o1 g1)).setCell ⟨w.heap.size, 2, none⟩ (.bool false)) = W5 at hll hbel5 ⊢
              obtain ⟨hP5, hG0, hG1, -, -⟩ := hll
              have hwr5 := hP5.lt
              clear q0 q1 q2 qf0 qf1 qf2 k0 k1 k2 kf0 kf1 kf2 hQ hP2 hJ0 hJ1 hc0 hc1 hbel2
              go_wp2_with fail
              go_roundw
              case rel => exact ⟨k + 1, by omega, by go_num, D0, o0, g0, O0, D1, o1, g1, O1, hP5, hG0, hG1, j0, j1, hbel5⟩
              case measure => simp [intOf] <;> omega
          · have h3' : ¬ (k : Int) < (nb : Int) := by omega
            go_wp2_with fail
            go_roundw
            case rel => exact ⟨k + 1, by omega, by go_num, C0, n0, f0, N0, C1, n1, f1, N1, hP3, hK0, hK1, i0, by rw [ones_take_all lb k (by omega)]; exact i1, hbel3⟩
            case measure => simp [intOf] <;> omega
      · have hkk : k = nk := by omega
        subst hkk
        have hex : (na : Int) ≤ (k : Int) ∨ ((k : Int) < (na : Int) ∧ (100 : Int) ≤ (k : Int)) := by omega
        rcases hex with h1 | ⟨h1, h2⟩
        all_goals go_wp2_with fail
        all_goals go_meet
        all_goals exact hV
  case rest =>
    replace hst := hcut
    generalize wc = W1 at hst ⊢
    clear hcut
    go_upto_block 2 with (fail)
    go_cut [] (fun wx => LinkV w w.heap.size [] (ones ((lb.take nk).drop nk)) wx)
    case first =>
      go_wp2_with fail
      go_loopw [11, 12, 13, 14, 15, 16, 17] (fun i z1 z2 z3 z4 z5 z6 wr => ∃ k : Nat, k ≤ nk ∧ i = .int .i64 k ∧ LinkV w w.heap.size (ones ((la.take nk).drop k)) (ones ((lb.take nk).drop k)) wr) (fun i _ _ _ _ _ _ _ => nk - (intOf i).toNat)
      case atStart => exact ⟨0, by omega, rfl, hst⟩
      case round =>
        obtain ⟨k, hk, rfl, hV⟩ := hrel
        by_cases h12 : k < na ∧ k < 100
        · obtain ⟨h1, h2⟩ := h12
          obtain ⟨B0, m0, d0, M0, B1, m1, d1, M1, hP, hI0, hI1, e0, e1, hbel⟩ := hV
          have hk0 : (0 : Int) ≤ (k : Int) := by omega
          have hkn : (k : Int) < (na : Int) := by omega
          have hkh : (k : Int) < 100 := by omega
          have hwr := hP.lt
          obtain ⟨A', hcut, hAb⟩ := cut_mid (P := Tryd.prog) 47 5 .i64 .i64 Tryd.underlying47 Tryd.info5 Aa na ca k (k + 1) (by omega) (by omega) hca
          have htk : takeR ⟨ones ((la.take nk).drop k), ones ((lb.take nk).drop k), false⟩ 0 0 = (⟨ones ((la.take nk).drop (k + 1)), ones ((lb.take nk).drop k), false⟩, [la.getD k 0], 0) := by
            rw [ones_drop (la.take nk) k (by rw [List.length_take]; omega), getD_take la nk k (by omega)]
            simp [takeR, atE]
          have htk' := Lib.hid htk
          rw [show (((k + 1 : Nat) : Int)) = (k : Int) + 1 by omega, show k + 1 - k = 1 by omega] at hcut
          clear htk
          have k0 := hP.cell 0 rfl
          have kf0 := hP.free 0
          have k1 := hP.cell 1 rfl
          have kf1 := hP.free 1
          have k2 := hP.cell 2 rfl
          have kf2 := hP.free 2
          go_upto_region 18 with (go_at_call 22; refine (take_any B0 m0 d0 M0 B1 m1 d1 M1 false ⟨ones ((la.take nk).drop k), ones ((lb.take nk).drop k), false⟩ (by rw [e0, e1]) 0 0 _ hI0 hI1).mono ?_; rw [htk'.out]; unfold TakeP; dsimp only; rw [errOf_0]; rintro e x1 ⟨lv, Ac, nc, cc, rfl, ⟨C0, n0, f0, N0, C1, n1, f1, N1, rfl, hJ0, hJ1, i0, i1, hb0, hb1⟩, hbs1, hbx⟩)
          have hfl := fresh_link (t := 51) false hJ0 hJ1 _ rfl
          have hc0 := lift_ge (Below.refl _ _) hwr hbx hb0
          have hc1 := lift_ge (Below.refl _ _) hwr hbx hb1
          have hqp : x1.heap.size ≠ w.heap.size := by have := hbx.size; omega
          generalize x1.alloc (.cells #[.slice C0 n0 f0, .slice C1 n1 f1, .bool false] 51) = W2 at hfl ⊢
          obtain ⟨hQ, hJ0, hJ1, hbW, -⟩ := hfl
          have hbs2 := hbs1.keep hbW
          have hP2 := (hP.keep hbx).keep hbW
          have hbel2 := b_then (b_then hbel hbx) hbW
          generalize x1.heap.size = q at hQ hqp ⊢
          clear hb0 hb1 hbs1 hbW hbx k0 k1 k2 kf0 kf1 kf2 hP hI0 hI1 hbel hwr e0 e1
          obtain ⟨st, hstr⟩ : ∃ st, strOf [la.getD k 0] = st := ⟨_, rfl⟩
          have hst : ∀ W, Below W2.heap.size W2 W → ((convert 47 9 (.slice Ac nc cc)).run Tryd.prog W = .ok (.string st) W ∧ (convert 47 9 (.slice A' 1 (ca - k))).run Tryd.prog W = .ok (.string st) W) ∧ Below W2.heap.size W2 W := fun W hW => ⟨⟨hstr ▸ run_str (P := Tryd.prog) 47 5 9 Tryd.underlying47 Tryd.underlying5 Tryd.underlying9 (hbs2.keep hW), hstr ▸ run_str (P := Tryd.prog) 47 5 9 Tryd.underlying47 Tryd.underlying5 Tryd.underlying9 (one_of (hAb W la (ha.keep (b_then hbel2 hW))) (by omega))⟩, hW⟩
          have hq0 := hst _ (b_drew (Below.refl _ _))
          clear hst hstr htk' hAb
          go_cut [90] from 62 to 115 (fun bb wx => bb = .bool false ∧ Below W2.heap.size W2 wx)
          case first =>
            have hkw : IntKind.i64.wrap ((k : Int) + 1) = (k : Int) + 1 := IntWalk.i64_in _ (by omega)
            go_region_held3 (fun W => ((convert 47 9 (.slice Ac nc cc)).run Tryd.prog W = .ok (.string st) W ∧ (convert 47 9 (.slice A' 1 (ca - k))).run Tryd.prog W = .ok (.string st) W) ∧ Below W2.heap.size W2 W) (exact hq0) (fail)
            all_goals go_wp2_with fail
            all_goals go_meet
            all_goals exact ⟨rfl, held2 (by assumption)⟩
          case rest =>
            obtain ⟨rfl, hbz⟩ := hcut
            replace hQ := hQ.keep hbz
            replace hP2 := hP2.keep hbz
            replace hJ0 := hJ0.keep hbz
            replace hJ1 := hJ1.keep hbz
            replace hbel2 := b_then hbel2 hbz
            clear hq0 hbs2 hbz
            generalize wc = W2 at hQ hJ0 hJ1 hP2 hbel2 ⊢
            have q0 := hQ.cell 0 rfl
            have qf0 := hQ.free 0
            have q1 := hQ.cell 1 rfl
            have qf1 := hQ.free 1
            have q2 := hQ.cell 2 rfl
            have qf2 := hQ.free 2
            have k0 := hP2.cell 0 rfl
            have kf0 := hP2.free 0
            have k1 := hP2.cell 1 rfl
            have kf1 := hP2.free 1
            have k2 := hP2.cell 2 rfl
            have kf2 := hP2.free 2
            have hll := laid_link (base := w.heap.size + 1) false rfl hP2 (link_no8 _ _ _ _ _ _ _) hJ0 hJ1 hc0 hc1 (Nat.lt_succ_self _) _ rfl
            have hbel3 := below3 (p := w.heap.size) (a := .slice C0 n0 f0) (b := .slice C1 n1 f1) (c := .bool false) hbel2 (Nat.le_refl _)
            go_upto_region 21 with (fail)
            generalize (((W2.setCell ⟨w.heap.size, 0, none⟩ (.slice C0 n0 f0)).setCell ⟨w.heap.size, 1, none⟩ (.slice C1 n1 f1)).setCell ⟨w.heap.size, 2, none⟩ (.bool false)) = W3 at hll hbel3 ⊢
            obtain ⟨hP3, hK0, hK1, -, -⟩ := hll
            have hwr3 := hP3.lt
            clear q0 q1 q2 qf0 qf1 qf2 k0 k1 k2 kf0 kf1 kf2 hQ hP2 hJ0 hJ1 hc0 hc1 hbel2 hqp
            by_cases h3 : k < nb
            · have h3' : (k : Int) < (nb : Int) := by omega
              obtain ⟨A', hcut, hAb⟩ := cut_mid (P := Tryd.prog) 47 5 .i64 .i64 Tryd.underlying47 Tryd.info5 Ab nb cb k (k + 1) (by omega) (by omega) hcb
              have htk : takeR ⟨ones ((la.take nk).drop (k + 1)), ones ((lb.take nk).drop k), false⟩ 1 0 = (⟨ones ((la.take nk).drop (k + 1)), ones ((lb.take nk).drop (k + 1)), false⟩, [lb.getD k 0], 0) := by
                rw [ones_drop (lb.take nk) k (by rw [List.length_take]; omega), getD_take lb nk k (by omega)]
                simp [takeR, atE]
              have htk' := Lib.hid htk
              rw [show (((k + 1 : Nat) : Int)) = (k : Int) + 1 by omega, show k + 1 - k = 1 by omega] at hcut
              clear htk
              have k0 := hP3.cell 0 rfl
              have kf0 := hP3.free 0
              have k1 := hP3.cell 1 rfl
              have kf1 := hP3.free 1
              have k2 := hP3.cell 2 rfl
              have kf2 := hP3.free 2
              go_upto_region 23 with (go_at_call 22; refine (take_any C0 n0 f0 N0 C1 n1 f1 N1 false ⟨ones ((la.take nk).drop (k + 1)), ones ((lb.take nk).drop k), false⟩ (by rw [i0, i1]) 1 0 _ hK0 hK1).mono ?_; rw [htk'.out]; unfold TakeP; dsimp only; rw [errOf_0]; rintro e x1 ⟨lv, Ac, nc, cc, rfl, ⟨D0, o0, g0, O0, D1, o1, g1, O1, rfl, hJ0, hJ1, j0, j1, hb0, hb1⟩, hbs1, hbx⟩)
              have hfl := fresh_link (t := 51) false hJ0 hJ1 _ rfl
              have hc0 := lift_ge (Below.refl _ _) hwr3 hbx hb0
              have hc1 := lift_ge (Below.refl _ _) hwr3 hbx hb1
              have hqp : x1.heap.size ≠ w.heap.size := by have := hbx.size; omega
              generalize x1.alloc (.cells #[.slice D0 o0 g0, .slice D1 o1 g1, .bool false] 51) = W2 at hfl ⊢
              obtain ⟨hQ, hJ0, hJ1, hbW, -⟩ := hfl
              have hbs2 := hbs1.keep hbW
              have hP2 := (hP3.keep hbx).keep hbW
              have hbel2 := b_then (b_then hbel3 hbx) hbW
              generalize x1.heap.size = q at hQ hqp ⊢
              clear hb0 hb1 hbs1 hbW hbx k0 k1 k2 kf0 kf1 kf2 hP3 hK0 hK1 hbel3 hwr3 i0 i1
              obtain ⟨st, hstr⟩ : ∃ st, strOf [lb.getD k 0] = st := ⟨_, rfl⟩
              have hst : ∀ W, Below W2.heap.size W2 W → ((convert 47 9 (.slice Ac nc cc)).run Tryd.prog W = .ok (.string st) W ∧ (convert 47 9 (.slice A' 1 (cb - k))).run Tryd.prog W = .ok (.string st) W) ∧ Below W2.heap.size W2 W := fun W hW => ⟨⟨hstr ▸ run_str (P := Tryd.prog) 47 5 9 Tryd.underlying47 Tryd.underlying5 Tryd.underlying9 (hbs2.keep hW), hstr ▸ run_str (P := Tryd.prog) 47 5 9 Tryd.underlying47 Tryd.underlying5 Tryd.underlying9 (one_of (hAb W lb (hb.keep (b_then hbel2 hW))) (by omega))⟩, hW⟩
              have hq0 := hst _ (b_drew (Below.refl _ _))
              clear hst hstr htk' hAb
              go_cut [114] from 62 to 115 (fun bb wx => bb = .bool false ∧ Below W2.heap.size W2 wx)
              case first =>
                have hkw : IntKind.i64.wrap ((k : Int) + 1) = (k : Int) + 1 := IntWalk.i64_in _ (by omega)
                go_region_held3 (fun W => ((convert 47 9 (.slice Ac nc cc)).run Tryd.prog W = .ok (.string st) W ∧ (convert 47 9 (.slice A' 1 (cb - k))).run Tryd.prog W = .ok (.string st) W) ∧ Below W2.heap.size W2 W) (exact hq0) (fail)
                all_goals go_wp2_with fail
                all_goals go_meet
                all_goals exact ⟨rfl, held2 (by assumption)⟩
              case rest =>
                obtain ⟨rfl, hbz⟩ := hcut
                replace hQ := hQ.keep hbz
                replace hP2 := hP2.keep hbz
                replace hJ0 := hJ0.keep hbz
                replace hJ1 := hJ1.keep hbz
                replace hbel2 := b_then hbel2 hbz
                clear hq0 hbs2 hbz
                generalize wc = W2 at hQ hJ0 hJ1 hP2 hbel2 ⊢
                have q0 := hQ.cell 0 rfl
                have qf0 := hQ.free 0
                have q1 := hQ.cell 1 rfl
                have qf1 := hQ.free 1
                have q2 := hQ.cell 2 rfl
                have qf2 := hQ.free 2
                have k0 := hP2.cell 0 rfl
                have kf0 := hP2.free 0
                have k1 := hP2.cell 1 rfl
                have kf1 := hP2.free 1
                have k2 := hP2.cell 2 rfl
                have kf2 := hP2.free 2
                have hll := laid_link (base := w.heap.size + 1) false rfl hP2 (link_no8 _ _ _ _ _ _ _) hJ0 hJ1 hc0 hc1 (Nat.lt_succ_self _) _ rfl
                have hbel5 := below3 (p := w.heap.size) (a := .slice D0 o0 g0) (b := .slice D1 o1 g1) (c := .bool false) hbel2 (Nat.le_refl _)
                go_upto_region 16 with (fail)
                generalize (((W2.setCell ⟨w.heap.size, 0, none⟩ (.slice D0 o0 g0)).setCell ⟨w.heap.size, 1, none⟩ (.slice D1 o1 g1)).setCell ⟨w.heap.size, 2, none⟩ (.bool false)) = W5 at hll hbel5 ⊢
                obtain ⟨hP5, hG0, hG1, -, -⟩ := hll
                have hwr5 := hP5.lt
                clear q0 q1 q2 qf0 qf1 qf2 k0 k1 k2 kf0 kf1 kf2 hQ hP2 hJ0 hJ1 hc0 hc1 hbel2 hqp
                go_wp2_with fail
                go_roundw
                case rel => exact ⟨k + 1, by omega, by go_num, D0, o0, g0, O0, D1, o1, g1, O1, hP5, hG0, hG1, j0, j1, hbel5⟩
                case measure => simp [intOf] <;> omega
            · have h3' : ¬ (k : Int) < (nb : Int) := by omega
              go_wp2_with fail
              go_roundw
              case rel => exact ⟨k + 1, by omega, by go_num, C0, n0, f0, N0, C1, n1, f1, N1, hP3, hK0, hK1, i0, by rw [ones_drop_all (lb.take nk) k (by rw [List.length_take]; omega)]; exact i1, hbel3⟩
              case measure => simp [intOf] <;> omega
        · have hkk : k = nk := by omega
          subst hkk
          have hex : (na : Int) ≤ (k : Int) ∨ ((k : Int) < (na : Int) ∧ (100 : Int) ≤ (k : Int)) := by omega
          have hnil : ones ((la.take k).drop k) = [] := by rw [List.drop_eq_nil_of_le (by rw [List.length_take]; omega)]; rfl
          rw [hnil] at hV
          rcases hex with h1 | ⟨h1, h2⟩
          all_goals go_wp2_with fail
          all_goals go_meet
          all_goals exact hV
    case rest =>
      obtain ⟨B0, m0, d0, M0, B1, m1, d1, M1, hP, hI0, hI1, e0, e1, hbel⟩ := hcut
      generalize wc = W9 at hP hI0 hI1 hbel ⊢
      have htk : takeR ⟨[], ones ((lb.take nk).drop nk), false⟩ 0 0 = (Lk.zero, [], 8) := by simp [takeR, atE]
      have htk' := Lib.hid htk
      clear htk
      have k0 := hP.cell 0 rfl
      have kf0 := hP.free 0
      have k1 := hP.cell 1 rfl
      have kf1 := hP.free 1
      have k2 := hP.cell 2 rfl
      have kf2 := hP.free 2
      go_wp2_with (first
        | (go_at_call 22; refine (take_any B0 m0 d0 M0 B1 m1 d1 M1 false ⟨[], ones ((lb.take nk).drop nk), false⟩ (by rw [e0, e1]) 0 0 _ hI0 hI1).mono ?_; rw [htk'.out]; unfold TakeP; dsimp only; rw [errOf_8]; rintro e x1 ⟨lv, Ac, nc, cc, rfl, ⟨C0, n0, f0, N0, C1, n1, f1, N1, rfl, hJ0, hJ1, i0, i1, hb0, hb1⟩, hbs1, hbx⟩; have hEx := hE.keep (b_then hbel hbx))
        | (go_at_call 23; refine (num23_any _ 8 _ (ErrV.num 8) (hEx.keep (b_alloc (Below.refl _ _) _))).mono ?_; rintro e x2 ⟨rfl, hbn⟩)
        | (go_at_call 24; refine (sure23_any _).mono ?_; rintro e x3 ⟨rfl, hbs3⟩))
      go_ret
      exact ⟨rfl, b_then (b_then (b_alloc (b_then hbel hbx) _) hbn) hbs3⟩
end Go.Proofs.YtbmfcaobhgeogaaDoor
