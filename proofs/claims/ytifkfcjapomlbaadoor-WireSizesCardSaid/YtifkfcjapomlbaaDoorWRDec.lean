/-
  The document's Decode of a frame, by its contract.
-/
import Derived.Test.YtifkfcjapomlbaaDoorWDec
namespace Go.Proofs.YtifkfcjapomlbaaDoor
open Go.RowKit
set_option linter.unusedVariables false
set_option linter.unusedSimpArgs false
set_option maxRecDepth 100000

def RDecOk (w : World) (c : List Nat) (e : Ending) (w' : World) : Prop :=
  ∃ A1 c1, e = .returned (.tuple #[.agg #[.int .i64 (fk c : Nat), .int .u32 (fs c : Nat), .int .u32 (fq c : Nat), .int .u32 (fn c : Nat), .slice A1 (fm c) c1], .int .i64 0]) ∧ Bs w' A1 (fm c) c1 (fd c) ∧ Below w.heap.size w w'
def RDecBad (w : World) (x : Nat) (e : Ending) (w' : World) : Prop :=
  e = .returned (.tuple #[.agg #[.int .i64 0, .int .u32 0, .int .u32 0, .int .u32 0, .slice none 0 0], .int .i64 (x : Nat)]) ∧ Below w.heap.size w w'
def RDecF (w : World) (b : List Nat) (e : Ending) (w' : World) : Prop := (wdE b = 0 ∧ RDecOk w (b.take (b.length - 4)) e w') ∨ (wdE b ≠ 0 ∧ RDecBad w (wdE b) e w')
theorem takeN_e {s : Tl.In} {n : Int} {top : Nat} (h : s.e < 1000) : (Tl.takeN s n top).1.e < 1000 := by
  unfold Tl.takeN
  split
  · exact h
  · split
    · show 1 < 1000; decide
    · split
      · show 12 < 1000; decide
      · split
        · show 4 < 1000; decide
        · show 0 < 1000; decide
theorem in_no8 (A : Option Addr) (m c : Nat) (e : Int) : ∀ (i : Nat) (v : Value), (#[.slice A m c, .int .i64 e] : Array Value)[i]? = some v → ∀ x : Int, v ≠ Value.int .u8 x := by
  intro i v h x q
  subst q
  match i, h with
  | 0, h => simp at h
  | 1, h => simp at h
  | i + 2, h => simp at h
/-- A block of two cells is written whole. -/
theorem bs_set2 {y : World} {r : Nat} {cs : Array Value} {t : TypeId} {A : Option Addr} {n c : Nat} {l : List Nat} (hs : Bs y A n c l) (hB : Blk y r cs t) (hcs : ∀ (i : Nat) (v : Value), cs[i]? = some v → ∀ x : Int, v ≠ Value.int .u8 x) (v0 v1 : Value) :
    Bs ((y.setCell ⟨r, 0, none⟩ v0).setCell ⟨r, 1, none⟩ v1) A n c l :=
  hs.far (((Kept.refl (fun k => k = r) y).set (p := ⟨r, 0, none⟩) (fun _ => rfl) v0).set (p := ⟨r, 1, none⟩) (fun _ => rfl) v1) (fun hn b hb e => hs.apart hB hcs hn (by rw [hb, e]))
theorem b_set2 {w y : World} (hb : Below w.heap.size w y) {r : Nat} (hr : w.heap.size ≤ r) (v0 v1 : Value) :
    Below w.heap.size w ((y.setCell ⟨r, 0, none⟩ v0).setCell ⟨r, 1, none⟩ v1) := b_set (b_set hb hr _) hr _
theorem blk_set2 {y : World} {r : Nat} {a b : Value} {t : TypeId} (hB : Blk y r #[a, b] t) (v0 v1 : Value) : Blk ((y.setCell ⟨r, 0, none⟩ v0).setCell ⟨r, 1, none⟩ v1) r #[v0, v1] t := (hB.set 0 v0).set 1 v1
theorem blk_far2 {y : World} {g r : Nat} {cs : Array Value} {t : TypeId} (hB : Blk y g cs t) (hne : g ≠ r) (v0 v1 : Value) : Blk ((y.setCell ⟨r, 0, none⟩ v0).setCell ⟨r, 1, none⟩ v1) g cs t := (hB.far (p := ⟨r, 0, none⟩) hne v0).far (p := ⟨r, 1, none⟩) hne v1

set_option maxHeartbeats 16000000 in
theorem rdec_any (A : Option Addr) (n c : Nat) (l : List Nat) (w : World) (hb : Bs w A n c l) :
    Calls Tryd.prog 14 #[.slice A n c] w (RDecF w l) := by
  have hln := hb.len
  have hZ := b_alloc (Below.refl w.heap.size w) (.cells #[.int .i64 0, .int .u32 0, .int .u32 0, .int .u32 0, .slice none 0 0] 25)
  have hBz := Blk.new w #[.int .i64 0, .int .u32 0, .int .u32 0, .int .u32 0, .slice none 0 0] 25
  have hb0 := hb.keep hZ
  have hwlt := hBz.lt
  by_cases hC : cutE l = 0
  · have hC' := Lib.hid hC
    have hE : wdE l = if okW (l.take (n - 4)) = true then 0 else 3 := by unfold wdE; rw [if_neg (by simp [hC]), hln]
    have hcc : l.take (l.length - 4) = l.take (n - 4) := by rw [hln]
    go_enter Tryd.func14, Tryd.ntmps14
    go_wp2_with fail
    refine (rCut_any A n c l _ hb0).mono ?_
    intro e w1 hp
    obtain ⟨rfl, hb1⟩ := hp.elim (fun h => h.2) (fun h => absurd hC'.out h.1)
    clear hp
    have hs1 := (hb0.keep hb1).take (n - 4) (by omega)
    have hBz1 := hBz.keep hb1
    have hbw1 := b_then hZ hb1
    have hDF : ∀ e w', ((okW (l.take (n - 4)) = true ∧ RDecOk w (l.take (n - 4)) e w') ∨ (okW (l.take (n - 4)) = false ∧ RDecBad w 3 e w')) → RDecF w l e w' := by
      rintro e w' (⟨h1, h2⟩ | ⟨h1, h2⟩)
      · exact .inl ⟨by rw [hE, if_pos h1], by rw [hcc]; exact h2⟩
      · exact .inr ⟨by rw [hE, if_neg (by simp [h1])]; decide, by rw [hE, if_neg (by simp [h1])]; exact h2⟩
    have hDF' := Lib.hid hDF
    clear hDF hE hcc
    have hccs := hs1.small
    generalize l.take (n - 4) = cc at hs1 hDF' hccs
    have hk255 : (t1 255 cc).2 ≤ 255 := takeN_6
    have hs32 : (t2 255 cc).2 < 4294967296 := takeN_lt
    have hq32 : (t3 255 cc).2 < 4294967296 := takeN_lt
    have hn32 : (t4 255 cc).2 < 4294967296 := takeN_lt
    have he1 : (t1 255 cc).1.e < 1000 := takeN_e (by show 0 < 1000; decide)
    have he2 : (t2 255 cc).1.e < 1000 := takeN_e he1
    have he3 : (t3 255 cc).1.e < 1000 := takeN_e he2
    have he4 : (t4 255 cc).1.e < 1000 := takeN_e he3
    have hw64 : IntKind.i64.wrap (((t1 255 cc).2 : Nat) : Int) = (((t1 255 cc).2 : Nat) : Int) := by rw [IntWalk.i64_in _ (by omega)]
    have hwr2 : IntKind.u32.wrap (((t2 255 cc).2 : Nat) : Int) = (((t2 255 cc).2 : Nat) : Int) := by rw [IntKind.wrap_u32]; omega
    have hwr3 : IntKind.u32.wrap (((t3 255 cc).2 : Nat) : Int) = (((t3 255 cc).2 : Nat) : Int) := by rw [IntKind.wrap_u32]; omega
    have hwr4 : IntKind.u32.wrap (((t4 255 cc).2 : Nat) : Int) = (((t4 255 cc).2 : Nat) : Int) := by rw [IntKind.wrap_u32]; omega
    go_wp2_with fail
    refine (rTakeN_any A (n - 4) c cc 0 1 255 _ hs1 (by decide) (by decide)).mono ?_
    rintro e x1 ⟨A1, n1, c1, rfl, hs2, hy1⟩
    have hT1 : Tl.takeN ⟨cc, 0⟩ 1 255 = t1 255 cc := rfl
    rw [hT1] at hs2 ⊢
    have hBz2 := hBz1.keep hy1
    have hbx1 := b_then hbw1 hy1
    have hz2 := hBz2.lt
    have hzh : w.heap.size ≠ x1.heap.size := Nat.ne_of_lt hz2
    have hwh := hbx1.size
    have hba := b_alloc (Below.refl x1.heap.size x1) (.cells #[.slice A1 n1 c1, .int .i64 ((t1 255 cc).1.e : Nat)] 69)
    have hBi := Blk.new x1 #[.slice A1 n1 c1, .int .i64 ((t1 255 cc).1.e : Nat)] 69
    have hs3 := (hs2.keep hy1).keep hba
    have hBz3 := hBz2.keep hba
    have hbx2 := b_then hbx1 hba
    have i0 := hBi.cell 0 rfl
    have i1 := hBi.cell 1 rfl
    clear hT1
    go_wp2_with fail
    generalize x1.alloc (.cells #[.slice A1 n1 c1, .int .i64 ((t1 255 cc).1.e : Nat)] 69) = y1 at hBi hs3 hBz3 hbx2 i0 i1 ⊢
    generalize x1.heap.size = h at hBi hzh hwh i0 i1 ⊢
    clear i0 i1 hba hs2 hBz2
    refine (rTakeN_any A1 n1 c1 (t1 255 cc).1.b (t1 255 cc).1.e 4 4294967295 _ hs3 (by decide) he1).mono ?_
    rintro e z1 ⟨A2, n2, c2, rfl, hr1, hz1⟩
    have hT2 : Tl.takeN ⟨(t1 255 cc).1.b, (t1 255 cc).1.e⟩ 4 4294967295 = t2 255 cc := rfl
    rw [hT2] at hr1 ⊢
    clear hT2
    have hBi1 := hBi.keep hz1
    have hBz1_ := hBz3.keep hz1
    have hbz1 := b_then hbx2 hz1
    have j0 := hBi1.cell 0 rfl
    have j1 := hBi1.cell 1 rfl
    have jf := hBi1.free
    have hu1 := bs_set2 (hr1.keep hz1) hBi1 (in_no8 _ _ _ _) (.slice A2 n2 c2) (.int .i64 ((t2 255 cc).1.e : Nat))
    have hBu1 := blk_set2 hBi1 (.slice A2 n2 c2) (.int .i64 ((t2 255 cc).1.e : Nat))
    have hBzu1 := blk_far2 hBz1_ hzh (.slice A2 n2 c2) (.int .i64 ((t2 255 cc).1.e : Nat))
    have hbu1 := b_set2 hbz1 hwh (.slice A2 n2 c2) (.int .i64 ((t2 255 cc).1.e : Nat))
    have l0 := hBu1.cell 0 rfl
    have l1 := hBu1.cell 1 rfl
    go_wp2_with fail
    generalize (z1.setCell ⟨h, 0, none⟩ (.slice A2 n2 c2)).setCell ⟨h, 1, none⟩ (.int .i64 ((t2 255 cc).1.e : Nat)) = y2 at hu1 hBu1 hBzu1 hbu1 l0 l1 ⊢
    clear j0 j1 jf l0 l1 hBi1 hBz1_ hbz1 hr1
    refine (rTakeN_any A2 n2 c2 (t2 255 cc).1.b (t2 255 cc).1.e 4 4294967295 _ hu1 (by decide) he2).mono ?_
    rintro e z2 ⟨A3, n3, c3, rfl, hr2, hz2⟩
    have hT2 : Tl.takeN ⟨(t2 255 cc).1.b, (t2 255 cc).1.e⟩ 4 4294967295 = t3 255 cc := rfl
    rw [hT2] at hr2 ⊢
    clear hT2
    have hBi2 := hBu1.keep hz2
    have hBz2_ := hBzu1.keep hz2
    have hbz2 := b_then hbu1 hz2
    have j0 := hBi2.cell 0 rfl
    have j1 := hBi2.cell 1 rfl
    have jf := hBi2.free
    have hu2 := bs_set2 (hr2.keep hz2) hBi2 (in_no8 _ _ _ _) (.slice A3 n3 c3) (.int .i64 ((t3 255 cc).1.e : Nat))
    have hBu2 := blk_set2 hBi2 (.slice A3 n3 c3) (.int .i64 ((t3 255 cc).1.e : Nat))
    have hBzu2 := blk_far2 hBz2_ hzh (.slice A3 n3 c3) (.int .i64 ((t3 255 cc).1.e : Nat))
    have hbu2 := b_set2 hbz2 hwh (.slice A3 n3 c3) (.int .i64 ((t3 255 cc).1.e : Nat))
    have l0 := hBu2.cell 0 rfl
    have l1 := hBu2.cell 1 rfl
    go_wp2_with fail
    generalize (z2.setCell ⟨h, 0, none⟩ (.slice A3 n3 c3)).setCell ⟨h, 1, none⟩ (.int .i64 ((t3 255 cc).1.e : Nat)) = y3 at hu2 hBu2 hBzu2 hbu2 l0 l1 ⊢
    clear j0 j1 jf l0 l1 hBi2 hBz2_ hbz2 hr2
    refine (rTakeN_any A3 n3 c3 (t3 255 cc).1.b (t3 255 cc).1.e 4 4294967295 _ hu2 (by decide) he3).mono ?_
    rintro e z3 ⟨A4, n4, c4, rfl, hr3, hz3⟩
    have hT2 : Tl.takeN ⟨(t3 255 cc).1.b, (t3 255 cc).1.e⟩ 4 4294967295 = t4 255 cc := rfl
    rw [hT2] at hr3 ⊢
    clear hT2
    have hBi3 := hBu2.keep hz3
    have hBz3_ := hBzu2.keep hz3
    have hbz3 := b_then hbu2 hz3
    have j0 := hBi3.cell 0 rfl
    have j1 := hBi3.cell 1 rfl
    have jf := hBi3.free
    have hu3 := bs_set2 (hr3.keep hz3) hBi3 (in_no8 _ _ _ _) (.slice A4 n4 c4) (.int .i64 ((t4 255 cc).1.e : Nat))
    have hBu3 := blk_set2 hBi3 (.slice A4 n4 c4) (.int .i64 ((t4 255 cc).1.e : Nat))
    have hBzu3 := blk_far2 hBz3_ hzh (.slice A4 n4 c4) (.int .i64 ((t4 255 cc).1.e : Nat))
    have hbu3 := b_set2 hbz3 hwh (.slice A4 n4 c4) (.int .i64 ((t4 255 cc).1.e : Nat))
    have l0 := hBu3.cell 0 rfl
    have l1 := hBu3.cell 1 rfl
    go_wp2_with fail
    generalize (z3.setCell ⟨h, 0, none⟩ (.slice A4 n4 c4)).setCell ⟨h, 1, none⟩ (.int .i64 ((t4 255 cc).1.e : Nat)) = y4 at hu3 hBu3 hBzu3 hbu3 l0 l1 ⊢
    clear j0 j1 jf l0 l1 hBi3 hBz3_ hbz3 hr3
    refine (rTakeRun_any A4 n4 c4 (t4 255 cc).1.b (t4 255 cc).1.e 65536 _ hu3 (by decide)).mono ?_
    rintro e z4 ⟨A5, n5, c5, A6, n6, c6, rfl, hr4, hd4, hz4⟩
    have hT2 : Tl.takeRun ⟨(t4 255 cc).1.b, (t4 255 cc).1.e⟩ 65536 = t5 255 cc := rfl
    rw [hT2] at hr4 hd4 ⊢
    clear hT2
    have hBi4 := hBu3.keep hz4
    have hBz4_ := hBzu3.keep hz4
    have hbz4 := b_then hbu3 hz4
    have j0 := hBi4.cell 0 rfl
    have j1 := hBi4.cell 1 rfl
    have jf := hBi4.free
    have hu4 := bs_set2 (hr4.keep hz4) hBi4 (in_no8 _ _ _ _) (.slice A5 n5 c5) (.int .i64 ((t5 255 cc).1.e : Nat))
    have hud4 := bs_set2 (hd4.keep hz4) hBi4 (in_no8 _ _ _ _) (.slice A5 n5 c5) (.int .i64 ((t5 255 cc).1.e : Nat))
    have hBu4 := blk_set2 hBi4 (.slice A5 n5 c5) (.int .i64 ((t5 255 cc).1.e : Nat))
    have hBzu4 := blk_far2 hBz4_ hzh (.slice A5 n5 c5) (.int .i64 ((t5 255 cc).1.e : Nat))
    have hbu4 := b_set2 hbz4 hwh (.slice A5 n5 c5) (.int .i64 ((t5 255 cc).1.e : Nat))
    have hlen6 := hd4.len
    have hFl : ∀ y : World, Below y.heap.size y (y.alloc (.cells #[.int .i64 (t1 255 cc).2, .int .u32 (t2 255 cc).2, .int .u32 (t3 255 cc).2, .int .u32 (t4 255 cc).2, .slice A6 n6 c6] 25)) := fun y => b_alloc (Below.refl _ _) _
    have hFb : ∀ y : World, Blk (y.alloc (.cells #[.int .i64 (t1 255 cc).2, .int .u32 (t2 255 cc).2, .int .u32 (t3 255 cc).2, .int .u32 (t4 255 cc).2, .slice A6 n6 c6] 25)) y.heap.size #[.int .i64 (t1 255 cc).2, .int .u32 (t2 255 cc).2, .int .u32 (t3 255 cc).2, .int .u32 (t4 255 cc).2, .slice A6 n6 c6] 25 := fun y => Blk.new _ _ _
    generalize hyy : (z4.setCell ⟨h, 0, none⟩ (.slice A5 n5 c5)).setCell ⟨h, 1, none⟩ (.int .i64 ((t5 255 cc).1.e : Nat)) = y5 at hu4 hud4 hBu4 hBzu4 hbu4
    have hv := hFl y5
    have hBf := hFb y5
    have hv1 := hu4.keep hv
    have hv2 := hud4.keep hv
    have hBi5 := hBu4.keep hv
    have hBz5 := hBzu4.keep hv
    have hbv := b_then hbu4 hv
    have l0 := hBi5.cell 0 rfl
    have l1 := hBi5.cell 1 rfl
    clear hFl hFb
    go_wp2_with fail
    generalize y5.alloc (.cells #[.int .i64 (t1 255 cc).2, .int .u32 (t2 255 cc).2, .int .u32 (t3 255 cc).2, .int .u32 (t4 255 cc).2, .slice A6 n6 c6] 25) = y6 at hv hBf hv1 hv2 hBi5 hBz5 hbv ⊢
    generalize y5.heap.size = f at hBf ⊢
    clear l0 l1 j0 j1 jf
    have hn0 : (0 : Int) ≤ (((t4 255 cc).2 : Nat) : Int) := Int.natCast_nonneg _
    refine (rDone_any A5 n5 c5 (t5 255 cc).1.b (t5 255 cc).1.e _ hv1).mono ?_
    rintro e z6 ⟨rfl, hz6⟩
    have hT2 : Tl.done ⟨(t5 255 cc).1.b, (t5 255 cc).1.e⟩ = Tl.done (t5 255 cc).1 := rfl
    rw [hT2]
    have hBf6 := hBf.keep hz6
    have hBz6 := hBz5.keep hz6
    have hb6 := b_then hbv hz6
    have hd6 := hv2.keep hz6
    clear hv hBf hv1 hv2 hBi5 hBz5 hbv hud4 hu4 hBu4 hBzu4 hbu4 hT2
    cases hok : okW cc with
    | true =>
      have hok' := Lib.hid hok
      obtain ⟨q1, q2, q3, q4, q5, q6⟩ := takes_ok (top := 255) (by decide) hccs hok
      have hm : mayB (fk cc : Nat) (fn cc : Nat) (fm cc) = true := ((okW_iff cc).1 hok).2
      have v1 : (t1 255 cc).2 = fk cc := by rw [q1]
      have v2 : (t2 255 cc).2 = fs cc := by rw [q2]
      have v3 : (t3 255 cc).2 = fq cc := by rw [q3]
      have v4 : (t4 255 cc).2 = fn cc := by rw [q4]
      have v5 : (t5 255 cc).2 = fd cc := by rw [q5]
      have v6 : Tl.done (t5 255 cc).1 = 0 := by rw [q5]; rfl
      rw [v1, v2, v3, v4] at hBf6
      rw [v4] at hn0
      rw [v5] at hd6 hlen6
      obtain rfl : n6 = fm cc := by rw [← hlen6]; exact q6
      rw [v6]
      have hm' := Lib.hid hm
      have d0 := hBf6.cell 0 rfl
      have d1 := hBf6.cell 1 rfl
      have d2 := hBf6.cell 2 rfl
      have d3 := hBf6.cell 3 rfl
      have d4 := hBf6.cell 4 rfl
      clear q1 q2 q3 q4 q5 q6 v1 v2 v3 v4 v5 v6 hm hok hk255 hs32 hq32 hn32 hw64 hwr2 hwr3 hwr4 he1 he2 he3 he4
      go_wp2_with fail
      refine (rCheck_any (fk cc) (fs cc) (fq cc) (fn cc) A6 (fm cc) c6 _ hn0).mono ?_
      rw [hm'.out]
      rintro e z ⟨rfl, hbz⟩
      have hB8 := hBf6.keep hbz
      have hBz8 := hBz6.keep hbz
      clear d0 d1 d2 d3 d4
      have d0 := hB8.cell 0 rfl
      have d1 := hB8.cell 1 rfl
      have d2 := hB8.cell 2 rfl
      have d3 := hB8.cell 3 rfl
      have d4 := hB8.cell 4 rfl
      have k0 := hBz8.cell 0 rfl
      have k1 := hBz8.cell 1 rfl
      have k2 := hBz8.cell 2 rfl
      have k3 := hBz8.cell 3 rfl
      have k4 := hBz8.cell 4 rfl
      have kf := hBz8.free
      go_wp2_with fail
      refine bodyPost_ret (v := .tuple #[.agg #[.int .i64 (fk cc : Nat), .int .u32 (fs cc : Nat), .int .u32 (fq cc : Nat), .int .u32 (fn cc : Nat), .slice A6 (fm cc) c6], .int .i64 0]) (by simp [results, Tryd.results14, go_sem, k0, k1, k2, k3, k4]) rfl ?_
      exact hDF'.out _ _ (.inl ⟨hok'.out, A6, c6, rfl, bs_set5 (hd6.keep hbz) hBz8 (frame_no8 _ _ _ _ _ _ _) _ _ _ _ _, b_set5 (b_then hb6 hbz) (Nat.le_refl _) _ _ _ _ _⟩)
    | false =>
      have hok' := Lib.hid hok
      have hno := takes_no (top := 255) hok
      have d0 := hBf6.cell 0 rfl
      have d1 := hBf6.cell 1 rfl
      have d2 := hBf6.cell 2 rfl
      have d3 := hBf6.cell 3 rfl
      have d4 := hBf6.cell 4 rfl
      by_cases hd : Tl.done (t5 255 cc).1 = 0
      · have hm : mayB ((t1 255 cc).2 : Nat) ((t4 255 cc).2 : Nat) n6 = false := by
          cases hx : mayB ((t1 255 cc).2 : Nat) ((t4 255 cc).2 : Nat) n6 with
          | false => rfl
          | true => exact absurd ⟨hd, by rw [hlen6]; exact hx⟩ hno
        rw [hd]
        have hm' := Lib.hid hm
        clear hno hd hm hok
        go_wp2_with fail
        refine (rCheck_any (t1 255 cc).2 (t2 255 cc).2 (t3 255 cc).2 (t4 255 cc).2 A6 n6 c6 _ hn0).mono ?_
        rw [hm'.out]
        rintro e z ⟨rfl, hbz⟩
        have hBz8 := hBz6.keep hbz
        clear d0 d1 d2 d3 d4
        have k0 := hBz8.cell 0 rfl
        have k1 := hBz8.cell 1 rfl
        have k2 := hBz8.cell 2 rfl
        have k3 := hBz8.cell 3 rfl
        have k4 := hBz8.cell 4 rfl
        have kf := hBz8.free
        go_wp2_with fail
        refine bodyPost_ret (v := .tuple #[.agg #[.int .i64 0, .int .u32 0, .int .u32 0, .int .u32 0, .slice none 0 0], .int .i64 ((3 : Nat) : Int)]) (by simp [results, Tryd.results14, go_sem, k0, k1, k2, k3, k4]) rfl ?_
        exact hDF'.out _ _ (.inr ⟨hok'.out, rfl, b_set5 (b_then hb6 hbz) (Nat.le_refl _) _ _ _ _ _⟩)
      · have hdi : ¬ ((Tl.done (t5 255 cc).1 : Nat) : Int) = 0 := by omega
        have k0 := hBz6.cell 0 rfl
        have k1 := hBz6.cell 1 rfl
        have k2 := hBz6.cell 2 rfl
        have k3 := hBz6.cell 3 rfl
        have k4 := hBz6.cell 4 rfl
        have kf := hBz6.free
        clear hno hok d0 d1 d2 d3 d4
        go_wp2_with fail
        refine bodyPost_ret (v := .tuple #[.agg #[.int .i64 0, .int .u32 0, .int .u32 0, .int .u32 0, .slice none 0 0], .int .i64 ((3 : Nat) : Int)]) (by simp [results, Tryd.results14, go_sem, k0, k1, k2, k3, k4]) rfl ?_
        exact hDF'.out _ _ (.inr ⟨hok'.out, rfl, b_set5 hb6 (Nat.le_refl _) _ _ _ _ _⟩)
  · have hC' := Lib.hid hC
    have hE : wdE l = cutE l := by unfold wdE; rw [if_pos hC]
    go_enter Tryd.func14, Tryd.ntmps14
    go_wp2_with fail
    refine (rCut_any A n c l _ hb0).mono ?_
    intro e w1 hp
    obtain ⟨rfl, hb1⟩ := hp.elim (fun h => absurd h.1 hC'.out) (fun h => h.2)
    clear hp
    have hBz1 := hBz.keep hb1
    have k0 := hBz1.cell 0 rfl
    have k1 := hBz1.cell 1 rfl
    have k2 := hBz1.cell 2 rfl
    have k3 := hBz1.cell 3 rfl
    have k4 := hBz1.cell 4 rfl
    have kf := hBz1.free
    have hi0 : ¬ ((cutE l : Nat) : Int) = 0 := by have := hC'.out; omega
    go_wp2_with fail
    refine bodyPost_ret (v := .tuple #[.agg #[.int .i64 0, .int .u32 0, .int .u32 0, .int .u32 0, .slice none 0 0], .int .i64 (cutE l : Nat)]) (by simp [results, Tryd.results14, go_sem, k0, k1, k2, k3, k4]) rfl ?_
    exact .inr ⟨by rw [hE]; exact hC'.out, by rw [hE], b_set5 (b_then hZ hb1) (Nat.le_refl _) _ _ _ _ _⟩
end Go.Proofs.YtifkfcjapomlbaaDoor
