/-
  The document's Twice, by its contract.
-/
import Derived.Test.YtbmfcaobhgeogaaDoorLinkRTake
namespace Go.Proofs.YtbmfcaobhgeogaaDoor
open Go.RowKit
set_option linter.unusedVariables false
set_option linter.unusedSimpArgs false
set_option maxRecDepth 100000

theorem rs5_below {wr V V' : World} {p0 p1 b4 o4 : Nat} {v0 v1 v2 v4 v5 : Value} (h : ((V.cell? ⟨p0, 0, none⟩ = some v0 ∧ V.cell? ⟨p0, 1, none⟩ = some v1 ∧ V.cell? ⟨p0, 2, none⟩ = some v2) ∧ Kept (fun i => i = p1) wr V) ∧ V.cell? ⟨b4, o4, none⟩ = some v4 ∧ V.cell? ⟨b4, o4 + 1, none⟩ = some v5) (hb : Below V.heap.size V V') : ((V'.cell? ⟨p0, 0, none⟩ = some v0 ∧ V'.cell? ⟨p0, 1, none⟩ = some v1 ∧ V'.cell? ⟨p0, 2, none⟩ = some v2) ∧ Kept (fun i => i = p1) wr V') ∧ V'.cell? ⟨b4, o4, none⟩ = some v4 ∧ V'.cell? ⟨b4, o4 + 1, none⟩ = some v5 := ⟨rs_below h.1 hb, cell_keep h.2.1 hb, cell_keep h.2.2 hb⟩
theorem rs5_alloc {wr V : World} {p0 p1 b4 o4 : Nat} {v0 v1 v2 v4 v5 : Value} (h : ((V.cell? ⟨p0, 0, none⟩ = some v0 ∧ V.cell? ⟨p0, 1, none⟩ = some v1 ∧ V.cell? ⟨p0, 2, none⟩ = some v2) ∧ Kept (fun i => i = p1) wr V) ∧ V.cell? ⟨b4, o4, none⟩ = some v4 ∧ V.cell? ⟨b4, o4 + 1, none⟩ = some v5) (o : Obj) : (((V.alloc o).cell? ⟨p0, 0, none⟩ = some v0 ∧ (V.alloc o).cell? ⟨p0, 1, none⟩ = some v1 ∧ (V.alloc o).cell? ⟨p0, 2, none⟩ = some v2) ∧ Kept (fun i => i = p1) wr (V.alloc o)) ∧ (V.alloc o).cell? ⟨b4, o4, none⟩ = some v4 ∧ (V.alloc o).cell? ⟨b4, o4 + 1, none⟩ = some v5 := rs5_below h (b_alloc (Below.refl _ _) o)
theorem rs5_none {wr V V' : World} {p0 p1 b4 o4 : Nat} {v0 v1 v2 v4 v5 : Value} (h : ((V.cell? ⟨p0, 0, none⟩ = some v0 ∧ V.cell? ⟨p0, 1, none⟩ = some v1 ∧ V.cell? ⟨p0, 2, none⟩ = some v2) ∧ Kept (fun i => i = p1) wr V) ∧ V.cell? ⟨b4, o4, none⟩ = some v4 ∧ V.cell? ⟨b4, o4 + 1, none⟩ = some v5) (hg : V.grownBy V' none) : ((V'.cell? ⟨p0, 0, none⟩ = some v0 ∧ V'.cell? ⟨p0, 1, none⟩ = some v1 ∧ V'.cell? ⟨p0, 2, none⟩ = some v2) ∧ Kept (fun i => i = p1) wr V') ∧ V'.cell? ⟨b4, o4, none⟩ = some v4 ∧ V'.cell? ⟨b4, o4 + 1, none⟩ = some v5 := rs5_below h (below_of_none hg)
theorem rs5_grown {wr V V' : World} {p0 p1 b4 o4 : Nat} {v0 v1 v2 v4 v5 : Value} {row : Option Nat} (h : ((V.cell? ⟨p0, 0, none⟩ = some v0 ∧ V.cell? ⟨p0, 1, none⟩ = some v1 ∧ V.cell? ⟨p0, 2, none⟩ = some v2) ∧ Kept (fun i => i = p1) wr V) ∧ V.cell? ⟨b4, o4, none⟩ = some v4 ∧ V.cell? ⟨b4, o4 + 1, none⟩ = some v5) (hg : V.grownBy V' row) (hr : ∀ k, row = some k → wr.heap.size ≤ k) (hp : p0 < wr.heap.size) (hb : b4 < wr.heap.size) : ((V'.cell? ⟨p0, 0, none⟩ = some v0 ∧ V'.cell? ⟨p0, 1, none⟩ = some v1 ∧ V'.cell? ⟨p0, 2, none⟩ = some v2) ∧ Kept (fun i => i = p1) wr V') ∧ V'.cell? ⟨b4, o4, none⟩ = some v4 ∧ V'.cell? ⟨b4, o4 + 1, none⟩ = some v5 := by
  have hne : some b4 ≠ row := fun e => absurd (hr b4 e.symm) (by omega)
  exact ⟨rs_grown h.1 hg hr hp, hg.cell h.2.1 hne, hg.cell h.2.2 hne⟩
theorem rs5_bel {w wr V : World} {p0 p1 b4 o4 : Nat} {v0 v1 v2 v4 v5 : Value} (h : ((V.cell? ⟨p0, 0, none⟩ = some v0 ∧ V.cell? ⟨p0, 1, none⟩ = some v1 ∧ V.cell? ⟨p0, 2, none⟩ = some v2) ∧ Kept (fun i => i = p1) wr V) ∧ V.cell? ⟨b4, o4, none⟩ = some v4 ∧ V.cell? ⟨b4, o4 + 1, none⟩ = some v5) (hb : Below w.heap.size w wr) (hp : w.heap.size ≤ p1) : Below w.heap.size w V := rs_bel h.1 hb hp
theorem rs5_size {wr V : World} {p0 p1 b4 o4 : Nat} {v0 v1 v2 v4 v5 : Value} (h : ((V.cell? ⟨p0, 0, none⟩ = some v0 ∧ V.cell? ⟨p0, 1, none⟩ = some v1 ∧ V.cell? ⟨p0, 2, none⟩ = some v2) ∧ Kept (fun i => i = p1) wr V) ∧ V.cell? ⟨b4, o4, none⟩ = some v4 ∧ V.cell? ⟨b4, o4 + 1, none⟩ = some v5) : wr.heap.size ≤ V.heap.size := rs_size h.1
theorem rs5_store {wr V : World} {p0 p1 b4 o4 : Nat} {v0 v1 v2 v4 v5 : Value} {a b c : Value} (h : ((V.cell? ⟨p0, 0, none⟩ = some v0 ∧ V.cell? ⟨p0, 1, none⟩ = some v1 ∧ V.cell? ⟨p0, 2, none⟩ = some v2) ∧ Kept (fun i => i = p1) wr V) ∧ V.cell? ⟨b4, o4, none⟩ = some v4 ∧ V.cell? ⟨b4, o4 + 1, none⟩ = some v5) (hne : p0 ≠ p1) (hn4 : b4 ≠ p1) : (((((V.setCell ⟨p1, 0, none⟩ a).setCell ⟨p1, 1, none⟩ b).setCell ⟨p1, 2, none⟩ c).cell? ⟨p0, 0, none⟩ = some v0 ∧ (((V.setCell ⟨p1, 0, none⟩ a).setCell ⟨p1, 1, none⟩ b).setCell ⟨p1, 2, none⟩ c).cell? ⟨p0, 1, none⟩ = some v1 ∧ (((V.setCell ⟨p1, 0, none⟩ a).setCell ⟨p1, 1, none⟩ b).setCell ⟨p1, 2, none⟩ c).cell? ⟨p0, 2, none⟩ = some v2) ∧ Kept (fun i => i = p1) wr (((V.setCell ⟨p1, 0, none⟩ a).setCell ⟨p1, 1, none⟩ b).setCell ⟨p1, 2, none⟩ c)) ∧ (((V.setCell ⟨p1, 0, none⟩ a).setCell ⟨p1, 1, none⟩ b).setCell ⟨p1, 2, none⟩ c).cell? ⟨b4, o4, none⟩ = some v4 ∧ (((V.setCell ⟨p1, 0, none⟩ a).setCell ⟨p1, 1, none⟩ b).setCell ⟨p1, 2, none⟩ c).cell? ⟨b4, o4 + 1, none⟩ = some v5 := ⟨rs_store h.1 hne, kept3.cell h.2.1 hn4, kept3.cell h.2.2 hn4⟩

set_option maxHeartbeats 8000000 in
theorem rTwice_any (A0 : Option Addr) (n0 c0 : Nat) (L0 : List ItemV) (A1 : Option Addr) (n1 c1 : Nat) (L1 : List ItemV) (d : Bool) (k : Lk) (hk : k = ⟨says L0, says L1, d⟩) (side at_ : Int) (w : World) (h0 : Items w A0 n0 c0 L0) (h1 : Items w A1 n1 c1 L1) :
    Calls Tryd.prog 33 #[(.agg #[.slice A0 n0 c0, .slice A1 n1 c1, .bool d]), .int .i64 side, .int .i64 at_] w (RefP w (twiceR k side at_)) := by
  have hl0 : k.s0.length = n0 := by rw [hk]; exact (says_len L0).trans h0.len
  have hl1 : k.s1.length = n1 := by rw [hk]; exact (says_len L1).trans h1.len
  have hkd : k.d = d := by rw [hk]
  have hat := fun W => check_any A0 n0 c0 A1 n1 c1 k side at_ W hl0 hl1
  rw [hkd] at hat
  rcases atE_cases k side at_ with hE | hE | ⟨hE, hx⟩
  · rw [show twiceR k side at_ = (Lk.zero, 1) by rw [twiceR, hE]; rfl]
    rw [hE] at hat
    clear hl0 hl1 hkd
    have hbx := Lib.hid (box_two w #[.slice A0 n0 c0, .slice A1 n1 c1, .bool d] #[.slice none 0 0, .slice none 0 0, .bool false] 60 60)
    go_enter Tryd.func33, Tryd.ntmps33
    go_upto_region 1 with (fail)
    obtain ⟨hB, hC, hbel⟩ := hbx.out _ rfl
    generalize (w.alloc (Obj.cells #[.slice A0 n0 c0, .slice A1 n1 c1, .bool d] 60)).alloc (Obj.cells #[.slice none 0 0, .slice none 0 0, .bool false] 60) = W at hB hC hbel ⊢
    clear hbx
    have k0 := hB.cell 0 rfl
    have kf0 := hB.free 0
    have k1 := hB.cell 1 rfl
    have kf1 := hB.free 1
    have k2 := hB.cell 2 rfl
    have kf2 := hB.free 2
    go_wp2_with (go_at_call 44; refine (hat _).mono ?_; rintro e xa ⟨rfl, hba⟩; have hBa := hB.keep hba; have hCa := hC.keep hba; have k0 := hBa.cell 0 rfl; have k1 := hBa.cell 1 rfl; have k2 := hBa.cell 2 rfl; have z0 := hCa.cell 0 rfl; have z1 := hCa.cell 1 rfl; have z2 := hCa.cell 2 rfl; have zf0 := hCa.free 0; have zf1 := hCa.free 1; have zf2 := hCa.free 2)
    exact bodyPost_ret (v := .tuple #[.agg #[.slice none 0 0, .slice none 0 0, .bool false], .int .i64 1]) (by simp [results, Tryd.results33, z0, z1, z2, zf0, zf1, zf2, go_sem]) rfl ⟨none, 0, 0, [], none, 0, 0, [], rfl, Items.nil _, Items.nil _, rfl, rfl, below3 (b_then hbel hba) (Nat.le_succ _)⟩
  · rw [show twiceR k side at_ = (Lk.zero, 8) by rw [twiceR, hE]; rfl]
    rw [hE] at hat
    clear hl0 hl1 hkd
    have hbx := Lib.hid (box_two w #[.slice A0 n0 c0, .slice A1 n1 c1, .bool d] #[.slice none 0 0, .slice none 0 0, .bool false] 60 60)
    go_enter Tryd.func33, Tryd.ntmps33
    go_upto_region 1 with (fail)
    obtain ⟨hB, hC, hbel⟩ := hbx.out _ rfl
    generalize (w.alloc (Obj.cells #[.slice A0 n0 c0, .slice A1 n1 c1, .bool d] 60)).alloc (Obj.cells #[.slice none 0 0, .slice none 0 0, .bool false] 60) = W at hB hC hbel ⊢
    clear hbx
    have k0 := hB.cell 0 rfl
    have kf0 := hB.free 0
    have k1 := hB.cell 1 rfl
    have kf1 := hB.free 1
    have k2 := hB.cell 2 rfl
    have kf2 := hB.free 2
    go_wp2_with (go_at_call 44; refine (hat _).mono ?_; rintro e xa ⟨rfl, hba⟩; have hBa := hB.keep hba; have hCa := hC.keep hba; have k0 := hBa.cell 0 rfl; have k1 := hBa.cell 1 rfl; have k2 := hBa.cell 2 rfl; have z0 := hCa.cell 0 rfl; have z1 := hCa.cell 1 rfl; have z2 := hCa.cell 2 rfl; have zf0 := hCa.free 0; have zf1 := hCa.free 1; have zf2 := hCa.free 2)
    exact bodyPost_ret (v := .tuple #[.agg #[.slice none 0 0, .slice none 0 0, .bool false], .int .i64 8]) (by simp [results, Tryd.results33, z0, z1, z2, zf0, zf1, zf2, go_sem]) rfl ⟨none, 0, 0, [], none, 0, 0, [], rfl, Items.nil _, Items.nil _, rfl, rfl, below3 (b_then hbel hba) (Nat.le_succ _)⟩
  · rw [hE] at hat
    rcases hx with ⟨rfl, i, rfl, hi⟩ | ⟨rfl, i, rfl, hi⟩
    · rw [hl0] at hi
      by_cases hf : 256 ≤ n0
      · rw [show twiceR k 0 (i : Int) = (Lk.zero, 10) by rw [twiceR, hE]; simp; omega]
        have hf' : (255 : Int) < (n0 : Int) := by omega
        clear hl0 hl1 hkd hE
        have hbx := Lib.hid (box_two w #[.slice A0 n0 c0, .slice A1 n1 c1, .bool d] #[.slice none 0 0, .slice none 0 0, .bool false] 60 60)
        go_enter Tryd.func33, Tryd.ntmps33
        go_upto_region 1 with (fail)
        obtain ⟨hB, hC, hbel⟩ := hbx.out _ rfl
        generalize (w.alloc (Obj.cells #[.slice A0 n0 c0, .slice A1 n1 c1, .bool d] 60)).alloc (Obj.cells #[.slice none 0 0, .slice none 0 0, .bool false] 60) = W at hB hC hbel ⊢
        clear hbx
        have k0 := hB.cell 0 rfl
        have kf0 := hB.free 0
        have k1 := hB.cell 1 rfl
        have kf1 := hB.free 1
        have k2 := hB.cell 2 rfl
        have kf2 := hB.free 2
        go_wp2_with (go_at_call 44; refine (hat _).mono ?_; rintro e xa ⟨rfl, hba⟩; have hBa := hB.keep hba; have hCa := hC.keep hba; have k0 := hBa.cell 0 rfl; have k1 := hBa.cell 1 rfl; have k2 := hBa.cell 2 rfl; have z0 := hCa.cell 0 rfl; have z1 := hCa.cell 1 rfl; have z2 := hCa.cell 2 rfl; have zf0 := hCa.free 0; have zf1 := hCa.free 1; have zf2 := hCa.free 2)
        exact bodyPost_ret (v := .tuple #[.agg #[.slice none 0 0, .slice none 0 0, .bool false], .int .i64 10]) (by simp [results, Tryd.results33, z0, z1, z2, zf0, zf1, zf2, go_sem]) rfl ⟨none, 0, 0, [], none, 0, 0, [], rfl, Items.nil _, Items.nil _, rfl, rfl, below3 (b_then hbel hba) (Nat.le_succ _)⟩
      · rw [show twiceR k 0 (i : Int) = (⟨k.s0 ++ (k.s0[i]?).toList, k.s1, k.d⟩, 0) by rw [twiceR, hE]; simp; omega]
        have hf' : ¬ (255 : Int) < (n0 : Int) := by omega
        subst hk
        clear hl0 hl1 hkd hE
        have hbx := Lib.hid (box_two w #[.slice A0 n0 c0, .slice A1 n1 c1, .bool d] #[.slice none 0 0, .slice none 0 0, .bool false] 60 60)
        go_enter Tryd.func33, Tryd.ntmps33
        go_upto_region 1 with (fail)
        obtain ⟨hB, hC, hbel⟩ := hbx.out _ rfl
        generalize (w.alloc (Obj.cells #[.slice A0 n0 c0, .slice A1 n1 c1, .bool d] 60)).alloc (Obj.cells #[.slice none 0 0, .slice none 0 0, .bool false] 60) = W at hB hC hbel ⊢
        clear hbx
        have k0 := hB.cell 0 rfl
        have kf0 := hB.free 0
        have k1 := hB.cell 1 rfl
        have kf1 := hB.free 1
        have k2 := hB.cell 2 rfl
        have kf2 := hB.free 2
        have hX := h0
        obtain ⟨s, b, off, hs, he, hc0, hc1, hsb⟩ := hX.at_ i hi
        subst he
        have hblt : b < w.heap.size := World.block_lt_of_cell? w _ hc0
        have hsbb := Lib.hid hsb
        clear hsb
        have hq1 : (0 : Int) ≤ (i : Int) := by omega
        have hq2 : (i : Int) < (n0 : Int) := by omega
        go_upto_region 7 with (go_at_call 44; refine (hat _).mono ?_; rintro e xa ⟨rfl, hba⟩; have hBa := hB.keep hba; have hCa := hC.keep hba; have k0 := hBa.cell 0 rfl; have k1 := hBa.cell 1 rfl; have k2 := hBa.cell 2 rfl; have z0 := hCa.cell 0 rfl; have z1 := hCa.cell 1 rfl; have z2 := hCa.cell 2 rfl; have zf0 := hCa.free 0; have zf1 := hCa.free 1; have zf2 := hCa.free 2)
        have hbela := b_then hbel hba
        have hWs := hCa.lt
        have hp1 : w.heap.size ≤ w.heap.size + 1 := Nat.le_succ _
        have hp01 : w.heap.size ≠ w.heap.size + 1 := by omega
        have hpb : b ≠ w.heap.size + 1 := by omega
        have hpW : w.heap.size < xa.heap.size := by omega
        have hbW : b < xa.heap.size := by omega
        have hmx := hX.max
        have hsz1 : n0 + 1 ≤ 4398046511104 := by omega
        have hsA : ∀ q, 0 < s.n → s.A.map (·.block) = some q → q < w.heap.size := fun q hn hq => by
          obtain ⟨b1, o1, e1, h1⟩ := hsbb.out.lt hn
          rw [e1] at hq
          have : b1 = q := Option.some.inj hq
          omega
        have hfar : ∀ (C : Option Addr), (∀ q, C.map (·.block) = some q → xa.heap.size ≤ q) → ∀ x ∈ [s], 0 < x.n → ∀ q, C.map (·.block) = some q → x.A.map (·.block) ≠ some q   := fun C hC x hx hn q hq e => by
          obtain rfl : x = s := by simpa using hx
          have := hsA q hn e
          have := hC q hq
          omega
        have hfn : ∀ s ∈ L0, 0 < s.n → ∀ k, (none : Option Addr).map (·.block) = some k → s.A.map (·.block) ≠ some k := fun s hs hn k hk => by simp at hk
        have hfn := Lib.hid hfn
        have hfar := Lib.hid hfar
        clear hsA
        have hXX := Lib.hid hX
        have hs' := Lib.hid hs
        clear hs
        have hq0 := And.intro (rs_start (p1 := w.heap.size + 1) hBa) (And.intro (show xa.drew.cell? ⟨b, off + i * 2, none⟩ = some (.slice s.A s.n s.c) from cell_keep hc0 (b_drew hbela)) (show xa.drew.cell? ⟨b, off + i * 2 + 1, none⟩ = some (.bool s.t) from cell_keep hc1 (b_drew hbela)))
        go_region_held3 (fun V => ((V.cell? ⟨w.heap.size, 0, none⟩ = some (.slice (some ⟨b, off, none⟩) n0 c0) ∧ V.cell? ⟨w.heap.size, 1, none⟩ = some (.slice A1 n1 c1) ∧ V.cell? ⟨w.heap.size, 2, none⟩ = some (.bool d)) ∧ Kept (fun i => i = w.heap.size + 1) xa V) ∧ V.cell? ⟨b, off + i * 2, none⟩ = some (.slice s.A s.n s.c) ∧ V.cell? ⟨b, off + i * 2 + 1, none⟩ = some (.bool s.t)) ((first | exact hq0 | exact rs5_none (by assumption) hg1 | exact rs5_alloc (by assumption) _ | exact rs5_grown (by assumption) hg2 hr2 hpW hbW | exact rs5_below (by assumption) hb3 | exact rs5_store (by assumption) hp01 hpb)) (first
          | (go_at_call 43; refine (with_any (some ⟨b, off, none⟩) n0 c0 A1 n1 c1 d 0 (by omega) A4 (n0 + 1) c4 _).mono ?_; rintro e x5 ⟨rfl, hb3⟩; have hC5 := hC4.keep hb3; have y0 := hC5.cell 0 rfl; have y1 := hC5.cell 1 rfl; have y2 := hC5.cell 2 rfl; have yf0 := hC5.free 0; have yf1 := hC5.free 1; have yf2 := hC5.free 2)
          | (refine step_appendI rfl (.tmp 27) (.tmp 31) 57 91 rfl Tryd.underlying57 Tryd.info91 xa.heap.size none 0 0 [] (some ⟨b, off, none⟩) n0 c0 L0 n0 (Nat.zero_add _).symm rfl rfl (OwnI.nil _ _ _) (hXX.out.keep (rs5_bel (by assumption) hbela hp1)) hfn.out (rs5_size (by assumption)) (Nat.le_trans (Nat.le_of_eq (Nat.zero_add _)) hmx) ?_; intro A3 c3 x3 hown3 hg1 hat3; have hHx := rs5_none (wr := xa) (p0 := w.heap.size) (p1 := w.heap.size + 1) (by assumption) hg1; have hC3 : Blk x3 (w.heap.size + 1) #[.slice none 0 0, .slice none 0 0, .bool false] 60 := (by first | exact hCa.drew.keep (below_of_none hg1) | exact (hCa.drew.alloc _).keep (below_of_none hg1)); have hr2 := fun k (hk : A3.map (·.block) = some k) => (hown3.ge k hk).1)
          | (refine step_appendI rfl (.tmp 32) (.tmp 40) 57 91 rfl Tryd.underlying57 Tryd.info91 xa.heap.size A3 n0 c3 ([] ++ L0) (some ⟨x3.heap.size, 0, none⟩) 1 1 [s] (n0 + 1) rfl rfl rfl (hown3.keep (b_alloc (Below.refl _ _) _)) (Items.one 91 s (hsbb.out.keep (rs5_bel hHx hbela hp1))) (hfar.out _ hr2) (rs5_size (by assumption)) hsz1 ?_; intro A4 c4 x4 hown4 hg2 hat4; have hC4 : Blk x4 (w.heap.size + 1) #[.slice none 0 0, .slice none 0 0, .bool false] 60 := (by first | exact (hC3.alloc _).grown hg2 (fun e => absurd (hr2 _ e) (by omega)) | exact hC3.grown hg2 (fun e => absurd (hr2 _ e) (by omega))))
          | (refine step_appendI rfl (.tmp 32) (.tmp 40) 57 91 rfl Tryd.underlying57 Tryd.info91 xa.heap.size A3 n0 c3 ([] ++ L0) (some ⟨xa.heap.size, 0, none⟩) 1 1 [s] (n0 + 1) rfl rfl rfl hown3 ((Items.one (w := xa.drew) 91 s (hsbb.out.keep (rs5_bel hq0 hbela hp1))).keep (below_of_none hg1)) (hfar.out _ hr2) (rs5_size (by assumption)) hsz1 ?_; intro A4 c4 x4 hown4 hg2 hat4; have hC4 : Blk x4 (w.heap.size + 1) #[.slice none 0 0, .slice none 0 0, .bool false] 60 := (by first | exact (hC3.alloc _).grown hg2 (fun e => absurd (hr2 _ e) (by omega)) | exact hC3.grown hg2 (fun e => absurd (hr2 _ e) (by omega)))))
        all_goals
          have hbz := rs5_bel (by assumption) hbela hp1
          have hI5 := hown4.items.keep hb3
          have hge4 := fun q (hq : A4.map (·.block) = some q) => (hown4.ge q hq).1
          have hIf := hI5.kept (kept3 (p := w.heap.size + 1) (a := .slice A4 (n0 + 1) c4) (b := .slice A1 n1 c1) (c := .bool d)) (fun q hq e => by have := hge4 q hq; omega) (fun s hs hn q hq e => (hI5.ok s hs).apart hC5 (link_no8 _ _ _ _ _ _ _) hn (by rw [hq, e]))
          have hsy : says ([] ++ L0 ++ [s]) = says L0 ++ ((says L0)[i]?).toList := by simp [says, ItemV.say, List.getElem?_map, hs'.out]
          go_wp2_with fail
          exact bodyPost_ret (v := .tuple #[.agg #[.slice A4 (n0 + 1) c4, .slice A1 n1 c1, .bool d], .int .i64 0]) (by simp [results, Tryd.results33, y0, y1, y2, yf0, yf1, yf2, go_sem]) rfl ⟨A4, n0 + 1, c4, _, A1, n1, c1, L1, rfl, hIf, h1.keep hbz, hsy, rfl, hbz⟩
    · rw [hl1] at hi
      by_cases hf : 256 ≤ n1
      · rw [show twiceR k 1 (i : Int) = (Lk.zero, 10) by rw [twiceR, hE]; simp; omega]
        have hf' : (255 : Int) < (n1 : Int) := by omega
        clear hl0 hl1 hkd hE
        have hbx := Lib.hid (box_two w #[.slice A0 n0 c0, .slice A1 n1 c1, .bool d] #[.slice none 0 0, .slice none 0 0, .bool false] 60 60)
        go_enter Tryd.func33, Tryd.ntmps33
        go_upto_region 1 with (fail)
        obtain ⟨hB, hC, hbel⟩ := hbx.out _ rfl
        generalize (w.alloc (Obj.cells #[.slice A0 n0 c0, .slice A1 n1 c1, .bool d] 60)).alloc (Obj.cells #[.slice none 0 0, .slice none 0 0, .bool false] 60) = W at hB hC hbel ⊢
        clear hbx
        have k0 := hB.cell 0 rfl
        have kf0 := hB.free 0
        have k1 := hB.cell 1 rfl
        have kf1 := hB.free 1
        have k2 := hB.cell 2 rfl
        have kf2 := hB.free 2
        go_wp2_with (go_at_call 44; refine (hat _).mono ?_; rintro e xa ⟨rfl, hba⟩; have hBa := hB.keep hba; have hCa := hC.keep hba; have k0 := hBa.cell 0 rfl; have k1 := hBa.cell 1 rfl; have k2 := hBa.cell 2 rfl; have z0 := hCa.cell 0 rfl; have z1 := hCa.cell 1 rfl; have z2 := hCa.cell 2 rfl; have zf0 := hCa.free 0; have zf1 := hCa.free 1; have zf2 := hCa.free 2)
        exact bodyPost_ret (v := .tuple #[.agg #[.slice none 0 0, .slice none 0 0, .bool false], .int .i64 10]) (by simp [results, Tryd.results33, z0, z1, z2, zf0, zf1, zf2, go_sem]) rfl ⟨none, 0, 0, [], none, 0, 0, [], rfl, Items.nil _, Items.nil _, rfl, rfl, below3 (b_then hbel hba) (Nat.le_succ _)⟩
      · rw [show twiceR k 1 (i : Int) = (⟨k.s0, k.s1 ++ (k.s1[i]?).toList, k.d⟩, 0) by rw [twiceR, hE]; simp; omega]
        have hf' : ¬ (255 : Int) < (n1 : Int) := by omega
        subst hk
        clear hl0 hl1 hkd hE
        have hbx := Lib.hid (box_two w #[.slice A0 n0 c0, .slice A1 n1 c1, .bool d] #[.slice none 0 0, .slice none 0 0, .bool false] 60 60)
        go_enter Tryd.func33, Tryd.ntmps33
        go_upto_region 1 with (fail)
        obtain ⟨hB, hC, hbel⟩ := hbx.out _ rfl
        generalize (w.alloc (Obj.cells #[.slice A0 n0 c0, .slice A1 n1 c1, .bool d] 60)).alloc (Obj.cells #[.slice none 0 0, .slice none 0 0, .bool false] 60) = W at hB hC hbel ⊢
        clear hbx
        have k0 := hB.cell 0 rfl
        have kf0 := hB.free 0
        have k1 := hB.cell 1 rfl
        have kf1 := hB.free 1
        have k2 := hB.cell 2 rfl
        have kf2 := hB.free 2
        have hX := h1
        obtain ⟨s, b, off, hs, he, hc0, hc1, hsb⟩ := hX.at_ i hi
        subst he
        have hblt : b < w.heap.size := World.block_lt_of_cell? w _ hc0
        have hsbb := Lib.hid hsb
        clear hsb
        have hq1 : (0 : Int) ≤ (i : Int) := by omega
        have hq2 : (i : Int) < (n1 : Int) := by omega
        go_upto_region 7 with (go_at_call 44; refine (hat _).mono ?_; rintro e xa ⟨rfl, hba⟩; have hBa := hB.keep hba; have hCa := hC.keep hba; have k0 := hBa.cell 0 rfl; have k1 := hBa.cell 1 rfl; have k2 := hBa.cell 2 rfl; have z0 := hCa.cell 0 rfl; have z1 := hCa.cell 1 rfl; have z2 := hCa.cell 2 rfl; have zf0 := hCa.free 0; have zf1 := hCa.free 1; have zf2 := hCa.free 2)
        have hbela := b_then hbel hba
        have hWs := hCa.lt
        have hp1 : w.heap.size ≤ w.heap.size + 1 := Nat.le_succ _
        have hp01 : w.heap.size ≠ w.heap.size + 1 := by omega
        have hpb : b ≠ w.heap.size + 1 := by omega
        have hpW : w.heap.size < xa.heap.size := by omega
        have hbW : b < xa.heap.size := by omega
        have hmx := hX.max
        have hsz1 : n1 + 1 ≤ 4398046511104 := by omega
        have hsA : ∀ q, 0 < s.n → s.A.map (·.block) = some q → q < w.heap.size := fun q hn hq => by
          obtain ⟨b1, o1, e1, h1⟩ := hsbb.out.lt hn
          rw [e1] at hq
          have : b1 = q := Option.some.inj hq
          omega
        have hfar : ∀ (C : Option Addr), (∀ q, C.map (·.block) = some q → xa.heap.size ≤ q) → ∀ x ∈ [s], 0 < x.n → ∀ q, C.map (·.block) = some q → x.A.map (·.block) ≠ some q   := fun C hC x hx hn q hq e => by
          obtain rfl : x = s := by simpa using hx
          have := hsA q hn e
          have := hC q hq
          omega
        have hfn : ∀ s ∈ L1, 0 < s.n → ∀ k, (none : Option Addr).map (·.block) = some k → s.A.map (·.block) ≠ some k := fun s hs hn k hk => by simp at hk
        have hfn := Lib.hid hfn
        have hfar := Lib.hid hfar
        clear hsA
        have hXX := Lib.hid hX
        have hs' := Lib.hid hs
        clear hs
        have hq0 := And.intro (rs_start (p1 := w.heap.size + 1) hBa) (And.intro (show xa.drew.cell? ⟨b, off + i * 2, none⟩ = some (.slice s.A s.n s.c) from cell_keep hc0 (b_drew hbela)) (show xa.drew.cell? ⟨b, off + i * 2 + 1, none⟩ = some (.bool s.t) from cell_keep hc1 (b_drew hbela)))
        go_region_held3 (fun V => ((V.cell? ⟨w.heap.size, 0, none⟩ = some (.slice A0 n0 c0) ∧ V.cell? ⟨w.heap.size, 1, none⟩ = some (.slice (some ⟨b, off, none⟩) n1 c1) ∧ V.cell? ⟨w.heap.size, 2, none⟩ = some (.bool d)) ∧ Kept (fun i => i = w.heap.size + 1) xa V) ∧ V.cell? ⟨b, off + i * 2, none⟩ = some (.slice s.A s.n s.c) ∧ V.cell? ⟨b, off + i * 2 + 1, none⟩ = some (.bool s.t)) ((first | exact hq0 | exact rs5_none (by assumption) hg1 | exact rs5_alloc (by assumption) _ | exact rs5_grown (by assumption) hg2 hr2 hpW hbW | exact rs5_below (by assumption) hb3 | exact rs5_store (by assumption) hp01 hpb)) (first
          | (go_at_call 43; refine (with_any A0 n0 c0 (some ⟨b, off, none⟩) n1 c1 d 1 (by omega) A4 (n1 + 1) c4 _).mono ?_; rintro e x5 ⟨rfl, hb3⟩; have hC5 := hC4.keep hb3; have y0 := hC5.cell 0 rfl; have y1 := hC5.cell 1 rfl; have y2 := hC5.cell 2 rfl; have yf0 := hC5.free 0; have yf1 := hC5.free 1; have yf2 := hC5.free 2)
          | (refine step_appendI rfl (.tmp 27) (.tmp 31) 57 91 rfl Tryd.underlying57 Tryd.info91 xa.heap.size none 0 0 [] (some ⟨b, off, none⟩) n1 c1 L1 n1 (Nat.zero_add _).symm rfl rfl (OwnI.nil _ _ _) (hXX.out.keep (rs5_bel (by assumption) hbela hp1)) hfn.out (rs5_size (by assumption)) (Nat.le_trans (Nat.le_of_eq (Nat.zero_add _)) hmx) ?_; intro A3 c3 x3 hown3 hg1 hat3; have hHx := rs5_none (wr := xa) (p0 := w.heap.size) (p1 := w.heap.size + 1) (by assumption) hg1; have hC3 : Blk x3 (w.heap.size + 1) #[.slice none 0 0, .slice none 0 0, .bool false] 60 := (by first | exact hCa.drew.keep (below_of_none hg1) | exact (hCa.drew.alloc _).keep (below_of_none hg1)); have hr2 := fun k (hk : A3.map (·.block) = some k) => (hown3.ge k hk).1)
          | (refine step_appendI rfl (.tmp 32) (.tmp 40) 57 91 rfl Tryd.underlying57 Tryd.info91 xa.heap.size A3 n1 c3 ([] ++ L1) (some ⟨x3.heap.size, 0, none⟩) 1 1 [s] (n1 + 1) rfl rfl rfl (hown3.keep (b_alloc (Below.refl _ _) _)) (Items.one 91 s (hsbb.out.keep (rs5_bel hHx hbela hp1))) (hfar.out _ hr2) (rs5_size (by assumption)) hsz1 ?_; intro A4 c4 x4 hown4 hg2 hat4; have hC4 : Blk x4 (w.heap.size + 1) #[.slice none 0 0, .slice none 0 0, .bool false] 60 := (by first | exact (hC3.alloc _).grown hg2 (fun e => absurd (hr2 _ e) (by omega)) | exact hC3.grown hg2 (fun e => absurd (hr2 _ e) (by omega))))
          | (refine step_appendI rfl (.tmp 32) (.tmp 40) 57 91 rfl Tryd.underlying57 Tryd.info91 xa.heap.size A3 n1 c3 ([] ++ L1) (some ⟨xa.heap.size, 0, none⟩) 1 1 [s] (n1 + 1) rfl rfl rfl hown3 ((Items.one (w := xa.drew) 91 s (hsbb.out.keep (rs5_bel hq0 hbela hp1))).keep (below_of_none hg1)) (hfar.out _ hr2) (rs5_size (by assumption)) hsz1 ?_; intro A4 c4 x4 hown4 hg2 hat4; have hC4 : Blk x4 (w.heap.size + 1) #[.slice none 0 0, .slice none 0 0, .bool false] 60 := (by first | exact (hC3.alloc _).grown hg2 (fun e => absurd (hr2 _ e) (by omega)) | exact hC3.grown hg2 (fun e => absurd (hr2 _ e) (by omega)))))
        all_goals
          have hbz := rs5_bel (by assumption) hbela hp1
          have hI5 := hown4.items.keep hb3
          have hge4 := fun q (hq : A4.map (·.block) = some q) => (hown4.ge q hq).1
          have hIf := hI5.kept (kept3 (p := w.heap.size + 1) (a := .slice A0 n0 c0) (b := .slice A4 (n1 + 1) c4) (c := .bool d)) (fun q hq e => by have := hge4 q hq; omega) (fun s hs hn q hq e => (hI5.ok s hs).apart hC5 (link_no8 _ _ _ _ _ _ _) hn (by rw [hq, e]))
          have hsy : says ([] ++ L1 ++ [s]) = says L1 ++ ((says L1)[i]?).toList := by simp [says, ItemV.say, List.getElem?_map, hs'.out]
          go_wp2_with fail
          exact bodyPost_ret (v := .tuple #[.agg #[.slice A0 n0 c0, .slice A4 (n1 + 1) c4, .bool d], .int .i64 0]) (by simp [results, Tryd.results33, y0, y1, y2, yf0, yf1, yf2, go_sem]) rfl ⟨A0, n0, c0, L0, A4, n1 + 1, c4, _, rfl, h0.keep hbz, hIf, rfl, hsy, hbz⟩
end Go.Proofs.YtbmfcaobhgeogaaDoor
