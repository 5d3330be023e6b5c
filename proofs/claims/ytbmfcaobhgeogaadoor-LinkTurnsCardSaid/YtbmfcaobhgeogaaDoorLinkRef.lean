/-
  The document's with, check and Send, by their contracts.
-/
import Derived.Test.YtbmfcaobhgeogaaDoorLinkGive
namespace Go.Proofs.YtbmfcaobhgeogaaDoor
open Go.RowKit
set_option linter.unusedVariables false
set_option linter.unusedSimpArgs false
set_option maxRecDepth 100000

theorem Tryd.underlyingRI : Tryd.prog.underlying 57 = some (.slice 91) := Tryd.underlying57
theorem Items.kept0 {S : Nat → Prop} {w w1 : World} {A : Option Addr} {n c : Nat} {L : List ItemV} (h : Items w A n c L) (k : Kept S w w1) (hA : 0 < n → ∀ b, A.map (·.block) = some b → ¬ S b) (hx : ∀ s ∈ L, 0 < s.n → ∀ b, s.A.map (·.block) = some b → ¬ S b) : Items w1 A n c L :=
  ⟨h.len, h.cap, h.max, fun s hs => (h.ok s hs).far k (hx s hs), fun j s hj => by
    obtain ⟨b, off, e, h1, h2⟩ := h.cells j s hj
    have hl := (List.getElem?_eq_some_iff.1 hj).1
    rw [h.len] at hl
    have hn : ¬ S b := hA (by omega) b (by rw [e]; rfl)
    exact ⟨b, off, e, k.cell h1 hn, k.cell h2 hn⟩⟩
/-- The document's link and number. -/
def RefP (w : World) (r : Lk × Int) (e : Ending) (w' : World) : Prop := ∃ B0 m0 d0 M0 B1 m1 d1 M1, e = .returned (.tuple #[.agg #[.slice B0 m0 d0, .slice B1 m1 d1, .bool r.1.d], .int .i64 r.2]) ∧ Items w' B0 m0 d0 M0 ∧ Items w' B1 m1 d1 M1 ∧ says M0 = r.1.s0 ∧ says M1 = r.1.s1 ∧ Below w.heap.size w w'

set_option maxHeartbeats 4000000 in
theorem with_any (A0 : Option Addr) (n0 c0 : Nat) (A1 : Option Addr) (n1 c1 : Nat) (d : Bool) (s : Nat) (hs : s < 2) (B : Option Addr) (m e : Nat) (w : World) :
    Calls Tryd.prog 43 #[(.agg #[.slice A0 n0 c0, .slice A1 n1 c1, .bool d]), .int .i64 (s : Int), .slice B m e] w (fun q w' => q = .returned (if s = 0 then .agg #[.slice B m e, .slice A1 n1 c1, .bool d] else .agg #[.slice A0 n0 c0, .slice B m e, .bool d]) ∧ Below w.heap.size w w') := by
  have hbx := Lib.hid (box_two w #[.slice A0 n0 c0, .slice A1 n1 c1, .bool d] #[.slice none 0 0, .slice none 0 0, .bool false] 60 60)
  have hs2 : s = 0 ∨ s = 1 := by omega
  clear hs
  rcases hs2 with rfl | rfl
  · go_enter Tryd.func43, Tryd.ntmps43
    go_upto_region 1 with (fail)
    obtain ⟨hB, hC, hbel⟩ := hbx.out _ rfl
    generalize (w.alloc (Obj.cells #[.slice A0 n0 c0, .slice A1 n1 c1, .bool d] 60)).alloc (Obj.cells #[.slice none 0 0, .slice none 0 0, .bool false] 60) = W at hB hC hbel ⊢
    clear hbx
    have k0 := hB.cell 0 rfl
    have kf0 := hB.free 0
    have k1 := hB.cell 1 rfl
    have kf1 := hB.free 1
    have k2 := hB.cell 2 rfl
    have kf2 := hB.free 2
    go_upto_region 2 with (fail)
    have hB2 := hB.set 0 (.slice B m e)
    have hC2 := hC.far (p := ⟨w.heap.size, 0, none⟩) (by show w.heap.size + 1 ≠ w.heap.size; omega) (.slice B m e)
    have hb2 : Below w.heap.size w (W.setCell ⟨w.heap.size, 0, none⟩ (.slice B m e)) := b_set (p := ⟨w.heap.size, 0, none⟩) hbel (Nat.le_refl _) _
    generalize W.setCell ⟨w.heap.size, 0, none⟩ (.slice B m e) = W2 at hB2 hC2 hb2 ⊢
    clear k0 k1 k2 kf0 kf1 kf2
    have k0 := hB2.cell 0 rfl
    have kf0 := hB2.free 0
    have k1 := hB2.cell 1 rfl
    have kf1 := hB2.free 1
    have k2 := hB2.cell 2 rfl
    have kf2 := hB2.free 2
    have z0 := hC2.cell 0 rfl
    have zf0 := hC2.free 0
    have z1 := hC2.cell 1 rfl
    have zf1 := hC2.free 1
    have z2 := hC2.cell 2 rfl
    have zf2 := hC2.free 2
    go_wp2_with fail
    exact bodyPost_ret (v := .agg #[.slice B m e, .slice A1 n1 c1, .bool d]) (by simp [results, Tryd.results43, z0, z1, z2, zf0, zf1, zf2, go_sem]) rfl ⟨rfl, below3 hb2 (Nat.le_succ _)⟩
  · go_enter Tryd.func43, Tryd.ntmps43
    go_upto_region 1 with (fail)
    obtain ⟨hB, hC, hbel⟩ := hbx.out _ rfl
    generalize (w.alloc (Obj.cells #[.slice A0 n0 c0, .slice A1 n1 c1, .bool d] 60)).alloc (Obj.cells #[.slice none 0 0, .slice none 0 0, .bool false] 60) = W at hB hC hbel ⊢
    clear hbx
    have k0 := hB.cell 0 rfl
    have kf0 := hB.free 0
    have k1 := hB.cell 1 rfl
    have kf1 := hB.free 1
    have k2 := hB.cell 2 rfl
    have kf2 := hB.free 2
    go_upto_region 2 with (fail)
    have hB2 := hB.set 1 (.slice B m e)
    have hC2 := hC.far (p := ⟨w.heap.size, 1, none⟩) (by show w.heap.size + 1 ≠ w.heap.size; omega) (.slice B m e)
    have hb2 : Below w.heap.size w (W.setCell ⟨w.heap.size, 1, none⟩ (.slice B m e)) := b_set (p := ⟨w.heap.size, 1, none⟩) hbel (Nat.le_refl _) _
    generalize W.setCell ⟨w.heap.size, 1, none⟩ (.slice B m e) = W2 at hB2 hC2 hb2 ⊢
    clear k0 k1 k2 kf0 kf1 kf2
    have k0 := hB2.cell 0 rfl
    have kf0 := hB2.free 0
    have k1 := hB2.cell 1 rfl
    have kf1 := hB2.free 1
    have k2 := hB2.cell 2 rfl
    have kf2 := hB2.free 2
    have z0 := hC2.cell 0 rfl
    have zf0 := hC2.free 0
    have z1 := hC2.cell 1 rfl
    have zf1 := hC2.free 1
    have z2 := hC2.cell 2 rfl
    have zf2 := hC2.free 2
    go_wp2_with fail
    exact bodyPost_ret (v := .agg #[.slice A0 n0 c0, .slice B m e, .bool d]) (by simp [results, Tryd.results43, z0, z1, z2, zf0, zf1, zf2, go_sem]) rfl ⟨rfl, below3 hb2 (Nat.le_succ _)⟩

set_option maxHeartbeats 4000000 in
theorem check_any (A0 : Option Addr) (n0 c0 : Nat) (A1 : Option Addr) (n1 c1 : Nat) (k : Lk) (side at_ : Int) (w : World) (h0 : k.s0.length = n0) (h1 : k.s1.length = n1) :
    Calls Tryd.prog 44 #[.agg #[.slice A0 n0 c0, .slice A1 n1 c1, .bool k.d], .int .i64 side, .int .i64 at_] w (fun e w' => e = .returned (.int .i64 (atE k side at_)) ∧ Below w.heap.size w w') := by
  by_cases hs : side ≠ 0 ∧ side ≠ 1
  · rw [show atE k side at_ = 1 by rw [atE, if_pos hs]]
    have hs2 : side < 0 ∨ (¬ side < 0 ∧ 1 < side) := by omega
    clear hs
    rcases hs2 with hs | ⟨hs, hs'⟩
    all_goals
      go_enter Tryd.func44, Tryd.ntmps44
      go_wp2
      go_ret
      exact ⟨rfl, b_alloc (Below.refl _ _) _⟩
  · have hs' : side = 0 ∨ side = 1 := by omega
    have q : ∀ b : Prop, atE k side at_ = if at_ < 0 ∨ ((if side = 0 then k.s0 else k.s1).length : Int) ≤ at_ then 8 else 0 := fun _ => by rw [atE, if_neg hs]
    by_cases ha : at_ < 0
    · rw [q True, if_pos (.inl ha)]
      rcases hs' with rfl | rfl
      all_goals
        clear q hs
        go_enter Tryd.func44, Tryd.ntmps44
        go_wp2
        go_ret
        exact ⟨rfl, b_alloc (Below.refl _ _) _⟩
    · rcases hs' with rfl | rfl
      · rw [if_pos rfl, h0] at q
        by_cases hl : (n0 : Int) ≤ at_
        · rw [q True, if_pos (.inr hl)]
          clear q hs
          go_enter Tryd.func44, Tryd.ntmps44
          go_wp2
          go_ret
          exact ⟨rfl, b_alloc (Below.refl _ _) _⟩
        · rw [q True, if_neg (by omega)]
          clear q hs
          go_enter Tryd.func44, Tryd.ntmps44
          go_wp2
          go_ret
          exact ⟨rfl, b_alloc (Below.refl _ _) _⟩
      · have q : ∀ b : Prop, atE k 1 at_ = if at_ < 0 ∨ (k.s1.length : Int) ≤ at_ then 8 else 0 := fun b => q b
        rw [h1] at q
        by_cases hl : (n1 : Int) ≤ at_
        · rw [q True, if_pos (.inr hl)]
          clear q hs
          go_enter Tryd.func44, Tryd.ntmps44
          go_wp2
          go_ret
          exact ⟨rfl, b_alloc (Below.refl _ _) _⟩
        · rw [q True, if_neg (by omega)]
          clear q hs
          go_enter Tryd.func44, Tryd.ntmps44
          go_wp2
          go_ret
          exact ⟨rfl, b_alloc (Below.refl _ _) _⟩


theorem rs_below {wr V V' : World} {p0 p1 : Nat} {v0 v1 v2 : Value} (h : (V.cell? ⟨p0, 0, none⟩ = some v0 ∧ V.cell? ⟨p0, 1, none⟩ = some v1 ∧ V.cell? ⟨p0, 2, none⟩ = some v2) ∧ Kept (fun i => i = p1) wr V) (hb : Below V.heap.size V V') : (V'.cell? ⟨p0, 0, none⟩ = some v0 ∧ V'.cell? ⟨p0, 1, none⟩ = some v1 ∧ V'.cell? ⟨p0, 2, none⟩ = some v2) ∧ Kept (fun i => i = p1) wr V' := ⟨⟨cell_keep h.1.1 hb, cell_keep h.1.2.1 hb, cell_keep h.1.2.2 hb⟩, h.2.below_ hb⟩
theorem rs_alloc {wr V : World} {p0 p1 : Nat} {v0 v1 v2 : Value} (h : (V.cell? ⟨p0, 0, none⟩ = some v0 ∧ V.cell? ⟨p0, 1, none⟩ = some v1 ∧ V.cell? ⟨p0, 2, none⟩ = some v2) ∧ Kept (fun i => i = p1) wr V) (o : Obj) : ((V.alloc o).cell? ⟨p0, 0, none⟩ = some v0 ∧ (V.alloc o).cell? ⟨p0, 1, none⟩ = some v1 ∧ (V.alloc o).cell? ⟨p0, 2, none⟩ = some v2) ∧ Kept (fun i => i = p1) wr (V.alloc o) := rs_below h (b_alloc (Below.refl _ _) o)
theorem rs_none {wr V V' : World} {p0 p1 : Nat} {v0 v1 v2 : Value} (h : (V.cell? ⟨p0, 0, none⟩ = some v0 ∧ V.cell? ⟨p0, 1, none⟩ = some v1 ∧ V.cell? ⟨p0, 2, none⟩ = some v2) ∧ Kept (fun i => i = p1) wr V) (hg : V.grownBy V' none) : (V'.cell? ⟨p0, 0, none⟩ = some v0 ∧ V'.cell? ⟨p0, 1, none⟩ = some v1 ∧ V'.cell? ⟨p0, 2, none⟩ = some v2) ∧ Kept (fun i => i = p1) wr V' := rs_below h (below_of_none hg)
theorem rs_grown {wr V V' : World} {p0 p1 : Nat} {v0 v1 v2 : Value} {row : Option Nat} (h : (V.cell? ⟨p0, 0, none⟩ = some v0 ∧ V.cell? ⟨p0, 1, none⟩ = some v1 ∧ V.cell? ⟨p0, 2, none⟩ = some v2) ∧ Kept (fun i => i = p1) wr V) (hg : V.grownBy V' row) (hr : ∀ k, row = some k → wr.heap.size ≤ k) (hp : p0 < wr.heap.size) : (V'.cell? ⟨p0, 0, none⟩ = some v0 ∧ V'.cell? ⟨p0, 1, none⟩ = some v1 ∧ V'.cell? ⟨p0, 2, none⟩ = some v2) ∧ Kept (fun i => i = p1) wr V' := by
  have hne : some p0 ≠ row := fun e => absurd (hr p0 e.symm) (by omega)
  exact ⟨⟨hg.cell h.1.1 hne, hg.cell h.1.2.1 hne, hg.cell h.1.2.2 hne⟩, h.2.grown_ hg (fun k hk e => absurd (hr k e) (by omega))⟩
theorem rs_store {wr V : World} {p0 p1 : Nat} {v0 v1 v2 a b c : Value} (h : (V.cell? ⟨p0, 0, none⟩ = some v0 ∧ V.cell? ⟨p0, 1, none⟩ = some v1 ∧ V.cell? ⟨p0, 2, none⟩ = some v2) ∧ Kept (fun i => i = p1) wr V) (hne : p0 ≠ p1) : ((((V.setCell ⟨p1, 0, none⟩ a).setCell ⟨p1, 1, none⟩ b).setCell ⟨p1, 2, none⟩ c).cell? ⟨p0, 0, none⟩ = some v0 ∧ (((V.setCell ⟨p1, 0, none⟩ a).setCell ⟨p1, 1, none⟩ b).setCell ⟨p1, 2, none⟩ c).cell? ⟨p0, 1, none⟩ = some v1 ∧ (((V.setCell ⟨p1, 0, none⟩ a).setCell ⟨p1, 1, none⟩ b).setCell ⟨p1, 2, none⟩ c).cell? ⟨p0, 2, none⟩ = some v2) ∧ Kept (fun i => i = p1) wr (((V.setCell ⟨p1, 0, none⟩ a).setCell ⟨p1, 1, none⟩ b).setCell ⟨p1, 2, none⟩ c) :=
  ⟨⟨kept3.cell h.1.1 hne, kept3.cell h.1.2.1 hne, kept3.cell h.1.2.2 hne⟩, h.2.trans kept3⟩
theorem rs_bel {w wr V : World} {p0 p1 : Nat} {v0 v1 v2 : Value} (h : (V.cell? ⟨p0, 0, none⟩ = some v0 ∧ V.cell? ⟨p0, 1, none⟩ = some v1 ∧ V.cell? ⟨p0, 2, none⟩ = some v2) ∧ Kept (fun i => i = p1) wr V) (hb : Below w.heap.size w wr) (hp : w.heap.size ≤ p1) : Below w.heap.size w V := b_kept hb h.2 (fun i hi e => by omega)
theorem rs_size {wr V : World} {p0 p1 : Nat} {v0 v1 v2 : Value} (h : (V.cell? ⟨p0, 0, none⟩ = some v0 ∧ V.cell? ⟨p0, 1, none⟩ = some v1 ∧ V.cell? ⟨p0, 2, none⟩ = some v2) ∧ Kept (fun i => i = p1) wr V) : wr.heap.size ≤ V.heap.size := h.2.size
/-- Two variables, and what is read and built between them. -/
theorem rs_start {wr : World} {p0 p1 : Nat} {v0 v1 v2 : Value} {t : TypeId} (hB : Blk wr p0 #[v0, v1, v2] t) : (wr.drew.cell? ⟨p0, 0, none⟩ = some v0 ∧ wr.drew.cell? ⟨p0, 1, none⟩ = some v1 ∧ wr.drew.cell? ⟨p0, 2, none⟩ = some v2) ∧ Kept (fun i => i = p1) wr wr.drew := ⟨⟨(hB.cell 0 rfl), (hB.cell 1 rfl), (hB.cell 2 rfl)⟩, (Kept.refl _ _).drew⟩

set_option maxHeartbeats 8000000 in
theorem rSend_any (A0 : Option Addr) (n0 c0 : Nat) (L0 : List ItemV) (A1 : Option Addr) (n1 c1 : Nat) (L1 : List ItemV) (d : Bool) (k : Lk) (hk : k = ⟨says L0, says L1, d⟩) (side : Int) (A : Option Addr) (n c : Nat) (b : List Nat) (w : World) (h0 : Items w A0 n0 c0 L0) (h1 : Items w A1 n1 c1 L1) (hb : Bs w A n c b) :
    Calls Tryd.prog 27 #[(.agg #[.slice A0 n0 c0, .slice A1 n1 c1, .bool d]), .int .i64 side, .slice A n c] w (RefP w (sendR k side b)) := by
  have hl0 : k.s0.length = n0 := by rw [hk]; exact (says_len L0).trans h0.len
  have hl1 : k.s1.length = n1 := by rw [hk]; exact (says_len L1).trans h1.len
  have hkd : k.d = d := by rw [hk]
  have hlb := hb.len
  have hm := hb.max
  by_cases hs : side ≠ 0 ∧ side ≠ 1
  · rw [show sendR k side b = (Lk.zero, 1) by rw [sendR, if_pos hs]]
    have hs2 : side < 0 ∨ (¬ side < 0 ∧ 1 < side) := by omega
    clear hs hl0 hl1 hkd hlb hm
    rcases hs2 with hs | ⟨hs, hs'⟩
    · skip
      have hbx := Lib.hid (box_two w #[.slice A0 n0 c0, .slice A1 n1 c1, .bool d] #[.slice none 0 0, .slice none 0 0, .bool false] 60 60)
      go_enter Tryd.func27, Tryd.ntmps27
      go_upto_region 1 with (fail)
      obtain ⟨hB, hC, hbel⟩ := hbx.out _ rfl
      generalize (w.alloc (Obj.cells #[.slice A0 n0 c0, .slice A1 n1 c1, .bool d] 60)).alloc (Obj.cells #[.slice none 0 0, .slice none 0 0, .bool false] 60) = W at hB hC hbel ⊢
      clear hbx
      have k0 := hB.cell 0 rfl
      have kf0 := hB.free 0
      have k1 := hB.cell 1 rfl
      have kf1 := hB.free 1
      have k2 := hB.cell 2 rfl
      have kf2 := hB.free 2
      have z0 := hC.cell 0 rfl
      have zf0 := hC.free 0
      have z1 := hC.cell 1 rfl
      have zf1 := hC.free 1
      have z2 := hC.cell 2 rfl
      have zf2 := hC.free 2
      go_wp2_with fail
      exact bodyPost_ret (v := .tuple #[.agg #[.slice none 0 0, .slice none 0 0, .bool false], .int .i64 1]) (by simp [results, Tryd.results27, z0, z1, z2, zf0, zf1, zf2, go_sem]) rfl ⟨none, 0, 0, [], none, 0, 0, [], rfl, Items.nil _, Items.nil _, rfl, rfl, below3 hbel (Nat.le_succ _)⟩
    · skip
      have hbx := Lib.hid (box_two w #[.slice A0 n0 c0, .slice A1 n1 c1, .bool d] #[.slice none 0 0, .slice none 0 0, .bool false] 60 60)
      go_enter Tryd.func27, Tryd.ntmps27
      go_upto_region 1 with (fail)
      obtain ⟨hB, hC, hbel⟩ := hbx.out _ rfl
      generalize (w.alloc (Obj.cells #[.slice A0 n0 c0, .slice A1 n1 c1, .bool d] 60)).alloc (Obj.cells #[.slice none 0 0, .slice none 0 0, .bool false] 60) = W at hB hC hbel ⊢
      clear hbx
      have k0 := hB.cell 0 rfl
      have kf0 := hB.free 0
      have k1 := hB.cell 1 rfl
      have kf1 := hB.free 1
      have k2 := hB.cell 2 rfl
      have kf2 := hB.free 2
      have z0 := hC.cell 0 rfl
      have zf0 := hC.free 0
      have z1 := hC.cell 1 rfl
      have zf1 := hC.free 1
      have z2 := hC.cell 2 rfl
      have zf2 := hC.free 2
      go_wp2_with fail
      exact bodyPost_ret (v := .tuple #[.agg #[.slice none 0 0, .slice none 0 0, .bool false], .int .i64 1]) (by simp [results, Tryd.results27, z0, z1, z2, zf0, zf1, zf2, go_sem]) rfl ⟨none, 0, 0, [], none, 0, 0, [], rfl, Items.nil _, Items.nil _, rfl, rfl, below3 hbel (Nat.le_succ _)⟩
  · have hs' : side = 0 ∨ side = 1 := by omega
    by_cases hlen : 1048576 < n
    · rw [show sendR k side b = (Lk.zero, 2) by rw [sendR, if_neg hs, if_pos (by omega)]]
      have hlen' : (1048576 : Int) < (n : Int) := by omega
      clear hs hl0 hl1 hkd hlb hm
      rcases hs' with rfl | rfl
      · skip
        have hbx := Lib.hid (box_two w #[.slice A0 n0 c0, .slice A1 n1 c1, .bool d] #[.slice none 0 0, .slice none 0 0, .bool false] 60 60)
        go_enter Tryd.func27, Tryd.ntmps27
        go_upto_region 1 with (fail)
        obtain ⟨hB, hC, hbel⟩ := hbx.out _ rfl
        generalize (w.alloc (Obj.cells #[.slice A0 n0 c0, .slice A1 n1 c1, .bool d] 60)).alloc (Obj.cells #[.slice none 0 0, .slice none 0 0, .bool false] 60) = W at hB hC hbel ⊢
        clear hbx
        have k0 := hB.cell 0 rfl
        have kf0 := hB.free 0
        have k1 := hB.cell 1 rfl
        have kf1 := hB.free 1
        have k2 := hB.cell 2 rfl
        have kf2 := hB.free 2
        have z0 := hC.cell 0 rfl
        have zf0 := hC.free 0
        have z1 := hC.cell 1 rfl
        have zf1 := hC.free 1
        have z2 := hC.cell 2 rfl
        have zf2 := hC.free 2
        go_wp2_with fail
        exact bodyPost_ret (v := .tuple #[.agg #[.slice none 0 0, .slice none 0 0, .bool false], .int .i64 2]) (by simp [results, Tryd.results27, z0, z1, z2, zf0, zf1, zf2, go_sem]) rfl ⟨none, 0, 0, [], none, 0, 0, [], rfl, Items.nil _, Items.nil _, rfl, rfl, below3 hbel (Nat.le_succ _)⟩
      · skip
        have hbx := Lib.hid (box_two w #[.slice A0 n0 c0, .slice A1 n1 c1, .bool d] #[.slice none 0 0, .slice none 0 0, .bool false] 60 60)
        go_enter Tryd.func27, Tryd.ntmps27
        go_upto_region 1 with (fail)
        obtain ⟨hB, hC, hbel⟩ := hbx.out _ rfl
        generalize (w.alloc (Obj.cells #[.slice A0 n0 c0, .slice A1 n1 c1, .bool d] 60)).alloc (Obj.cells #[.slice none 0 0, .slice none 0 0, .bool false] 60) = W at hB hC hbel ⊢
        clear hbx
        have k0 := hB.cell 0 rfl
        have kf0 := hB.free 0
        have k1 := hB.cell 1 rfl
        have kf1 := hB.free 1
        have k2 := hB.cell 2 rfl
        have kf2 := hB.free 2
        have z0 := hC.cell 0 rfl
        have zf0 := hC.free 0
        have z1 := hC.cell 1 rfl
        have zf1 := hC.free 1
        have z2 := hC.cell 2 rfl
        have zf2 := hC.free 2
        go_wp2_with fail
        exact bodyPost_ret (v := .tuple #[.agg #[.slice none 0 0, .slice none 0 0, .bool false], .int .i64 2]) (by simp [results, Tryd.results27, z0, z1, z2, zf0, zf1, zf2, go_sem]) rfl ⟨none, 0, 0, [], none, 0, 0, [], rfl, Items.nil _, Items.nil _, rfl, rfl, below3 hbel (Nat.le_succ _)⟩
    · have hlen' : ¬ (1048576 : Int) < (n : Int) := by omega
      cases d with
      | true =>
        rw [show sendR k side b = (k, 0) by rw [sendR, if_neg hs, if_neg (by omega), if_pos hkd]]
        subst hk
        clear hs hl0 hl1 hkd hlb hm
        rcases hs' with rfl | rfl
        · skip
          have hbx := Lib.hid (box_two w #[.slice A0 n0 c0, .slice A1 n1 c1, .bool true] #[.slice none 0 0, .slice none 0 0, .bool false] 60 60)
          go_enter Tryd.func27, Tryd.ntmps27
          go_upto_region 1 with (fail)
          obtain ⟨hB, hC, hbel⟩ := hbx.out _ rfl
          generalize (w.alloc (Obj.cells #[.slice A0 n0 c0, .slice A1 n1 c1, .bool true] 60)).alloc (Obj.cells #[.slice none 0 0, .slice none 0 0, .bool false] 60) = W at hB hC hbel ⊢
          clear hbx
          have k0 := hB.cell 0 rfl
          have kf0 := hB.free 0
          have k1 := hB.cell 1 rfl
          have kf1 := hB.free 1
          have k2 := hB.cell 2 rfl
          have kf2 := hB.free 2
          have z0 := hC.cell 0 rfl
          have zf0 := hC.free 0
          have z1 := hC.cell 1 rfl
          have zf1 := hC.free 1
          have z2 := hC.cell 2 rfl
          have zf2 := hC.free 2
          go_wp2_with fail
          have hbz := below3 (p := w.heap.size + 1) (a := .slice A0 n0 c0) (b := .slice A1 n1 c1) (c := .bool true) hbel (Nat.le_succ _)
          exact bodyPost_ret (v := .tuple #[.agg #[.slice A0 n0 c0, .slice A1 n1 c1, .bool true], .int .i64 0]) (by simp [results, Tryd.results27, z0, z1, z2, zf0, zf1, zf2, go_sem]) rfl ⟨A0, n0, c0, L0, A1, n1, c1, L1, rfl, h0.keep hbz, h1.keep hbz, rfl, rfl, hbz⟩
        · skip
          have hbx := Lib.hid (box_two w #[.slice A0 n0 c0, .slice A1 n1 c1, .bool true] #[.slice none 0 0, .slice none 0 0, .bool false] 60 60)
          go_enter Tryd.func27, Tryd.ntmps27
          go_upto_region 1 with (fail)
          obtain ⟨hB, hC, hbel⟩ := hbx.out _ rfl
          generalize (w.alloc (Obj.cells #[.slice A0 n0 c0, .slice A1 n1 c1, .bool true] 60)).alloc (Obj.cells #[.slice none 0 0, .slice none 0 0, .bool false] 60) = W at hB hC hbel ⊢
          clear hbx
          have k0 := hB.cell 0 rfl
          have kf0 := hB.free 0
          have k1 := hB.cell 1 rfl
          have kf1 := hB.free 1
          have k2 := hB.cell 2 rfl
          have kf2 := hB.free 2
          have z0 := hC.cell 0 rfl
          have zf0 := hC.free 0
          have z1 := hC.cell 1 rfl
          have zf1 := hC.free 1
          have z2 := hC.cell 2 rfl
          have zf2 := hC.free 2
          go_wp2_with fail
          have hbz := below3 (p := w.heap.size + 1) (a := .slice A0 n0 c0) (b := .slice A1 n1 c1) (c := .bool true) hbel (Nat.le_succ _)
          exact bodyPost_ret (v := .tuple #[.agg #[.slice A0 n0 c0, .slice A1 n1 c1, .bool true], .int .i64 0]) (by simp [results, Tryd.results27, z0, z1, z2, zf0, zf1, zf2, go_sem]) rfl ⟨A0, n0, c0, L0, A1, n1, c1, L1, rfl, h0.keep hbz, h1.keep hbz, rfl, rfl, hbz⟩
      | false =>
        rcases hs' with rfl | rfl
        · by_cases hf : 256 ≤ n0
          · rw [show sendR k 0 b = (Lk.zero, 10) by rw [sendR, if_neg hs, if_neg (by omega), if_neg (by simp [hkd]), if_pos rfl, if_pos (by omega)]]
            have hf' : (255 : Int) < (n0 : Int) := by omega
            clear hs hl0 hl1 hkd hlb hm
            have hbx := Lib.hid (box_two w #[.slice A0 n0 c0, .slice A1 n1 c1, .bool false] #[.slice none 0 0, .slice none 0 0, .bool false] 60 60)
            go_enter Tryd.func27, Tryd.ntmps27
            go_upto_region 1 with (fail)
            obtain ⟨hB, hC, hbel⟩ := hbx.out _ rfl
            generalize (w.alloc (Obj.cells #[.slice A0 n0 c0, .slice A1 n1 c1, .bool false] 60)).alloc (Obj.cells #[.slice none 0 0, .slice none 0 0, .bool false] 60) = W at hB hC hbel ⊢
            clear hbx
            have k0 := hB.cell 0 rfl
            have kf0 := hB.free 0
            have k1 := hB.cell 1 rfl
            have kf1 := hB.free 1
            have k2 := hB.cell 2 rfl
            have kf2 := hB.free 2
            have z0 := hC.cell 0 rfl
            have zf0 := hC.free 0
            have z1 := hC.cell 1 rfl
            have zf1 := hC.free 1
            have z2 := hC.cell 2 rfl
            have zf2 := hC.free 2
            go_wp2_with fail
            exact bodyPost_ret (v := .tuple #[.agg #[.slice none 0 0, .slice none 0 0, .bool false], .int .i64 10]) (by simp [results, Tryd.results27, z0, z1, z2, zf0, zf1, zf2, go_sem]) rfl ⟨none, 0, 0, [], none, 0, 0, [], rfl, Items.nil _, Items.nil _, rfl, rfl, below3 hbel (Nat.le_succ _)⟩
          · rw [show sendR k 0 b = (⟨k.s0 ++ [(b, false)], k.s1, k.d⟩, 0) by rw [sendR, if_neg hs, if_neg (by omega), if_neg (by simp [hkd]), if_pos rfl, if_neg (by omega), if_pos rfl]]
            have hf' : ¬ (255 : Int) < (n0 : Int) := by omega
            subst hk
            clear hs hl0 hl1 hkd hlb hm
            have hbx := Lib.hid (box_two w #[.slice A0 n0 c0, .slice A1 n1 c1, .bool false] #[.slice none 0 0, .slice none 0 0, .bool false] 60 60)
            go_enter Tryd.func27, Tryd.ntmps27
            go_upto_region 1 with (fail)
            obtain ⟨hB, hC, hbel⟩ := hbx.out _ rfl
            generalize (w.alloc (Obj.cells #[.slice A0 n0 c0, .slice A1 n1 c1, .bool false] 60)).alloc (Obj.cells #[.slice none 0 0, .slice none 0 0, .bool false] 60) = W at hB hC hbel ⊢
            clear hbx
            have k0 := hB.cell 0 rfl
            have kf0 := hB.free 0
            have k1 := hB.cell 1 rfl
            have kf1 := hB.free 1
            have k2 := hB.cell 2 rfl
            have kf2 := hB.free 2
            have z0 := hC.cell 0 rfl
            have zf0 := hC.free 0
            have z1 := hC.cell 1 rfl
            have zf1 := hC.free 1
            have z2 := hC.cell 2 rfl
            have zf2 := hC.free 2
            have hWs := hC.lt
            have hq0 := rs_start (p1 := w.heap.size + 1) hB
            have hX := h0
            have hsA : ∀ q, 0 < n → A.map (·.block) = some q → q < w.heap.size := fun q hn hq => by
              obtain ⟨b1, o1, e1, h1⟩ := hb.lt hn
              rw [e1] at hq
              have : b1 = q := Option.some.inj hq
              omega
            have hsz1 : n0 + 1 ≤ 4398046511104 := by omega
            have hfar : ∀ {C : Option Addr}, (∀ q, C.map (·.block) = some q → W.heap.size ≤ q) → ∀ x ∈ [(⟨A, n, c, b, false⟩ : ItemV)], 0 < x.n → ∀ q, C.map (·.block) = some q → x.A.map (·.block) ≠ some q := fun {C} hC x hx hn q hq e => by
              obtain rfl : x = ⟨A, n, c, b, false⟩ := by simpa using hx
              have := hsA q hn e
              have := hC q hq
              omega
            have hp1 : w.heap.size ≤ w.heap.size + 1 := Nat.le_succ _
            have hp01 : w.heap.size ≠ w.heap.size + 1 := by omega
            have hpW : w.heap.size < W.heap.size := by omega
            have hmx := hX.max
            have hfn : ∀ s ∈ L0, 0 < s.n → ∀ k, (none : Option Addr).map (·.block) = some k → s.A.map (·.block) ≠ some k := fun s hs hn k hk => by simp at hk
            go_upto_region 10 with (fail)
            go_region_held3 (fun V => (V.cell? ⟨w.heap.size, 0, none⟩ = some (.slice A0 n0 c0) ∧ V.cell? ⟨w.heap.size, 1, none⟩ = some (.slice A1 n1 c1) ∧ V.cell? ⟨w.heap.size, 2, none⟩ = some (.bool false)) ∧ Kept (fun i => i = w.heap.size + 1) W V) ((first | exact hq0 | exact rs_none (by assumption) hg1 | exact rs_alloc (by assumption) _ | exact rs_grown (by assumption) hg2 hr2 hpW | exact rs_below (by assumption) hb3 | exact rs_store (by assumption) hp01)) (first
              | (refine step_appendI rfl _ _ 57 91 rfl Tryd.underlying57 Tryd.info91 W.heap.size none 0 0 [] A0 n0 c0 L0 n0 (Nat.zero_add _).symm rfl rfl (OwnI.nil _ _ _) (hX.keep (rs_bel (by assumption) hbel hp1)) hfn (rs_size (by assumption)) (Nat.le_trans (Nat.le_of_eq (Nat.zero_add _)) hmx) ?_; intro A3 c3 x3 hown3 hg1 hat3; have hHx := rs_none (wr := W) (p0 := w.heap.size) (p1 := w.heap.size + 1) (by assumption) hg1; have hC3 : Blk x3 (w.heap.size + 1) #[.slice none 0 0, .slice none 0 0, .bool false] 60 := (by first | exact hC.drew.keep (below_of_none hg1) | exact (hC.drew.alloc _).keep (below_of_none hg1)); have hr2 := fun k (hk : A3.map (·.block) = some k) => (hown3.ge k hk).1)
              | (refine step_appendI rfl _ _ 57 91 rfl Tryd.underlying57 Tryd.info91 W.heap.size A3 n0 c3 ([] ++ L0) (some ⟨x3.heap.size, 0, none⟩) 1 1 [⟨A, n, c, b, false⟩] (n0 + 1) rfl rfl rfl (hown3.keep (b_alloc (Below.refl _ _) _)) (Items.one 91 ⟨A, n, c, b, false⟩ (hb.keep (rs_bel hHx hbel hp1))) (hfar hr2) (rs_size (by assumption)) hsz1 ?_; intro A4 c4 x4 hown4 hg2 hat4; have hC4 : Blk x4 (w.heap.size + 1) #[.slice none 0 0, .slice none 0 0, .bool false] 60 := (by first | exact (hC3.alloc _).grown hg2 (fun e => absurd (hr2 _ e) (by omega)) | exact hC3.grown hg2 (fun e => absurd (hr2 _ e) (by omega))))
              | (refine step_appendI rfl _ _ 57 91 rfl Tryd.underlying57 Tryd.info91 W.heap.size A3 n0 c3 ([] ++ L0) (some ⟨W.heap.size, 0, none⟩) 1 1 [⟨A, n, c, b, false⟩] (n0 + 1) rfl rfl rfl hown3 ((Items.one (w := W.drew) 91 ⟨A, n, c, b, false⟩ (hb.keep (rs_bel hq0 hbel hp1))).keep (below_of_none hg1)) (hfar hr2) (rs_size (by assumption)) hsz1 ?_; intro A4 c4 x4 hown4 hg2 hat4; have hC4 : Blk x4 (w.heap.size + 1) #[.slice none 0 0, .slice none 0 0, .bool false] 60 := (by first | exact (hC3.alloc _).grown hg2 (fun e => absurd (hr2 _ e) (by omega)) | exact hC3.grown hg2 (fun e => absurd (hr2 _ e) (by omega))))
              | (go_at_call 43; refine (with_any A0 n0 c0 A1 n1 c1 false 0 (by omega) A4 (n0 + 1) c4 _).mono ?_; rintro e x5 ⟨rfl, hb3⟩; have hC5 := hC4.keep hb3; have y0 := hC5.cell 0 rfl; have y1 := hC5.cell 1 rfl; have y2 := hC5.cell 2 rfl; have yf0 := hC5.free 0; have yf1 := hC5.free 1; have yf2 := hC5.free 2))
            all_goals
              have hbz := rs_bel (by assumption) hbel hp1
              have hI5 := hown4.items.keep hb3
              have hge4 := fun q (hq : A4.map (·.block) = some q) => (hown4.ge q hq).1
              have hIf := hI5.kept (kept3 (p := w.heap.size + 1) (a := .slice A4 (n0 + 1) c4) (b := .slice A1 n1 c1) (c := .bool false)) (fun q hq e => by have := hge4 q hq; omega) (fun s hs hn q hq e => (hI5.ok s hs).apart hC5 (link_no8 _ _ _ _ _ _ _) hn (by rw [hq, e]))
              have hsy : says ([] ++ L0 ++ [⟨A, n, c, b, false⟩]) = says L0 ++ [(b, false)] := by simp [says, ItemV.say]
              go_wp2_with fail
              exact bodyPost_ret (v := .tuple #[.agg #[.slice A4 (n0 + 1) c4, .slice A1 n1 c1, .bool false], .int .i64 0]) (by simp [results, Tryd.results27, y0, y1, y2, yf0, yf1, yf2, go_sem]) rfl ⟨A4, n0 + 1, c4, _, A1, n1, c1, L1, rfl, hIf, h1.keep hbz, hsy, rfl, hbz⟩
        · by_cases hf : 256 ≤ n1
          · rw [show sendR k 1 b = (Lk.zero, 10) by rw [sendR, if_neg hs, if_neg (by omega), if_neg (by simp [hkd])]; simp only [if_neg (show ¬ (1 : Int) = 0 by omega)]; rw [if_pos (by omega)]]
            have hf' : (255 : Int) < (n1 : Int) := by omega
            clear hs hl0 hl1 hkd hlb hm
            have hbx := Lib.hid (box_two w #[.slice A0 n0 c0, .slice A1 n1 c1, .bool false] #[.slice none 0 0, .slice none 0 0, .bool false] 60 60)
            go_enter Tryd.func27, Tryd.ntmps27
            go_upto_region 1 with (fail)
            obtain ⟨hB, hC, hbel⟩ := hbx.out _ rfl
            generalize (w.alloc (Obj.cells #[.slice A0 n0 c0, .slice A1 n1 c1, .bool false] 60)).alloc (Obj.cells #[.slice none 0 0, .slice none 0 0, .bool false] 60) = W at hB hC hbel ⊢
            clear hbx
            have k0 := hB.cell 0 rfl
            have kf0 := hB.free 0
            have k1 := hB.cell 1 rfl
            have kf1 := hB.free 1
            have k2 := hB.cell 2 rfl
            have kf2 := hB.free 2
            have z0 := hC.cell 0 rfl
            have zf0 := hC.free 0
            have z1 := hC.cell 1 rfl
            have zf1 := hC.free 1
            have z2 := hC.cell 2 rfl
            have zf2 := hC.free 2
            go_wp2_with fail
            exact bodyPost_ret (v := .tuple #[.agg #[.slice none 0 0, .slice none 0 0, .bool false], .int .i64 10]) (by simp [results, Tryd.results27, z0, z1, z2, zf0, zf1, zf2, go_sem]) rfl ⟨none, 0, 0, [], none, 0, 0, [], rfl, Items.nil _, Items.nil _, rfl, rfl, below3 hbel (Nat.le_succ _)⟩
          · rw [show sendR k 1 b = (⟨k.s0, k.s1 ++ [(b, false)], k.d⟩, 0) by rw [sendR, if_neg hs, if_neg (by omega), if_neg (by simp [hkd])]; simp only [if_neg (show ¬ (1 : Int) = 0 by omega)]; rw [if_neg (by omega)]]
            have hf' : ¬ (255 : Int) < (n1 : Int) := by omega
            subst hk
            clear hs hl0 hl1 hkd hlb hm
            have hbx := Lib.hid (box_two w #[.slice A0 n0 c0, .slice A1 n1 c1, .bool false] #[.slice none 0 0, .slice none 0 0, .bool false] 60 60)
            go_enter Tryd.func27, Tryd.ntmps27
            go_upto_region 1 with (fail)
            obtain ⟨hB, hC, hbel⟩ := hbx.out _ rfl
            generalize (w.alloc (Obj.cells #[.slice A0 n0 c0, .slice A1 n1 c1, .bool false] 60)).alloc (Obj.cells #[.slice none 0 0, .slice none 0 0, .bool false] 60) = W at hB hC hbel ⊢
            clear hbx
            have k0 := hB.cell 0 rfl
            have kf0 := hB.free 0
            have k1 := hB.cell 1 rfl
            have kf1 := hB.free 1
            have k2 := hB.cell 2 rfl
            have kf2 := hB.free 2
            have z0 := hC.cell 0 rfl
            have zf0 := hC.free 0
            have z1 := hC.cell 1 rfl
            have zf1 := hC.free 1
            have z2 := hC.cell 2 rfl
            have zf2 := hC.free 2
            have hWs := hC.lt
            have hq0 := rs_start (p1 := w.heap.size + 1) hB
            have hX := h1
            have hsA : ∀ q, 0 < n → A.map (·.block) = some q → q < w.heap.size := fun q hn hq => by
              obtain ⟨b1, o1, e1, h1⟩ := hb.lt hn
              rw [e1] at hq
              have : b1 = q := Option.some.inj hq
              omega
            have hsz1 : n1 + 1 ≤ 4398046511104 := by omega
            have hfar : ∀ {C : Option Addr}, (∀ q, C.map (·.block) = some q → W.heap.size ≤ q) → ∀ x ∈ [(⟨A, n, c, b, false⟩ : ItemV)], 0 < x.n → ∀ q, C.map (·.block) = some q → x.A.map (·.block) ≠ some q := fun {C} hC x hx hn q hq e => by
              obtain rfl : x = ⟨A, n, c, b, false⟩ := by simpa using hx
              have := hsA q hn e
              have := hC q hq
              omega
            have hp1 : w.heap.size ≤ w.heap.size + 1 := Nat.le_succ _
            have hp01 : w.heap.size ≠ w.heap.size + 1 := by omega
            have hpW : w.heap.size < W.heap.size := by omega
            have hmx := hX.max
            have hfn : ∀ s ∈ L1, 0 < s.n → ∀ k, (none : Option Addr).map (·.block) = some k → s.A.map (·.block) ≠ some k := fun s hs hn k hk => by simp at hk
            go_upto_region 10 with (fail)
            go_region_held3 (fun V => (V.cell? ⟨w.heap.size, 0, none⟩ = some (.slice A0 n0 c0) ∧ V.cell? ⟨w.heap.size, 1, none⟩ = some (.slice A1 n1 c1) ∧ V.cell? ⟨w.heap.size, 2, none⟩ = some (.bool false)) ∧ Kept (fun i => i = w.heap.size + 1) W V) ((first | exact hq0 | exact rs_none (by assumption) hg1 | exact rs_alloc (by assumption) _ | exact rs_grown (by assumption) hg2 hr2 hpW | exact rs_below (by assumption) hb3 | exact rs_store (by assumption) hp01)) (first
              | (refine step_appendI rfl _ _ 57 91 rfl Tryd.underlying57 Tryd.info91 W.heap.size none 0 0 [] A1 n1 c1 L1 n1 (Nat.zero_add _).symm rfl rfl (OwnI.nil _ _ _) (hX.keep (rs_bel (by assumption) hbel hp1)) hfn (rs_size (by assumption)) (Nat.le_trans (Nat.le_of_eq (Nat.zero_add _)) hmx) ?_; intro A3 c3 x3 hown3 hg1 hat3; have hHx := rs_none (wr := W) (p0 := w.heap.size) (p1 := w.heap.size + 1) (by assumption) hg1; have hC3 : Blk x3 (w.heap.size + 1) #[.slice none 0 0, .slice none 0 0, .bool false] 60 := (by first | exact hC.drew.keep (below_of_none hg1) | exact (hC.drew.alloc _).keep (below_of_none hg1)); have hr2 := fun k (hk : A3.map (·.block) = some k) => (hown3.ge k hk).1)
              | (refine step_appendI rfl _ _ 57 91 rfl Tryd.underlying57 Tryd.info91 W.heap.size A3 n1 c3 ([] ++ L1) (some ⟨x3.heap.size, 0, none⟩) 1 1 [⟨A, n, c, b, false⟩] (n1 + 1) rfl rfl rfl (hown3.keep (b_alloc (Below.refl _ _) _)) (Items.one 91 ⟨A, n, c, b, false⟩ (hb.keep (rs_bel hHx hbel hp1))) (hfar hr2) (rs_size (by assumption)) hsz1 ?_; intro A4 c4 x4 hown4 hg2 hat4; have hC4 : Blk x4 (w.heap.size + 1) #[.slice none 0 0, .slice none 0 0, .bool false] 60 := (by first | exact (hC3.alloc _).grown hg2 (fun e => absurd (hr2 _ e) (by omega)) | exact hC3.grown hg2 (fun e => absurd (hr2 _ e) (by omega))))
              | (refine step_appendI rfl _ _ 57 91 rfl Tryd.underlying57 Tryd.info91 W.heap.size A3 n1 c3 ([] ++ L1) (some ⟨W.heap.size, 0, none⟩) 1 1 [⟨A, n, c, b, false⟩] (n1 + 1) rfl rfl rfl hown3 ((Items.one (w := W.drew) 91 ⟨A, n, c, b, false⟩ (hb.keep (rs_bel hq0 hbel hp1))).keep (below_of_none hg1)) (hfar hr2) (rs_size (by assumption)) hsz1 ?_; intro A4 c4 x4 hown4 hg2 hat4; have hC4 : Blk x4 (w.heap.size + 1) #[.slice none 0 0, .slice none 0 0, .bool false] 60 := (by first | exact (hC3.alloc _).grown hg2 (fun e => absurd (hr2 _ e) (by omega)) | exact hC3.grown hg2 (fun e => absurd (hr2 _ e) (by omega))))
              | (go_at_call 43; refine (with_any A0 n0 c0 A1 n1 c1 false 1 (by omega) A4 (n1 + 1) c4 _).mono ?_; rintro e x5 ⟨rfl, hb3⟩; have hC5 := hC4.keep hb3; have y0 := hC5.cell 0 rfl; have y1 := hC5.cell 1 rfl; have y2 := hC5.cell 2 rfl; have yf0 := hC5.free 0; have yf1 := hC5.free 1; have yf2 := hC5.free 2))
            all_goals
              have hbz := rs_bel (by assumption) hbel hp1
              have hI5 := hown4.items.keep hb3
              have hge4 := fun q (hq : A4.map (·.block) = some q) => (hown4.ge q hq).1
              have hIf := hI5.kept (kept3 (p := w.heap.size + 1) (a := .slice A0 n0 c0) (b := .slice A4 (n1 + 1) c4) (c := .bool false)) (fun q hq e => by have := hge4 q hq; omega) (fun s hs hn q hq e => (hI5.ok s hs).apart hC5 (link_no8 _ _ _ _ _ _ _) hn (by rw [hq, e]))
              have hsy : says ([] ++ L1 ++ [⟨A, n, c, b, false⟩]) = says L1 ++ [(b, false)] := by simp [says, ItemV.say]
              go_wp2_with fail
              exact bodyPost_ret (v := .tuple #[.agg #[.slice A0 n0 c0, .slice A4 (n1 + 1) c4, .bool false], .int .i64 0]) (by simp [results, Tryd.results27, y0, y1, y2, yf0, yf1, yf2, go_sem]) rfl ⟨A0, n0, c0, L0, A4, n1 + 1, c4, _, rfl, h0.keep hbz, hIf, rfl, hsy, hbz⟩
end Go.Proofs.YtbmfcaobhgeogaaDoor
