/-
  The law's own small functions of a link: long, same, give, by their contracts.
-/
import Derived.Test.YtbmfcaobhgeogaaDoorLinkSure
namespace Go.Proofs.YtbmfcaobhgeogaaDoor
open Go.RowKit
set_option linter.unusedVariables false
set_option linter.unusedSimpArgs false
set_option maxRecDepth 100000

/-- Some truth is told. -/
def SomeB (w : World) (e : Ending) (w' : World) : Prop := ∃ b, e = .returned (.bool b) ∧ Below w.heap.size w w'
/-- A link is told. -/
def GiveP (w : World) (k : Lk) (e : Ending) (w' : World) : Prop := ∃ lv, e = .returned lv ∧ LinkB w' w.heap.size lv k ∧ Below w.heap.size w w'
theorem keep3a {w : World} {a1 a3 a4 : Addr} {v1 v3 v4 : Value} (h : w.cell? a1 = some v1 ∧ w.cell? a3 = some v3 ∧ w.cell? a4 = some v4) (o : Obj) : (w.alloc o).cell? a1 = some v1 ∧ (w.alloc o).cell? a3 = some v3 ∧ (w.alloc o).cell? a4 = some v4 := ⟨cell_old h.1 o, cell_old h.2.1 o, cell_old h.2.2 o⟩
theorem keep3g {w w1 : World} {row : Option Nat} {a1 a3 a4 : Addr} {v1 v3 v4 : Value} (h : w.cell? a1 = some v1 ∧ w.cell? a3 = some v3 ∧ w.cell? a4 = some v4) (hg : w.grownBy w1 row) (h1 : some a1.block ≠ row) (h3 : some a3.block ≠ row) (h4 : some a4.block ≠ row) : w1.cell? a1 = some v1 ∧ w1.cell? a3 = some v3 ∧ w1.cell? a4 = some v4 :=
  ⟨hg.cell h.1 h1, hg.cell h.2.1 h3, hg.cell h.2.2 h4⟩
theorem keep3s {w : World} {p : Nat} {j : Nat} {u : Value} {b1 o1 b3 o3 b4 o4 : Nat} {v1 v3 v4 : Value} (h : w.cell? ⟨b1, o1, none⟩ = some v1 ∧ w.cell? ⟨b3, o3, none⟩ = some v3 ∧ w.cell? ⟨b4, o4, none⟩ = some v4) (h1 : b1 ≠ p) (h3 : b3 ≠ p) (h4 : b4 ≠ p) : (w.setCell ⟨p, j, none⟩ u).cell? ⟨b1, o1, none⟩ = some v1 ∧ (w.setCell ⟨p, j, none⟩ u).cell? ⟨b3, o3, none⟩ = some v3 ∧ (w.setCell ⟨p, j, none⟩ u).cell? ⟨b4, o4, none⟩ = some v4 :=
  ⟨(kept1 (W := w) (p := p) (j := j) (a := u)).cell h.1 h1, (kept1 (W := w) (p := p) (j := j) (a := u)).cell h.2.1 h3, (kept1 (W := w) (p := p) (j := j) (a := u)).cell h.2.2 h4⟩
/-- Two rows in two blocks. -/
def RowNe (A B : Option Addr) : Prop := ∀ q, A.map (·.block) = some q → B.map (·.block) ≠ some q
theorem heldB {a b : Prop} (h : a ∧ b) : b := h.2
theorem box_one (w : World) (cs : Array Value) (t : TypeId) : ∀ W, W = w.alloc (.cells cs t) → Blk W w.heap.size cs t ∧ Below w.heap.size w W := by
  rintro W rfl
  exact ⟨Blk.new w _ _, b_alloc (Below.refl _ _) _⟩
theorem box_two (w : World) (cs ds : Array Value) (t u : TypeId) : ∀ W, W = (w.alloc (.cells cs t)).alloc (.cells ds u) → Blk W w.heap.size cs t ∧ Blk W (w.heap.size + 1) ds u ∧ Below w.heap.size w W := by
  rintro W rfl
  have h := Blk.new (w.alloc (.cells cs t)) ds u
  have hs : (w.alloc (.cells cs t)).heap.size = w.heap.size + 1 := by simp
  rw [hs] at h
  exact ⟨(Blk.new w _ _).alloc _, h, b_alloc (b_alloc (Below.refl _ _) _) _⟩
theorem box_three (w : World) (cs ds es : Array Value) (t u v : TypeId) : ∀ W, W = ((w.alloc (.cells cs t)).alloc (.cells ds u)).alloc (.cells es v) → Blk W w.heap.size cs t ∧ Blk W (w.heap.size + 1) ds u ∧ Blk W (w.heap.size + 2) es v ∧ Below w.heap.size w W := by
  rintro W rfl
  obtain ⟨h1, h2, h3⟩ := box_two w cs ds t u _ rfl
  have h := Blk.new ((w.alloc (.cells cs t)).alloc (.cells ds u)) es v
  have hs : ((w.alloc (.cells cs t)).alloc (.cells ds u)).heap.size = w.heap.size + 2 := by simp
  rw [hs] at h
  exact ⟨h1.alloc _, h2.alloc _, h, b_alloc h3 _⟩

set_option maxHeartbeats 4000000 in
theorem long_any (A0 : Option Addr) (n0 c0 : Nat) (L0 : List ItemV) (A1 : Option Addr) (n1 c1 : Nat) (L1 : List ItemV) (d : Bool) (w : World) (h0 : Items w A0 n0 c0 L0) (h1 : Items w A1 n1 c1 L1) :
    Calls Tryd.prog 25 #[(.agg #[.slice A0 n0 c0, .slice A1 n1 c1, .bool d])] w (SomeB w) := by
  have hm0 := h0.max
  have hm1 := h1.max
  have hbx := Lib.hid (box_one w #[.slice A0 n0 c0, .slice A1 n1 c1, .bool d] 60)
  go_enter Tryd.func25, Tryd.ntmps25
  go_upto_region 1 with (fail)
  obtain ⟨hB, hbel⟩ := hbx.out _ rfl
  generalize w.alloc (Obj.cells #[.slice A0 n0 c0, .slice A1 n1 c1, .bool d] 60) = W at hB hbel ⊢
  clear hbx
  have g0 := h0.keep hbel
  have g1 := h1.keep hbel
  have k0 := hB.cell 0 rfl
  have kf0 := hB.free 0
  have k1 := hB.cell 1 rfl
  have kf1 := hB.free 1
  have k2 := hB.cell 2 rfl
  have kf2 := hB.free 2
  go_wp2_with fail
  go_loop [3, 4, 5] (fun v j i => ∃ (x : Int) (jn : Nat), jn ≤ 2 ∧ v = .int .i64 x ∧ j = .int .i64 jn) (fun _ j _ => 2 - (intOf j).toNat)
  case atStart => exact ⟨0, 0, by omega, rfl, rfl⟩
  case round =>
    obtain ⟨x, jn, hj, rfl, rfl⟩ := hrel
    have hj3 : jn = 0 ∨ jn = 1 ∨ jn = 2 := by omega
    clear hj
    rcases hj3 with rfl | rfl | rfl
    · go_wp2_with fail
      go_loop [3, 5] (fun v i => ∃ (x : Int) (k : Nat), k ≤ n0 ∧ k ≤ 400 ∧ v = .int .i64 x ∧ i = .int .i64 k) (fun _ i => n0 - (intOf i).toNat)
      case atStart => exact ⟨x, 0, by omega, by omega, rfl, rfl⟩
      case round =>
        obtain ⟨x, k, hk, hk4, rfl, rfl⟩ := hrel
        by_cases hlt : k < n0 ∧ k < 400
        · obtain ⟨hl1, hl2⟩ := hlt
          obtain ⟨s, b, off, hs, he, hc0, hc1, hbs⟩ := g0.at_ k hl1
          rw [he] at k0
          have hk0 : (0 : Int) ≤ (k : Int) := by omega
          have hkn : (k : Int) < (n0 : Int) := by omega
          have hkh : (k : Int) < 400 := by omega
          go_wp2_with fail
          go_round
          case rel => exact ⟨_, k + 1, by omega, by omega, rfl, by go_num⟩
          case measure => simp [intOf]; omega
        · have hex : (n0 : Int) ≤ (k : Int) ∨ ((k : Int) < (n0 : Int) ∧ (400 : Int) ≤ (k : Int)) := by omega
          rcases hex with h2 | ⟨h2, h3⟩
          all_goals
            go_wp2_with fail
            go_round
            case rel => exact ⟨x, 1, by omega, rfl, rfl⟩
            case measure => simp [intOf]
    · go_wp2_with fail
      go_loop [3, 5] (fun v i => ∃ (x : Int) (k : Nat), k ≤ n1 ∧ k ≤ 400 ∧ v = .int .i64 x ∧ i = .int .i64 k) (fun _ i => n1 - (intOf i).toNat)
      case atStart => exact ⟨x, 0, by omega, by omega, rfl, rfl⟩
      case round =>
        obtain ⟨x, k, hk, hk4, rfl, rfl⟩ := hrel
        by_cases hlt : k < n1 ∧ k < 400
        · obtain ⟨hl1, hl2⟩ := hlt
          obtain ⟨s, b, off, hs, he, hc0, hc1, hbs⟩ := g1.at_ k hl1
          rw [he] at k1
          have hk0 : (0 : Int) ≤ (k : Int) := by omega
          have hkn : (k : Int) < (n1 : Int) := by omega
          have hkh : (k : Int) < 400 := by omega
          go_wp2_with fail
          go_round
          case rel => exact ⟨_, k + 1, by omega, by omega, rfl, by go_num⟩
          case measure => simp [intOf]; omega
        · have hex : (n1 : Int) ≤ (k : Int) ∨ ((k : Int) < (n1 : Int) ∧ (400 : Int) ≤ (k : Int)) := by omega
          rcases hex with h2 | ⟨h2, h3⟩
          all_goals
            go_wp2_with fail
            go_round
            case rel => exact ⟨x, 2, by omega, rfl, rfl⟩
            case measure => simp [intOf]
    · go_wp2_with fail
      all_goals go_ret
      all_goals exact ⟨_, rfl, hbel⟩

theorem says_at {L M : List ItemV} (h : says L = says M) {k : Nat} {s t : ItemV} (hs : L[k]? = some s) (ht : M[k]? = some t) : t.b = s.b ∧ t.t = s.t := by
  have h1 : (says L)[k]? = (says M)[k]? := by rw [h]
  simp only [says, List.getElem?_map, hs, ht, Option.map_some, Option.some.injEq, ItemV.say, Prod.mk.injEq] at h1
  exact ⟨h1.1.symm, h1.2.symm⟩
set_option maxHeartbeats 16000000 in
theorem same_n (A0 : Option Addr) (n0 c0 : Nat) (L0 : List ItemV) (A1 : Option Addr) (n1 c1 : Nat) (L1 : List ItemV) (d : Bool) (B0 : Option Addr) (d0 : Nat) (M0 : List ItemV) (B1 : Option Addr) (d1 : Nat) (M1 : List ItemV) (w : World) (h0 : Items w A0 n0 c0 L0) (h1 : Items w A1 n1 c1 L1) (i0 : Items w B0 n0 d0 M0) (i1 : Items w B1 n1 d1 M1) (e0 : says L0 = says M0) (e1 : says L1 = says M1) :
    Calls Tryd.prog 29 #[(.agg #[.slice A0 n0 c0, .slice A1 n1 c1, .bool d]), .agg #[.slice B0 n0 d0, .slice B1 n1 d1, .bool d]] w (fun e w' => e = .returned (.bool true) ∧ Below w.heap.size w w') := by
  have hm0 := h0.max
  have hm1 := h1.max
  have hbx := Lib.hid (box_two w #[.slice A0 n0 c0, .slice A1 n1 c1, .bool d] #[.slice B0 n0 d0, .slice B1 n1 d1, .bool d] 51 60)
  go_enter Tryd.func29, Tryd.ntmps29
  go_upto_region 1 with (fail)
  obtain ⟨hB, hC, hbel⟩ := hbx.out _ rfl
  generalize (w.alloc (Obj.cells #[.slice A0 n0 c0, .slice A1 n1 c1, .bool d] 51)).alloc (Obj.cells #[.slice B0 n0 d0, .slice B1 n1 d1, .bool d] 60) = W at hB hC hbel ⊢
  clear hbx
  have g0 := h0.keep hbel
  have g1 := h1.keep hbel
  have j0 := i0.keep hbel
  have j1 := i1.keep hbel
  clear h0 h1 i0 i1
  go_wp2_with fail
  go_loopw [5, 6] (fun j i wr => ∃ jn : Nat, jn ≤ 2 ∧ j = .int .i64 jn ∧ Below W.heap.size W wr) (fun j _ _ => 2 - (intOf j).toNat)
  case atStart => exact ⟨0, by omega, rfl, Below.refl _ _⟩
  case round =>
    obtain ⟨jn, hj, rfl, hbr⟩ := hrel
    obtain ⟨wo, rfl⟩ : ∃ wo, wo = wr := ⟨wr, rfl⟩
    have hj3 : jn = 0 ∨ jn = 1 ∨ jn = 2 := by omega
    clear hj
    have hBr := hB.keep hbr
    have hCr := hC.keep hbr
    have y0 := hBr.cell 0 rfl
    have yf0 := hBr.free 0
    have y1 := hBr.cell 1 rfl
    have yf1 := hBr.free 1
    have y2 := hBr.cell 2 rfl
    have yf2 := hBr.free 2
    have z0 := hCr.cell 0 rfl
    have zf0 := hCr.free 0
    have z1 := hCr.cell 1 rfl
    have zf1 := hCr.free 1
    have z2 := hCr.cell 2 rfl
    have zf2 := hCr.free 2
    rcases hj3 with rfl | rfl | rfl
    · go_upto_region 4 with (fail)
      go_quiet (fail)
      go_wp2_with fail
      go_loopw [6] (fun i wr => ∃ k : Nat, k ≤ n0 ∧ i = .int .i64 k ∧ Below W.heap.size W wr) (fun i _ => n0 - (intOf i).toNat)
      case atStart => exact ⟨0, by omega, rfl, by first | exact hbr | exact b_drew hbr | exact b_drewN hbr _⟩
      case round =>
        obtain ⟨k, hk, rfl, hby⟩ := hrel
        have hBy := hB.keep hby
        have hCy := hC.keep hby
        have y0 := hBy.cell 0 rfl
        have yf0 := hBy.free 0
        have y1 := hBy.cell 1 rfl
        have yf1 := hBy.free 1
        have y2 := hBy.cell 2 rfl
        have yf2 := hBy.free 2
        have z0 := hCy.cell 0 rfl
        have zf0 := hCy.free 0
        have z1 := hCy.cell 1 rfl
        have zf1 := hCy.free 1
        have z2 := hCy.cell 2 rfl
        have zf2 := hCy.free 2
        by_cases hlt : k < n0
        · obtain ⟨s, b, off, hs, he, hc0, hc1, hbs⟩ := (g0.keep hby).at_ k hlt
          obtain ⟨t, b', off', ht, he', hd0, hd1, hbt⟩ := (j0.keep hby).at_ k hlt
          obtain ⟨hbb, htt⟩ := says_at e0 hs ht
          rw [htt] at hd1
          rw [hbb] at hbt
          rw [he] at y0
          rw [he'] at z0
          have hk0 : (0 : Int) ≤ (k : Int) := by omega
          have hkn : (k : Int) < (n0 : Int) := by omega
          obtain ⟨st, hstr⟩ : ∃ st, strOf s.b = st := ⟨_, rfl⟩
          have hst : ∀ V, Below wr.heap.size wr V → (V.cell? ⟨w.heap.size, 0, none⟩ = some (.slice (some ⟨b, off, none⟩) n0 c0) ∧ V.cell? ⟨w.heap.size + 1, 0, none⟩ = some (.slice (some ⟨b', off', none⟩) n0 d0) ∧ V.cell? ⟨b, off + k * 2, none⟩ = some (.slice s.A s.n s.c) ∧ V.cell? ⟨b, off + k * 2 + 1, none⟩ = some (.bool s.t) ∧ V.cell? ⟨b', off' + k * 2, none⟩ = some (.slice t.A t.n t.c) ∧ V.cell? ⟨b', off' + k * 2 + 1, none⟩ = some (.bool s.t) ∧ (convert 47 9 (.slice s.A s.n s.c)).run Tryd.prog V = .ok (.string st) V ∧ (convert 47 9 (.slice t.A t.n t.c)).run Tryd.prog V = .ok (.string st) V) ∧ Below wr.heap.size wr V := fun V hV => ⟨⟨cell_keep y0 hV, cell_keep z0 hV, cell_keep hc0 hV, cell_keep hc1 hV, cell_keep hd0 hV, cell_keep hd1 hV, hstr ▸ run_str (P := Tryd.prog) 47 5 9 Tryd.underlying47 Tryd.underlying5 Tryd.underlying9 (hbs.keep hV), hstr ▸ run_str (P := Tryd.prog) 47 5 9 Tryd.underlying47 Tryd.underlying5 Tryd.underlying9 (hbt.keep hV)⟩, hV⟩
          have hq0 := hst _ (b_drew (Below.refl _ _))
          clear hst hstr htt hbb hc0 hc1 hd0 hd1 hbs hbt
          go_upto_region 9 with (fail)
          go_cut [68] from 22 to 68 (fun bb wx => bb = .bool false ∧ Below wr.heap.size wr wx)
          case first =>
            go_region_held3 (fun V => (V.cell? ⟨w.heap.size, 0, none⟩ = some (.slice (some ⟨b, off, none⟩) n0 c0) ∧ V.cell? ⟨w.heap.size + 1, 0, none⟩ = some (.slice (some ⟨b', off', none⟩) n0 d0) ∧ V.cell? ⟨b, off + k * 2, none⟩ = some (.slice s.A s.n s.c) ∧ V.cell? ⟨b, off + k * 2 + 1, none⟩ = some (.bool s.t) ∧ V.cell? ⟨b', off' + k * 2, none⟩ = some (.slice t.A t.n t.c) ∧ V.cell? ⟨b', off' + k * 2 + 1, none⟩ = some (.bool s.t) ∧ (convert 47 9 (.slice s.A s.n s.c)).run Tryd.prog V = .ok (.string st) V ∧ (convert 47 9 (.slice t.A t.n t.c)).run Tryd.prog V = .ok (.string st) V) ∧ Below wr.heap.size wr V) (exact hq0) (fail)
            all_goals go_wp2_with fail
            all_goals go_meet
            all_goals exact ⟨rfl, heldB (by assumption)⟩
          case rest =>
            obtain ⟨rfl, hbz⟩ := hcut
            generalize wc = W9 at hbz ⊢
            clear hq0
            go_wp2_with fail
            go_roundw
            case rel => exact ⟨k + 1, by omega, by go_num, b_then hby hbz⟩
            case measure => simp [intOf]; omega
        · have hk' : k = n0 := by omega
          subst hk'
          go_wp2_with fail
          go_roundw
          case rel => exact ⟨1, by omega, rfl, hby⟩
          case measure => simp [intOf]
    · go_upto_region 4 with (fail)
      go_quiet (fail)
      go_wp2_with fail
      go_loopw [6] (fun i wr => ∃ k : Nat, k ≤ n1 ∧ i = .int .i64 k ∧ Below W.heap.size W wr) (fun i _ => n1 - (intOf i).toNat)
      case atStart => exact ⟨0, by omega, rfl, by first | exact hbr | exact b_drew hbr | exact b_drewN hbr _⟩
      case round =>
        obtain ⟨k, hk, rfl, hby⟩ := hrel
        have hBy := hB.keep hby
        have hCy := hC.keep hby
        have y0 := hBy.cell 0 rfl
        have yf0 := hBy.free 0
        have y1 := hBy.cell 1 rfl
        have yf1 := hBy.free 1
        have y2 := hBy.cell 2 rfl
        have yf2 := hBy.free 2
        have z0 := hCy.cell 0 rfl
        have zf0 := hCy.free 0
        have z1 := hCy.cell 1 rfl
        have zf1 := hCy.free 1
        have z2 := hCy.cell 2 rfl
        have zf2 := hCy.free 2
        by_cases hlt : k < n1
        · obtain ⟨s, b, off, hs, he, hc0, hc1, hbs⟩ := (g1.keep hby).at_ k hlt
          obtain ⟨t, b', off', ht, he', hd0, hd1, hbt⟩ := (j1.keep hby).at_ k hlt
          obtain ⟨hbb, htt⟩ := says_at e1 hs ht
          rw [htt] at hd1
          rw [hbb] at hbt
          rw [he] at y1
          rw [he'] at z1
          have hk0 : (0 : Int) ≤ (k : Int) := by omega
          have hkn : (k : Int) < (n1 : Int) := by omega
          obtain ⟨st, hstr⟩ : ∃ st, strOf s.b = st := ⟨_, rfl⟩
          have hst : ∀ V, Below wr.heap.size wr V → (V.cell? ⟨w.heap.size, 1, none⟩ = some (.slice (some ⟨b, off, none⟩) n1 c1) ∧ V.cell? ⟨w.heap.size + 1, 1, none⟩ = some (.slice (some ⟨b', off', none⟩) n1 d1) ∧ V.cell? ⟨b, off + k * 2, none⟩ = some (.slice s.A s.n s.c) ∧ V.cell? ⟨b, off + k * 2 + 1, none⟩ = some (.bool s.t) ∧ V.cell? ⟨b', off' + k * 2, none⟩ = some (.slice t.A t.n t.c) ∧ V.cell? ⟨b', off' + k * 2 + 1, none⟩ = some (.bool s.t) ∧ (convert 47 9 (.slice s.A s.n s.c)).run Tryd.prog V = .ok (.string st) V ∧ (convert 47 9 (.slice t.A t.n t.c)).run Tryd.prog V = .ok (.string st) V) ∧ Below wr.heap.size wr V := fun V hV => ⟨⟨cell_keep y1 hV, cell_keep z1 hV, cell_keep hc0 hV, cell_keep hc1 hV, cell_keep hd0 hV, cell_keep hd1 hV, hstr ▸ run_str (P := Tryd.prog) 47 5 9 Tryd.underlying47 Tryd.underlying5 Tryd.underlying9 (hbs.keep hV), hstr ▸ run_str (P := Tryd.prog) 47 5 9 Tryd.underlying47 Tryd.underlying5 Tryd.underlying9 (hbt.keep hV)⟩, hV⟩
          have hq0 := hst _ (b_drew (Below.refl _ _))
          clear hst hstr htt hbb hc0 hc1 hd0 hd1 hbs hbt
          go_upto_region 9 with (fail)
          go_cut [68] from 22 to 68 (fun bb wx => bb = .bool false ∧ Below wr.heap.size wr wx)
          case first =>
            go_region_held3 (fun V => (V.cell? ⟨w.heap.size, 1, none⟩ = some (.slice (some ⟨b, off, none⟩) n1 c1) ∧ V.cell? ⟨w.heap.size + 1, 1, none⟩ = some (.slice (some ⟨b', off', none⟩) n1 d1) ∧ V.cell? ⟨b, off + k * 2, none⟩ = some (.slice s.A s.n s.c) ∧ V.cell? ⟨b, off + k * 2 + 1, none⟩ = some (.bool s.t) ∧ V.cell? ⟨b', off' + k * 2, none⟩ = some (.slice t.A t.n t.c) ∧ V.cell? ⟨b', off' + k * 2 + 1, none⟩ = some (.bool s.t) ∧ (convert 47 9 (.slice s.A s.n s.c)).run Tryd.prog V = .ok (.string st) V ∧ (convert 47 9 (.slice t.A t.n t.c)).run Tryd.prog V = .ok (.string st) V) ∧ Below wr.heap.size wr V) (exact hq0) (fail)
            all_goals go_wp2_with fail
            all_goals go_meet
            all_goals exact ⟨rfl, heldB (by assumption)⟩
          case rest =>
            obtain ⟨rfl, hbz⟩ := hcut
            generalize wc = W9 at hbz ⊢
            clear hq0
            go_wp2_with fail
            go_roundw
            case rel => exact ⟨k + 1, by omega, by go_num, b_then hby hbz⟩
            case measure => simp [intOf]; omega
        · have hk' : k = n1 := by omega
          subst hk'
          go_wp2_with fail
          go_roundw
          case rel => exact ⟨2, by omega, rfl, hby⟩
          case measure => simp [intOf]
    · go_wp2_with fail
      go_ret
      exact ⟨rfl, b_then hbel hbr⟩
end Go.Proofs.YtbmfcaobhgeogaaDoor
