import Derived.Test.YtbmfcaobhgeogaaRegs
import Derived.Deep.QuietTactic
import Derived.Deep.RegionHeld3
import Derived.Deep.DeepCutAuto
import Derived.BigQuiet
namespace Go.Proofs.Ytbmfcaobhgeogaa
open Go.RowKit
set_option linter.unusedVariables false
set_option linter.unusedSimpArgs false
set_option maxRecDepth 100000

/-- The registers, in the law's order; what each holds; a state with one written. -/
def regZ : Nat → Int
  | 0 => 16384 | 1 => 16388 | 2 => 49144 | 3 => 49148 | _ => 0
def maskZ : Nat → Int
  | 4 => 1 | _ => 4294967295
def readF (so t c : Int) : Nat → Int
  | 0 => c % 4294967296 | 1 => c / 4294967296 | 2 => t % 4294967296 | 3 => t / 4294967296 | _ => so
def wS (so v : Int) : Nat → Int
  | 4 => v % 2 | _ => so
def wT (t v : Int) : Nat → Int
  | 2 => t / 4294967296 * 4294967296 + v | 3 => t % 4294967296 + v * 4294967296 | _ => t
def wC (c v : Int) : Nat → Int
  | 0 => c / 4294967296 * 4294967296 + v | 1 => c % 4294967296 + v * 4294967296 | _ => c
theorem five {i : Nat} (h : i < 5) : i = 0 ∨ i = 1 ∨ i = 2 ∨ i = 3 ∨ i = 4 := by omega

theorem read_reg (i : Nat) (hi : i < 5) (so t c : Int) (w : World) (hs : 0 ≤ so) (hs' : so < 4294967296) (ht : 0 ≤ t) (ht' : t < 18446744073709551616) (hc : 0 ≤ c) (hc' : c < 18446744073709551616) :
    Calls Try.prog 14 #[.agg #[.int .u32 so, .int .u64 t, .int .u64 c], .int .u32 (regZ i)] w fun e w' => e = .returned (.tuple #[.int .u32 (readF so t c i), .nilIface]) ∧ Below w.heap.size w w' := by
  rcases five hi with rfl | rfl | rfl | rfl | rfl
  · exact read_cmp0 so t c w hs hs' ht ht' hc hc'
  · exact read_cmp1 so t c w hs hs' ht ht' hc hc'
  · exact read_time0 so t c w hs hs' ht ht' hc hc'
  · exact read_time1 so t c w hs hs' ht ht' hc hc'
  · exact read_soft so t c w hs hs' ht ht' hc hc'
theorem write_reg (i : Nat) (hi : i < 5) (so t c v : Int) (w : World) (hs : 0 ≤ so) (hs' : so < 4294967296) (ht : 0 ≤ t) (ht' : t < 18446744073709551616) (hc : 0 ≤ c) (hc' : c < 18446744073709551616) (hv : 0 ≤ v) (hv' : v < 4294967296) :
    Calls Try.prog 13 #[.agg #[.int .u32 so, .int .u64 t, .int .u64 c], .int .u32 (regZ i), .int .u32 v] w fun e w' => e = .returned (.tuple #[.agg #[.int .u32 (wS so v i), .int .u64 (wT t v i), .int .u64 (wC c v i)], .nilIface]) ∧ Below w.heap.size w w' := by
  rcases five hi with rfl | rfl | rfl | rfl | rfl
  · exact write_cmp0 so t c v w hs hs' ht ht' hc hc' hv hv'
  · exact write_cmp1 so t c v w hs hs' ht ht' hc hc' hv hv'
  · exact write_time0 so t c v w hs hs' ht ht' hc hc' hv hv'
  · exact write_time1 so t c v w hs hs' ht ht' hc hc' hv hv'
  · exact write_soft so t c v w hs hs' ht ht' hc hc' hv hv'
theorem w_in (i : Nat) (hi : i < 5) (so t c v : Int) (hs : 0 ≤ so) (hs' : so < 4294967296) (ht : 0 ≤ t) (ht' : t < 18446744073709551616) (hc : 0 ≤ c) (hc' : c < 18446744073709551616) (hv : 0 ≤ v) (hv' : v < 4294967296) :
    (0 ≤ wS so v i ∧ wS so v i < 4294967296) ∧ (0 ≤ wT t v i ∧ wT t v i < 18446744073709551616) ∧ (0 ≤ wC c v i ∧ wC c v i < 18446744073709551616) := by
  rcases five hi with rfl | rfl | rfl | rfl | rfl <;> simp only [wS, wT, wC] <;> omega
theorem back_same (i : Nat) (hi : i < 5) (so t c v : Int) (ht : 0 ≤ t) (ht' : t < 18446744073709551616) (hc : 0 ≤ c) (hc' : c < 18446744073709551616) (hv : 0 ≤ v) (hv' : v < 4294967296) :
    readF (wS so v i) (wT t v i) (wC c v i) i = bits .and .u32 v (maskZ i) := by
  have hf : bits .and .u32 v 4294967295 = v := by
    obtain ⟨v, rfl⟩ := Int.eq_ofNat_of_zero_le hv
    have h1 := u32_and_nat v 4294967295 (by omega) (by decide)
    have h2 : v &&& 4294967295 = v % 4294967296 := Nat.and_two_pow_sub_one_eq_mod v 32
    rw [h2] at h1
    exact h1.trans (by omega)
  have h1 := and1_u32 v hv hv'
  rcases five hi with rfl | rfl | rfl | rfl | rfl <;> simp only [readF, wS, wT, wC, maskZ, hf, h1] <;> omega
theorem back_other (i k : Nat) (hi : i < 5) (hk : k < 5) (hik : i ≠ k) (so t c v : Int) (ht : 0 ≤ t) (ht' : t < 18446744073709551616) (hc : 0 ≤ c) (hc' : c < 18446744073709551616) (hv : 0 ≤ v) (hv' : v < 4294967296) :
    readF (wS so v i) (wT t v i) (wC c v i) k = readF so t c k := by
  rcases five hi with rfl | rfl | rfl | rfl | rfl <;> rcases five hk with rfl | rfl | rfl | rfl | rfl <;> simp only [readF, wS, wT, wC] <;> omega

theorem b_drewN {B : Nat} {w W : World} (h : Below B w W) (n : Nat) : Below B w (W.drewN n) := ⟨h.os, h.tape, h.output, h.size, h.block⟩
theorem b_set {w W : World} (h : Below w.heap.size w W) {p : Addr} (hp : w.heap.size ≤ p.block) (u : Value) : Below w.heap.size w (W.setCell p u) := h.setCell hp u
theorem kept3 {w w1 : World} {a b c : Value} {t : TypeId} (hb : Below (w.alloc (.cells #[a, b, c] t)).heap.size (w.alloc (.cells #[a, b, c] t)) w1) :
    (w1.cell? ⟨w.heap.size, 0, none⟩ = some a ∧ w1.cell? ⟨w.heap.size, 1, none⟩ = some b ∧ w1.cell? ⟨w.heap.size, 2, none⟩ = some c) ∧
    (w1.frozen? ⟨w.heap.size, 0, none⟩ = false ∧ w1.frozen? ⟨w.heap.size, 1, none⟩ = false ∧ w1.frozen? ⟨w.heap.size, 2, none⟩ = false) ∧ w.heap.size < w1.heap.size := by
  have h := (Blk.new w #[a, b, c] t).keep hb
  exact ⟨⟨h.cell 0 rfl, h.cell 1 rfl, h.cell 2 rfl⟩, ⟨h.free 0, h.free 1, h.free 2⟩, h.lt⟩
theorem write_reg_new (i : Nat) (hi : i < 5) (so t c v : Int) (w : World) (z0 z1 z2 : Value) (tt : TypeId) (hs : 0 ≤ so) (hs' : so < 4294967296) (ht : 0 ≤ t) (ht' : t < 18446744073709551616) (hc : 0 ≤ c) (hc' : c < 18446744073709551616) (hv : 0 ≤ v) (hv' : v < 4294967296) :
    Calls Try.prog 13 #[.agg #[.int .u32 so, .int .u64 t, .int .u64 c], .int .u32 (regZ i), .int .u32 v] (w.alloc (.cells #[z0, z1, z2] tt)) fun e w1 => e = .returned (.tuple #[.agg #[.int .u32 (wS so v i), .int .u64 (wT t v i), .int .u64 (wC c v i)], .nilIface]) ∧ Below (w.alloc (.cells #[z0, z1, z2] tt)).heap.size (w.alloc (.cells #[z0, z1, z2] tt)) w1 ∧
    (w1.cell? ⟨w.heap.size, 0, none⟩ = some z0 ∧ w1.cell? ⟨w.heap.size, 1, none⟩ = some z1 ∧ w1.cell? ⟨w.heap.size, 2, none⟩ = some z2) ∧
    (w1.frozen? ⟨w.heap.size, 0, none⟩ = false ∧ w1.frozen? ⟨w.heap.size, 1, none⟩ = false ∧ w1.frozen? ⟨w.heap.size, 2, none⟩ = false) ∧ w.heap.size < w1.heap.size := by
  refine (write_reg i hi so t c v _ hs hs' ht ht' hc hc' hv hv').mono ?_
  rintro e w' ⟨rfl, hb⟩
  exact ⟨rfl, hb, kept3 hb⟩
theorem reg_cell (w : World) (j : Nat) (hj : j < 5) :
    (w.alloc (Obj.cells #[Value.int IntKind.u32 16384, Value.int IntKind.u32 16388, Value.int IntKind.u32 49144, Value.int IntKind.u32 49148, Value.int IntKind.u32 0] 22)).cell? ⟨w.heap.size, j, none⟩ = some (.int .u32 (regZ j)) := by
  rcases five hj with rfl | rfl | rfl | rfl | rfl <;> exact cell_new w _ _ _ _ rfl
theorem keep5 {w W : World} {a a' a'' b b' : Addr} {v v' v'' u u' : Value} (h : w.cell? a = some v ∧ w.cell? a' = some v' ∧ w.cell? a'' = some v'' ∧ w.cell? b = some u ∧ w.cell? b' = some u') (hb : Below w.heap.size w W) : W.cell? a = some v ∧ W.cell? a' = some v' ∧ W.cell? a'' = some v'' ∧ W.cell? b = some u ∧ W.cell? b' = some u' :=
  ⟨cell_keep h.1 hb, cell_keep h.2.1 hb, cell_keep h.2.2.1 hb, cell_keep h.2.2.2.1 hb, cell_keep h.2.2.2.2 hb⟩

theorem mask_cell (w : World) (j : Nat) (hj : j < 5) :
    (w.alloc (Obj.cells #[Value.int IntKind.u32 4294967295, Value.int IntKind.u32 4294967295, Value.int IntKind.u32 4294967295, Value.int IntKind.u32 4294967295, Value.int IntKind.u32 1] 22)).cell? ⟨w.heap.size, j, none⟩ = some (.int .u32 (maskZ j)) := by
  rcases five hj with rfl | rfl | rfl | rfl | rfl <;> exact cell_new w _ _ _ _ rfl
/-- Both states, and the registers' numbers. -/
def Two (w : World) (x y : Nat) (so t c so' t' c' : Int) : Prop :=
  w.cell? ⟨x, 0, none⟩ = some (.int .u32 so) ∧ w.cell? ⟨x, 1, none⟩ = some (.int .u64 t) ∧ w.cell? ⟨x, 2, none⟩ = some (.int .u64 c) ∧
  w.cell? ⟨y, 0, none⟩ = some (.int .u32 so') ∧ w.cell? ⟨y, 1, none⟩ = some (.int .u64 t') ∧ w.cell? ⟨y, 2, none⟩ = some (.int .u64 c')
theorem Two.keep {w W : World} {x y : Nat} {so t c so' t' c' : Int} (h : Two w x y so t c so' t' c') (hb : Below w.heap.size w W) : Two W x y so t c so' t' c' :=
  ⟨cell_keep h.1 hb, cell_keep h.2.1 hb, cell_keep h.2.2.1 hb, cell_keep h.2.2.2.1 hb, cell_keep h.2.2.2.2.1 hb, cell_keep h.2.2.2.2.2 hb⟩
theorem keep4 {w W : World} {a a' a'' b : Addr} {v v' v'' u : Value} (h : w.cell? a = some v ∧ w.cell? a' = some v' ∧ w.cell? a'' = some v'' ∧ w.cell? b = some u) (hb : Below w.heap.size w W) : W.cell? a = some v ∧ W.cell? a' = some v' ∧ W.cell? a'' = some v'' ∧ W.cell? b = some u :=
  ⟨cell_keep h.1 hb, cell_keep h.2.1 hb, cell_keep h.2.2.1 hb, cell_keep h.2.2.2 hb⟩

set_option maxHeartbeats 8000000 in
theorem law_back (so t c a b v : Int) (w : World) (hs : 0 ≤ so) (hs' : so < 4294967296) (ht : 0 ≤ t) (ht' : t < 18446744073709551616) (hc : 0 ≤ c) (hc' : c < 18446744073709551616) (hv : 0 ≤ v) (hv' : v < 4294967296)
    (i k : Nat) (hi : i < 5) (hk : k < 5) (ea : (IntKind.u64.wrap a).tmod 5 = (i : Int)) (eb : (IntKind.u64.wrap b).tmod 5 = (k : Int)) :
    Calls Try.prog 5 #[.agg #[.int .u32 so, .int .u64 t, .int .u64 c], .agg #[.int .i64 a, .int .i64 b], .int .u32 v] w fun e w' => e = .returned (.bool true) ∧ Below w.heap.size w w' := by
  have i64i : IntKind.i64.wrap (i : Int) = (i : Int) := IntWalk.i64_in _ (by omega)
  have i64k : IntKind.i64.wrap (k : Int) = (k : Int) := IntWalk.i64_in _ (by omega)
  have hi0 : (0 : Int) ≤ (i : Int) := by omega
  have hi5 : (i : Int) < 5 := by omega
  have hk0 : (0 : Int) ≤ (k : Int) := by omega
  have hk5 : (k : Int) < 5 := by omega
  go_enter Try.func5, Try.ntmps5
  go_wp2_with fail
  go_quiet (fail)
  go_wp2_with fail
  generalize hr : w.heap.size + 1 + 1 = r
  generalize hW1 : ((w.alloc (Obj.cells #[Value.int IntKind.u32 so, Value.int IntKind.u64 t, Value.int IntKind.u64 c] 25)).alloc (Obj.cells #[Value.int IntKind.i64 a, Value.int IntKind.i64 b] 36)) = W1
  have hr1 : W1.heap.size = r := by rw [← hW1, ← hr]; simp
  have hb1 : Below w.heap.size w W1 := by rw [← hW1]; exact b_alloc (b_alloc (Below.refl _ _) _) _
  have ci := reg_cell W1 i hi
  have ck := reg_cell W1 k hk
  rw [hr1] at ci ck
  have hb2 := b_alloc hb1 (Obj.cells #[Value.int IntKind.u32 16384, Value.int IntKind.u32 16388, Value.int IntKind.u32 49144, Value.int IntKind.u32 49148, Value.int IntKind.u32 0] 22)
  have hs2 : (W1.alloc (Obj.cells #[Value.int IntKind.u32 16384, Value.int IntKind.u32 16388, Value.int IntKind.u32 49144, Value.int IntKind.u32 49148, Value.int IntKind.u32 0] 22)).heap.size = r + 1 := by simp [hr1]
  generalize W1.alloc (Obj.cells #[Value.int IntKind.u32 16384, Value.int IntKind.u32 16388, Value.int IntKind.u32 49144, Value.int IntKind.u32 49148, Value.int IntKind.u32 0] 22) = W2 at ci ck hb2 hs2 ⊢
  have hd : (W2.drewN nq).heap.size = r + 1 := hs2
  have hb3 := b_alloc (b_drewN hb2 nq) (Obj.cells #[Value.int IntKind.u32 so, Value.int IntKind.u64 t, Value.int IntKind.u64 c] 26)
  have x0 := cell_new (W2.drewN nq) #[Value.int IntKind.u32 so, Value.int IntKind.u64 t, Value.int IntKind.u64 c] 26 0 _ rfl
  have x1 := cell_new (W2.drewN nq) #[Value.int IntKind.u32 so, Value.int IntKind.u64 t, Value.int IntKind.u64 c] 26 1 _ rfl
  have x2 := cell_new (W2.drewN nq) #[Value.int IntKind.u32 so, Value.int IntKind.u64 t, Value.int IntKind.u64 c] 26 2 _ rfl
  rw [hd] at x0 x1 x2
  have ci := cell_old (w := W2.drewN nq) ci (Obj.cells #[Value.int IntKind.u32 so, Value.int IntKind.u64 t, Value.int IntKind.u64 c] 26)
  have ck := cell_old (w := W2.drewN nq) ck (Obj.cells #[Value.int IntKind.u32 so, Value.int IntKind.u64 t, Value.int IntKind.u64 c] 26)
  generalize (W2.drewN nq).alloc (Obj.cells #[Value.int IntKind.u32 so, Value.int IntKind.u64 t, Value.int IntKind.u64 c] 26) = W at ci ck hb3 x0 x1 x2 ⊢
  have hH := (⟨x0, x1, x2, ci, ck⟩ : _ ∧ _ ∧ _ ∧ _ ∧ _)
  clear x0 x1 x2
  have win := w_in i hi so t c v hs hs' ht ht' hc hc' hv hv'
  have bsame := Lib.hid (back_same i hi so t c v ht ht' hc hc' hv hv')
  have bother := Lib.hid (fun hik => back_other i k hi hk hik so t c v ht ht' hc hc' hv hv')
  go_upto_region 4 with (fail)
  go_cut [11, 12] (fun s11 s12 wx => ∃ g : Nat, s11 = .pointer (some ⟨g, 0, none⟩) ∧ s12 = .nilIface ∧ Below w.heap.size w wx ∧ (wx.cell? ⟨r + 1, 0, none⟩ = some (.int .u32 so) ∧ wx.cell? ⟨r + 1, 1, none⟩ = some (.int .u64 t) ∧ wx.cell? ⟨r + 1, 2, none⟩ = some (.int .u64 c) ∧ wx.cell? ⟨r, i, none⟩ = some (.int .u32 (regZ i)) ∧ wx.cell? ⟨r, k, none⟩ = some (.int .u32 (regZ k))) ∧ (wx.cell? ⟨g, 0, none⟩ = some (.int .u32 (wS so v i)) ∧ wx.cell? ⟨g, 1, none⟩ = some (.int .u64 (wT t v i)) ∧ wx.cell? ⟨g, 2, none⟩ = some (.int .u64 (wC c v i))))
  case first =>
    go_region_held3 (fun w' => w'.cell? ⟨r + 1, 0, none⟩ = some (.int .u32 so) ∧ w'.cell? ⟨r + 1, 1, none⟩ = some (.int .u64 t) ∧ w'.cell? ⟨r + 1, 2, none⟩ = some (.int .u64 c) ∧ w'.cell? ⟨r, i, none⟩ = some (.int .u32 (regZ i)) ∧ w'.cell? ⟨r, k, none⟩ = some (.int .u32 (regZ k))) ((first | exact hH | exact keep5 (by assumption) hb13 | exact keep5 (by assumption) (b_alloc (Below.refl _ _) _) | (refine keep5 hH ?_; repeat (first | exact Below.refl _ _ | refine b_alloc ?_ _ | refine b_set ?_ (Nat.le_refl _) _ | refine b_then ?_ hb13 | refine b_drew ?_)) | (trace_state; fail))) (first | (go_at_call 13; refine (write_reg_new i hi so t c v W.drew _ _ _ _ hs hs' ht ht' hc hc' hv hv').mono ?_; rintro e w' ⟨rfl, hb13, ⟨y0, y1, y2⟩, ⟨z0, z1, z2⟩, zl⟩; have y0 : w'.cell? ⟨W.heap.size, 0, none⟩ = _ := y0; have y1 : w'.cell? ⟨W.heap.size, 1, none⟩ = _ := y1; have y2 : w'.cell? ⟨W.heap.size, 2, none⟩ = _ := y2; have z0 : w'.frozen? ⟨W.heap.size, 0, none⟩ = _ := z0; have z1 : w'.frozen? ⟨W.heap.size, 1, none⟩ = _ := z1; have z2 : w'.frozen? ⟨W.heap.size, 2, none⟩ = _ := z2; have zl : W.heap.size < w'.heap.size := zl) | (go_at_call 13; refine (write_reg i hi so t c v _ hs hs' ht ht' hc hc' hv hv').mono ?_; rintro e w' ⟨rfl, hb13⟩) | fail)
    · go_wp2_with fail
      go_meet
      refine ⟨w'.heap.size, rfl, rfl, ?_, keep5 hH ?_, cell_new w' _ _ 0 _ rfl, cell_new w' _ _ 1 _ rfl, cell_new w' _ _ 2 _ rfl⟩
      · exact b_alloc (b_then (b_drew hb3) hb13) _
      · exact b_alloc (b_then (b_drew (Below.refl _ _)) hb13) _
    · go_wp2_with fail
      go_meet
      have hB := (((Blk.new W.drew #[Value.int IntKind.u32 0, Value.int IntKind.u64 0, Value.int IntKind.u64 0] 26).keep hb13).set 0 (Value.int IntKind.u32 (wS so v i))).set 1 (Value.int IntKind.u64 (wT t v i))
      have hB := hB.set 2 (Value.int IntKind.u64 (wC c v i))
      refine ⟨W.heap.size, rfl, rfl, ?_, keep5 hH ?_, hB.cell 0 rfl, hB.cell 1 rfl, hB.cell 2 rfl⟩
      · exact b_set (b_set (b_set (b_then (b_alloc (b_drew hb3) _) hb13) hb3.size _) hb3.size _) hb3.size _
      · exact b_set (b_set (b_set (b_then (b_alloc (b_drew (Below.refl _ _)) _) hb13) (Nat.le_refl _) _) (Nat.le_refl _) _) (Nat.le_refl _) _
  case rest =>
    obtain ⟨g, rfl, rfl, hbx, ⟨x0, x1, x2, ci, ck⟩, ⟨y0, y1, y2⟩⟩ := hcut
    obtain ⟨⟨ws, ws'⟩, ⟨wt, wt'⟩, ⟨wc1, wc'⟩⟩ := win
    have q1 := (⟨y0, y1, y2, ci⟩ : _ ∧ _ ∧ _ ∧ _)
    have q2 := (⟨y0, y1, y2, ck⟩ : _ ∧ _ ∧ _ ∧ _)
    have q3 := (⟨x0, x1, x2, ck⟩ : _ ∧ _ ∧ _ ∧ _)
    clear x0 x1 x2 y0 y1 y2 ci ck
    go_wp2_with fail
    go_region_held3 (fun w' => w'.cell? ⟨g, 0, none⟩ = some (.int .u32 (wS so v i)) ∧ w'.cell? ⟨g, 1, none⟩ = some (.int .u64 (wT t v i)) ∧ w'.cell? ⟨g, 2, none⟩ = some (.int .u64 (wC c v i)) ∧ w'.cell? ⟨r, i, none⟩ = some (.int .u32 (regZ i))) ((first | exact q1 | exact keep4 (by assumption) hb5)) (first | (go_at_call 14; refine (read_reg i hi _ _ _ _ ws ws' wt wt' wc1 wc').mono ?_; rintro e w5 ⟨rfl, hb5⟩) | fail)
    have q2 := keep4 q2 (b_then (b_drew (Below.refl _ _)) hb5)
    have q3 := keep4 q3 (b_then (b_drew (Below.refl _ _)) hb5)
    have hbx := b_then (b_drew hbx) hb5
    clear hb5
    go_wp2_with fail
    go_region_held3 (fun w' => w'.cell? ⟨g, 0, none⟩ = some (.int .u32 (wS so v i)) ∧ w'.cell? ⟨g, 1, none⟩ = some (.int .u64 (wT t v i)) ∧ w'.cell? ⟨g, 2, none⟩ = some (.int .u64 (wC c v i)) ∧ w'.cell? ⟨r, k, none⟩ = some (.int .u32 (regZ k))) ((first | exact q2 | exact keep4 (by assumption) hb6)) (first | (go_at_call 14; refine (read_reg k hk _ _ _ _ ws ws' wt wt' wc1 wc').mono ?_; rintro e w6 ⟨rfl, hb6⟩) | fail)
    have q3 := keep4 q3 (b_then (b_drew (Below.refl _ _)) hb6)
    have hbx := b_then (b_drew hbx) hb6
    clear hb6
    go_wp2_with fail
    go_region_held3 (fun w' => w'.cell? ⟨r + 1, 0, none⟩ = some (.int .u32 so) ∧ w'.cell? ⟨r + 1, 1, none⟩ = some (.int .u64 t) ∧ w'.cell? ⟨r + 1, 2, none⟩ = some (.int .u64 c) ∧ w'.cell? ⟨r, k, none⟩ = some (.int .u32 (regZ k))) ((first | exact q3 | exact keep4 (by assumption) hb7)) (first | (go_at_call 14; refine (read_reg k hk _ _ _ _ hs hs' ht ht' hc hc').mono ?_; rintro e w7 ⟨rfl, hb7⟩) | fail)
    have hbx := b_then (b_drew hbx) hb7
    clear hb7
    have cm := mask_cell w7 i hi
    rw [bsame.out]
    by_cases hik : i = k
    · subst hik
      go_wp2_with (go_at_call 7; refine (sure_any _).mono ?_; rintro e w8 ⟨rfl, hb8⟩)
      go_ret
      exact ⟨rfl, b_then (b_alloc hbx _) hb8⟩
    · rw [bother.out hik]
      go_wp2_with (go_at_call 7; refine (sure_any _).mono ?_; rintro e w8 ⟨rfl, hb8⟩)
      go_ret
      exact ⟨rfl, b_then (b_alloc hbx _) hb8⟩
theorem five_of (a : Int) : ∃ i : Nat, i < 5 ∧ (IntKind.u64.wrap a).tmod 5 = (i : Int) := by
  have h := wrap_u64_nonneg a
  refine ⟨((IntKind.u64.wrap a).tmod 5).toNat, ?_, ?_⟩ <;> rw [Int.tmod_eq_emod_of_nonneg h] <;> omega
theorem law_back' (so t c a b v : Int) (w : World) (hs : 0 ≤ so) (hs' : so < 4294967296) (ht : 0 ≤ t) (ht' : t < 18446744073709551616) (hc : 0 ≤ c) (hc' : c < 18446744073709551616) (hv : 0 ≤ v) (hv' : v < 4294967296) :
    Calls Try.prog 5 #[.agg #[.int .u32 so, .int .u64 t, .int .u64 c], .agg #[.int .i64 a, .int .i64 b], .int .u32 v] w fun e w' => e = .returned (.bool true) ∧ Below w.heap.size w w' := by
  obtain ⟨i, hi, ea⟩ := five_of a
  obtain ⟨k, hk, eb⟩ := five_of b
  exact law_back so t c a b v w hs hs' ht ht' hc hc' hv hv' i k hi hk ea eb
end Go.Proofs.Ytbmfcaobhgeogaa
