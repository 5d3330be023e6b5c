import Derived.Test.YtbmfcaobhgeogaaProg
import Derived.WalkKit
import Derived.WalkSpells
import Derived.WalkLawsBesides
import Derived.Deep.RegionHeld3
import Derived.Below
import Derived.KernelRfl
import Derived.Laws.BitsAllLaws
namespace Go.Proofs.Ytbmfcaobhgeogaa
open Go.RowKit
set_option linter.unusedVariables false
set_option linter.unusedSimpArgs false

theorem ret_int {k : IntKind} {a b : Int} (h : a = b) : Ending.returned (.int k a) = .returned (.int k b) := by rw [h]
theorem bcell {W w1 : World} (hb : Below W.heap.size W w1) : (∀ b o, b < W.heap.size → w1.cell? ⟨b, o, none⟩ = W.cell? ⟨b, o, none⟩) ∧ (∀ b o, b < W.heap.size → w1.frozen? ⟨b, o, none⟩ = W.frozen? ⟨b, o, none⟩) :=
  ⟨fun b o h => hb.cell (p := ⟨b, o, none⟩) h, fun b o h => hb.frozen (p := ⟨b, o, none⟩) h⟩

theorem b_alloc {w W : World} (h : Below w.heap.size w W) (o : Obj) : Below w.heap.size w (W.alloc o) := h.alloc h.size o
theorem b_drew {B : Nat} {w W : World} (h : Below B w W) : Below B w W.drew := h.drew
theorem b_then {w W w1 : World} (h : Below w.heap.size w W) (k : Below W.heap.size W w1) : Below w.heap.size w w1 := h.trans (k.mono h.size)

def nextZ (t c : Int) : Int := if t < c then c - t else 0
def linesZ (so t c : Int) : Int := so % 2 * 8 + (if c ≤ t then 128 else 0)

theorem and1_u32 (x : Int) (h0 : 0 ≤ x) (h1 : x < 4294967296) : bits .and .u32 x 1 = x % 2 := by
  have := u32_and x 1 h0 h1 (by decide) (by decide)
  rw [this, show (1 : Int).toNat = 1 from rfl, nat_mask1]
  omega

theorem lines_step (so : Int) (h0 : 0 ≤ so) (h1 : so < 4294967296) : bits .and .u32 so 1 * 8 % 4294967296 = so % 2 * 8 := by
  rw [and1_u32 so h0 h1]; omega
theorem lines_step2 (so : Int) (h0 : 0 ≤ so) (h1 : so < 4294967296) : bits .or .u32 (bits .and .u32 so 1 * 8 % 4294967296) 128 = so % 2 * 8 + 128 := by
  rw [lines_step so h0 h1]
  have : so % 2 = 0 ∨ so % 2 = 1 := by omega
  rcases this with h | h <;> rw [h] <;> rfl

theorem next_any (so t c : Int) (w : World) (ht : 0 ≤ t) (ht' : t < 18446744073709551616) (hc : 0 ≤ c) (hc' : c < 18446744073709551616) :
    Calls Try.prog 9 #[.agg #[.int .u32 so, .int .u64 t, .int .u64 c]] w fun e w' => e = .returned (.int .u64 (nextZ t c)) ∧ Below w.heap.size w w' := by
  go_enter Try.func9, Try.ntmps9
  go_wp2
  all_goals
    go_ret
    exact ⟨ret_int (by simp [nextZ]; omega), (Below.refl _ _).alloc (Nat.le_refl _) _⟩

theorem rnext_any (so t c : Int) (w : World) (ht : 0 ≤ t) (ht' : t < 18446744073709551616) (hc : 0 ≤ c) (hc' : c < 18446744073709551616) :
    Calls Try.prog 12 #[.agg #[.int .u32 so, .int .u64 t, .int .u64 c]] w fun e w' => e = .returned (.int .u64 (nextZ t c)) ∧ Below w.heap.size w w' := by
  go_enter Try.func12, Try.ntmps12
  go_wp2
  all_goals
    go_ret
    exact ⟨ret_int (by simp [nextZ]; omega), (Below.refl _ _).alloc (Nat.le_refl _) _⟩

theorem rlines_any (so t c : Int) (w : World) (hs : 0 ≤ so) (hs' : so < 4294967296) (ht : 0 ≤ t) (ht' : t < 18446744073709551616) (hc : 0 ≤ c) (hc' : c < 18446744073709551616) :
    Calls Try.prog 11 #[.agg #[.int .u32 so, .int .u64 t, .int .u64 c]] w fun e w' => e = .returned (.int .u32 (linesZ so t c)) ∧ Below w.heap.size w w' := by
  go_enter Try.func11, Try.ntmps11
  go_wp2
  all_goals
    go_ret
    simp only [beq_iff_eq, beq_eq_false_iff_ne, ne_eq] at *
    exact ⟨ret_int (by simp [linesZ]; omega), (Below.refl _ _).alloc (Nat.le_refl _) _⟩

theorem nextZ_zero (t c : Int) : (nextZ t c == 0) = decide (c ≤ t) := by
  unfold nextZ
  by_cases h : t < c
  · rw [if_pos h, Bool.eq_iff_iff]; simp; omega
  · rw [if_neg h, Bool.eq_iff_iff]; simp; omega

theorem lines_any (so t c : Int) (w : World) (hs : 0 ≤ so) (hs' : so < 4294967296) (ht : 0 ≤ t) (ht' : t < 18446744073709551616) (hc : 0 ≤ c) (hc' : c < 18446744073709551616) :
    Calls Try.prog 8 #[.agg #[.int .u32 so, .int .u64 t, .int .u64 c]] w fun e w' => e = .returned (.int .u32 (linesZ so t c)) ∧ Below w.heap.size w w' := by
  go_enter Try.func8, Try.ntmps8
  go_wp2_with (go_at_call 9; refine (next_any _ _ _ _ ht ht' hc hc').mono ?_; rintro e w' ⟨rfl, hb⟩)
  · have h : (nextZ t c == 0) = true := by assumption
    rw [nextZ_zero] at h
    go_ret
    exact ⟨ret_int ((lines_step2 so hs hs').trans (by simp at h; simp [linesZ, h])), ((Below.refl _ _).alloc (Nat.le_refl _) _).trans (hb.mono (by simp))⟩
  · have h : (nextZ t c == 0) = false := by assumption
    rw [nextZ_zero] at h
    go_ret
    exact ⟨ret_int ((lines_step so hs hs').trans (by simp at h; simp [linesZ]; omega)), ((Below.refl _ _).alloc (Nat.le_refl _) _).trans (hb.mono (by simp))⟩

def tickZ (t : Int) : Int := (t + 1) % 18446744073709551616
theorem tickZ_in (t : Int) : 0 ≤ tickZ t ∧ tickZ t < 18446744073709551616 := by unfold tickZ; omega
theorem tickZ_wrap (t : Int) : IntKind.u64.wrap (t + 1) = tickZ t := IntKind.wrap_u64 _

theorem tick_any (so t c : Int) (w : World) (ht : 0 ≤ t) (ht' : t < 18446744073709551616) :
    Calls Try.prog 10 #[.agg #[.int .u32 so, .int .u64 t, .int .u64 c]] w fun e w' => e = .returned (.agg #[.int .u32 so, .int .u64 (tickZ t), .int .u64 c]) ∧ Below w.heap.size w w' := by
  go_enter Try.func10, Try.ntmps10
  go_wp2
  simp [bodyPost, results, Try.results10, go_sem, tickZ_wrap]
  exact ((Below.refl _ _).alloc (Nat.le_refl _) _).alloc (by simp) _

set_option maxHeartbeats 1000000 in
theorem sure_any (w : World) : Calls Try.prog 7 #[] w fun e w' => e = .returned (.bool true) ∧ Below w.heap.size w w' := by
  have l1 : (linesZ 0 3 5 == 0) = true := by decide
  have l2 : (linesZ 0 (tickZ (tickZ 3)) 5 == 128) = true := by decide
  have h3 := tickZ_in (tickZ 3)
  have h4 := tickZ_in 3
  go_enter Try.func7, Try.ntmps7
  go_wp2_with (first | (go_at_call 8; refine (lines_any _ _ _ _ (by omega) (by omega) (by omega) (by omega) (by omega) (by omega)).mono ?_; rintro e w' ⟨rfl, hb⟩; obtain ⟨hc, hf⟩ := bcell hb; have hz := hb.size) | (go_at_call 10; refine (tick_any _ _ _ _ (by omega) (by omega)).mono ?_; rintro e w' ⟨rfl, hb⟩; have hz := hb.size))
  go_ret
  refine ⟨rfl, ?_⟩
  repeat (first | exact Below.refl _ _ | refine b_alloc ?_ _ | refine b_then ?_ (by assumption))

def ofState (so t c : Int) : Value := .agg #[.int .u32 so, .int .u64 t, .int .u64 c]

theorem cell_new (w : World) (cs : Array Value) (t : TypeId) (i : Nat) (v : Value) (h : cs[i]? = some v) : (w.alloc (.cells cs t)).cell? ⟨w.heap.size, i, none⟩ = some v := by
  have hb := heap_alloc_new w (.cells cs t)
  rw [← h]
  exact cell_of_row _ _ i cs t (0, 0) hb
theorem cell_old {w : World} {a : Addr} {v : Value} (h : w.cell? a = some v) (o : Obj) : (w.alloc o).cell? a = some v :=
  (World.cell?_alloc_lt _ _ _ (World.block_lt_of_cell? w a h)).trans h

theorem cell_keep {w w1 : World} {a : Addr} {v : Value} (h : w.cell? a = some v) (hb : Below w.heap.size w w1) : w1.cell? a = some v := (hb.cell (World.block_lt_of_cell? w a h)).trans h
theorem size_keep {w w1 : World} {b : Nat} (h : b < w.heap.size) (hb : Below w.heap.size w w1) : b < w1.heap.size := Nat.lt_of_lt_of_le h hb.size
theorem cell_drew {w : World} {a : Addr} {v : Value} (h : w.cell? a = some v) : w.drew.cell? a = some v := h
theorem size_drew {w : World} {b : Nat} (h : b < w.heap.size) : b < w.drew.heap.size := h
theorem three_blocks (w : World) (a b c a' b' c' a'' b'' c'' : Value) (t t' t'' : TypeId) (W : World) (hW : ((w.alloc (.cells #[a, b, c] t)).alloc (.cells #[a', b', c'] t')).alloc (.cells #[a'', b'', c''] t'') = W) :
    Below w.heap.size w W ∧ w.heap.size < W.heap.size ∧ w.heap.size + 1 < W.heap.size ∧ w.heap.size + 1 + 1 < W.heap.size ∧
    (W.cell? ⟨w.heap.size, 0, none⟩ = some a ∧ W.cell? ⟨w.heap.size, 1, none⟩ = some b ∧ W.cell? ⟨w.heap.size, 2, none⟩ = some c) ∧
    (W.cell? ⟨w.heap.size + 1, 0, none⟩ = some a' ∧ W.cell? ⟨w.heap.size + 1, 1, none⟩ = some b' ∧ W.cell? ⟨w.heap.size + 1, 2, none⟩ = some c') ∧
    (W.cell? ⟨w.heap.size + 1 + 1, 0, none⟩ = some a'' ∧ W.cell? ⟨w.heap.size + 1 + 1, 1, none⟩ = some b'' ∧ W.cell? ⟨w.heap.size + 1 + 1, 2, none⟩ = some c'') := by
  subst hW
  have e1 : (w.alloc (.cells #[a, b, c] t)).heap.size = w.heap.size + 1 := by simp
  have e2 : ((w.alloc (.cells #[a, b, c] t)).alloc (.cells #[a', b', c'] t')).heap.size = w.heap.size + 1 + 1 := by simp
  have e3 : (((w.alloc (.cells #[a, b, c] t)).alloc (.cells #[a', b', c'] t')).alloc (.cells #[a'', b'', c''] t'')).heap.size = w.heap.size + 1 + 1 + 1 := by simp
  refine ⟨b_alloc (b_alloc (b_alloc (Below.refl _ _) _) _) _, by omega, by omega, by omega, ⟨?_, ?_, ?_⟩, ⟨?_, ?_, ?_⟩, ⟨?_, ?_, ?_⟩⟩
  · exact cell_old (cell_old (cell_new _ _ _ _ _ rfl) _) _
  · exact cell_old (cell_old (cell_new _ _ _ _ _ rfl) _) _
  · exact cell_old (cell_old (cell_new _ _ _ _ _ rfl) _) _
  · rw [← e1]; exact cell_old (cell_new _ _ _ _ _ rfl) _
  · rw [← e1]; exact cell_old (cell_new _ _ _ _ _ rfl) _
  · rw [← e1]; exact cell_old (cell_new _ _ _ _ _ rfl) _
  · rw [← e2]; exact cell_new _ _ _ _ _ rfl
  · rw [← e2]; exact cell_new _ _ _ _ _ rfl
  · rw [← e2]; exact cell_new _ _ _ _ _ rfl

set_option maxHeartbeats 4000000 in
theorem law_lines (so t c : Int) (w : World) (hs : 0 ≤ so) (hs' : so < 4294967296) (ht : 0 ≤ t) (ht' : t < 18446744073709551616) (hc : 0 ≤ c) (hc' : c < 18446744073709551616) :
    Calls Try.prog 4 #[.agg #[.int .u32 so, .int .u64 t, .int .u64 c]] w fun e w' => e = .returned (.bool true) ∧ Below w.heap.size w w' := by
  have h3 := tickZ_in t
  go_enter Try.func4, Try.ntmps4
  go_wp2_with fail
  simp only [tickZ_wrap]
  have F := three_blocks w (.int .u32 so) (.int .u64 t) (.int .u64 c) (.int .u32 so) (.int .u64 t) (.int .u64 c) (.int .u32 so) (.int .u64 (tickZ t)) (.int .u64 c) 25 26 25 _ rfl
  generalize (((w.alloc (Obj.cells #[Value.int IntKind.u32 so, Value.int IntKind.u64 t, Value.int IntKind.u64 c] 25)).alloc (Obj.cells #[Value.int IntKind.u32 so, Value.int IntKind.u64 t, Value.int IntKind.u64 c] 26)).alloc (Obj.cells #[Value.int IntKind.u32 so, Value.int IntKind.u64 (tickZ t), Value.int IntKind.u64 c] 25)) = W at F ⊢
  obtain ⟨hB, hF⟩ := F
  generalize w.heap.size + 1 + 1 = b2 at hF ⊢
  generalize w.heap.size + 1 = b1 at hF ⊢
  obtain ⟨b0, hb0⟩ : ∃ b, w.heap.size = b := ⟨_, rfl⟩
  rw [hb0] at hF
  simp only [hb0]
  obtain ⟨z0, z1, z2, ⟨c00, c01, c02⟩, ⟨c10, c11, c12⟩, ⟨c20, c21, c22⟩⟩ := hF
  go_region_held3 (fun w' => (b0 < w'.heap.size ∧ b1 < w'.heap.size ∧ b2 < w'.heap.size) ∧ w'.cell? ⟨b0, 0, none⟩ = some (.int .u32 so) ∧ w'.cell? ⟨b0, 1, none⟩ = some (.int .u64 t) ∧ w'.cell? ⟨b0, 2, none⟩ = some (.int .u64 c) ∧ w'.cell? ⟨b1, 0, none⟩ = some (.int .u32 so) ∧ w'.cell? ⟨b1, 1, none⟩ = some (.int .u64 t) ∧ w'.cell? ⟨b1, 2, none⟩ = some (.int .u64 c) ∧ w'.cell? ⟨b2, 0, none⟩ = some (.int .u32 so) ∧ w'.cell? ⟨b2, 1, none⟩ = some (.int .u64 (tickZ t)) ∧ w'.cell? ⟨b2, 2, none⟩ = some (.int .u64 c)) (((try go_split_ands); (repeat' apply And.intro) <;> first | exact size_keep (by assumption) hb | exact cell_keep (by assumption) hb | exact size_drew (by assumption) | exact cell_drew (by assumption))) (first | (go_at_call 8; refine (lines_any _ _ _ _ (by omega) (by omega) (by omega) (by omega) (by omega) (by omega)).mono ?_; rintro e w' ⟨rfl, hb⟩) | (go_at_call 11; refine (rlines_any _ _ _ _ (by omega) (by omega) (by omega) (by omega) (by omega) (by omega)).mono ?_; rintro e w' ⟨rfl, hb⟩) | (go_at_call 10; refine (tick_any _ _ _ _ (by omega) (by omega)).mono ?_; rintro e w' ⟨rfl, hb⟩) | (go_at_call 9; refine (next_any _ _ _ _ (by omega) (by omega) (by omega) (by omega)).mono ?_; rintro e w' ⟨rfl, hb⟩) | (go_at_call 12; refine (rnext_any _ _ _ _ (by omega) (by omega) (by omega) (by omega)).mono ?_; rintro e w' ⟨rfl, hb⟩) | (go_at_call 7; refine (sure_any _).mono ?_; rintro e w' ⟨rfl, hb⟩))
  go_wp2
  go_ret
  refine ⟨rfl, ?_⟩
  repeat (first | exact hB | exact Below.refl _ _ | refine b_drew ?_ | refine b_alloc ?_ _ | refine b_then ?_ (by assumption))
end Go.Proofs.Ytbmfcaobhgeogaa
