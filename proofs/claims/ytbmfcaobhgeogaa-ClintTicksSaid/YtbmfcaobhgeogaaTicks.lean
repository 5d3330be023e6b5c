import Derived.Test.YtbmfcaobhgeogaaBlk
import Derived.Lib.Hide
namespace Go.Proofs.Ytbmfcaobhgeogaa
open Go.RowKit
set_option linter.unusedVariables false
set_option linter.unusedSimpArgs false

theorem b_set {w W : World} (h : Below w.heap.size w W) {p : Addr} (hp : w.heap.size ≤ p.block) (u : Value) : Below w.heap.size w (W.setCell p u) := h.setCell hp u

theorem lines_and (so t c : Int) (h0 : 0 ≤ so) : bits .and .u32 (linesZ so t c) 128 = if c ≤ t then 128 else 0 := by
  unfold linesZ
  have : so % 2 = 0 ∨ so % 2 = 1 := by omega
  rcases this with h | h <;> rw [h] <;> by_cases hc : c ≤ t <;> simp only [hc, if_true, if_false] <;> rfl

set_option maxRecDepth 100000 in
set_option maxHeartbeats 4000000 in
theorem law_ticks (so t c aw : Int) (w : World) (hs : 0 ≤ so) (hs' : so < 4294967296) (ht : 0 ≤ t) (ht' : t < 18446744073709551616) (hc : 0 ≤ c) (hc' : c < 18446744073709551616) :
    Calls Try.prog 3 #[.agg #[.int .u32 so, .int .u64 t, .int .u64 c], .int .i64 aw] w fun e w' => e = .returned (.bool true) ∧ Below w.heap.size w w' := by
  obtain ⟨n, hn⟩ : ∃ n, (IntKind.u64.wrap aw).tmod 60 = n := ⟨_, rfl⟩
  have hwr : 0 ≤ IntKind.u64.wrap aw := wrap_u64_nonneg aw
  have hn0 : 0 ≤ n ∧ n < 60 := by
    rw [← hn, Int.tmod_eq_emod_of_nonneg hwr]; omega
  clear hwr
  by_cases h1 : t + n + 60 < 18446744073709551616
  · obtain ⟨hn1, hn2⟩ := hn0
    go_enter Try.func3, Try.ntmps3
    go_wp2_with fail
    go_loopw [7] (fun i wr => ∃ k : Nat, k ≤ 60 ∧ i = .int .u64 k ∧ Blk wr (w.heap.size + 1) #[.int .u32 so, .int .u64 (t + k), .int .u64 (t + n)] 26 ∧ Below w.heap.size w wr) (fun i _ => 60 - (intOf i).toNat)
    case atStart =>
      have e1 : (w.alloc (Obj.cells #[Value.int IntKind.u32 so, Value.int IntKind.u64 t, Value.int IntKind.u64 c] 25)).heap.size = w.heap.size + 1 := by simp
      refine ⟨0, by omega, rfl, ?_, b_alloc (b_alloc (Below.refl _ _) _) _⟩
      have := Blk.new (w.alloc (Obj.cells #[Value.int IntKind.u32 so, Value.int IntKind.u64 t, Value.int IntKind.u64 c] 25)) #[.int .u32 so, .int .u64 t, .int .u64 (t + n)] 26
      rw [e1] at this
      simpa using this
    case round =>
      obtain ⟨k, hk, rfl, hB, hbel⟩ := hrel
      have hlines := lines_and so (t + k) (t + n) hs
      obtain ⟨b, hb⟩ : ∃ b, w.heap.size + 1 = b := ⟨_, rfl⟩
      rw [hb] at hB
      have hwb : w.heap.size ≤ b := by omega
      have hblt := hB.lt
      have c0 := hB.cell 0 (v := .int .u32 so) rfl
      have c1 := hB.cell 1 (v := .int .u64 (t + k)) rfl
      have c2 := hB.cell 2 (v := .int .u64 (t + n)) rfl
      have f0 := hB.free 0
      have f1 := hB.free 1
      have f2 := hB.free 2
      simp only [hb]
      by_cases hk60 : k < 60
      · have htk : tickZ (t + k) = t + k + 1 := by unfold tickZ; omega
        by_cases hkn : (k : Int) < n
        · have hl : bits .and .u32 (linesZ so (t + k) (t + n)) 128 = 0 := by rw [hlines, if_neg (by omega)]
          have hnx : nextZ (t + k) (t + n) = n - k := by unfold nextZ; rw [if_pos (by omega)]; omega
          clear hlines
          go_wp2_with (first | (go_at_call 8; refine (lines_any _ _ _ _ (by omega) (by omega) (by omega) (by omega) (by omega) (by omega)).mono ?_; rintro e w' ⟨rfl, hb8⟩; have d0 := cell_keep c0 hb8; have d1 := cell_keep c1 hb8; have d2 := cell_keep c2 hb8; have hB8 := hB.keep hb8) | (go_at_call 9; refine (next_any _ _ _ _ (by omega) (by omega) (by omega) (by omega)).mono ?_; rintro e w' ⟨rfl, hb9⟩; have d0 := cell_keep d0 hb9; have d1 := cell_keep d1 hb9; have d2 := cell_keep d2 hb9; have hB8 := hB8.keep hb9) | (go_at_call 10; refine (tick_any _ _ _ _ (by omega) (by omega)).mono ?_; rintro e w' ⟨rfl, hb10⟩; have d0 := cell_keep d0 hb10; have d1 := cell_keep d1 hb10; have d2 := cell_keep d2 hb10; have hB8 := hB8.keep hb10; have f0 := hB8.free 0; have f1 := hB8.free 1; have f2 := hB8.free 2; have hlt8 := hB8.lt))
          go_roundw
          case rel =>
            refine ⟨k + 1, by omega, by go_num, ?_, ?_⟩
            · have := (((hB8.set 0 (.int .u32 so)).set 1 (.int .u64 (t + ↑k + 1))).set 2 (.int .u64 (t + n))).alloc (Obj.cells #[Value.int IntKind.u32 so, Value.int IntKind.u64 (t + ↑k + 1), Value.int IntKind.u64 (t + n)] 26)
              have e : t + ((k + 1 : Nat) : Int) = t + k + 1 := by omega
              rw [e]
              simpa using this
            · repeat (first | exact hbel | refine b_alloc ?_ _ | refine b_set ?_ (by assumption) _ | refine b_then ?_ (by assumption))
          case measure => simp [intOf]; omega
        · have hl : bits .and .u32 (linesZ so (t + k) (t + n)) 128 = 128 := by rw [hlines, if_pos (by omega)]
          clear hlines
          by_cases hkn2 : (k : Int) = n
          · subst hkn2
            have hnx : nextZ (t + k) (t + k) = 0 := by unfold nextZ; rw [if_neg (by omega)]
            go_wp2_with (first | (go_at_call 8; refine (lines_any _ _ _ _ (by omega) (by omega) (by omega) (by omega) (by omega) (by omega)).mono ?_; rintro e w' ⟨rfl, hb8⟩; have d0 := cell_keep c0 hb8; have d1 := cell_keep c1 hb8; have d2 := cell_keep c2 hb8; have hB8 := hB.keep hb8) | (go_at_call 9; refine (next_any _ _ _ _ (by omega) (by omega) (by omega) (by omega)).mono ?_; rintro e w' ⟨rfl, hb9⟩; have d0 := cell_keep d0 hb9; have d1 := cell_keep d1 hb9; have d2 := cell_keep d2 hb9; have hB8 := hB8.keep hb9) | (go_at_call 10; refine (tick_any _ _ _ _ (by omega) (by omega)).mono ?_; rintro e w' ⟨rfl, hb10⟩; have d0 := cell_keep d0 hb10; have d1 := cell_keep d1 hb10; have d2 := cell_keep d2 hb10; have hB8 := hB8.keep hb10; have f0 := hB8.free 0; have f1 := hB8.free 1; have f2 := hB8.free 2; have hlt8 := hB8.lt))
            go_roundw
            case rel =>
              refine ⟨k + 1, by omega, by go_num, ?_, ?_⟩
              · have := (((hB8.set 0 (.int .u32 so)).set 1 (.int .u64 (t + ↑k + 1))).set 2 (.int .u64 (t + ↑k))).alloc (Obj.cells #[Value.int IntKind.u32 so, Value.int IntKind.u64 (t + ↑k + 1), Value.int IntKind.u64 (t + ↑k)] 26)
                have e : t + ((k + 1 : Nat) : Int) = t + k + 1 := by omega
                rw [e]
                simpa using this
              · repeat (first | exact hbel | refine b_alloc ?_ _ | refine b_set ?_ (by assumption) _ | refine b_then ?_ (by assumption))
            case measure => simp [intOf]; omega
          · go_wp2_with (first | (go_at_call 8; refine (lines_any _ _ _ _ (by omega) (by omega) (by omega) (by omega) (by omega) (by omega)).mono ?_; rintro e w' ⟨rfl, hb8⟩; have d0 := cell_keep c0 hb8; have d1 := cell_keep c1 hb8; have d2 := cell_keep c2 hb8; have hB8 := hB.keep hb8) | (go_at_call 9; refine (next_any _ _ _ _ (by omega) (by omega) (by omega) (by omega)).mono ?_; rintro e w' ⟨rfl, hb9⟩; have d0 := cell_keep d0 hb9; have d1 := cell_keep d1 hb9; have d2 := cell_keep d2 hb9; have hB8 := hB8.keep hb9) | (go_at_call 10; refine (tick_any _ _ _ _ (by omega) (by omega)).mono ?_; rintro e w' ⟨rfl, hb10⟩; have d0 := cell_keep d0 hb10; have d1 := cell_keep d1 hb10; have d2 := cell_keep d2 hb10; have hB8 := hB8.keep hb10; have f0 := hB8.free 0; have f1 := hB8.free 1; have f2 := hB8.free 2; have hlt8 := hB8.lt))
            go_roundw
            case rel =>
              refine ⟨k + 1, by omega, by go_num, ?_, ?_⟩
              · have := (((hB8.set 0 (.int .u32 so)).set 1 (.int .u64 (t + ↑k + 1))).set 2 (.int .u64 (t + n))).alloc (Obj.cells #[Value.int IntKind.u32 so, Value.int IntKind.u64 (t + ↑k + 1), Value.int IntKind.u64 (t + n)] 26)
                have e : t + ((k + 1 : Nat) : Int) = t + k + 1 := by omega
                rw [e]
                simpa using this
              · repeat (first | exact hbel | refine b_alloc ?_ _ | refine b_set ?_ (by assumption) _ | refine b_then ?_ (by assumption))
            case measure => simp [intOf]; omega
      · have : k = 60 := by omega
        subst this
        go_wp2_with (go_at_call 7; refine (sure_any _).mono ?_; rintro e w' ⟨rfl, hb7⟩)
        go_ret
        exact ⟨rfl, b_then hbel hb7⟩
  · obtain ⟨hn1, hn2⟩ := hn0
    obtain ⟨m, hm⟩ : ∃ m, IntKind.u64.wrap (t + n) = m := ⟨_, rfl⟩
    by_cases h2 : m < t
    · go_enter Try.func3, Try.ntmps3
      go_wp2_with (go_at_call 7; refine (sure_any _).mono ?_; rintro e w' ⟨rfl, hb7⟩)
      go_ret
      exact ⟨rfl, b_then (b_alloc (b_alloc (Below.refl _ _) _) _) hb7⟩
    · obtain ⟨q, hq⟩ : ∃ q, IntKind.u64.wrap (m + 60) = q := ⟨_, rfl⟩
      have h3 : q < m := by
        have e1 := IntKind.wrap_u64 (t + n)
        have e2 := IntKind.wrap_u64 (m + 60)
        omega
      go_enter Try.func3, Try.ntmps3
      go_wp2_with (go_at_call 7; refine (sure_any _).mono ?_; rintro e w' ⟨rfl, hb7⟩)
      go_ret
      exact ⟨rfl, b_then (b_alloc (b_alloc (Below.refl _ _) _) _) hb7⟩
end Go.Proofs.Ytbmfcaobhgeogaa
