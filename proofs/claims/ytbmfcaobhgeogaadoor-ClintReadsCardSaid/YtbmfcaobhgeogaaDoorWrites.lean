import Derived.Test.YtbmfcaobhgeogaaDoorRegs2
import Derived.Test.YtbmfcaobhgeogaaDoorAs
import Derived.Laws.StructEq
namespace Go.Proofs.YtbmfcaobhgeogaaDoor
open Go.RowKit
set_option linter.unusedVariables false
set_option linter.unusedSimpArgs false
set_option maxRecDepth 100000

theorem kept3 {w w1 : World} {a b c : Value} {t : TypeId} (hb : Below (w.alloc (.cells #[a, b, c] t)).heap.size (w.alloc (.cells #[a, b, c] t)) w1) :
    w1.cell? ⟨w.heap.size, 0, none⟩ = some a ∧ w1.cell? ⟨w.heap.size, 1, none⟩ = some b ∧ w1.cell? ⟨w.heap.size, 2, none⟩ = some c ∧ w.heap.size < w1.heap.size := by
  have h := (Blk.new w #[a, b, c] t).keep hb
  exact ⟨h.cell 0 rfl, h.cell 1 rfl, h.cell 2 rfl, h.lt⟩
theorem old3 {w : World} {g : Nat} {a b c : Value} (h : w.cell? ⟨g, 0, none⟩ = some a ∧ w.cell? ⟨g, 1, none⟩ = some b ∧ w.cell? ⟨g, 2, none⟩ = some c) (o : Obj) {w1 : World} (hb : Below (w.alloc o).heap.size (w.alloc o) w1) :
    w1.cell? ⟨g, 0, none⟩ = some a ∧ w1.cell? ⟨g, 1, none⟩ = some b ∧ w1.cell? ⟨g, 2, none⟩ = some c :=
  ⟨cell_keep (cell_old h.1 o) hb, cell_keep (cell_old h.2.1 o) hb, cell_keep (cell_old h.2.2 o) hb⟩

set_option maxHeartbeats 8000000 in
theorem law_writes_reg (i : Nat) (hi : i < 5) (so t c v : Int) (w : World) (hs : 0 ≤ so) (hs' : so < 4294967296) (ht : 0 ≤ t) (ht' : t < 18446744073709551616) (hc : 0 ≤ c) (hc' : c < 18446744073709551616) (hv : 0 ≤ v) (hv' : v < 4294967296) (hE : ErrW w) :
    Calls Tryd.prog 3 #[.agg #[.int .u32 so, .int .u64 t, .int .u64 c], .int .u32 (regZ i), .int .u32 v] w fun e w' => e = .returned (.bool true) ∧ Below w.heap.size w w' := by
  go_enter Tryd.func3, Tryd.ntmps3
  go_wp2_with (first | (go_at_call 9; refine (write_reg i hi so t c v _ hs hs' ht ht' hc hc' hv hv').mono ?_; rintro e w2 ⟨rfl, hb9⟩; obtain ⟨d0, d1, d2, dl⟩ := kept3 hb9) | (go_at_call 10; refine (rwrite_reg i hi so t c v _ hs hs' ht ht' hc hc' hv hv').mono ?_; rintro e w3 ⟨rfl, hb10⟩; obtain ⟨q0, q1, q2, ql⟩ := kept3 hb10; have hbw := b_then (b_alloc (b_then (b_alloc (Below.refl _ _) _) hb9) _) hb10; have hE3 := hE.keep (b_alloc hbw (Obj.cells #[Value.int IntKind.u32 (wS so v i), Value.int IntKind.u64 (wT t v i), Value.int IntKind.u64 (wC c v i)] 25))) | (go_at_call 11; refine (num11_any .nilIface 0 _ .none hE3).mono ?_; rintro e w4 ⟨rfl, hb11⟩) | (go_at_call 12; refine (sure_any _).mono ?_; rintro e w5 ⟨rfl, hb12⟩))
  go_ret
  exact ⟨rfl, b_then (b_then (b_alloc hbw _) hb11) hb12⟩
set_option maxHeartbeats 8000000 in
theorem law_writes_none (so t c at_ v : Int) (n0 : (at_ == 16384) = false) (n1 : (at_ == 16388) = false) (n2 : (at_ == 49144) = false) (n3 : (at_ == 49148) = false) (n4 : (at_ == 0) = false) (w : World) (hs : 0 ≤ so) (hs' : so < 4294967296) (ht : 0 ≤ t) (ht' : t < 18446744073709551616) (hc : 0 ≤ c) (hc' : c < 18446744073709551616) (hv : 0 ≤ v) (hv' : v < 4294967296) (hE : ErrW w) :
    Calls Tryd.prog 3 #[.agg #[.int .u32 so, .int .u64 t, .int .u64 c], .int .u32 at_, .int .u32 v] w fun e w' => e = .returned (.bool true) ∧ Below w.heap.size w w' := by
  go_enter Tryd.func3, Tryd.ntmps3
  go_wp2_with (first | (go_at_call 9; refine (write_none so t c at_ v _ hs hs' ht ht' hc hc' n4 n0 n1 n2 n3).mono ?_; rintro e w2 ⟨rfl, hb9⟩; obtain ⟨d0, d1, d2, dl⟩ := kept3 hb9) | (go_at_call 10; refine (rwrite_none so t c at_ v _ hs hs' ht ht' hc hc' n0 n1 n2 n3 n4).mono ?_; rintro e w3 ⟨rfl, hb10⟩; obtain ⟨q0, q1, q2, ql⟩ := kept3 hb10; have hbw := b_then (b_alloc (b_then (b_alloc (Below.refl _ _) _) hb9) _) hb10; have hE3 := hE.keep (b_alloc hbw (Obj.cells #[Value.int IntKind.u32 0, Value.int IntKind.u64 0, Value.int IntKind.u64 0] 25))) | (go_at_call 11; refine (num11_any _ 20 _ (.num 20) hE3).mono ?_; rintro e w4 ⟨rfl, hb11⟩) | (go_at_call 12; refine (sure_any _).mono ?_; rintro e w5 ⟨rfl, hb12⟩))
  go_ret
  exact ⟨rfl, b_then (b_then (b_alloc hbw _) hb11) hb12⟩
theorem reg_or (at_ : Int) : (∃ i : Nat, i < 5 ∧ at_ = regZ i) ∨ ((at_ == 16384) = false ∧ (at_ == 16388) = false ∧ (at_ == 49144) = false ∧ (at_ == 49148) = false ∧ (at_ == 0) = false) := by
  by_cases h0 : at_ = 16384
  · exact .inl ⟨0, by omega, h0⟩
  by_cases h1 : at_ = 16388
  · exact .inl ⟨1, by omega, h1⟩
  by_cases h2 : at_ = 49144
  · exact .inl ⟨2, by omega, h2⟩
  by_cases h3 : at_ = 49148
  · exact .inl ⟨3, by omega, h3⟩
  by_cases h4 : at_ = 0
  · exact .inl ⟨4, by omega, h4⟩
  exact .inr (by simp [h0, h1, h2, h3, h4])
theorem law_writes (so t c at_ v : Int) (w : World) (hs : 0 ≤ so) (hs' : so < 4294967296) (ht : 0 ≤ t) (ht' : t < 18446744073709551616) (hc : 0 ≤ c) (hc' : c < 18446744073709551616) (hv : 0 ≤ v) (hv' : v < 4294967296) (hE : ErrW w) :
    Calls Tryd.prog 3 #[.agg #[.int .u32 so, .int .u64 t, .int .u64 c], .int .u32 at_, .int .u32 v] w fun e w' => e = .returned (.bool true) ∧ Below w.heap.size w w' := by
  rcases reg_or at_ with ⟨i, hi, rfl⟩ | ⟨n0, n1, n2, n3, n4⟩
  · exact law_writes_reg i hi so t c v w hs hs' ht ht' hc hc' hv hv' hE
  · exact law_writes_none so t c at_ v n0 n1 n2 n3 n4 w hs hs' ht ht' hc hc' hv hv' hE
end Go.Proofs.YtbmfcaobhgeogaaDoor
