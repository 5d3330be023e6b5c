import Derived.Test.YtbmfcaobhgeogaaDoorWrites
import Derived.Test.YtbmfcaobhgeogaaDoorQuiet
import Derived.Deep.RegionHeld3
namespace Go.Proofs.YtbmfcaobhgeogaaDoor
open Go.RowKit
set_option linter.unusedVariables false
set_option linter.unusedSimpArgs false
set_option maxRecDepth 100000

theorem keepR {w W V : World} {g : Nat} {a b c : Value} (h : w.cell? ⟨g, 0, none⟩ = some a ∧ w.cell? ⟨g, 1, none⟩ = some b ∧ w.cell? ⟨g, 2, none⟩ = some c ∧ Below V.heap.size V w) (hb : Below w.heap.size w W) :
    W.cell? ⟨g, 0, none⟩ = some a ∧ W.cell? ⟨g, 1, none⟩ = some b ∧ W.cell? ⟨g, 2, none⟩ = some c ∧ Below V.heap.size V W :=
  ⟨cell_keep h.1 hb, cell_keep h.2.1 hb, cell_keep h.2.2.1 hb, b_then h.2.2.2 hb⟩
theorem check_ok (so t c : Int) (w : World) (h : ¬ 1 < so) : Calls Tryd.prog 15 #[.agg #[.int .u32 so, .int .u64 t, .int .u64 c]] w fun e w' => e = .returned .nilIface ∧ Below w.heap.size w w' := by
  go_enter Tryd.func15, Tryd.ntmps15
  go_wp2
  go_ret
  exact ⟨rfl, b_alloc (Below.refl _ _) _⟩
theorem check_bad (so t c : Int) (w : World) (h : 1 < so) : Calls Tryd.prog 15 #[.agg #[.int .u32 so, .int .u64 t, .int .u64 c]] w fun e w' => e = .returned (.iface 81 (.int .i64 1)) ∧ Below w.heap.size w w' := by
  go_enter Tryd.func15, Tryd.ntmps15
  go_wp2
  go_ret
  exact ⟨rfl, b_alloc (Below.refl _ _) _⟩
theorem rcheck_0 (t c : Int) (w : World) : Calls Tryd.prog 16 #[.agg #[.int .u32 0, .int .u64 t, .int .u64 c]] w fun e w' => e = .returned (.int .i64 0) ∧ Below w.heap.size w w' := by
  go_enter Tryd.func16, Tryd.ntmps16
  go_wp2
  go_ret
  exact ⟨rfl, b_alloc (Below.refl _ _) _⟩
theorem rcheck_1 (t c : Int) (w : World) : Calls Tryd.prog 16 #[.agg #[.int .u32 1, .int .u64 t, .int .u64 c]] w fun e w' => e = .returned (.int .i64 0) ∧ Below w.heap.size w w' := by
  go_enter Tryd.func16, Tryd.ntmps16
  go_wp2
  go_ret
  exact ⟨rfl, b_alloc (Below.refl _ _) _⟩
theorem rcheck_bad (so t c : Int) (w : World) (h0 : (so == 0) = false) (h1 : (so == 1) = false) : Calls Tryd.prog 16 #[.agg #[.int .u32 so, .int .u64 t, .int .u64 c]] w fun e w' => e = .returned (.int .i64 1) ∧ Below w.heap.size w w' := by
  go_enter Tryd.func16, Tryd.ntmps16
  go_wp2
  go_ret
  exact ⟨rfl, b_alloc (Below.refl _ _) _⟩

/-- The worlds in which a state lies boxed. -/
def ReadS (w : World) (so t c : Int) (w' : World) : Prop := w'.cell? ⟨w.heap.size, 0, none⟩ = some (.int .u32 so) ∧ w'.cell? ⟨w.heap.size, 1, none⟩ = some (.int .u64 t) ∧ w'.cell? ⟨w.heap.size, 2, none⟩ = some (.int .u64 c) ∧ Below w.heap.size w w'
set_option maxHeartbeats 8000000 in
theorem law_reads_of (so t c at_ x n m : Int) (V C : Value) (w : World) (hs : 0 ≤ so) (hs' : so < 4294967296) (ht : 0 ≤ t) (ht' : t < 18446744073709551616) (hc : 0 ≤ c) (hc' : c < 18446744073709551616) (hE : ErrW w) (hV : ErrV V n) (hC : ErrV C m)
    (k13 : ∀ w, Calls Tryd.prog 13 #[.agg #[.int .u32 so, .int .u64 t, .int .u64 c], .int .u32 at_] w fun e w' => e = .returned (.tuple #[.int .u32 x, V]) ∧ Below w.heap.size w w')
    (k14 : ∀ w, Calls Tryd.prog 14 #[.agg #[.int .u32 so, .int .u64 t, .int .u64 c], .int .u32 at_] w fun e w' => e = .returned (.tuple #[.int .u32 x, .int .i64 n]) ∧ Below w.heap.size w w')
    (k15 : ∀ w, Calls Tryd.prog 15 #[.agg #[.int .u32 so, .int .u64 t, .int .u64 c]] w fun e w' => e = .returned C ∧ Below w.heap.size w w')
    (k16 : ∀ w, Calls Tryd.prog 16 #[.agg #[.int .u32 so, .int .u64 t, .int .u64 c]] w fun e w' => e = .returned (.int .i64 m) ∧ Below w.heap.size w w') :
    Calls Tryd.prog 4 #[.agg #[.int .u32 so, .int .u64 t, .int .u64 c], .int .u32 at_] w fun e w' => e = .returned (.bool true) ∧ Below w.heap.size w w' := by
  have k13 := Lib.hid k13
  have k14 := Lib.hid k14
  have k15 := Lib.hid k15
  have k16 := Lib.hid k16
  go_enter Tryd.func4, Tryd.ntmps4
  go_wp2_with (first | (go_at_call 13; refine (k13.out _).mono ?_; rintro e w2 ⟨rfl, hb13⟩; obtain ⟨d0, d1, d2, dl⟩ := kept3 hb13) | (go_at_call 14; refine (k14.out _).mono ?_; rintro e w3 ⟨rfl, hb14⟩))
  have hbw := b_then (b_then (b_alloc (Below.refl _ _) _) hb13) hb14
  have hS0 : ReadS w so t c w3.drew := ⟨cell_drew (cell_keep d0 hb14), cell_drew (cell_keep d1 hb14), cell_drew (cell_keep d2 hb14), b_drew hbw⟩
  have hSk : ∀ a b, ReadS w so t c a → Below a.heap.size a b → ReadS w so t c b := fun a b h hb => keepR h hb
  have hE' : ∀ x : Good (ReadS w so t c), ErrW x.val := fun x => hE.keep x.ok.2.2.2
  have hc0 : ∀ x : Good (ReadS w so t c), x.val.cell? ⟨w.heap.size, 0, none⟩ = some (.int .u32 so) := fun x => x.ok.1
  have hc1 : ∀ x : Good (ReadS w so t c), x.val.cell? ⟨w.heap.size, 1, none⟩ = some (.int .u64 t) := fun x => x.ok.2.1
  have hc2 : ∀ x : Good (ReadS w so t c), x.val.cell? ⟨w.heap.size, 2, none⟩ = some (.int .u64 c) := fun x => x.ok.2.2.1
  have hend : ∀ x : Good (ReadS w so t c), Below w.heap.size w x.val := fun x => x.ok.2.2.2
  clear d0 d1 d2 dl hbw
  have hne : Nonempty (Good (ReadS w so t c)) := ⟨⟨_, hS0⟩⟩
  refine wp_region_good (ReadS w so t c) (by kernel_rfl) (by kernel_rfl) hS0 ?_
  repeat (go_big_quiet_step (first
    | (go_at_call_of 11 V; exact good_below hSk (num11_any V n _ hV (hE' _)))
    | (go_at_call_of 11 C; exact good_below hSk (num11_any C m _ hC (hE' _)))
    | (go_at_call 15; exact good_below hSk (k15.out _))
    | (go_at_call 16; exact good_below hSk (k16.out _))
    | (go_at_call 17; exact good_below hSk (lines_any so t c _ hs hs' ht ht' hc hc'))
    | (go_at_call 18; exact good_below hSk (rlines_any so t c _ hs hs' ht ht' hc hc'))
    | (go_at_call 19; exact good_below hSk (next_any so t c _ ht ht' hc hc'))
    | (go_at_call 20; exact good_below hSk (rnext_any so t c _ ht ht' hc hc'))
    | (go_at_call 12; exact good_below hSk (sure_any _))))
  refine wpQuiet_nil ?_
  intro _ hw'
  obtain ⟨x, rfl⟩ := hw'
  go_wp2
  go_ret
  exact ⟨rfl, hend x⟩
theorem law_reads_so (so t c at_ x n : Int) (V : Value) (w : World) (hs : 0 ≤ so) (hs' : so < 4294967296) (ht : 0 ≤ t) (ht' : t < 18446744073709551616) (hc : 0 ≤ c) (hc' : c < 18446744073709551616) (hE : ErrW w) (hV : ErrV V n)
    (k13 : ∀ w, Calls Tryd.prog 13 #[.agg #[.int .u32 so, .int .u64 t, .int .u64 c], .int .u32 at_] w fun e w' => e = .returned (.tuple #[.int .u32 x, V]) ∧ Below w.heap.size w w')
    (k14 : ∀ w, Calls Tryd.prog 14 #[.agg #[.int .u32 so, .int .u64 t, .int .u64 c], .int .u32 at_] w fun e w' => e = .returned (.tuple #[.int .u32 x, .int .i64 n]) ∧ Below w.heap.size w w') :
    Calls Tryd.prog 4 #[.agg #[.int .u32 so, .int .u64 t, .int .u64 c], .int .u32 at_] w fun e w' => e = .returned (.bool true) ∧ Below w.heap.size w w' := by
  by_cases h0 : so = 0
  · subst h0
    exact law_reads_of 0 t c at_ x n 0 V .nilIface w hs hs' ht ht' hc hc' hE hV ErrV.none k13 k14 (fun w => check_ok 0 t c w (by decide)) (fun w => rcheck_0 t c w)
  · by_cases h1 : so = 1
    · subst h1
      exact law_reads_of 1 t c at_ x n 0 V .nilIface w hs hs' ht ht' hc hc' hE hV ErrV.none k13 k14 (fun w => check_ok 1 t c w (by decide)) (fun w => rcheck_1 t c w)
    · exact law_reads_of so t c at_ x n 1 V _ w hs hs' ht ht' hc hc' hE hV (ErrV.num 1) k13 k14 (fun w => check_bad so t c w (by omega)) (fun w => rcheck_bad so t c w (beq_eq_false_iff_ne.2 h0) (beq_eq_false_iff_ne.2 h1))
theorem law_reads (so t c at_ : Int) (w : World) (hs : 0 ≤ so) (hs' : so < 4294967296) (ht : 0 ≤ t) (ht' : t < 18446744073709551616) (hc : 0 ≤ c) (hc' : c < 18446744073709551616) (hE : ErrW w) :
    Calls Tryd.prog 4 #[.agg #[.int .u32 so, .int .u64 t, .int .u64 c], .int .u32 at_] w fun e w' => e = .returned (.bool true) ∧ Below w.heap.size w w' := by
  rcases reg_or at_ with ⟨i, hi, rfl⟩ | ⟨n0, n1, n2, n3, n4⟩
  · exact law_reads_so so t c _ _ 0 .nilIface w hs hs' ht ht' hc hc' hE ErrV.none (fun w => read_reg i hi so t c w hs hs' ht ht' hc hc') (fun w => rread_reg i hi so t c w hs hs' ht ht' hc hc')
  · exact law_reads_so so t c at_ 0 20 _ w hs hs' ht ht' hc hc' hE (ErrV.num 20) (fun w => read_none so t c at_ w hs hs' ht ht' hc hc' n4 n0 n1 n2 n3) (fun w => rread_none so t c at_ w hs hs' ht ht' hc hc' n0 n1 n2 n3 n4)
end Go.Proofs.YtbmfcaobhgeogaaDoor
