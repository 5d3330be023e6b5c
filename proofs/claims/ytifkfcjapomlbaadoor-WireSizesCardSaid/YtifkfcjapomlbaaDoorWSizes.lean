/-
  WireSizes: the walk.
-/
import Derived.Test.YtifkfcjapomlbaaDoorWNear
import Derived.Deep.OwnRows
namespace Go.Proofs.YtifkfcjapomlbaaDoor
open Go.RowKit
set_option linter.unusedVariables false
set_option linter.unusedSimpArgs false
set_option maxRecDepth 100000

theorem made_bytes (L : Nat) : (madeCells #[.int .u8 0] L : Array Value) = (bytesV (List.replicate L 0)).toArray := by
  apply Array.ext
  · simp [madeCells, bytesV]
  · intro i h1 h2
    simp [madeCells, bytesV, Nat.mod_one]
set_option maxHeartbeats 4000000 in
theorem wsizes_0y (kind n : Int) (mo L : Nat) (w : World) (hmo : mo < 4294967296) (hT : TabW w) (hL : L < 70000) (hre : (IntKind.u64.wrap kind).tmod 6 = 0) (hLe : (IntKind.u64.wrap n).tmod 70000 = (L : Int)) (h0 : (L : Int) = 8) (hM : Hid (mayB ((1 : Nat) : Int) ((0 : Nat) : Int) L = true)) :
    Calls Tryd.prog 4 #[.int .i64 kind, .int .i64 n, .int .u32 mo] w (fun e w' => e = .returned (.bool true) ∧ Below w.heap.size w w') := by
  obtain rfl : L = 8 := by omega
  have hmk := run_make_row' (P := Tryd.prog) 23 5 (.int .u8 0) 1 Tryd.underlying23 Tryd.info5 rfl .i64 .i64 8 (by omega) (by omega)
  rw [made_bytes] at hmk
  have hbs := Bs.made w 5 (List.replicate 8 0) 8 (by simp) (by omega) (by intro x hx; rw [List.eq_of_mem_replicate hx]; decide)
  have hba := b_alloc (Below.refl w.heap.size w) (.cells (bytesV (List.replicate 8 0)).toArray 5)
  have hT1 := hT.keep hba
  have hw1 : wrap64 (8 : Int) = (8 : Int) := by unfold wrap64; omega
  have hln : (List.replicate 8 0).length = 8 := by simp
  generalize List.replicate 8 0 = D at hmk hbs hba hT1 hln
  have hmk2 : ∀ W : World, (Instr.makeSlice 23 (.int .i64 8) (.int .i64 8)).run Tryd.prog W = .ok (.slice (some ⟨W.heap.size, 0, none⟩) 8 8) (W.alloc (.cells (bytesV D).toArray 5)) := hmk
  clear hmk
  go_enter Tryd.func4, Tryd.ntmps4
  go_wp2_with fail
  refine (enc_ok 1 mo mo 0 (some ⟨w.heap.size, 0, none⟩) 8 8 D _ hbs hT1 hmo hmo hM.out).mono ?_
  rintro e w2 ⟨A2, c2, rfl, hown2, hb2⟩
  have hbw := b_then hba hb2
  go_wp2_with fail
  all_goals refine (sure22_any _ (hT.keep (b_alloc hbw _))).mono ?_
  all_goals rintro e w9 ⟨rfl, hb9⟩
  all_goals go_wp2_with fail
  all_goals go_ret
  all_goals exact ⟨rfl, b_then (b_alloc hbw _) hb9⟩
set_option maxHeartbeats 4000000 in
theorem wsizes_0n (kind n : Int) (mo L : Nat) (w : World) (hmo : mo < 4294967296) (hT : TabW w) (hL : L < 70000) (hre : (IntKind.u64.wrap kind).tmod 6 = 0) (hLe : (IntKind.u64.wrap n).tmod 70000 = (L : Int)) (h0 : ¬ (L : Int) = 8) (hM : Hid (mayB ((1 : Nat) : Int) ((0 : Nat) : Int) L = false)) :
    Calls Tryd.prog 4 #[.int .i64 kind, .int .i64 n, .int .u32 mo] w (fun e w' => e = .returned (.bool true) ∧ Below w.heap.size w w') := by
  have hbq : ((L : Int) == 8) = false := by rw [beq_eq_false_iff_ne]; omega
  have hmk := run_make_row' (P := Tryd.prog) 23 5 (.int .u8 0) 1 Tryd.underlying23 Tryd.info5 rfl .i64 .i64 L (by omega) (by omega)
  rw [made_bytes] at hmk
  have hbs := Bs.made w 5 (List.replicate L 0) L (by simp) (by omega) (by intro x hx; rw [List.eq_of_mem_replicate hx]; decide)
  have hba := b_alloc (Below.refl w.heap.size w) (.cells (bytesV (List.replicate L 0)).toArray 5)
  have hT1 := hT.keep hba
  have hw1 : wrap64 (L : Int) = (L : Int) := by unfold wrap64; omega
  have hln : (List.replicate L 0).length = L := by simp
  generalize List.replicate L 0 = D at hmk hbs hba hT1 hln
  have hmk2 : ∀ W : World, (Instr.makeSlice 23 (.int .i64 L) (.int .i64 L)).run Tryd.prog W = .ok (.slice (some ⟨W.heap.size, 0, none⟩) L L) (W.alloc (.cells (bytesV D).toArray 5)) := hmk
  clear hmk
  go_enter Tryd.func4, Tryd.ntmps4
  go_wp2_with fail
  refine (enc_bad 1 mo mo 0 (some ⟨w.heap.size, 0, none⟩) L L _ hM.out).mono ?_
  rintro e w2 ⟨rfl, hb2⟩
  have hbw := b_then hba hb2
  go_wp2_with fail
  all_goals refine (sure22_any _ (hT.keep (b_alloc hbw _))).mono ?_
  all_goals rintro e w9 ⟨rfl, hb9⟩
  all_goals go_wp2_with fail
  all_goals go_ret
  all_goals exact ⟨rfl, b_then (b_alloc hbw _) hb9⟩
set_option maxHeartbeats 4000000 in
theorem wsizes_1y (kind n : Int) (mo L : Nat) (w : World) (hmo : mo < 4294967296) (hT : TabW w) (hL : L < 70000) (hre : (IntKind.u64.wrap kind).tmod 6 = 1) (hLe : (IntKind.u64.wrap n).tmod 70000 = (L : Int)) (h0 : (L : Int) = 4096) (hM : Hid (mayB ((2 : Nat) : Int) ((0 : Nat) : Int) L = true)) :
    Calls Tryd.prog 4 #[.int .i64 kind, .int .i64 n, .int .u32 mo] w (fun e w' => e = .returned (.bool true) ∧ Below w.heap.size w w') := by
  obtain rfl : L = 4096 := by omega
  have hmk := run_make_row' (P := Tryd.prog) 23 5 (.int .u8 0) 1 Tryd.underlying23 Tryd.info5 rfl .i64 .i64 4096 (by omega) (by omega)
  rw [made_bytes] at hmk
  have hbs := Bs.made w 5 (List.replicate 4096 0) 4096 (by simp) (by omega) (by intro x hx; rw [List.eq_of_mem_replicate hx]; decide)
  have hba := b_alloc (Below.refl w.heap.size w) (.cells (bytesV (List.replicate 4096 0)).toArray 5)
  have hT1 := hT.keep hba
  have hw1 : wrap64 (4096 : Int) = (4096 : Int) := by unfold wrap64; omega
  have hln : (List.replicate 4096 0).length = 4096 := by simp
  generalize List.replicate 4096 0 = D at hmk hbs hba hT1 hln
  have hmk2 : ∀ W : World, (Instr.makeSlice 23 (.int .i64 4096) (.int .i64 4096)).run Tryd.prog W = .ok (.slice (some ⟨W.heap.size, 0, none⟩) 4096 4096) (W.alloc (.cells (bytesV D).toArray 5)) := hmk
  clear hmk
  go_enter Tryd.func4, Tryd.ntmps4
  go_wp2_with fail
  refine (enc_ok 2 mo mo 0 (some ⟨w.heap.size, 0, none⟩) 4096 4096 D _ hbs hT1 hmo hmo hM.out).mono ?_
  rintro e w2 ⟨A2, c2, rfl, hown2, hb2⟩
  have hbw := b_then hba hb2
  go_wp2_with fail
  all_goals refine (sure22_any _ (hT.keep (b_alloc hbw _))).mono ?_
  all_goals rintro e w9 ⟨rfl, hb9⟩
  all_goals go_wp2_with fail
  all_goals go_ret
  all_goals exact ⟨rfl, b_then (b_alloc hbw _) hb9⟩
set_option maxHeartbeats 4000000 in
theorem wsizes_1n (kind n : Int) (mo L : Nat) (w : World) (hmo : mo < 4294967296) (hT : TabW w) (hL : L < 70000) (hre : (IntKind.u64.wrap kind).tmod 6 = 1) (hLe : (IntKind.u64.wrap n).tmod 70000 = (L : Int)) (h0 : ¬ (L : Int) = 4096) (hM : Hid (mayB ((2 : Nat) : Int) ((0 : Nat) : Int) L = false)) :
    Calls Tryd.prog 4 #[.int .i64 kind, .int .i64 n, .int .u32 mo] w (fun e w' => e = .returned (.bool true) ∧ Below w.heap.size w w') := by
  have hbq : ((L : Int) == 4096) = false := by rw [beq_eq_false_iff_ne]; omega
  have hmk := run_make_row' (P := Tryd.prog) 23 5 (.int .u8 0) 1 Tryd.underlying23 Tryd.info5 rfl .i64 .i64 L (by omega) (by omega)
  rw [made_bytes] at hmk
  have hbs := Bs.made w 5 (List.replicate L 0) L (by simp) (by omega) (by intro x hx; rw [List.eq_of_mem_replicate hx]; decide)
  have hba := b_alloc (Below.refl w.heap.size w) (.cells (bytesV (List.replicate L 0)).toArray 5)
  have hT1 := hT.keep hba
  have hw1 : wrap64 (L : Int) = (L : Int) := by unfold wrap64; omega
  have hln : (List.replicate L 0).length = L := by simp
  generalize List.replicate L 0 = D at hmk hbs hba hT1 hln
  have hmk2 : ∀ W : World, (Instr.makeSlice 23 (.int .i64 L) (.int .i64 L)).run Tryd.prog W = .ok (.slice (some ⟨W.heap.size, 0, none⟩) L L) (W.alloc (.cells (bytesV D).toArray 5)) := hmk
  clear hmk
  go_enter Tryd.func4, Tryd.ntmps4
  go_wp2_with fail
  refine (enc_bad 2 mo mo 0 (some ⟨w.heap.size, 0, none⟩) L L _ hM.out).mono ?_
  rintro e w2 ⟨rfl, hb2⟩
  have hbw := b_then hba hb2
  go_wp2_with fail
  all_goals refine (sure22_any _ (hT.keep (b_alloc hbw _))).mono ?_
  all_goals rintro e w9 ⟨rfl, hb9⟩
  all_goals go_wp2_with fail
  all_goals go_ret
  all_goals exact ⟨rfl, b_then (b_alloc hbw _) hb9⟩
set_option maxHeartbeats 4000000 in
theorem wsizes_2y (kind n : Int) (mo L : Nat) (w : World) (hmo : mo < 4294967296) (hT : TabW w) (hL : L < 70000) (hre : (IntKind.u64.wrap kind).tmod 6 = 2) (hLe : (IntKind.u64.wrap n).tmod 70000 = (L : Int)) (h0 : 1 ≤ (L : Int)) (h1 : (L : Int) ≤ 65536) (hM : Hid (mayB ((3 : Nat) : Int) ((0 : Nat) : Int) L = true)) :
    Calls Tryd.prog 4 #[.int .i64 kind, .int .i64 n, .int .u32 mo] w (fun e w' => e = .returned (.bool true) ∧ Below w.heap.size w w') := by
  have hmk := run_make_row' (P := Tryd.prog) 23 5 (.int .u8 0) 1 Tryd.underlying23 Tryd.info5 rfl .i64 .i64 L (by omega) (by omega)
  rw [made_bytes] at hmk
  have hbs := Bs.made w 5 (List.replicate L 0) L (by simp) (by omega) (by intro x hx; rw [List.eq_of_mem_replicate hx]; decide)
  have hba := b_alloc (Below.refl w.heap.size w) (.cells (bytesV (List.replicate L 0)).toArray 5)
  have hT1 := hT.keep hba
  have hw1 : wrap64 (L : Int) = (L : Int) := by unfold wrap64; omega
  have hln : (List.replicate L 0).length = L := by simp
  generalize List.replicate L 0 = D at hmk hbs hba hT1 hln
  have hmk2 : ∀ W : World, (Instr.makeSlice 23 (.int .i64 L) (.int .i64 L)).run Tryd.prog W = .ok (.slice (some ⟨W.heap.size, 0, none⟩) L L) (W.alloc (.cells (bytesV D).toArray 5)) := hmk
  clear hmk
  go_enter Tryd.func4, Tryd.ntmps4
  go_wp2_with fail
  refine (enc_ok 3 mo mo 0 (some ⟨w.heap.size, 0, none⟩) L L D _ hbs hT1 hmo hmo hM.out).mono ?_
  rintro e w2 ⟨A2, c2, rfl, hown2, hb2⟩
  have hbw := b_then hba hb2
  go_wp2_with fail
  all_goals refine (sure22_any _ (hT.keep (b_alloc hbw _))).mono ?_
  all_goals rintro e w9 ⟨rfl, hb9⟩
  all_goals go_wp2_with fail
  all_goals go_ret
  all_goals exact ⟨rfl, b_then (b_alloc hbw _) hb9⟩
set_option maxHeartbeats 4000000 in
theorem wsizes_2na (kind n : Int) (mo L : Nat) (w : World) (hmo : mo < 4294967296) (hT : TabW w) (hL : L < 70000) (hre : (IntKind.u64.wrap kind).tmod 6 = 2) (hLe : (IntKind.u64.wrap n).tmod 70000 = (L : Int)) (h0 : ¬ 1 ≤ (L : Int)) (hM : Hid (mayB ((3 : Nat) : Int) ((0 : Nat) : Int) L = false)) :
    Calls Tryd.prog 4 #[.int .i64 kind, .int .i64 n, .int .u32 mo] w (fun e w' => e = .returned (.bool true) ∧ Below w.heap.size w w') := by
  have hmk := run_make_row' (P := Tryd.prog) 23 5 (.int .u8 0) 1 Tryd.underlying23 Tryd.info5 rfl .i64 .i64 L (by omega) (by omega)
  rw [made_bytes] at hmk
  have hbs := Bs.made w 5 (List.replicate L 0) L (by simp) (by omega) (by intro x hx; rw [List.eq_of_mem_replicate hx]; decide)
  have hba := b_alloc (Below.refl w.heap.size w) (.cells (bytesV (List.replicate L 0)).toArray 5)
  have hT1 := hT.keep hba
  have hw1 : wrap64 (L : Int) = (L : Int) := by unfold wrap64; omega
  have hln : (List.replicate L 0).length = L := by simp
  generalize List.replicate L 0 = D at hmk hbs hba hT1 hln
  have hmk2 : ∀ W : World, (Instr.makeSlice 23 (.int .i64 L) (.int .i64 L)).run Tryd.prog W = .ok (.slice (some ⟨W.heap.size, 0, none⟩) L L) (W.alloc (.cells (bytesV D).toArray 5)) := hmk
  clear hmk
  go_enter Tryd.func4, Tryd.ntmps4
  go_wp2_with fail
  refine (enc_bad 3 mo mo 0 (some ⟨w.heap.size, 0, none⟩) L L _ hM.out).mono ?_
  rintro e w2 ⟨rfl, hb2⟩
  have hbw := b_then hba hb2
  go_wp2_with fail
  all_goals refine (sure22_any _ (hT.keep (b_alloc hbw _))).mono ?_
  all_goals rintro e w9 ⟨rfl, hb9⟩
  all_goals go_wp2_with fail
  all_goals go_ret
  all_goals exact ⟨rfl, b_then (b_alloc hbw _) hb9⟩
set_option maxHeartbeats 4000000 in
theorem wsizes_2nb (kind n : Int) (mo L : Nat) (w : World) (hmo : mo < 4294967296) (hT : TabW w) (hL : L < 70000) (hre : (IntKind.u64.wrap kind).tmod 6 = 2) (hLe : (IntKind.u64.wrap n).tmod 70000 = (L : Int)) (h0 : 1 ≤ (L : Int)) (h1 : ¬ (L : Int) ≤ 65536) (hM : Hid (mayB ((3 : Nat) : Int) ((0 : Nat) : Int) L = false)) :
    Calls Tryd.prog 4 #[.int .i64 kind, .int .i64 n, .int .u32 mo] w (fun e w' => e = .returned (.bool true) ∧ Below w.heap.size w w') := by
  have hbq := decide_eq_false h1
  have hmk := run_make_row' (P := Tryd.prog) 23 5 (.int .u8 0) 1 Tryd.underlying23 Tryd.info5 rfl .i64 .i64 L (by omega) (by omega)
  rw [made_bytes] at hmk
  have hbs := Bs.made w 5 (List.replicate L 0) L (by simp) (by omega) (by intro x hx; rw [List.eq_of_mem_replicate hx]; decide)
  have hba := b_alloc (Below.refl w.heap.size w) (.cells (bytesV (List.replicate L 0)).toArray 5)
  have hT1 := hT.keep hba
  have hw1 : wrap64 (L : Int) = (L : Int) := by unfold wrap64; omega
  have hln : (List.replicate L 0).length = L := by simp
  generalize List.replicate L 0 = D at hmk hbs hba hT1 hln
  have hmk2 : ∀ W : World, (Instr.makeSlice 23 (.int .i64 L) (.int .i64 L)).run Tryd.prog W = .ok (.slice (some ⟨W.heap.size, 0, none⟩) L L) (W.alloc (.cells (bytesV D).toArray 5)) := hmk
  clear hmk
  go_enter Tryd.func4, Tryd.ntmps4
  go_wp2_with fail
  refine (enc_bad 3 mo mo 0 (some ⟨w.heap.size, 0, none⟩) L L _ hM.out).mono ?_
  rintro e w2 ⟨rfl, hb2⟩
  have hbw := b_then hba hb2
  go_wp2_with fail
  all_goals refine (sure22_any _ (hT.keep (b_alloc hbw _))).mono ?_
  all_goals rintro e w9 ⟨rfl, hb9⟩
  all_goals go_wp2_with fail
  all_goals go_ret
  all_goals exact ⟨rfl, b_then (b_alloc hbw _) hb9⟩
set_option maxHeartbeats 4000000 in
theorem wsizes_3y (kind n : Int) (mo L : Nat) (w : World) (hmo : mo < 4294967296) (hT : TabW w) (hL : L < 70000) (hre : (IntKind.u64.wrap kind).tmod 6 = 3) (hLe : (IntKind.u64.wrap n).tmod 70000 = (L : Int)) (h0 : (L : Int) = 4) (hM : Hid (mayB ((4 : Nat) : Int) ((0 : Nat) : Int) L = true)) :
    Calls Tryd.prog 4 #[.int .i64 kind, .int .i64 n, .int .u32 mo] w (fun e w' => e = .returned (.bool true) ∧ Below w.heap.size w w') := by
  obtain rfl : L = 4 := by omega
  have hmk := run_make_row' (P := Tryd.prog) 23 5 (.int .u8 0) 1 Tryd.underlying23 Tryd.info5 rfl .i64 .i64 4 (by omega) (by omega)
  rw [made_bytes] at hmk
  have hbs := Bs.made w 5 (List.replicate 4 0) 4 (by simp) (by omega) (by intro x hx; rw [List.eq_of_mem_replicate hx]; decide)
  have hba := b_alloc (Below.refl w.heap.size w) (.cells (bytesV (List.replicate 4 0)).toArray 5)
  have hT1 := hT.keep hba
  have hw1 : wrap64 (4 : Int) = (4 : Int) := by unfold wrap64; omega
  have hln : (List.replicate 4 0).length = 4 := by simp
  generalize List.replicate 4 0 = D at hmk hbs hba hT1 hln
  have hmk2 : ∀ W : World, (Instr.makeSlice 23 (.int .i64 4) (.int .i64 4)).run Tryd.prog W = .ok (.slice (some ⟨W.heap.size, 0, none⟩) 4 4) (W.alloc (.cells (bytesV D).toArray 5)) := hmk
  clear hmk
  go_enter Tryd.func4, Tryd.ntmps4
  go_wp2_with fail
  refine (enc_ok 4 mo mo 0 (some ⟨w.heap.size, 0, none⟩) 4 4 D _ hbs hT1 hmo hmo hM.out).mono ?_
  rintro e w2 ⟨A2, c2, rfl, hown2, hb2⟩
  have hbw := b_then hba hb2
  go_wp2_with fail
  all_goals refine (sure22_any _ (hT.keep (b_alloc hbw _))).mono ?_
  all_goals rintro e w9 ⟨rfl, hb9⟩
  all_goals go_wp2_with fail
  all_goals go_ret
  all_goals exact ⟨rfl, b_then (b_alloc hbw _) hb9⟩
set_option maxHeartbeats 4000000 in
theorem wsizes_3n (kind n : Int) (mo L : Nat) (w : World) (hmo : mo < 4294967296) (hT : TabW w) (hL : L < 70000) (hre : (IntKind.u64.wrap kind).tmod 6 = 3) (hLe : (IntKind.u64.wrap n).tmod 70000 = (L : Int)) (h0 : ¬ (L : Int) = 4) (hM : Hid (mayB ((4 : Nat) : Int) ((0 : Nat) : Int) L = false)) :
    Calls Tryd.prog 4 #[.int .i64 kind, .int .i64 n, .int .u32 mo] w (fun e w' => e = .returned (.bool true) ∧ Below w.heap.size w w') := by
  have hbq : ((L : Int) == 4) = false := by rw [beq_eq_false_iff_ne]; omega
  have hmk := run_make_row' (P := Tryd.prog) 23 5 (.int .u8 0) 1 Tryd.underlying23 Tryd.info5 rfl .i64 .i64 L (by omega) (by omega)
  rw [made_bytes] at hmk
  have hbs := Bs.made w 5 (List.replicate L 0) L (by simp) (by omega) (by intro x hx; rw [List.eq_of_mem_replicate hx]; decide)
  have hba := b_alloc (Below.refl w.heap.size w) (.cells (bytesV (List.replicate L 0)).toArray 5)
  have hT1 := hT.keep hba
  have hw1 : wrap64 (L : Int) = (L : Int) := by unfold wrap64; omega
  have hln : (List.replicate L 0).length = L := by simp
  generalize List.replicate L 0 = D at hmk hbs hba hT1 hln
  have hmk2 : ∀ W : World, (Instr.makeSlice 23 (.int .i64 L) (.int .i64 L)).run Tryd.prog W = .ok (.slice (some ⟨W.heap.size, 0, none⟩) L L) (W.alloc (.cells (bytesV D).toArray 5)) := hmk
  clear hmk
  go_enter Tryd.func4, Tryd.ntmps4
  go_wp2_with fail
  refine (enc_bad 4 mo mo 0 (some ⟨w.heap.size, 0, none⟩) L L _ hM.out).mono ?_
  rintro e w2 ⟨rfl, hb2⟩
  have hbw := b_then hba hb2
  go_wp2_with fail
  all_goals refine (sure22_any _ (hT.keep (b_alloc hbw _))).mono ?_
  all_goals rintro e w9 ⟨rfl, hb9⟩
  all_goals go_wp2_with fail
  all_goals go_ret
  all_goals exact ⟨rfl, b_then (b_alloc hbw _) hb9⟩
set_option maxHeartbeats 4000000 in
theorem wsizes_4y (kind n : Int) (mo L : Nat) (w : World) (hmo : mo < 4294967296) (hT : TabW w) (hL : L < 70000) (hre : (IntKind.u64.wrap kind).tmod 6 = 4) (hLe : (IntKind.u64.wrap n).tmod 70000 = (L : Int)) (h0 : (L : Int) = 0) (hM : Hid (mayB ((5 : Nat) : Int) ((0 : Nat) : Int) L = true)) :
    Calls Tryd.prog 4 #[.int .i64 kind, .int .i64 n, .int .u32 mo] w (fun e w' => e = .returned (.bool true) ∧ Below w.heap.size w w') := by
  obtain rfl : L = 0 := by omega
  have hmk := run_make_row' (P := Tryd.prog) 23 5 (.int .u8 0) 1 Tryd.underlying23 Tryd.info5 rfl .i64 .i64 0 (by omega) (by omega)
  rw [made_bytes] at hmk
  have hbs := Bs.made w 5 (List.replicate 0 0) 0 (by simp) (by omega) (by intro x hx; rw [List.eq_of_mem_replicate hx]; decide)
  have hba := b_alloc (Below.refl w.heap.size w) (.cells (bytesV (List.replicate 0 0)).toArray 5)
  have hT1 := hT.keep hba
  have hw1 : wrap64 (0 : Int) = (0 : Int) := by unfold wrap64; omega
  have hln : (List.replicate 0 0).length = 0 := by simp
  generalize List.replicate 0 0 = D at hmk hbs hba hT1 hln
  have hmk2 : ∀ W : World, (Instr.makeSlice 23 (.int .i64 0) (.int .i64 0)).run Tryd.prog W = .ok (.slice (some ⟨W.heap.size, 0, none⟩) 0 0) (W.alloc (.cells (bytesV D).toArray 5)) := hmk
  clear hmk
  go_enter Tryd.func4, Tryd.ntmps4
  go_wp2_with fail
  refine (enc_ok 5 mo mo 0 (some ⟨w.heap.size, 0, none⟩) 0 0 D _ hbs hT1 hmo hmo hM.out).mono ?_
  rintro e w2 ⟨A2, c2, rfl, hown2, hb2⟩
  have hbw := b_then hba hb2
  go_wp2_with fail
  all_goals refine (sure22_any _ (hT.keep (b_alloc hbw _))).mono ?_
  all_goals rintro e w9 ⟨rfl, hb9⟩
  all_goals go_wp2_with fail
  all_goals go_ret
  all_goals exact ⟨rfl, b_then (b_alloc hbw _) hb9⟩
set_option maxHeartbeats 4000000 in
theorem wsizes_4n (kind n : Int) (mo L : Nat) (w : World) (hmo : mo < 4294967296) (hT : TabW w) (hL : L < 70000) (hre : (IntKind.u64.wrap kind).tmod 6 = 4) (hLe : (IntKind.u64.wrap n).tmod 70000 = (L : Int)) (h0 : ¬ (L : Int) = 0) (hM : Hid (mayB ((5 : Nat) : Int) ((0 : Nat) : Int) L = false)) :
    Calls Tryd.prog 4 #[.int .i64 kind, .int .i64 n, .int .u32 mo] w (fun e w' => e = .returned (.bool true) ∧ Below w.heap.size w w') := by
  have hbq : ((L : Int) == 0) = false := by rw [beq_eq_false_iff_ne]; omega
  have hmk := run_make_row' (P := Tryd.prog) 23 5 (.int .u8 0) 1 Tryd.underlying23 Tryd.info5 rfl .i64 .i64 L (by omega) (by omega)
  rw [made_bytes] at hmk
  have hbs := Bs.made w 5 (List.replicate L 0) L (by simp) (by omega) (by intro x hx; rw [List.eq_of_mem_replicate hx]; decide)
  have hba := b_alloc (Below.refl w.heap.size w) (.cells (bytesV (List.replicate L 0)).toArray 5)
  have hT1 := hT.keep hba
  have hw1 : wrap64 (L : Int) = (L : Int) := by unfold wrap64; omega
  have hln : (List.replicate L 0).length = L := by simp
  generalize List.replicate L 0 = D at hmk hbs hba hT1 hln
  have hmk2 : ∀ W : World, (Instr.makeSlice 23 (.int .i64 L) (.int .i64 L)).run Tryd.prog W = .ok (.slice (some ⟨W.heap.size, 0, none⟩) L L) (W.alloc (.cells (bytesV D).toArray 5)) := hmk
  clear hmk
  go_enter Tryd.func4, Tryd.ntmps4
  go_wp2_with fail
  refine (enc_bad 5 mo mo 0 (some ⟨w.heap.size, 0, none⟩) L L _ hM.out).mono ?_
  rintro e w2 ⟨rfl, hb2⟩
  have hbw := b_then hba hb2
  go_wp2_with fail
  all_goals refine (sure22_any _ (hT.keep (b_alloc hbw _))).mono ?_
  all_goals rintro e w9 ⟨rfl, hb9⟩
  all_goals go_wp2_with fail
  all_goals go_ret
  all_goals exact ⟨rfl, b_then (b_alloc hbw _) hb9⟩
set_option maxHeartbeats 4000000 in
theorem wsizes_5y (kind n : Int) (mo L : Nat) (w : World) (hmo : mo < 4294967296) (hT : TabW w) (hL : L < 70000) (hre : (IntKind.u64.wrap kind).tmod 6 = 5) (hLe : (IntKind.u64.wrap n).tmod 70000 = (L : Int)) (h0 : (L : Int) = 0) (hM : Hid (mayB ((6 : Nat) : Int) ((0 : Nat) : Int) L = true)) :
    Calls Tryd.prog 4 #[.int .i64 kind, .int .i64 n, .int .u32 mo] w (fun e w' => e = .returned (.bool true) ∧ Below w.heap.size w w') := by
  obtain rfl : L = 0 := by omega
  have hmk := run_make_row' (P := Tryd.prog) 23 5 (.int .u8 0) 1 Tryd.underlying23 Tryd.info5 rfl .i64 .i64 0 (by omega) (by omega)
  rw [made_bytes] at hmk
  have hbs := Bs.made w 5 (List.replicate 0 0) 0 (by simp) (by omega) (by intro x hx; rw [List.eq_of_mem_replicate hx]; decide)
  have hba := b_alloc (Below.refl w.heap.size w) (.cells (bytesV (List.replicate 0 0)).toArray 5)
  have hT1 := hT.keep hba
  have hw1 : wrap64 (0 : Int) = (0 : Int) := by unfold wrap64; omega
  have hln : (List.replicate 0 0).length = 0 := by simp
  generalize List.replicate 0 0 = D at hmk hbs hba hT1 hln
  have hmk2 : ∀ W : World, (Instr.makeSlice 23 (.int .i64 0) (.int .i64 0)).run Tryd.prog W = .ok (.slice (some ⟨W.heap.size, 0, none⟩) 0 0) (W.alloc (.cells (bytesV D).toArray 5)) := hmk
  clear hmk
  go_enter Tryd.func4, Tryd.ntmps4
  go_wp2_with fail
  refine (enc_ok 6 mo mo 0 (some ⟨w.heap.size, 0, none⟩) 0 0 D _ hbs hT1 hmo hmo hM.out).mono ?_
  rintro e w2 ⟨A2, c2, rfl, hown2, hb2⟩
  have hbw := b_then hba hb2
  go_wp2_with fail
  all_goals refine (sure22_any _ (hT.keep (b_alloc hbw _))).mono ?_
  all_goals rintro e w9 ⟨rfl, hb9⟩
  all_goals go_wp2_with fail
  all_goals go_ret
  all_goals exact ⟨rfl, b_then (b_alloc hbw _) hb9⟩
set_option maxHeartbeats 4000000 in
theorem wsizes_5n (kind n : Int) (mo L : Nat) (w : World) (hmo : mo < 4294967296) (hT : TabW w) (hL : L < 70000) (hre : (IntKind.u64.wrap kind).tmod 6 = 5) (hLe : (IntKind.u64.wrap n).tmod 70000 = (L : Int)) (h0 : ¬ (L : Int) = 0) (hM : Hid (mayB ((6 : Nat) : Int) ((0 : Nat) : Int) L = false)) :
    Calls Tryd.prog 4 #[.int .i64 kind, .int .i64 n, .int .u32 mo] w (fun e w' => e = .returned (.bool true) ∧ Below w.heap.size w w') := by
  have hbq : ((L : Int) == 0) = false := by rw [beq_eq_false_iff_ne]; omega
  have hmk := run_make_row' (P := Tryd.prog) 23 5 (.int .u8 0) 1 Tryd.underlying23 Tryd.info5 rfl .i64 .i64 L (by omega) (by omega)
  rw [made_bytes] at hmk
  have hbs := Bs.made w 5 (List.replicate L 0) L (by simp) (by omega) (by intro x hx; rw [List.eq_of_mem_replicate hx]; decide)
  have hba := b_alloc (Below.refl w.heap.size w) (.cells (bytesV (List.replicate L 0)).toArray 5)
  have hT1 := hT.keep hba
  have hw1 : wrap64 (L : Int) = (L : Int) := by unfold wrap64; omega
  have hln : (List.replicate L 0).length = L := by simp
  generalize List.replicate L 0 = D at hmk hbs hba hT1 hln
  have hmk2 : ∀ W : World, (Instr.makeSlice 23 (.int .i64 L) (.int .i64 L)).run Tryd.prog W = .ok (.slice (some ⟨W.heap.size, 0, none⟩) L L) (W.alloc (.cells (bytesV D).toArray 5)) := hmk
  clear hmk
  go_enter Tryd.func4, Tryd.ntmps4
  go_wp2_with fail
  refine (enc_bad 6 mo mo 0 (some ⟨w.heap.size, 0, none⟩) L L _ hM.out).mono ?_
  rintro e w2 ⟨rfl, hb2⟩
  have hbw := b_then hba hb2
  go_wp2_with fail
  all_goals refine (sure22_any _ (hT.keep (b_alloc hbw _))).mono ?_
  all_goals rintro e w9 ⟨rfl, hb9⟩
  all_goals go_wp2_with fail
  all_goals go_ret
  all_goals exact ⟨rfl, b_then (b_alloc hbw _) hb9⟩
theorem law_wiresizes (kind n : Int) (mo : Nat) (w : World) (hmo : mo < 4294967296) (hT : TabW w) :
    Calls Tryd.prog 4 #[.int .i64 kind, .int .i64 n, .int .u32 mo] w (fun e w' => e = .returned (.bool true) ∧ Below w.heap.size w w') := by
  obtain ⟨r, hr6, hre⟩ := tmod_at kind 6 (by decide)
  obtain ⟨L, hL, hLe⟩ := tmod_at n 70000 (by decide)
  rcases (show r = 0 ∨ r = 1 ∨ r = 2 ∨ r = 3 ∨ r = 4 ∨ r = 5 by omega) with rfl | rfl | rfl | rfl | rfl | rfl
  · by_cases h : (L : Int) = 8
    · exact wsizes_0y kind n mo L w hmo hT hL hre hLe h (mayB_yes (by omega))
    · exact wsizes_0n kind n mo L w hmo hT hL hre hLe h (mayB_no (by omega))
  · by_cases h : (L : Int) = 4096
    · exact wsizes_1y kind n mo L w hmo hT hL hre hLe h (mayB_yes (by omega))
    · exact wsizes_1n kind n mo L w hmo hT hL hre hLe h (mayB_no (by omega))
  · by_cases ha : 1 ≤ (L : Int)
    · by_cases hb : (L : Int) ≤ 65536
      · exact wsizes_2y kind n mo L w hmo hT hL hre hLe ha hb (mayB_yes (by omega))
      · exact wsizes_2nb kind n mo L w hmo hT hL hre hLe ha hb (mayB_no (by omega))
    · exact wsizes_2na kind n mo L w hmo hT hL hre hLe ha (mayB_no (by omega))
  · by_cases h : (L : Int) = 4
    · exact wsizes_3y kind n mo L w hmo hT hL hre hLe h (mayB_yes (by omega))
    · exact wsizes_3n kind n mo L w hmo hT hL hre hLe h (mayB_no (by omega))
  · by_cases h : (L : Int) = 0
    · exact wsizes_4y kind n mo L w hmo hT hL hre hLe h (mayB_yes (by omega))
    · exact wsizes_4n kind n mo L w hmo hT hL hre hLe h (mayB_no (by omega))
  · by_cases h : (L : Int) = 0
    · exact wsizes_5y kind n mo L w hmo hT hL hre hLe h (mayB_yes (by omega))
    · exact wsizes_5n kind n mo L w hmo hT hL hre hLe h (mayB_no (by omega))
end Go.Proofs.YtifkfcjapomlbaaDoor
