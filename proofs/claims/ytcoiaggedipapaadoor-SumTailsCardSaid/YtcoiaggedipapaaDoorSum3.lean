import Derived.Test.YtcoiaggedipapaaDoorSum2
import Derived.Lib.SlBytesConst
namespace Go.Proofs.YtcoiaggedipapaaDoor
open Go.RowKit
set_option linter.unusedVariables false
set_option linter.unusedSimpArgs false

theorem nine : Crc.sum 4294967295 [49, 50, 51, 52, 53, 54, 55, 56, 57] = 58124007 := by decide +kernel

set_option maxHeartbeats 1000000 in
theorem sure_any (w : World) (hT : TabW w) :
    Calls Tryd.prog 15 #[] w fun e w' => e = .returned (.bool true) ∧ Below w.heap.size w w' := by
  have kc := fun (w : World) (C : Array Value) (n c : Nat) => Lib.run_convert_bytes_const (P := Tryd.prog) w 23 5 C n c Tryd.underlying23 Tryd.underlying5
  go_enter Tryd.func15, Tryd.ntmps15
  have hb := Bs.lit w 5 (9, 10) [49, 50, 51, 52, 53, 54, 55, 56, 57] 9 rfl (by decide) (by decide)
  have hT1 : TabW (w.alloc (.cells (bytesV [49, 50, 51, 52, 53, 54, 55, 56, 57]).toArray 5 (9, 10))) := hT.keep ((Below.refl _ _).alloc (Nat.le_refl _) _)
  have h9 : (Crc.sum 4294967295 [49, 50, 51, 52, 53, 54, 55, 56, 57] : Int) = 58124007 := by rw [nine]; rfl
  go_wp2_with (go_at_call 16; refine (of_any _ 9 9 _ _ hb hT1).mono ?_; rintro e w' ⟨rfl, rfl⟩)
  go_ret
  exact ⟨rfl, (Below.refl _ _).alloc (Nat.le_refl _) _⟩

/-- The reference's More answers as the program's. -/
theorem rmore_any' (s : Nat) (A : Option Addr) (n c : Nat) (l : List Nat) (w : World) (hs : s < 4294967296) (hb : Bs w A n c l) :
    Calls Tryd.prog 19 #[.int .u32 s, .slice A n c] w fun e w' => e = .returned (.int .u32 (Crc.sum s l : Nat)) ∧ w = w' :=
  (rmore_any s A n c l w hs hb).mono fun e w' ⟨he, hw⟩ => ⟨by rw [he, rmore_eq s l hs hb.small], hw⟩

set_option maxHeartbeats 1000000 in
theorem law_sums (s : Nat) (A : Option Addr) (n c : Nat) (l : List Nat) (w : World) (hs : s < 4294967296) (hb : Bs w A n c l) (hT : TabW w) :
    Calls Tryd.prog 3 #[.int .u32 s, .slice A n c] w fun e w' => e = .returned (.bool true) ∧ Below w.heap.size w w' := by
  by_cases h : 20000 < n
  · go_enter Tryd.func3, Tryd.ntmps3
    go_wp2_with (go_at_call 15; refine (sure_any _ hT).mono ?_; rintro e w' ⟨rfl, hb⟩)
    go_ret
    exact ⟨rfl, hb⟩
  · go_enter Tryd.func3, Tryd.ntmps3
    go_wp2_with (first | (go_at_call 15; refine (sure_any _ hT).mono ?_; rintro e w' ⟨rfl, hb⟩) | (go_at_call 16; refine (of_any _ _ _ _ _ hb hT).mono ?_; rintro e w' ⟨rfl, rfl⟩) | (go_at_call 17; refine (rof_any _ _ _ _ _ hb).mono ?_; rintro e w' ⟨rfl, rfl⟩) | (go_at_call 18; refine (more_any _ _ _ _ _ _ hs hb hT).mono ?_; rintro e w' ⟨rfl, rfl⟩) | (go_at_call 19; refine (rmore_any' _ _ _ _ _ _ hs hb).mono ?_; rintro e w' ⟨rfl, rfl⟩))
    go_ret
    exact ⟨rfl, hb⟩
end Go.Proofs.YtcoiaggedipapaaDoor
