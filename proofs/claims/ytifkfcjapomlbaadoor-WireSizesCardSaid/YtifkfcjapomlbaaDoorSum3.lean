import Derived.Test.YtifkfcjapomlbaaDoorSum2
import Derived.Lib.SlBytesConst
namespace Go.Proofs.YtifkfcjapomlbaaDoor
open Go.RowKit
set_option linter.unusedVariables false
set_option linter.unusedSimpArgs false

theorem nine : Crc.sum 4294967295 [49, 50, 51, 52, 53, 54, 55, 56, 57] = 58124007 := by decide +kernel

/-- The reference's More answers as the program's. -/
theorem rmore_any' (s : Nat) (A : Option Addr) (n c : Nat) (l : List Nat) (w : World) (hs : s < 4294967296) (hb : Bs w A n c l) :
    Calls Tryd.prog 53 #[.int .u32 s, .slice A n c] w fun e w' => e = .returned (.int .u32 (Crc.sum s l : Nat)) ∧ w = w' :=
  (rmore_any s A n c l w hs hb).mono fun e w' ⟨he, hw⟩ => ⟨by rw [he, rmore_eq s l hs hb.small], hw⟩

end Go.Proofs.YtifkfcjapomlbaaDoor
