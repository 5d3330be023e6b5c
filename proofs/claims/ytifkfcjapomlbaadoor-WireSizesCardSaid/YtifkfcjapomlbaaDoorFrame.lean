/-
  Frames of a migration: may one be; the program's and the document's test.
-/
import Derived.Test.YtifkfcjapomlbaaDoorTails
import Derived.Test.YtifkfcjapomlbaaDoorRIn
import Derived.Test.YtifkfcjapomlbaaDoorInRun
import Derived.Test.YtifkfcjapomlbaaDoorOut
import Derived.Test.YtifkfcjapomlbaaDoorAs
namespace Go.Proofs.YtifkfcjapomlbaaDoor
open Go.RowKit
set_option linter.unusedVariables false
set_option linter.unusedSimpArgs false
set_option maxRecDepth 100000

/-- May a frame be? Its kind, its number, how many bytes it has. -/
def mayB (k n : Int) (m : Nat) : Bool :=
  decide ((k = 1 ∧ m = 8 ∧ n ≤ 0) ∨ (k = 2 ∧ m = 4096 ∧ n ≤ 16383) ∨ (k = 3 ∧ 1 ≤ m ∧ m ≤ 65536 ∧ n ≤ 0) ∨ (k = 4 ∧ m = 4 ∧ n ≤ 0) ∨ (k = 5 ∧ m = 0 ∧ n ≤ 999) ∨ (k = 6 ∧ m = 0 ∧ n ≤ 0))
theorem mayB_no {k n : Int} {m : Nat} (h : ¬ ((k = 1 ∧ m = 8 ∧ n ≤ 0) ∨ (k = 2 ∧ m = 4096 ∧ n ≤ 16383) ∨ (k = 3 ∧ 1 ≤ m ∧ m ≤ 65536 ∧ n ≤ 0) ∨ (k = 4 ∧ m = 4 ∧ n ≤ 0) ∨ (k = 5 ∧ m = 0 ∧ n ≤ 999) ∨ (k = 6 ∧ m = 0 ∧ n ≤ 0))) : mayB k n m = false := decide_eq_false h
theorem mayB_yes {k n : Int} {m : Nat} (h : (k = 1 ∧ m = 8 ∧ n ≤ 0) ∨ (k = 2 ∧ m = 4096 ∧ n ≤ 16383) ∨ (k = 3 ∧ 1 ≤ m ∧ m ≤ 65536 ∧ n ≤ 0) ∨ (k = 4 ∧ m = 4 ∧ n ≤ 0) ∨ (k = 5 ∧ m = 0 ∧ n ≤ 999) ∨ (k = 6 ∧ m = 0 ∧ n ≤ 0)) : mayB k n m = true := decide_eq_true h
def MayP (w : World) (b : Bool) (e : Ending) (w' : World) : Prop := e = .returned (.bool b) ∧ Below w.heap.size w w'

set_option maxHeartbeats 4000000 in
theorem may_any (k s q n : Int) (A : Option Addr) (m c : Nat) (w : World) :
    Calls Tryd.prog 18 #[.agg #[.int .i64 k, .int .u32 s, .int .u32 q, .int .u32 n, .slice A m c]] w (MayP w (mayB k n m)) := by
  have hb := b_alloc (Below.refl w.heap.size w) (.cells #[.int .i64 k, .int .u32 s, .int .u32 q, .int .u32 n, .slice A m c] 31)
  by_cases k1 : k = 1
  · subst k1
    by_cases hm0 : (m : Int) = 8
    · skip
      by_cases hn : n ≤ 0
      · go_enter Tryd.func18, Tryd.ntmps18
        go_wp2
        go_ret
        exact ⟨by rw [mayB_yes (by omega)]; rfl, hb⟩
      · go_enter Tryd.func18, Tryd.ntmps18
        go_wp2
        go_ret
        exact ⟨by rw [mayB_no (by omega)]; rfl, hb⟩
    · go_enter Tryd.func18, Tryd.ntmps18
      go_wp2
      go_ret
      exact ⟨by rw [mayB_no (by omega)]; rfl, hb⟩
  by_cases k2 : k = 2
  · subst k2
    by_cases hm0 : (m : Int) = 4096
    · skip
      by_cases hn : n ≤ 16383
      · go_enter Tryd.func18, Tryd.ntmps18
        go_wp2
        go_ret
        exact ⟨by rw [mayB_yes (by omega)]; rfl, hb⟩
      · go_enter Tryd.func18, Tryd.ntmps18
        go_wp2
        go_ret
        exact ⟨by rw [mayB_no (by omega)]; rfl, hb⟩
    · go_enter Tryd.func18, Tryd.ntmps18
      go_wp2
      go_ret
      exact ⟨by rw [mayB_no (by omega)]; rfl, hb⟩
  by_cases k3 : k = 3
  · subst k3
    by_cases hm0 : 1 ≤ (m : Int)
    · skip
      by_cases hm1 : (m : Int) ≤ 65536
      · skip
        by_cases hn : n ≤ 0
        · go_enter Tryd.func18, Tryd.ntmps18
          go_wp2
          go_ret
          exact ⟨by rw [mayB_yes (by omega)]; rfl, hb⟩
        · go_enter Tryd.func18, Tryd.ntmps18
          go_wp2
          go_ret
          exact ⟨by rw [mayB_no (by omega)]; rfl, hb⟩
      · go_enter Tryd.func18, Tryd.ntmps18
        go_wp2
        go_ret
        exact ⟨by rw [mayB_no (by omega)]; rfl, hb⟩
    · go_enter Tryd.func18, Tryd.ntmps18
      go_wp2
      go_ret
      exact ⟨by rw [mayB_no (by omega)]; rfl, hb⟩
  by_cases k4 : k = 4
  · subst k4
    by_cases hm0 : (m : Int) = 4
    · skip
      by_cases hn : n ≤ 0
      · go_enter Tryd.func18, Tryd.ntmps18
        go_wp2
        go_ret
        exact ⟨by rw [mayB_yes (by omega)]; rfl, hb⟩
      · go_enter Tryd.func18, Tryd.ntmps18
        go_wp2
        go_ret
        exact ⟨by rw [mayB_no (by omega)]; rfl, hb⟩
    · go_enter Tryd.func18, Tryd.ntmps18
      go_wp2
      go_ret
      exact ⟨by rw [mayB_no (by omega)]; rfl, hb⟩
  by_cases k5 : k = 5
  · subst k5
    by_cases hm0 : (m : Int) = 0
    · skip
      by_cases hn : n ≤ 999
      · go_enter Tryd.func18, Tryd.ntmps18
        go_wp2
        go_ret
        exact ⟨by rw [mayB_yes (by omega)]; rfl, hb⟩
      · go_enter Tryd.func18, Tryd.ntmps18
        go_wp2
        go_ret
        exact ⟨by rw [mayB_no (by omega)]; rfl, hb⟩
    · go_enter Tryd.func18, Tryd.ntmps18
      go_wp2
      go_ret
      exact ⟨by rw [mayB_no (by omega)]; rfl, hb⟩
  by_cases k6 : k = 6
  · subst k6
    by_cases hm0 : (m : Int) = 0
    · skip
      by_cases hn : n ≤ 0
      · go_enter Tryd.func18, Tryd.ntmps18
        go_wp2
        go_ret
        exact ⟨by rw [mayB_yes (by omega)]; rfl, hb⟩
      · go_enter Tryd.func18, Tryd.ntmps18
        go_wp2
        go_ret
        exact ⟨by rw [mayB_no (by omega)]; rfl, hb⟩
    · go_enter Tryd.func18, Tryd.ntmps18
      go_wp2
      go_ret
      exact ⟨by rw [mayB_no (by omega)]; rfl, hb⟩
  go_enter Tryd.func18, Tryd.ntmps18
  go_wp2
  go_ret
  exact ⟨by rw [mayB_no (by omega)]; rfl, hb⟩

/-- The program's test. -/
theorem check_ok (k s q n : Int) (A : Option Addr) (m c : Nat) (w : World) (h : mayB k n m = true) :
    Calls Tryd.prog 13 #[.agg #[.int .i64 k, .int .u32 s, .int .u32 q, .int .u32 n, .slice A m c]] w fun e w' => e = .returned .nilIface ∧ Below w.heap.size w w' := by
  have h' := Lib.hid h
  clear h
  go_enter Tryd.func13, Tryd.ntmps13
  go_wp2_with (go_at_call 18; refine (may_any k s q n A m c _).mono ?_; rw [h'.out]; rintro e w1 ⟨rfl, hb1⟩)
  go_ret
  exact ⟨rfl, b_then (b_alloc (Below.refl _ _) _) hb1⟩
theorem check_bad (k s q n : Int) (A : Option Addr) (m c : Nat) (w : World) (h : mayB k n m = false) :
    Calls Tryd.prog 13 #[.agg #[.int .i64 k, .int .u32 s, .int .u32 q, .int .u32 n, .slice A m c]] w fun e w' => e = .returned (.iface 50 (.int .i64 1)) ∧ Below w.heap.size w w' := by
  have h' := Lib.hid h
  clear h
  go_enter Tryd.func13, Tryd.ntmps13
  go_wp2_with (go_at_call 18; refine (may_any k s q n A m c _).mono ?_; rw [h'.out]; rintro e w1 ⟨rfl, hb1⟩)
  go_ret
  exact ⟨rfl, b_then (b_alloc (Below.refl _ _) _) hb1⟩

def RCheckP (w : World) (b : Bool) (e : Ending) (w' : World) : Prop := e = .returned (.int .i64 (if b then 0 else 1)) ∧ Below w.heap.size w w'
set_option maxHeartbeats 8000000 in
theorem rCheck_any (k s q n : Int) (A : Option Addr) (m c : Nat) (w : World) (h0 : 0 ≤ n) :
    Calls Tryd.prog 17 #[.agg #[.int .i64 k, .int .u32 s, .int .u32 q, .int .u32 n, .slice A m c]] w (RCheckP w (mayB k n m)) := by
  have hbb : ∀ cs t, Below w.heap.size w ((w.alloc (.cells #[.int .i64 k, .int .u32 s, .int .u32 q, .int .u32 n, .slice A m c] 25)).alloc (.cells cs t)) := fun cs t => b_alloc (b_alloc (Below.refl _ _) _) _
  go_enter Tryd.func17, Tryd.ntmps17
  go_upto_region 3 with (fail)
  by_cases hk1 : k < 1
  · skip
    go_wp2
    go_ret
    exact ⟨by rw [mayB_no (by omega)]; rfl, hbb _ _⟩
  by_cases hk6 : 6 < k
  · skip
    go_wp2
    go_ret
    exact ⟨by rw [mayB_no (by omega)]; rfl, hbb _ _⟩
  by_cases k1 : k = 1
  · subst k1
    clear hk1 hk6
    by_cases hl : (m : Int) < 8
    · skip
      go_wp2
      go_ret
      exact ⟨by rw [mayB_no (by omega)]; rfl, hbb _ _⟩
    by_cases hh : 8 < (m : Int)
    · skip
      go_wp2
      go_ret
      exact ⟨by rw [mayB_no (by omega)]; rfl, hbb _ _⟩
    by_cases hn : n = 0
    · subst hn
      go_wp2
      go_ret
      exact ⟨by rw [mayB_yes (by omega)]; rfl, hbb _ _⟩
    skip
    go_wp2
    go_ret
    exact ⟨by rw [mayB_no (by omega)]; rfl, hbb _ _⟩
  by_cases k2 : k = 2
  · subst k2
    clear hk1 hk6
    by_cases hl : (m : Int) < 4096
    · skip
      go_wp2
      go_ret
      exact ⟨by rw [mayB_no (by omega)]; rfl, hbb _ _⟩
    by_cases hh : 4096 < (m : Int)
    · skip
      go_wp2
      go_ret
      exact ⟨by rw [mayB_no (by omega)]; rfl, hbb _ _⟩
    by_cases hn : n < 16384
    · skip
      go_wp2
      go_ret
      exact ⟨by rw [mayB_yes (by omega)]; rfl, hbb _ _⟩
    have hn0 : ¬ n = 0 := by omega
    skip
    go_wp2
    go_ret
    exact ⟨by rw [mayB_no (by omega)]; rfl, hbb _ _⟩
  by_cases k3 : k = 3
  · subst k3
    clear hk1 hk6
    by_cases hl : (m : Int) < 1
    · skip
      go_wp2
      go_ret
      exact ⟨by rw [mayB_no (by omega)]; rfl, hbb _ _⟩
    by_cases hh : 65536 < (m : Int)
    · skip
      go_wp2
      go_ret
      exact ⟨by rw [mayB_no (by omega)]; rfl, hbb _ _⟩
    by_cases hn : n = 0
    · subst hn
      go_wp2
      go_ret
      exact ⟨by rw [mayB_yes (by omega)]; rfl, hbb _ _⟩
    skip
    go_wp2
    go_ret
    exact ⟨by rw [mayB_no (by omega)]; rfl, hbb _ _⟩
  by_cases k4 : k = 4
  · subst k4
    clear hk1 hk6
    by_cases hl : (m : Int) < 4
    · skip
      go_wp2
      go_ret
      exact ⟨by rw [mayB_no (by omega)]; rfl, hbb _ _⟩
    by_cases hh : 4 < (m : Int)
    · skip
      go_wp2
      go_ret
      exact ⟨by rw [mayB_no (by omega)]; rfl, hbb _ _⟩
    by_cases hn : n = 0
    · subst hn
      go_wp2
      go_ret
      exact ⟨by rw [mayB_yes (by omega)]; rfl, hbb _ _⟩
    skip
    go_wp2
    go_ret
    exact ⟨by rw [mayB_no (by omega)]; rfl, hbb _ _⟩
  by_cases k5 : k = 5
  · subst k5
    clear hk1 hk6
    have hl : ¬ (m : Int) < 0 := by omega
    by_cases hh : 0 < (m : Int)
    · skip
      go_wp2
      go_ret
      exact ⟨by rw [mayB_no (by omega)]; rfl, hbb _ _⟩
    by_cases hn : n < 1000
    · skip
      go_wp2
      go_ret
      exact ⟨by rw [mayB_yes (by omega)]; rfl, hbb _ _⟩
    have hn0 : ¬ n = 0 := by omega
    skip
    go_wp2
    go_ret
    exact ⟨by rw [mayB_no (by omega)]; rfl, hbb _ _⟩
  by_cases k6 : k = 6
  · subst k6
    clear hk1 hk6
    have hl : ¬ (m : Int) < 0 := by omega
    by_cases hh : 0 < (m : Int)
    · skip
      go_wp2
      go_ret
      exact ⟨by rw [mayB_no (by omega)]; rfl, hbb _ _⟩
    by_cases hn : n = 0
    · subst hn
      go_wp2
      go_ret
      exact ⟨by rw [mayB_yes (by omega)]; rfl, hbb _ _⟩
    skip
    go_wp2
    go_ret
    exact ⟨by rw [mayB_no (by omega)]; rfl, hbb _ _⟩
  omega
end Go.Proofs.YtifkfcjapomlbaaDoor
