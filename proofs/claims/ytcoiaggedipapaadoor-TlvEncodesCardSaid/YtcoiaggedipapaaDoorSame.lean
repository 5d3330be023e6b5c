/-
  The laws of layer 19: 'same'; a file taken apart and made again (TlvBack).
-/
import Derived.Test.YtcoiaggedipapaaDoorLaw19
import Derived.Test.YtcoiaggedipapaaDoorAs
namespace Go.Proofs.YtcoiaggedipapaaDoor
open Go.RowKit
set_option linter.unusedVariables false
set_option linter.unusedSimpArgs false
set_option maxRecDepth 100000

theorem secL_get {L M : List SecV} (h : secL L = secL M) {k : Nat} {s t : SecV} (hs : L[k]? = some s) (ht : M[k]? = some t) : s.tag = t.tag ∧ s.b = t.b := by
  have h1 : (secL L)[k]? = some s.sec := by simp [secL, hs]
  have h2 : (secL M)[k]? = some t.sec := by simp [secL, ht]
  rw [h, h2] at h1
  injection h1 with h1
  simp only [SecV.sec, Tl.Sec.mk.injEq] at h1
  exact ⟨h1.1.symm, h1.2.symm⟩
set_option maxHeartbeats 4000000 in
theorem same_yes (A A' : Option Addr) (n c n' c' : Nat) (L L' : List SecV) (w : World) (hS : Secs w A n c L) (hS' : Secs w A' n' c' L') (he : secL L = secL L') :
    Calls Tryd.prog 28 #[.slice A n c, .slice A' n' c'] w fun e w' => e = .returned (.bool true) ∧ ∃ q, w' = w.drewN q := by
  have hmax := hS.max
  have hln := hS.len
  have hln' := hS'.len
  have hnn : n' = n := by
    have := congrArg List.length he
    rw [secL_length, secL_length] at this
    omega
  subst hnn
  have heH := Lib.hid he
  clear he
  go_enter Tryd.func28, Tryd.ntmps28
  go_wp2_with fail
  go_loopw [5] (fun i wr => ∃ k : Nat, k ≤ n' ∧ i = .int .i64 k ∧ ∃ q, wr = w.drewN q) (fun i _ => n' - (intOf i).toNat)
  case atStart => exact ⟨0, Nat.zero_le _, rfl, 0, rfl⟩
  case round =>
    obtain ⟨k, hk, rfl, q, rfl⟩ := hrel
    by_cases hlt : k < n'
    · obtain ⟨s, b, off, hs, rfl, hc0, hc1, htag, hbs⟩ := hS.at_ k hlt
      obtain ⟨s', b', off', hs', rfl, hc0', hc1', htag', hbs'⟩ := hS'.at_ k hlt
      obtain ⟨e1, e2⟩ := secL_get heH.out hs hs'
      rw [← e1] at hc0'
      rw [← e2] at hbs'
      clear e1 e2 htag'
      have hcv := fun nq => run_str (P := Tryd.prog) 23 5 9 Tryd.underlying23 Tryd.underlying5 Tryd.underlying9 (hbs.drewN nq)
      have hcv' := fun nq => run_str (P := Tryd.prog) 23 5 9 Tryd.underlying23 Tryd.underlying5 Tryd.underlying9 (hbs'.drewN nq)
      generalize strOf s.b = st at hcv hcv'
      have hk0 : (0 : Int) ≤ (k : Int) := by omega
      have hkn : (k : Int) < (n' : Int) := by omega
      go_wp2_with fail
      go_quiet (fail)
      go_wp2_with fail
      go_roundw
      case rel => exact ⟨k + 1, by omega, by go_num, _, rfl⟩
      case measure => simp [intOf] <;> omega
    · go_wp2_with fail
      go_ret
      exact ⟨rfl, q, rfl⟩
end Go.Proofs.YtcoiaggedipapaaDoor
