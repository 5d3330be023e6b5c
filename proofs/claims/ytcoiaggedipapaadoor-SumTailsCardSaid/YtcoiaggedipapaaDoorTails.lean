/-
  SumTails: the walk.
-/
import Derived.Test.YtcoiaggedipapaaDoorWhole
import Derived.Test.YtcoiaggedipapaaDoorAs
import Derived.Test.YtcoiaggedipapaaDoorQuiet
namespace Go.Proofs.YtcoiaggedipapaaDoor
open Go.RowKit
set_option linter.unusedVariables false
set_option linter.unusedSimpArgs false
set_option maxRecDepth 100000

set_option maxHeartbeats 4000000 in
theorem rTail_any (A : Option Addr) (n c : Nat) (l : List Nat) (w : World) (hb : Bs w A n c l) (hn : n + 4 ≤ 140737488355328) :
    Calls Tryd.prog 33 #[.slice A n c] w (Makes w (n + 4) (tailed l)) := by
  have hs := ofN_lt l
  obtain ⟨b0, b1, b2, b3, h4, q0, q1, q2, q3⟩ := tail4_split (ofN l)
  have ht : Hid (tailed l = l ++ [b0, b1, b2, b3]) := Lib.hid (by unfold tailed; rw [h4])
  simp only [Crc.tail4, List.cons.injEq, and_true] at h4
  obtain ⟨h0, h1, h2, h3⟩ := h4
  have hn0 : n ≤ 140737488355328 := by omega
  have hq : ∀ x ∈ [b0, b1, b2, b3], x < 256 := by simp; omega
  have hq' := Lib.hid hq
  clear hq
  have e0 : IntKind.u8.wrap ((ofN l : Int) / 16777216) = (b0 : Int) := by rw [IntKind.wrap_u8]; omega
  have e1 : IntKind.u8.wrap ((ofN l : Int) / 65536 % 256) = (b1 : Int) := by rw [IntKind.wrap_u8]; omega
  have e2 : IntKind.u8.wrap ((ofN l : Int) / 256 % 256) = (b2 : Int) := by rw [IntKind.wrap_u8]; omega
  have e3 : IntKind.u8.wrap ((ofN l : Int) % 256) = (b3 : Int) := by rw [IntKind.wrap_u8]; omega
  clear h0 h1 h2 h3
  go_enter Tryd.func33, Tryd.ntmps33
  go_wp2_with fail
  refine (rof_any' A n c l w hb).mono ?_
  rintro e w' ⟨rfl, rfl⟩
  go_wp2_with (first
    | (at_builtin; refine wp_append rfl (.tmp 7) (.tmp 8) 23 5 rfl Tryd.underlying23 Tryd.info5 w.heap.size none 0 0 [] A n c l n (by omega) rfl rfl (Own.nil _ _ _) hb (Nat.le_refl _) (by omega) ?_; intro A0 c0 w0 hown0 hg0 hat0; have hb0 := below_of_none hg0; simp only [List.nil_append] at hown0; have hba := b_alloc hb0 (.cells (bytesV [b0, b1, b2, b3]).toArray 5); have hM := Bs.made w0 5 [b0, b1, b2, b3] 4 rfl (by decide) hq'.out; have hOa := hown0.keep (b_alloc (Below.refl _ _) (.cells (bytesV [b0, b1, b2, b3]).toArray 5)); have hsa := hba.size)
    | (at_builtin; refine wp_append rfl (.tmp 10) (.tmp 25) 23 5 rfl Tryd.underlying23 Tryd.info5 w.heap.size A0 n c0 l (some ⟨w0.heap.size, 0, none⟩) 4 4 [b0, b1, b2, b3] (n + 4) rfl rfl rfl hOa hM hsa hn ?_; intro A1 c1 w1 hown1 hg1 hat1))
  go_ret
  exact ⟨A1, c1, rfl, by rw [ht.out]; exact hown1, b_grown hba hg1 (fun k hk => (hown0.ge k hk).1)⟩
/-- The reference cuts: a part of the same bytes. -/
def RCutOk (w : World) (A : Option Addr) (n c : Nat) (e : Ending) (w' : World) : Prop := e = .returned (.tuple #[.slice A (n - 4) c, .int .i64 0]) ∧ Below w.heap.size w w'
def RCutBad (w : World) (l : List Nat) (e : Ending) (w' : World) : Prop := e = .returned (.tuple #[.slice none 0 0, .int .i64 (cutE l : Nat)]) ∧ Below w.heap.size w w'
def RCutP (w : World) (A : Option Addr) (n c : Nat) (l : List Nat) (e : Ending) (w' : World) : Prop := (cutE l = 0 ∧ RCutOk w A n c e w') ∨ (cutE l ≠ 0 ∧ RCutBad w l e w')
theorem tailed_take {l : List Nat} {m : Nat} (hl : l.length = m + 4) : tailed (l.take m) = l ↔ sealed l = true := by
  rw [sealed_take hl]
  unfold tailed
  constructor
  · intro h
    have := congrArg (List.drop m) h
    rwa [List.drop_left' (by rw [List.length_take]; omega)] at this
  · intro h
    rw [h, List.take_append_drop]
set_option maxHeartbeats 4000000 in
theorem rCut_short (A : Option Addr) (n c : Nat) (l : List Nat) (w : World) (hb : Bs w A n c l) (h4 : l.length < 4) :
    Calls Tryd.prog 32 #[.slice A n c] w (RCutBad w l) := by
  have hln := hb.len
  have hE : Hid (cutE l = 12) := Lib.hid (by unfold cutE; rw [if_pos h4])
  have h4' : (n : Int) < 4 := by omega
  go_enter Tryd.func32, Tryd.ntmps32
  go_wp2
  go_ret2
  exact ⟨by rw [hE.out]; rfl, Below.refl _ _⟩
set_option maxHeartbeats 4000000 in
theorem rCut_long (A : Option Addr) (n m c : Nat) (l : List Nat) (w : World) (hnm : Hid (n = m + 4)) (hb : Bs w A n c l) :
    Calls Tryd.prog 32 #[.slice A n c] w (RCutP w A n c l) := by
  have hln0 := hb.len
  have hln : l.length = m + 4 := hln0.trans hnm.out
  have hmn : m ≤ n := by have := hnm.out; omega
  have hmax := hb.max
  have hcap := hb.cap
  have hbt := hb.take m hmn
  have hm4 : m + 4 ≤ 140737488355328 := by have := hnm.out; omega
  have hmc : (m : Int) ≤ (c : Int) := by omega
  have hmc' : m ≤ c := by omega
  have hm0 : (0 : Int) ≤ (m : Int) := by omega
  have h4' : ¬ (n : Int) < 4 := by have := hnm.out; omega
  have hw4 : IntKind.i64.wrap ((n : Int) - 4) = (m : Int) := by have := hnm.out; rw [IntWalk.i64_in _ (by omega)]; omega
  have hw5 : (n : Int) - 4 = (m : Int) := by have := hnm.out; omega
  have hw5' := Lib.hid hw5
  clear hw5
  have hn4 : Hid (n - 4 = m) := Lib.hid (by have := hnm.out; omega)
  have hcv1 : ∀ W, Bs W A n c l → (convert 23 9 (.slice A n c)).run Tryd.prog W = .ok (.string (strOf l)) W := fun W h => run_str 23 5 9 Tryd.underlying23 Tryd.underlying5 Tryd.underlying9 h
  have hcv2 : ∀ W A1 c1, Bs W A1 (m + 4) c1 (tailed (l.take m)) → (convert 23 9 (.slice A1 (m + 4) c1)).run Tryd.prog W = .ok (.string (strOf (tailed (l.take m)))) W := fun W A1 c1 h => run_str 23 5 9 Tryd.underlying23 Tryd.underlying5 Tryd.underlying9 h
  have hsm := hbt.small
  by_cases hs : sealed l = true
  · have hE : Hid (cutE l = 0) := Lib.hid (by unfold cutE; rw [if_neg (by omega), if_pos hs])
    rw [(tailed_take hln).2 hs] at hcv2
    have htl := Lib.hid ((tailed_take hln).2 hs)
    generalize strOf l = s1 at hcv1 hcv2
    clear hs hln hln0
    go_enter Tryd.func32, Tryd.ntmps32
    go_wp2_with fail
    have hd1 := hcv1 _ hb.drew
    go_region_with (go_at_call 33; refine (rTail_any A m c _ _ hbt.drew hm4).mono ?_; rintro e w1 ⟨A1, c1, rfl, hown1, hbt1⟩; have hq1 := hown1.bs; rw [htl.out] at hq1; have hq2 := hcv2 _ _ _ hq1; have hq3 := hcv1 _ ((hb.drew).keep hbt1))
    all_goals go_wp2_with fail
    all_goals go_ret2
    all_goals exact .inl ⟨hE.out, by rw [hn4.out]; rfl, b_then (b_drew (Below.refl _ _)) hbt1⟩
  · have hE : Hid (cutE l = 11) := Lib.hid (by unfold cutE; rw [if_neg (by omega), if_neg hs])
    have hne := str_ne (tailed_small _ hsm) hb.small (fun h => hs ((tailed_take hln).1 h))
    generalize strOf l = s1 at hcv1 hne
    generalize strOf (tailed (l.take m)) = s2 at hcv2 hne
    clear hs hln hln0
    go_enter Tryd.func32, Tryd.ntmps32
    go_wp2_with fail
    have hd1 := hcv1 _ hb.drew
    go_region_with (go_at_call 33; refine (rTail_any A m c _ _ hbt.drew hm4).mono ?_; rintro e w1 ⟨A1, c1, rfl, hown1, hbt1⟩; have hq2 := hcv2 _ _ _ hown1.bs; have hq3 := hcv1 _ ((hb.drew).keep hbt1))
    all_goals go_wp2_with fail
    all_goals go_ret2
    all_goals exact .inr ⟨by rw [hE.out]; decide, by rw [hE.out]; rfl, b_then (b_drew (Below.refl _ _)) hbt1⟩
theorem rCut_any (A : Option Addr) (n c : Nat) (l : List Nat) (w : World) (hb : Bs w A n c l) :
    Calls Tryd.prog 32 #[.slice A n c] w (RCutP w A n c l) := by
  have hln := hb.len
  by_cases h4 : l.length < 4
  · exact (rCut_short A n c l w hb h4).mono fun e w' h => .inr ⟨by unfold cutE; rw [if_pos h4]; decide, h⟩
  · exact rCut_long A n (n - 4) c l w (show n = n - 4 + 4 by omega) hb
end Go.Proofs.YtcoiaggedipapaaDoor
