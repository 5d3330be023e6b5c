/-
  tlv.whole, tlv.section, by their contracts.
-/
import Derived.Test.YtcoiaggedipapaaDoorSec
import Derived.Test.YtcoiaggedipapaaDoorNearW
namespace Go.Proofs.YtcoiaggedipapaaDoor
open Go.RowKit
set_option linter.unusedVariables false
set_option linter.unusedSimpArgs false
set_option maxRecDepth 100000

theorem str_eq (l m : List Nat) (hl : ∀ x ∈ l, x < 256) (hm : ∀ x ∈ m, x < 256) : ((strOf l).toList == (strOf m).toList) = decide (l = m) := by
  by_cases h : l = m
  · subst h; simp
  · rw [str_ne hl hm h]; simp [h]
set_option maxHeartbeats 2000000 in
theorem equal_any (A A' : Option Addr) (n c n' c' : Nat) (l l' : List Nat) (w : World) (hb : Bs w A n c l) (hb' : Bs w A' n' c' l') :
    Calls Tryd.prog 70 #[.slice A n c, .slice A' n' c'] w fun e w' => e = .returned (.bool (decide (l = l'))) ∧ w = w' := by
  have he := Lib.hid (str_eq l l' hb.small hb'.small)
  have hc1 := run_str (P := Tryd.prog) 23 5 9 Tryd.underlying23 Tryd.underlying5 Tryd.underlying9 hb
  have hc2 := run_str (P := Tryd.prog) 23 5 9 Tryd.underlying23 Tryd.underlying5 Tryd.underlying9 hb'
  generalize strOf l = s1 at hc1 he
  generalize strOf l' = s2 at hc2 he
  go_enter Tryd.func70, Tryd.ntmps70
  go_wp2
  go_ret
  exact ⟨by rw [← he.out]; rfl, rfl⟩
set_option maxHeartbeats 2000000 in
theorem prefix_any (A A' : Option Addr) (n c n' c' : Nat) (l l' : List Nat) (w : World) (hb : Bs w A n c l) (hb' : Bs w A' n' c' l') (hn : n' ≤ n) :
    Calls Tryd.prog 65 #[.slice A n c, .slice A' n' c'] w fun e w' => e = .returned (.bool (decide (l.take n' = l'))) ∧ w = w' := by
  have hbt := hb.take n' hn
  have hcap := hb.cap
  have h1 : ((n' : Nat) : Int) ≤ ((n : Nat) : Int) := by omega
  have h2 : ((n' : Nat) : Int) ≤ ((c : Nat) : Int) := by omega
  have h3 : n' ≤ c := by omega
  go_enter Tryd.func65, Tryd.ntmps65
  go_wp2_with (go_at_call 70; refine (equal_any A A' n' c n' c' _ l' _ hbt hb').mono ?_; rintro e w1 ⟨rfl, rfl⟩)
  go_ret
  exact ⟨rfl, rfl⟩

/-- The error of sum.Cut. -/
def cutE (l : List Nat) : Nat := if l.length < 4 then 12 else if sealed l = true then 0 else 11
theorem sealed_take {l : List Nat} {m : Nat} (h : l.length = m + 4) : sealed l = true ↔ Crc.tail4 (ofN (l.take m)) = l.drop m := by
  unfold sealed
  rw [h, Nat.add_sub_cancel]
  simp
theorem four_of' (l : List Nat) (h : l.length = 4) : ∃ a b c d, l = [a, b, c, d] := four_of l h
theorem cut_ok (A : Option Addr) (n c : Nat) (l : List Nat) (w : World) (hb : Bs w A n c l) (hT : TabW w) (h : cutE l = 0) :
    Calls Tryd.prog 22 #[.slice A n c] w (Cuts w (n - 4) (l.take (n - 4))) := by
  have hln := hb.len
  unfold cutE at h
  split at h
  · omega
  · rename_i h4
    split at h
    · rename_i hs
      obtain ⟨m, rfl⟩ : ∃ m, n = m + 4 := ⟨n - 4, by omega⟩
      obtain ⟨b, off, rfl, _⟩ := hb.cells (by omega)
      obtain ⟨b0, b1, b2, b3, e1⟩ := four_of (Crc.tail4 (ofN (l.take m))) rfl
      obtain ⟨x0, x1, x2, x3, e2⟩ := four_of (l.drop m) (by rw [List.length_drop]; omega)
      rw [Nat.add_sub_cancel]
      exact cut_good b off m c l w hb hT b0 b1 b2 b3 x0 x1 x2 x3 e1 e2 ((sealed_take hln).1 hs)
    · omega
/-- sum.Cut refuses. -/
def CutBad (w : World) (l : List Nat) (e : Ending) (w' : World) : Prop := e = .returned (.tuple #[.slice none 0 0, .iface 97 (.int .i64 (cutE l : Nat))]) ∧ Below w.heap.size w w'
theorem cut_err (A : Option Addr) (n c : Nat) (l : List Nat) (w : World) (hb : Bs w A n c l) (hT : TabW w) (h : cutE l ≠ 0) :
    Calls Tryd.prog 22 #[.slice A n c] w (CutBad w l) := by
  have hln := hb.len
  by_cases h4 : l.length < 4
  · refine (cut_short A n c l w hb (by omega)).mono ?_
    rintro e w' ⟨rfl, rfl⟩
    exact ⟨by unfold cutE; rw [if_pos h4]; rfl, Below.refl _ _⟩
  · by_cases hs : sealed l = true
    · unfold cutE at h
      rw [if_neg h4, if_pos hs] at h
      exact absurd rfl h
    · have hE : cutE l = 11 := by unfold cutE; rw [if_neg h4, if_neg hs]
      obtain ⟨m, rfl⟩ : ∃ m, n = m + 4 := ⟨n - 4, by omega⟩
      obtain ⟨b, off, rfl, _⟩ := hb.cells (by omega)
      obtain ⟨b0, b1, b2, b3, e1⟩ := four_of (Crc.tail4 (ofN (l.take m))) rfl
      obtain ⟨x0, x1, x2, x3, e2⟩ := four_of (l.drop m) (by rw [List.length_drop]; omega)
      refine (cut_bad b off m c l w hb hT b0 b1 b2 b3 x0 x1 x2 x3 e1 e2 (fun h' => hs ((sealed_take hln).2 h'))).mono ?_
      rintro e w' ⟨rfl, hb'⟩
      exact ⟨by rw [hE]; rfl, hb'⟩
/-- Whatever sum.Cut answers. -/
def CutW (w : World) (e : Ending) (w' : World) : Prop := ∃ A1 n1 c1 V, e = .returned (.tuple #[.slice A1 n1 c1, V]) ∧ Below w.heap.size w w'
theorem cut_weak (A : Option Addr) (n c : Nat) (l : List Nat) (w : World) (hb : Bs w A n c l) (hT : TabW w) : Calls Tryd.prog 22 #[.slice A n c] w (CutW w) := by
  by_cases h : cutE l = 0
  · refine (cut_ok A n c l w hb hT h).mono ?_
    rintro e w' ⟨A1, c1, rfl, _, hb'⟩
    exact ⟨_, _, _, _, rfl, hb'⟩
  · refine (cut_err A n c l w hb hT h).mono ?_
    rintro e w' ⟨rfl, hb'⟩
    exact ⟨_, _, _, _, rfl, hb'⟩

/-- Is a file as a whole what it must be? -/
def WholeP (w : World) (x : Nat) (e : Ending) (w' : World) : Prop := ∃ V, e = .returned V ∧ ErrN V x ∧ Below w.heap.size w w'
theorem wholeP_err {w w' : World} {x : Nat} (hx : x ≠ 0) (hb : Below w.heap.size w w') : WholeP w x (.returned (.iface 97 (.int .i64 (x : Nat)))) w' := ⟨_, rfl, ErrN.num x hx, hb⟩
set_option maxHeartbeats 4000000 in
theorem whole_any (A : Option Addr) (n c : Nat) (l : List Nat) (w : World) (hb : Bs w A n c l) (hT : TabW w) :
    Calls Tryd.prog 56 #[.slice A n c] w (WholeP w (Tl.wholeE l)) := by
  have hln := hb.len
  have hmax := hb.max
  have hcap := hb.cap
  have kc := fun (w : World) (C : Array Value) (n c : Nat) => Lib.run_convert_bytes_const (P := Tryd.prog) w 23 5 C n c Tryd.underlying23 Tryd.underlying5
  by_cases h1 : 134217728 < l.length
  · have hE : Tl.wholeE l = 2 := by unfold Tl.wholeE; rw [if_pos h1]
    rw [hE]
    clear hE
    have h1' : (134217728 : Int) < (n : Int) := by omega
    go_enter Tryd.func56, Tryd.ntmps56
    go_wp2_with (go_at_call 22; refine (cut_weak A n c l _ hb hT).mono ?_; rintro e w1 ⟨A1, n1, c1, V, rfl, hb1⟩)
    go_ret
    exact wholeP_err (by decide) hb1
  · have h1' : ¬ (134217728 : Int) < (n : Int) := by omega
    by_cases h2 : l.length < 16
    · have hE : Tl.wholeE l = 12 := by unfold Tl.wholeE; rw [if_neg h1, if_pos h2]
      rw [hE]
      clear hE
      have h2' : (n : Int) < (16 : Int) := by omega
      go_enter Tryd.func56, Tryd.ntmps56
      go_wp2_with (go_at_call 22; refine (cut_weak A n c l _ hb hT).mono ?_; rintro e w1 ⟨A1, n1, c1, V, rfl, hb1⟩)
      go_ret
      exact wholeP_err (by decide) hb1
    · have h2' : ¬ (n : Int) < (16 : Int) := by omega
      have hms := Lib.hid (show ∀ x ∈ Tl.magic, x < 256 by decide)
      have h4n : 4 ≤ n := by omega
      by_cases h3 : l.take 4 = Tl.magic
      · have h3b : decide (l.take 4 = Tl.magic) = true := decide_eq_true h3
        have hE : Tl.wholeE l = if sealed l = true then (if 4096 < Tl.many l then 2 else 0) else 11 := by unfold Tl.wholeE; rw [if_neg h1, if_neg h2, if_neg (by simpa using h3)]
        clear h3
        by_cases h4 : sealed l = true
        · have hc0 : cutE l = 0 := by unfold cutE; rw [if_neg (by omega), if_pos h4]
          rw [hE, if_pos h4]
          clear hE h4
          obtain ⟨A2, hA2, hB2⟩ := cut_mid (P := Tryd.prog) 23 5 .i64 .i64 Tryd.underlying23 Tryd.info5 A n c 8 12 (by omega) (by omega) hcap
          simp only [show ((8 : Nat) : Int) = 8 from rfl, show ((12 : Nat) : Int) = 12 from rfl, show 12 - 8 = 4 from rfl] at hA2 hB2
          have hnum := fun W (h : Bs W A2 4 (c - 8) ((l.take 12).drop 8)) => number_any A2 4 (c - 8) _ W h (by decide)
          have hmm : Tl.num ((l.take 12).drop 8) = Tl.many l := rfl
          rw [hmm] at hnum
          have hnum' := Lib.hid hnum
          clear hmm hnum
          by_cases h5 : 4096 < Tl.many l
          · rw [if_pos h5]
            have h5' : (4096 : Int) < (Tl.many l : Int) := by omega
            clear h5
            go_enter Tryd.func56, Tryd.ntmps56
            go_wp2_with (first
              | (go_at_call 22; refine (cut_ok A n c l _ hb hT hc0).mono ?_; rintro e w1 ⟨A1, c1, rfl, hown1, hb1⟩; have hbx := hb.keep hb1; have hb2 := b_alloc hb1 (.cells (bytesV Tl.magic).toArray 5 (4, 5)); have hM := Bs.lit w1 5 (4, 5) Tl.magic 4 rfl (by decide) hms.out; have hby := hbx.keep (b_alloc (Below.refl _ _) (.cells (bytesV Tl.magic).toArray 5 (4, 5))))
              | (go_at_call 65; refine (prefix_any A _ n c 4 4 l Tl.magic _ hby hM h4n).mono ?_; rw [h3b]; rintro e w2 ⟨rfl, rfl⟩)
              | (go_at_call 57; refine (hnum'.out _ (hB2 _ _ hby)).mono ?_; rintro e w3 ⟨rfl, rfl⟩))
            go_ret
            exact wholeP_err (by decide) hb2
          · rw [if_neg h5]
            have h5' : ¬ (4096 : Int) < (Tl.many l : Int) := by omega
            clear h5
            go_enter Tryd.func56, Tryd.ntmps56
            go_wp2_with (first
              | (go_at_call 22; refine (cut_ok A n c l _ hb hT hc0).mono ?_; rintro e w1 ⟨A1, c1, rfl, hown1, hb1⟩; have hbx := hb.keep hb1; have hb2 := b_alloc hb1 (.cells (bytesV Tl.magic).toArray 5 (4, 5)); have hM := Bs.lit w1 5 (4, 5) Tl.magic 4 rfl (by decide) hms.out; have hby := hbx.keep (b_alloc (Below.refl _ _) (.cells (bytesV Tl.magic).toArray 5 (4, 5))))
              | (go_at_call 65; refine (prefix_any A _ n c 4 4 l Tl.magic _ hby hM h4n).mono ?_; rw [h3b]; rintro e w2 ⟨rfl, rfl⟩)
              | (go_at_call 57; refine (hnum'.out _ (hB2 _ _ hby)).mono ?_; rintro e w3 ⟨rfl, rfl⟩))
            go_ret
            exact ⟨_, rfl, ErrN.none, hb2⟩
        · have hc0 : cutE l = 11 := by unfold cutE; rw [if_neg (by omega), if_neg h4]
          have hc1 : cutE l ≠ 0 := by omega
          have hc0' := Lib.hid hc0
          rw [hE, if_neg h4]
          clear hE h4 hc0
          go_enter Tryd.func56, Tryd.ntmps56
          go_wp2_with (first
              | (go_at_call 22; refine (cut_err A n c l _ hb hT hc1).mono ?_; unfold CutBad; rw [hc0'.out]; rintro e w1 ⟨rfl, hb1⟩; have hbx := hb.keep hb1; have hb2 := b_alloc hb1 (.cells (bytesV Tl.magic).toArray 5 (4, 5)); have hM := Bs.lit w1 5 (4, 5) Tl.magic 4 rfl (by decide) hms.out; have hby := hbx.keep (b_alloc (Below.refl _ _) (.cells (bytesV Tl.magic).toArray 5 (4, 5))))
              | (go_at_call 65; refine (prefix_any A _ n c 4 4 l Tl.magic _ hby hM h4n).mono ?_; rw [h3b]; rintro e w2 ⟨rfl, rfl⟩))
          go_ret
          exact wholeP_err (by decide) hb2
      · have h3b : decide (l.take 4 = Tl.magic) = false := decide_eq_false h3
        have hE : Tl.wholeE l = 3 := by unfold Tl.wholeE; rw [if_neg h1, if_neg h2, if_pos (by simpa using h3)]
        rw [hE]
        clear hE h3
        go_enter Tryd.func56, Tryd.ntmps56
        go_wp2_with (first
          | (go_at_call 22; refine (cut_weak A n c l _ hb hT).mono ?_; rintro e w1 ⟨A1, n1, c1, V, rfl, hb1⟩; have hbx := hb.keep hb1; have hb2 := b_alloc hb1 (.cells (bytesV Tl.magic).toArray 5 (4, 5)); have hM := Bs.lit w1 5 (4, 5) Tl.magic 4 rfl (by decide) hms.out; have hby := hbx.keep (b_alloc (Below.refl _ _) (.cells (bytesV Tl.magic).toArray 5 (4, 5))))
          | (go_at_call 65; refine (prefix_any A _ n c 4 4 l Tl.magic _ hby hM h4n).mono ?_; rw [h3b]; rintro e w2 ⟨rfl, rfl⟩))
        go_ret
        exact wholeP_err (by decide) hb2
end Go.Proofs.YtcoiaggedipapaaDoor
