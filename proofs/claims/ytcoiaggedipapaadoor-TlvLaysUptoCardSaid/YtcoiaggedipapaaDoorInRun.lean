/-
  tlv.In's Run, by its contract.
-/
import Derived.Test.YtcoiaggedipapaaDoorIn
namespace Go.Proofs.YtcoiaggedipapaaDoor
open Go.RowKit
set_option linter.unusedVariables false
set_option linter.unusedSimpArgs false
set_option maxRecDepth 100000

/-- Bytes are taken off. -/
def TakesRun (w : World) (g : Nat) (s : Tl.In) (top : Int) (e : Ending) (w' : World) : Prop :=
  ∃ A1 n1 c1, e = .returned (.slice A1 n1 c1) ∧ Own w' w.heap.size 5 A1 n1 c1 (Tl.takeRun s top).2 ∧ InAt w' g (Tl.takeRun s top).1 ∧ Kept (inIn g) w w'
theorem max2 (x y : Int) (ts : Array TypeId) (t : TypeId) (W : World) :
    (Builtin.max_ ts t #[.int .i64 x, .int .i64 y]).run Tryd.prog W = .ok (.int .i64 (if x < y then y else x)) W := by
  have two := fun (x y : Int) => (show Builtin.max2 (.int .i64 x) (.int .i64 y) = pure (.int .i64 (if x < y then y else x)) by simp only [Builtin.max2])
  simp only [Builtin.max_, List.foldlM_cons, List.foldlM_nil, two, pure_bind, Sem.run_pure]
theorem takeRun_err {l : List Nat} {e : Nat} {top : Int} (h : e ≠ 0) : Tl.takeRun ⟨l, e⟩ top = (⟨l, e⟩, []) := by unfold Tl.takeRun; simp [h]
theorem takeRun_neg {l : List Nat} {top : Int} (h : top < 0) : Tl.takeRun ⟨l, 0⟩ top = (⟨l, 1⟩, []) := by unfold Tl.takeRun; simp [h]
theorem takeRun_bad {l : List Nat} {top : Nat} (h : peekE ⟨l, 0⟩ 4 top 2 ≠ 0) : Tl.takeRun ⟨l, 0⟩ top = (⟨l, peekE ⟨l, 0⟩ 4 top 2⟩, []) := by
  revert h
  unfold Tl.takeRun peekE
  have h0 : ¬ (top : Int) < 0 := by omega
  have h1 : ¬ ((4 : Int) < 1 ∨ (8 : Int) < 4) := by omega
  have e4 : (4 : Int).toNat = 4 := rfl
  by_cases h2 : l.length < 4
  · have h2' : (l.length : Int) < 4 := by omega
    simp [h0, h2, h2']
  · have h2' : ¬ (l.length : Int) < 4 := by omega
    by_cases h3 : top < Tl.num (l.take 4)
    · have h3' : (top : Int) < (Tl.num (l.take 4) : Int) := by omega
      simp [h0, h2, h2', e4, h3, h3']
    · simp [h0, h2, h2', e4, h3]
theorem takeRun_ok {l : List Nat} {top : Nat} (h : peekE ⟨l, 0⟩ 4 top 2 = 0) : 4 ≤ l.length ∧ Tl.num (l.take 4) ≤ top ∧
    Tl.takeRun ⟨l, 0⟩ top = if l.length - 4 < Tl.num (l.take 4) then (⟨l, 12⟩, []) else (⟨l.drop (4 + Tl.num (l.take 4)), 0⟩, (l.drop 4).take (Tl.num (l.take 4))) := by
  revert h
  unfold Tl.takeRun peekE
  have h0 : ¬ (top : Int) < 0 := by omega
  have e4 : (4 : Int).toNat = 4 := rfl
  by_cases h2 : l.length < 4
  · have h2' : (l.length : Int) < 4 := by omega
    simp [h0, h2, h2']
  · have h2' : ¬ (l.length : Int) < 4 := by omega
    by_cases h3 : top < Tl.num (l.take 4)
    · have h3' : (top : Int) < (Tl.num (l.take 4) : Int) := by omega
      simp [h0, h2, h2', e4, h3, h3']
    · have h3' : ¬ (top : Int) < (Tl.num (l.take 4) : Int) := by omega
      simp [h0, h2, h2', e4, h3, h3']
      omega

set_option maxHeartbeats 4000000 in
theorem inRun_any (g : Nat) (s : Tl.In) (top : Int) (w : World) (hI : InAt w g s) (ht : top ≤ 9223372036854775807) :
    Calls Tryd.prog 41 #[.pointer (some ⟨g, 0, none⟩), .int .i64 top] w (TakesRun w g s top) := by
  obtain ⟨A, m, c, V, hB, hs, hV⟩ := hI.at_
  have hcap := hs.cap
  have hmax := hs.max
  have hln := hs.len
  have hc0 := hB.cell 0 rfl
  have hc1 := hB.cell 1 rfl
  have hf := hB.free 1
  rcases s with ⟨l, e⟩
  simp only at hs hV hln ⊢
  subst hln
  have hmx := max2 top 0 #[3, 3] 3
  cases hV with
  | num x h0 =>
    have he := Lib.hid (takeRun_err (l := l) (top := top) h0)
    have hpe : peekE ⟨l, e⟩ 4 (if top < 0 then 0 else top).toNat 2 = e := by unfold peekE; simp [h0]
    obtain ⟨t, ht', hte⟩ : ∃ t : Nat, t < 18446744073709551616 ∧ (if top < 0 then 0 else top) = (t : Int) := ⟨(if top < 0 then 0 else top).toNat, by split <;> omega, by split <;> omega⟩
    rw [hte] at hmx hpe
    rw [Int.toNat_natCast] at hpe
    have hpe' := Lib.hid hpe
    clear hte hpe
    go_enter Tryd.func41, Tryd.ntmps41
    go_wp2_with (go_at_call 61; refine (peek_bad g ⟨l, e⟩ 4 t 2 _ hI ht' (by decide) (by rw [hpe'.out]; exact h0)).mono ?_; rintro e w1 ⟨rfl, hi, hk⟩)
    go_ret
    refine ⟨none, 0, 0, rfl, ?_, ?_, hk⟩
    · rw [he.out]; exact Own.nil _ _ _
    · rw [he.out]; rw [hpe'.out] at hi; exact hi
  | none =>
    by_cases hneg : top < 0
    · have he := Lib.hid (takeRun_neg (l := l) hneg)
      rw [if_pos hneg] at hmx
      have hi := in_err hB hs ErrN.none (ErrN.num 1 (by decide))
      have hi1 := hi.1
      have hi2 := hi.2
      clear hi
      have hpe' : Hid (peekE ⟨l, 1⟩ 4 0 2 = 1) := Lib.hid (by unfold peekE; simp)
      go_enter Tryd.func41, Tryd.ntmps41
      go_wp2_with (go_at_call 61; refine (peek_bad g ⟨l, 1⟩ 4 0 2 _ hi1 (by decide) (by decide) (by rw [hpe'.out]; decide)).mono ?_; rintro e w1 ⟨rfl, hi, hk⟩)
      go_ret
      refine ⟨none, 0, 0, rfl, ?_, ?_, hi2.trans hk⟩
      · rw [he.out]; exact Own.nil _ _ _
      · rw [he.out]; rw [hpe'.out] at hi; exact hi
    · obtain ⟨t, rfl⟩ : ∃ t : Nat, top = (t : Int) := ⟨top.toNat, by omega⟩
      rw [if_neg hneg] at hmx
      have ht' : t < 18446744073709551616 := by omega
      by_cases hx : peekE ⟨l, 0⟩ 4 t 2 = 0
      · obtain ⟨h4, htop, he⟩ := takeRun_ok hx
        clear hx
        have hsm : Tl.num (l.take 4) < 4294967296 := Tl.num_take_lt l hs.small 4
        have hpk := fun (W : World) (h : InAt W g ⟨l, 0⟩) => peek_ok g l 4 t 2 W h ht' (by decide) (by decide) h4 htop
        generalize Tl.num (l.take 4) = q at htop he hsm hpk
        have hpk' := Lib.hid hpk
        clear hpk
        have h4i : (4 : Int) ≤ (l.length : Int) := by omega
        by_cases hq : l.length - 4 < q
        · rw [if_pos hq] at he
          have he' := Lib.hid he
          clear he
          have hqi : (l.length : Int) - 4 < (q : Int) := by omega
          clear hq
          have hi := in_err hB hs ErrN.none (ErrN.num 12 (by decide))
          have hi1 := hi.1
          have hi2 := hi.2
          clear hi
          go_enter Tryd.func41, Tryd.ntmps41
          go_wp2_with (go_at_call 61; refine (hpk'.out _ hI).mono ?_; rintro e w1 ⟨rfl, rfl⟩)
          go_ret
          refine ⟨none, 0, 0, rfl, ?_, ?_, hi2⟩
          · rw [he'.out]; exact Own.nil _ _ _
          · rw [he'.out]; exact hi1
        · rw [if_neg hq] at he
          have he' := Lib.hid he
          clear he
          have hqi : ¬ (l.length : Int) - 4 < (q : Int) := by omega
          have hq4 : 4 + q ≤ l.length := by omega
          have hq4i : 4 + (q : Int) ≤ (l.length : Int) := by omega
          clear hq
          obtain ⟨A1, hA1, hB1⟩ := cut_mid (P := Tryd.prog) 23 5 .i64 .u64 Tryd.underlying23 Tryd.info5 A l.length c 4 (4 + q) (by omega) hq4 hcap
          obtain ⟨A2, hA2, hB2⟩ := cut_from (P := Tryd.prog) 23 5 .u64 Tryd.underlying23 Tryd.info5 A l.length c (4 + q) hq4
          have hs1 := hB1 w l hs
          have hs2 := hB2 w l hs
          clear hB1 hB2
          have e4 : 4 + q - 4 = q := by omega
          rw [List.drop_take] at hs1
          rw [e4] at hs1 hA1
          clear e4
          have c4 : ((4 + q : Nat) : Int) = 4 + (q : Int) := by omega
          rw [c4] at hA1 hA2
          clear c4
          simp only [show ((4 : Nat) : Int) = 4 from rfl] at hA1
          have hf0 := hB.free 0
          go_enter Tryd.func41, Tryd.ntmps41
          go_wp2_with (first | (go_at_call 61; refine (hpk'.out _ hI).mono ?_; rintro e w1 ⟨rfl, rfl⟩) | (go_at_call 54; refine (clone_any A1 q _ _ _ hs1).mono ?_; rintro e w1 ⟨A3, c3, rfl, hown3, hb3⟩; have hB3 := hB.keep hb3; have hc30 := hB3.cell 0 rfl; have hf30 := hB3.free 0))
          go_ret
          have hi := in_cut hB3 ErrN.none (hs2.keep hb3)
          refine ⟨A3, q, c3, rfl, ?_, ?_, ?_⟩
          · rw [he'.out]
            exact hown3.kept (kept_in _ g 0 _) (fun b hb e => by have := (hown3.ge b hb).1; have := hB.lt; have : b = g := e; omega)
          · rw [he'.out]; exact hi.1
          · exact (Kept.of_below hb3).trans hi.2
      · have he := Lib.hid (takeRun_bad hx)
        go_enter Tryd.func41, Tryd.ntmps41
        go_wp2_with (go_at_call 61; refine (peek_bad g ⟨l, 0⟩ 4 t 2 _ hI ht' (by decide) hx).mono ?_; rintro e w1 ⟨rfl, hi, hk⟩)
        go_ret
        refine ⟨none, 0, 0, rfl, ?_, ?_, hk⟩
        · rw [he.out]; exact Own.nil _ _ _
        · rw [he.out]; exact hi
end Go.Proofs.YtcoiaggedipapaaDoor
