/-
  The reference's TakeN, TakeRun, Done, by their contracts.
-/
import Derived.Test.YtcoiaggedipapaaDoorInRun
import Derived.Deep.RegionHeld3
namespace Go.Proofs.YtcoiaggedipapaaDoor
open Go.RowKit
set_option linter.unusedVariables false
set_option linter.unusedSimpArgs false
set_option maxRecDepth 100000

/-- A reference's In, by value. -/
def RTakesN (w : World) (s : Tl.In) (n : Int) (top : Nat) (e : Ending) (w' : World) : Prop :=
  ∃ A1 n1 c1, e = .returned (.tuple #[.agg #[.slice A1 n1 c1, .int .i64 ((Tl.takeN s n top).1.e : Nat)], .int .u64 ((Tl.takeN s n top).2 : Nat)]) ∧ Bs w A1 n1 c1 (Tl.takeN s n top).1.b ∧ Below w.heap.size w w'
set_option maxHeartbeats 4000000 in
theorem rTakeN_bad (A : Option Addr) (m c : Nat) (l : List Nat) (e : Nat) (n : Int) (top : Nat) (w : World) (hs : Bs w A m c l) (ht : top < 18446744073709551616) (he9 : e < 1000) (hx : peekE ⟨l, e⟩ n top 4 ≠ 0) :
    Calls Tryd.prog 50 #[.agg #[.slice A m c, .int .i64 e], .int .i64 n, .int .u64 top] w (RTakesN w ⟨l, e⟩ n top) := by
  have hcap := hs.cap
  have hmax := hs.max
  have hln := hs.len
  subst hln
  have fin : ∀ x : Nat, peekE ⟨l, e⟩ n top 4 = x → ∀ w', Below w.heap.size w w' → RTakesN w ⟨l, e⟩ n top (.returned (.tuple #[.agg #[.slice A l.length c, .int .i64 (x : Nat)], .int .u64 0])) w' := by
    intro x hxx w' hb
    unfold RTakesN
    rw [takeN_bad hx, hxx]
    exact ⟨A, l.length, c, rfl, hs, hb⟩
  have fin' := Lib.hid fin
  clear fin
  by_cases h0 : e = 0
  · subst h0
    by_cases h1 : n < 1
    · have he : Hid (peekE ⟨l, 0⟩ n top 4 = 1) := Lib.hid (by unfold peekE; simp [h1])
      clear hx
      go_enter Tryd.func50, Tryd.ntmps50
      go_wp2
      exact bodyPost_ret (v := .tuple #[.agg #[.slice A l.length c, .int .i64 ((1 : Nat) : Int)], .int .u64 0]) (by simp [results, Tryd.results50, go_sem]) rfl (fin'.out 1 he.out _ (b_alloc (b_alloc (Below.refl _ _) _) _))
    · by_cases h8 : 8 < n
      · have he : Hid (peekE ⟨l, 0⟩ n top 4 = 1) := Lib.hid (by unfold peekE; simp [h8])
        clear hx
        go_enter Tryd.func50, Tryd.ntmps50
        go_wp2
        exact bodyPost_ret (v := .tuple #[.agg #[.slice A l.length c, .int .i64 ((1 : Nat) : Int)], .int .u64 0]) (by simp [results, Tryd.results50, go_sem]) rfl (fin'.out 1 he.out _ (b_alloc (b_alloc (Below.refl _ _) _) _))
      · obtain ⟨k, rfl⟩ : ∃ k : Nat, n = (k : Int) := ⟨n.toNat, by omega⟩
        have h18 : ¬ ((k : Int) < 1 ∨ 8 < (k : Int)) := by omega
        by_cases hl : l.length < k
        · have he : Hid (peekE ⟨l, 0⟩ k top 4 = 12) := Lib.hid (by unfold peekE; simp only [ne_eq, not_true_eq_false, if_false, h18]; rw [if_pos (by omega)])
          clear h18
          have hl' : (l.length : Int) < (k : Int) := by omega
          clear hx
          go_enter Tryd.func50, Tryd.ntmps50
          go_wp2
          exact bodyPost_ret (v := .tuple #[.agg #[.slice A l.length c, .int .i64 ((12 : Nat) : Int)], .int .u64 0]) (by simp [results, Tryd.results50, go_sem]) rfl (fin'.out 12 he.out _ (b_alloc (b_alloc (Below.refl _ _) _) _))
        · have he0 : peekE ⟨l, 0⟩ k top 4 = if top < Tl.num (l.take k) then 4 else 0 := by unfold peekE; simp only [ne_eq, not_true_eq_false, if_false, h18]; rw [if_neg (by omega)]; rfl
          have htop : top < Tl.num (l.take k) := by
            by_cases h : top < Tl.num (l.take k)
            · exact h
            · rw [he0, if_neg h] at hx; exact absurd rfl hx
          have he : Hid (peekE ⟨l, 0⟩ k top 4 = 4) := Lib.hid (by rw [he0, if_pos htop])
          clear hx h18 he0
          have hl' : ¬ (l.length : Int) < (k : Int) := by omega
          have hbt := hs.take k (by omega)
          have hk8 : k ≤ 8 := by omega
          have hkc : (k : Int) ≤ (c : Int) := by omega
          have hkc' : k ≤ c := by omega
          have htop' : (top : Int) < (Tl.num (l.take k) : Int) := by omega
          clear htop
          go_enter Tryd.func50, Tryd.ntmps50
          go_wp2_with (go_at_call 62; refine (rnumber_any A k c _ _ (hbt.keep (b_alloc (b_alloc (Below.refl _ _) _) _)) hk8).mono ?_; rintro e w1 ⟨rfl, rfl⟩)
          exact bodyPost_ret (v := .tuple #[.agg #[.slice A l.length c, .int .i64 ((4 : Nat) : Int)], .int .u64 0]) (by simp [results, Tryd.results50, go_sem]) rfl (fin'.out 4 he.out _ (b_alloc (b_alloc (Below.refl _ _) _) _))
  · have he : Hid (peekE ⟨l, e⟩ n top 4 = e) := Lib.hid (by unfold peekE; simp [h0])
    have h0' : ¬ (e : Int) = 0 := by omega
    have h0b : ((e : Int) != 0) = true := by rw [bne_iff_ne]; omega
    clear hx h0
    go_enter Tryd.func50, Tryd.ntmps50
    go_wp2
    exact bodyPost_ret (v := .tuple #[.agg #[.slice A l.length c, .int .i64 (e : Nat)], .int .u64 0]) (by simp [results, Tryd.results50, go_sem]) rfl (fin'.out e he.out _ (b_alloc (b_alloc (Below.refl _ _) _) _))

set_option maxHeartbeats 4000000 in
theorem rTakeN_any (A : Option Addr) (m c : Nat) (l : List Nat) (e : Nat) (n : Int) (top : Nat) (w : World) (hs : Bs w A m c l) (ht : top < 18446744073709551616) (he9 : e < 1000) :
    Calls Tryd.prog 50 #[.agg #[.slice A m c, .int .i64 e], .int .i64 n, .int .u64 top] w (RTakesN w ⟨l, e⟩ n top) := by
  by_cases hx : peekE ⟨l, e⟩ n top 4 = 0
  · obtain ⟨h0, h1, h8, hl, htop, he⟩ := takeN_ok hx
    have he' := Lib.hid he
    obtain ⟨k, rfl⟩ : ∃ k : Nat, n = (k : Int) := ⟨n.toNat, by omega⟩
    simp only [Int.toNat_natCast] at h0 h1 h8 hl htop he'
    subst h0
    clear hx he
    have hcap := hs.cap
    have hln := hs.len
    subst hln
    obtain ⟨A', hA', hB'⟩ := cut_from (P := Tryd.prog) 23 5 .i64 Tryd.underlying23 Tryd.info5 A l.length c k (by omega)
    have hs' := hB' w l hs
    have k8 : k ≤ 8 := by omega
    have kl : k ≤ l.length := by omega
    have hbt := hs.take k kl
    have hkc : (k : Int) ≤ (c : Int) := by omega
    have hkc' : k ≤ c := by omega
    have h1' : ¬ (k : Int) < 1 := by omega
    have h8' : ¬ 8 < (k : Int) := by omega
    have hl' : ¬ (l.length : Int) < (k : Int) := by omega
    have htop' : ¬ (top : Int) < (Tl.num (l.take k) : Int) := by omega
    have hk0 : (0 : Int) ≤ (k : Int) := by omega
    clear htop
    have hbt2 := hbt.keep (b_alloc (b_alloc (Below.refl w.heap.size w) (Obj.cells #[.slice A l.length c, .int .i64 0] 85)) (Obj.cells #[.slice none 0 0, .int .i64 0] 85))
    go_enter Tryd.func50, Tryd.ntmps50
    go_wp2_with (go_at_call 62; refine (rnumber_any A k c _ _ hbt2 k8).mono ?_; rintro e w1 ⟨rfl, rfl⟩)
    go_region_held3 (fun w' => w'.cell? ⟨w.heap.size, 0, none⟩ = some (.slice A l.length c)) (go_keep) (first | (go_at_call 62; refine (rnumber_any A k c _ _ (hbt.keep (by repeat (first | exact Below.refl _ _ | refine b_alloc ?_ _ | refine b_drew ?_ | refine b_set ?_ (by simp) _))) k8).mono ?_; rintro e w1 ⟨rfl, rfl⟩) | fail)
    all_goals go_wp2
    all_goals refine bodyPost_ret (v := .tuple #[.agg #[.slice A' (l.length - k) (c - k), .int .i64 ((0 : Nat) : Int)], .int .u64 (Tl.num (l.take k) : Nat)]) (by simp [results, Tryd.results50, go_sem]) rfl ?_
    all_goals unfold RTakesN
    all_goals rw [he'.out]
    all_goals exact ⟨A', _, _, rfl, hs', by repeat (first | exact Below.refl _ _ | refine b_alloc ?_ _ | refine b_drew ?_ | refine b_set ?_ (by simp) _)⟩
  · exact rTakeN_bad A m c l e n top w hs ht he9 hx

def RTakesRun (w : World) (s : Tl.In) (top : Int) (e : Ending) (w' : World) : Prop :=
  ∃ A1 n1 c1 A2 n2 c2, e = .returned (.tuple #[.agg #[.slice A1 n1 c1, .int .i64 ((Tl.takeRun s top).1.e : Nat)], .slice A2 n2 c2]) ∧ Bs w A1 n1 c1 (Tl.takeRun s top).1.b ∧ Bs w A2 n2 c2 (Tl.takeRun s top).2 ∧ Below w.heap.size w w'
set_option maxHeartbeats 4000000 in
theorem rTakeRun_any (A : Option Addr) (m c : Nat) (l : List Nat) (e : Nat) (top : Int) (w : World) (hs : Bs w A m c l) (ht : top ≤ 9223372036854775807) :
    Calls Tryd.prog 49 #[.agg #[.slice A m c, .int .i64 e], .int .i64 top] w (RTakesRun w ⟨l, e⟩ top) := by
  have hcap := hs.cap
  have hmax := hs.max
  have hln := hs.len
  subst hln
  have fin : ∀ x : Nat, Tl.takeRun ⟨l, e⟩ top = (⟨l, x⟩, []) → ∀ w', Below w.heap.size w w' → RTakesRun w ⟨l, e⟩ top (.returned (.tuple #[.agg #[.slice A l.length c, .int .i64 (x : Nat)], .slice none 0 0])) w' := by
    intro x hxx w' hb
    unfold RTakesRun
    rw [hxx]
    exact ⟨A, l.length, c, none, 0, 0, rfl, hs, Bs.nil _ _ _, hb⟩
  have fin' := Lib.hid fin
  clear fin
  by_cases h0 : e = 0
  · subst h0
    by_cases hneg : top < 0
    · have he := Lib.hid (takeRun_neg (l := l) hneg)
      go_enter Tryd.func49, Tryd.ntmps49
      go_wp2
      exact bodyPost_ret (v := .tuple #[.agg #[.slice A l.length c, .int .i64 ((1 : Nat) : Int)], .slice none 0 0]) (by simp [results, Tryd.results49, go_sem]) rfl (fin'.out 1 he.out _ (b_alloc (b_alloc (Below.refl _ _) _) _))
    · obtain ⟨t, rfl⟩ : ∃ t : Nat, top = (t : Int) := ⟨top.toNat, by omega⟩
      have ht' : t < 18446744073709551616 := by omega
      by_cases h4 : l.length < 4
      · have he : Hid (Tl.takeRun ⟨l, 0⟩ t = (⟨l, 12⟩, [])) := Lib.hid (by unfold Tl.takeRun; simp [h4])
        have h4' : (l.length : Int) < 4 := by omega
        go_enter Tryd.func49, Tryd.ntmps49
        go_wp2
        exact bodyPost_ret (v := .tuple #[.agg #[.slice A l.length c, .int .i64 ((12 : Nat) : Int)], .slice none 0 0]) (by simp [results, Tryd.results49, go_sem]) rfl (fin'.out 12 he.out _ (b_alloc (b_alloc (Below.refl _ _) _) _))
      · have h4' : ¬ (l.length : Int) < 4 := by omega
        have h4i : (4 : Int) ≤ (l.length : Int) := by omega
        have hbt := hs.take 4 (by omega)
        have h4c : (4 : Int) ≤ (c : Int) := by omega
        have h4c' : 4 ≤ c := by omega
        have hsm : Tl.num (l.take 4) < 4294967296 := Tl.num_take_lt l hs.small 4
        have hr := Lib.hid (show Tl.takeRun ⟨l, 0⟩ t = if (t : Int) < (Tl.num (l.take 4) : Int) then (⟨l, 2⟩, []) else if l.length - 4 < Tl.num (l.take 4) then (⟨l, 12⟩, []) else (⟨l.drop (4 + Tl.num (l.take 4)), 0⟩, (l.drop 4).take (Tl.num (l.take 4))) by
          unfold Tl.takeRun
          rw [if_neg (by simp), if_neg (by omega), if_neg h4])
        have hnum := fun W (h : Bs W A 4 c (l.take 4)) => rnumber_any A 4 c _ W h (by decide)
        generalize Tl.num (l.take 4) = q at hsm hr hnum
        have hnum' := Lib.hid hnum
        clear hnum h4
        have hw1 : IntKind.i64.wrap ((l.length : Int) - 4) = (l.length : Int) - 4 := IntWalk.i64_in _ (by omega)
        have hw2 : IntKind.u64.wrap ((l.length : Int) - 4) = (l.length : Int) - 4 := by rw [IntKind.wrap_u64]; omega
        by_cases htop : (t : Int) < (q : Int)
        · have he := Lib.hid (hr.out.trans (if_pos htop))
          go_enter Tryd.func49, Tryd.ntmps49
          go_wp2_with (go_at_call 62; refine (hnum'.out _ (hbt.keep (b_alloc (b_alloc (Below.refl _ _) _) _))).mono ?_; rintro e w1 ⟨rfl, rfl⟩)
          exact bodyPost_ret (v := .tuple #[.agg #[.slice A l.length c, .int .i64 ((2 : Nat) : Int)], .slice none 0 0]) (by simp [results, Tryd.results49, go_sem]) rfl (fin'.out 2 he.out _ (b_alloc (b_alloc (Below.refl _ _) _) _))
        · by_cases hq : l.length - 4 < q
          · have he := Lib.hid ((hr.out.trans (if_neg htop)).trans (if_pos hq))
            have hqi : (l.length : Int) - 4 < (q : Int) := by omega
            clear hq
            go_enter Tryd.func49, Tryd.ntmps49
            go_wp2_with (go_at_call 62; refine (hnum'.out _ (hbt.keep (b_alloc (b_alloc (Below.refl _ _) _) _))).mono ?_; rintro e w1 ⟨rfl, rfl⟩)
            go_region_held3 (fun w' => w'.cell? ⟨w.heap.size, 0, none⟩ = some (.slice A l.length c)) (go_keep) (first | (go_at_call 62; refine (hnum'.out _ (hbt.keep (by repeat (first | exact Below.refl _ _ | refine b_alloc ?_ _ | refine b_drew ?_ | refine b_set ?_ (by simp) _)))).mono ?_; rintro e w1 ⟨rfl, rfl⟩) | fail)
            go_wp2
            refine bodyPost_ret (v := .tuple #[.agg #[.slice A l.length c, .int .i64 ((12 : Nat) : Int)], .slice none 0 0]) (by simp [results, Tryd.results49, go_sem]) rfl (fin'.out 12 he.out _ ?_)
            repeat (first | exact Below.refl _ _ | refine b_alloc ?_ _ | refine b_drew ?_ | refine b_set ?_ (by simp) _)
          · have he := Lib.hid ((hr.out.trans (if_neg htop)).trans (if_neg hq))
            have hqi : ¬ (l.length : Int) - 4 < (q : Int) := by omega
            have hq4 : 4 + q ≤ l.length := by omega
            have hq4i : 4 + (q : Int) ≤ (l.length : Int) := by omega
            clear hq
            obtain ⟨A1, hA1, hB1⟩ := cut_mid (P := Tryd.prog) 23 5 .i64 .i64 Tryd.underlying23 Tryd.info5 A l.length c 4 (4 + q) (by omega) hq4 hcap
            obtain ⟨A2, hA2, hB2⟩ := cut_from (P := Tryd.prog) 23 5 .i64 Tryd.underlying23 Tryd.info5 A l.length c (4 + q) hq4
            have hs1 := hB1 w l hs
            have hs2 := hB2 w l hs
            clear hB1 hB2
            have e4 : 4 + q - 4 = q := by omega
            rw [List.drop_take] at hs1
            rw [e4] at hs1 hA1
            clear e4
            have c4 : ((4 + q : Nat) : Int) = 4 + (q : Int) := by omega
            rw [c4] at hA1 hA2
            clear c4
            simp only [show ((4 : Nat) : Int) = 4 from rfl] at hA1
            have hw4 : IntKind.i64.wrap (4 + (q : Int)) = 4 + (q : Int) := IntWalk.i64_in _ (by omega)
            go_enter Tryd.func49, Tryd.ntmps49
            go_wp2_with (go_at_call 62; refine (hnum'.out _ (hbt.keep (b_alloc (b_alloc (Below.refl _ _) _) _))).mono ?_; rintro e w1 ⟨rfl, rfl⟩)
            go_region_held3 (fun w' => w'.cell? ⟨w.heap.size, 0, none⟩ = some (.slice A l.length c)) (go_keep) (first | (go_at_call 62; refine (hnum'.out _ (hbt.keep (by repeat (first | exact Below.refl _ _ | refine b_alloc ?_ _ | refine b_drew ?_ | refine b_set ?_ (by simp) _)))).mono ?_; rintro e w1 ⟨rfl, rfl⟩) | fail)
            go_wp2_with (go_at_call 62; refine (hnum'.out _ (hbt.keep (by repeat (first | exact Below.refl _ _ | refine b_alloc ?_ _ | refine b_drew ?_ | refine b_set ?_ (by simp) _)))).mono ?_; rintro e w1 ⟨rfl, rfl⟩)
            go_region_held3 (fun w' => w'.cell? ⟨w.heap.size, 0, none⟩ = some (.slice A l.length c)) (go_keep) (fail)
            all_goals go_wp2
            all_goals refine bodyPost_ret (v := .tuple #[.agg #[.slice A2 (l.length - (4 + q)) (c - (4 + q)), .int .i64 ((0 : Nat) : Int)], .slice A1 q (c - 4)]) (by simp [results, Tryd.results49, go_sem]) rfl ?_
            all_goals unfold RTakesRun
            all_goals rw [he.out]
            all_goals exact ⟨A2, _, _, A1, _, _, rfl, hs2, hs1, by repeat (first | exact Below.refl _ _ | refine b_alloc ?_ _ | refine b_drew ?_ | refine b_set ?_ (by simp) _)⟩
  · have he := Lib.hid (takeRun_err (l := l) (top := top) h0)
    have h0' : ¬ (e : Int) = 0 := by omega
    have h0b : ((e : Int) != 0) = true := by rw [bne_iff_ne]; omega
    clear h0
    go_enter Tryd.func49, Tryd.ntmps49
    go_wp2
    exact bodyPost_ret (v := .tuple #[.agg #[.slice A l.length c, .int .i64 (e : Nat)], .slice none 0 0]) (by simp [results, Tryd.results49, go_sem]) rfl (fin'.out e he.out _ (b_alloc (b_alloc (Below.refl _ _) _) _))

def RDoneE (w : World) (s : Tl.In) (e : Ending) (w' : World) : Prop := e = .returned (.int .i64 (Tl.done s : Nat)) ∧ Below w.heap.size w w'
theorem rDone_any (A : Option Addr) (m c : Nat) (l : List Nat) (e : Nat) (w : World) (hs : Bs w A m c l) :
    Calls Tryd.prog 51 #[.agg #[.slice A m c, .int .i64 e]] w (RDoneE w ⟨l, e⟩) := by
  have hln := hs.len
  subst hln
  have hd : ∀ x : Nat, Tl.done ⟨l, e⟩ = x → ∀ w', Below w.heap.size w w' → RDoneE w ⟨l, e⟩ (.returned (.int .i64 (x : Nat))) w' := by
    intro x hx w' hb
    unfold RDoneE
    rw [hx]
    exact ⟨rfl, hb⟩
  have hd' := Lib.hid hd
  clear hd
  by_cases h0 : e = 0
  · subst h0
    by_cases h : 0 < l.length
    · have hx : Hid (Tl.done ⟨l, 0⟩ = 3) := Lib.hid (by unfold Tl.done; rw [if_pos ⟨rfl, h⟩])
      have h' : (0 : Int) < (l.length : Int) := by omega
      go_enter Tryd.func51, Tryd.ntmps51
      go_wp2
      go_ret
      exact hd'.out 3 hx.out _ (b_alloc (Below.refl _ _) _)
    · have hx : Hid (Tl.done ⟨l, 0⟩ = 0) := Lib.hid (by unfold Tl.done; rw [if_neg (fun q => h q.2)])
      have h' : ¬ (0 : Int) < (l.length : Int) := by omega
      go_enter Tryd.func51, Tryd.ntmps51
      go_wp2
      go_ret
      exact hd'.out 0 hx.out _ (b_alloc (Below.refl _ _) _)
  · have hx : Hid (Tl.done ⟨l, e⟩ = e) := Lib.hid (by unfold Tl.done; rw [if_neg (fun q => h0 q.1)])
    have h0' : ¬ (e : Int) = 0 := by omega
    have h0b : ((e : Int) == 0) = false := by rw [beq_eq_false_iff_ne]; omega
    go_enter Tryd.func51, Tryd.ntmps51
    go_wp2
    go_ret
    exact hd'.out e hx.out _ (b_alloc (Below.refl _ _) _)
end Go.Proofs.YtcoiaggedipapaaDoor
