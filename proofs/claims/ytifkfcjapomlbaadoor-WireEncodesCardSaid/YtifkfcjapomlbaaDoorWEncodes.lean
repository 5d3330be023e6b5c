/-
  WireEncodes: the walk.
-/
import Derived.Test.YtifkfcjapomlbaaDoorWLaw
namespace Go.Proofs.YtifkfcjapomlbaaDoor
open Go.RowKit
set_option linter.unusedVariables false
set_option linter.unusedSimpArgs false
set_option maxRecDepth 100000

theorem held6 {a b c d e f x y : Prop} (h : a ∧ b ∧ c ∧ d ∧ e ∧ x ∧ y ∧ f) : f := h.2.2.2.2.2.2.2
set_option maxHeartbeats 8000000 in
theorem wencodes_big (k : Int) (s q n : Nat) (A : Option Addr) (m c : Nat) (dd : List Nat) (w : World) (hs : s < 4294967296) (hq : q < 4294967296) (hn : n < 4294967296) (hb : Bs w A m c dd) (hT : TabW w) (hE : ErrW w) (h : 100000 < m) :
    Calls Tryd.prog 7 #[.agg #[.int .i64 k, .int .u32 s, .int .u32 q, .int .u32 n, .slice A m c]] w (fun e w' => e = .returned (.bool true) ∧ Below w.heap.size w w') := by
  have h' : (100000 : Int) < (m : Int) := by omega
  have hbF := b_alloc (Below.refl w.heap.size w) (.cells #[.int .i64 k, .int .u32 s, .int .u32 q, .int .u32 n, .slice A m c] 25)
  have hBF := Blk.new w #[.int .i64 k, .int .u32 s, .int .u32 q, .int .u32 n, .slice A m c] 25
  have hb0 := hb.keep hbF
  have hT0 := hT.keep hbF
  have hE0 := hE.keep hbF
  have hn0 : (0 : Int) ≤ (n : Int) := by omega
  go_enter Tryd.func7, Tryd.ntmps7
  go_wp2_with fail
  refine (sure22_any _ hT0).mono ?_
  rintro e w2 ⟨rfl, hb2⟩
  go_wp2_with fail
  go_ret
  exact ⟨rfl, b_then hbF hb2⟩

set_option maxHeartbeats 8000000 in
theorem wencodes_ok (k : Nat) (s q n : Nat) (A : Option Addr) (m c : Nat) (dd : List Nat) (w : World) (hs : s < 4294967296) (hq : q < 4294967296) (hn : n < 4294967296) (hb : Bs w A m c dd) (hT : TabW w) (hE : ErrW w) (h : m ≤ 100000) (hM : Hid (mayB k n m = true)) :
    Calls Tryd.prog 7 #[.agg #[.int .i64 k, .int .u32 s, .int .u32 q, .int .u32 n, .slice A m c]] w (fun e w' => e = .returned (.bool true) ∧ Below w.heap.size w w') := by
  have h' : ¬ (100000 : Int) < (m : Int) := by omega
  have hbF := b_alloc (Below.refl w.heap.size w) (.cells #[.int .i64 k, .int .u32 s, .int .u32 q, .int .u32 n, .slice A m c] 25)
  have hBF := Blk.new w #[.int .i64 k, .int .u32 s, .int .u32 q, .int .u32 n, .slice A m c] 25
  have hb0 := hb.keep hbF
  have hT0 := hT.keep hbF
  have hE0 := hE.keep hbF
  have hn0 : (0 : Int) ≤ (n : Int) := by omega
  go_enter Tryd.func7, Tryd.ntmps7
  go_wp2_with fail
  generalize w.alloc (.cells #[.int .i64 k, .int .u32 s, .int .u32 q, .int .u32 n, .slice A m c] 25) = W at hbF hBF hb0 hT0 hE0 ⊢
  generalize w.heap.size = gp at hBF ⊢
  refine (wgive_any k s q n A m c _).mono ?_
  rintro e w1 ⟨rfl, hbw1⟩
  have hB1 := hb0.keep hbw1
  have hT1 := hT0.keep hbw1
  have hBp1 := hBF.keep hbw1
  go_wp2_with fail
  refine (enc_ok k s q n A m c dd _ hB1 hT1 hs hq hM.out).mono ?_
  rintro e w2 ⟨A2, c2, rfl, hown2, hb2⟩
  have hbw2 := b_then hbw1 hb2
  have hB2 := hb0.keep hbw2
  have hBp2 := hBF.keep hbw2
  have p0 := hBp2.cell 0 rfl
  have p1 := hBp2.cell 1 rfl
  have p2 := hBp2.cell 2 rfl
  have p3 := hBp2.cell 3 rfl
  have p4 := hBp2.cell 4 rfl
  go_wp2_with fail
  refine (rEnc_ok k s q n A m c dd _ hB2 hs hq hM.out).mono ?_
  rintro e w3 ⟨A3, c3, rfl, hown3, hb3⟩
  have hbw3 := b_then hbw2 hb3
  have hbs2 := hown2.bs.keep hb3
  have hbs3 := hown3.bs
  have hcv1 := fun W (h : Below w3.heap.size w3 W) => run_str (P := Tryd.prog) 23 5 9 Tryd.underlying23 Tryd.underlying5 Tryd.underlying9 (hbs2.keep h)
  have hcv2 := fun W (h : Below w3.heap.size w3 W) => run_str (P := Tryd.prog) 23 5 9 Tryd.underlying23 Tryd.underlying5 Tryd.underlying9 (hbs3.keep h)
  generalize strOf (wenc k s q n dd) = st at hcv1 hcv2
  clear hbs2 hbs3 hown2 hown3 hB2 hB1
  have hBp3 := hBF.keep hbw3
  have hE3 := hE0.keep hbw3
  have hT3 := hT0.keep hbw3
  clear p0 p1 p2 p3 p4 hBp1 hBp2 hT1
  have hst : ∀ x, Below w3.heap.size w3 x → x.cell? ⟨gp, 0, none⟩ = some (.int .i64 k) ∧ x.cell? ⟨gp, 1, none⟩ = some (.int .u32 s) ∧ x.cell? ⟨gp, 2, none⟩ = some (.int .u32 q) ∧ x.cell? ⟨gp, 3, none⟩ = some (.int .u32 n) ∧ x.cell? ⟨gp, 4, none⟩ = some (.slice A m c) ∧ (convert 23 9 (.slice A2 (dd.length + 21) c2)).run Tryd.prog x = .ok (.string st) x ∧ (convert 23 9 (.slice A3 (dd.length + 21) c3)).run Tryd.prog x = .ok (.string st) x ∧ Below w3.heap.size w3 x := fun x h => ⟨(hBp3.keep h).cell 0 rfl, (hBp3.keep h).cell 1 rfl, (hBp3.keep h).cell 2 rfl, (hBp3.keep h).cell 3 rfl, (hBp3.keep h).cell 4 rfl, hcv1 _ h, hcv2 _ h, h⟩
  have hst' := Lib.hid hst
  have hq0 := hst _ (b_drew (Below.refl _ _))
  clear hst
  go_wp2_with fail
  go_region_held3 (fun w' => w'.cell? ⟨gp, 0, none⟩ = some (.int .i64 k) ∧ w'.cell? ⟨gp, 1, none⟩ = some (.int .u32 s) ∧ w'.cell? ⟨gp, 2, none⟩ = some (.int .u32 q) ∧ w'.cell? ⟨gp, 3, none⟩ = some (.int .u32 n) ∧ w'.cell? ⟨gp, 4, none⟩ = some (.slice A m c) ∧ (convert 23 9 (.slice A2 (dd.length + 21) c2)).run Tryd.prog w' = .ok (.string st) w' ∧ (convert 23 9 (.slice A3 (dd.length + 21) c3)).run Tryd.prog w' = .ok (.string st) w' ∧ Below w3.heap.size w3 w') ((first | exact hq0 | exact hst'.out _ (b_then (held6 (by assumption)) hbn))) (first
    | (go_at_call 15; refine (num15_any _ 0 _ ErrV.none (hE3.keep (held6 (by assumption)))).mono ?_; rintro e x4 ⟨rfl, hbn⟩)
    | (go_at_call 10; refine (wgive_any k s q n A m c _).mono ?_; rintro e x5 ⟨rfl, hbn⟩)
    | (go_at_call 13; refine (check_ok k s q n A m c _ hM.out).mono ?_; rintro e x6 ⟨rfl, hbn⟩)
    | (go_at_call 17; refine (rCheck_any k s q n A m c _ hn0).mono ?_; rw [hM.out]; rintro e x8 ⟨rfl, hbn⟩)
    | (go_at_call 8; refine (sure22_any _ (hT3.keep (held6 (by assumption)))).mono ?_; rintro e x9 ⟨rfl, hbn⟩)
    | fail)
  all_goals go_wp2_with fail
  all_goals go_ret
  all_goals exact ⟨rfl, b_then hbF (b_then hbw3 (held6 (by assumption)))⟩

set_option maxHeartbeats 8000000 in
theorem wencodes_bad (k : Int) (s q n : Nat) (A : Option Addr) (m c : Nat) (dd : List Nat) (w : World) (hs : s < 4294967296) (hq : q < 4294967296) (hn : n < 4294967296) (hb : Bs w A m c dd) (hT : TabW w) (hE : ErrW w) (h : m ≤ 100000) (hM : Hid (mayB k n m = false)) :
    Calls Tryd.prog 7 #[.agg #[.int .i64 k, .int .u32 s, .int .u32 q, .int .u32 n, .slice A m c]] w (fun e w' => e = .returned (.bool true) ∧ Below w.heap.size w w') := by
  have h' : ¬ (100000 : Int) < (m : Int) := by omega
  have hbF := b_alloc (Below.refl w.heap.size w) (.cells #[.int .i64 k, .int .u32 s, .int .u32 q, .int .u32 n, .slice A m c] 25)
  have hBF := Blk.new w #[.int .i64 k, .int .u32 s, .int .u32 q, .int .u32 n, .slice A m c] 25
  have hb0 := hb.keep hbF
  have hT0 := hT.keep hbF
  have hE0 := hE.keep hbF
  have hn0 : (0 : Int) ≤ (n : Int) := by omega
  go_enter Tryd.func7, Tryd.ntmps7
  go_wp2_with fail
  generalize w.alloc (.cells #[.int .i64 k, .int .u32 s, .int .u32 q, .int .u32 n, .slice A m c] 25) = W at hbF hBF hb0 hT0 hE0 ⊢
  generalize w.heap.size = gp at hBF ⊢
  refine (wgive_any k s q n A m c _).mono ?_
  rintro e w1 ⟨rfl, hbw1⟩
  have hB1 := hb0.keep hbw1
  have hT1 := hT0.keep hbw1
  have hBp1 := hBF.keep hbw1
  go_wp2_with fail
  refine (enc_bad k s q n A m c _ hM.out).mono ?_
  rintro e w2 ⟨rfl, hb2⟩
  have hbw2 := b_then hbw1 hb2
  have hBp2 := hBF.keep hbw2
  have p0 := hBp2.cell 0 rfl
  have p1 := hBp2.cell 1 rfl
  have p2 := hBp2.cell 2 rfl
  have p3 := hBp2.cell 3 rfl
  have p4 := hBp2.cell 4 rfl
  go_wp2_with fail
  refine (rEnc_bad k s q n A m c _ hn0 hM.out).mono ?_
  rintro e w3 ⟨rfl, hb3⟩
  have hbw3 := b_then hbw2 hb3
  have hcv := fun W => run_str (P := Tryd.prog) 23 5 9 Tryd.underlying23 Tryd.underlying5 Tryd.underlying9 (Bs.nil W none 0)
  generalize strOf [] = st at hcv
  clear hB1
  have hBp3 := hBF.keep hbw3
  have hE3 := hE0.keep hbw3
  have hT3 := hT0.keep hbw3
  clear p0 p1 p2 p3 p4 hBp1 hBp2 hT1
  have hst : ∀ x, Below w3.heap.size w3 x → x.cell? ⟨gp, 0, none⟩ = some (.int .i64 k) ∧ x.cell? ⟨gp, 1, none⟩ = some (.int .u32 s) ∧ x.cell? ⟨gp, 2, none⟩ = some (.int .u32 q) ∧ x.cell? ⟨gp, 3, none⟩ = some (.int .u32 n) ∧ x.cell? ⟨gp, 4, none⟩ = some (.slice A m c) ∧ (convert 23 9 (.slice none 0 0)).run Tryd.prog x = .ok (.string st) x ∧ (convert 23 9 (.slice none 0 0)).run Tryd.prog x = .ok (.string st) x ∧ Below w3.heap.size w3 x := fun x h => ⟨(hBp3.keep h).cell 0 rfl, (hBp3.keep h).cell 1 rfl, (hBp3.keep h).cell 2 rfl, (hBp3.keep h).cell 3 rfl, (hBp3.keep h).cell 4 rfl, hcv _, hcv _, h⟩
  have hst' := Lib.hid hst
  have hq0 := hst _ (b_drew (Below.refl _ _))
  clear hst
  go_wp2_with fail
  go_region_held3 (fun w' => w'.cell? ⟨gp, 0, none⟩ = some (.int .i64 k) ∧ w'.cell? ⟨gp, 1, none⟩ = some (.int .u32 s) ∧ w'.cell? ⟨gp, 2, none⟩ = some (.int .u32 q) ∧ w'.cell? ⟨gp, 3, none⟩ = some (.int .u32 n) ∧ w'.cell? ⟨gp, 4, none⟩ = some (.slice A m c) ∧ (convert 23 9 (.slice none 0 0)).run Tryd.prog w' = .ok (.string st) w' ∧ (convert 23 9 (.slice none 0 0)).run Tryd.prog w' = .ok (.string st) w' ∧ Below w3.heap.size w3 w') ((first | exact hq0 | exact hst'.out _ (b_then (held6 (by assumption)) hbn))) (first
    | (go_at_call 15; refine (num15_any _ _ _ (ErrV.num 1) (hE3.keep (held6 (by assumption)))).mono ?_; rintro e x4 ⟨rfl, hbn⟩)
    | (go_at_call 10; refine (wgive_any k s q n A m c _).mono ?_; rintro e x5 ⟨rfl, hbn⟩)
    | (go_at_call 13; refine (check_bad k s q n A m c _ hM.out).mono ?_; rintro e x6 ⟨rfl, hbn⟩)
    | (go_at_call 17; refine (rCheck_any k s q n A m c _ hn0).mono ?_; rw [hM.out]; rintro e x8 ⟨rfl, hbn⟩)
    | (go_at_call 8; refine (sure22_any _ (hT3.keep (held6 (by assumption)))).mono ?_; rintro e x9 ⟨rfl, hbn⟩)
    | fail)
  all_goals go_wp2_with fail
  all_goals go_ret
  all_goals exact ⟨rfl, b_then hbF (b_then hbw3 (held6 (by assumption)))⟩

theorem law_wireencodes (k : Int) (s q n : Nat) (A : Option Addr) (m c : Nat) (dd : List Nat) (w : World) (hs : s < 4294967296) (hq : q < 4294967296) (hn : n < 4294967296) (hb : Bs w A m c dd) (hT : TabW w) (hE : ErrW w) :
    Calls Tryd.prog 7 #[.agg #[.int .i64 k, .int .u32 s, .int .u32 q, .int .u32 n, .slice A m c]] w (fun e w' => e = .returned (.bool true) ∧ Below w.heap.size w w') := by
  by_cases hm1 : 100000 < m
  · exact wencodes_big k s q n A m c dd w hs hq hn hb hT hE hm1
  · cases hM : mayB k n m with
    | true =>
      obtain ⟨k1, k6, _, _⟩ := mayB_kind hM
      obtain ⟨kn, rfl⟩ : ∃ kn : Nat, k = (kn : Int) := ⟨k.toNat, by omega⟩
      exact wencodes_ok kn s q n A m c dd w hs hq hn hb hT hE (by omega) hM
    | false => exact wencodes_bad k s q n A m c dd w hs hq hn hb hT hE (by omega) hM
end Go.Proofs.YtifkfcjapomlbaaDoor
