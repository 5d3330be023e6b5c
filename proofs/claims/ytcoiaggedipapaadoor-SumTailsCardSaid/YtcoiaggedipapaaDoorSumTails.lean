/-
  SumTails: the walk.
-/
import Derived.Test.YtcoiaggedipapaaDoorTails
import Derived.Test.YtcoiaggedipapaaDoorSum3
import Derived.Deep.DrawnRows
import Derived.Test.YtcoiaggedipapaaDoorFree
namespace Go.Proofs.YtcoiaggedipapaaDoor
open Go.RowKit
set_option linter.unusedVariables false
set_option linter.unusedSimpArgs false
set_option maxRecDepth 100000
attribute [local go_sem ↓] Go.wp_at_zero Go.wp_at_succ

theorem held5 {a b c d e : Prop} (h : a ∧ b ∧ c ∧ d ∧ e) : e := h.2.2.2.2
/-- A slice of bytes as a string. -/
theorem cv_str {W : World} {A : Option Addr} {n c : Nat} {l : List Nat} (h : Bs W A n c l) : (convert 23 9 (.slice A n c)).run Tryd.prog W = .ok (.string (strOf l)) W := run_str 23 5 9 Tryd.underlying23 Tryd.underlying5 Tryd.underlying9 h
theorem cutE_tailed (l : List Nat) : cutE (tailed l) = 0 := by
  unfold cutE
  rw [if_neg (by rw [tailed_len]; omega), if_pos (Tl.sealed_tailed l)]
theorem take_tailed (l : List Nat) (n : Nat) (h : l.length = n) : (tailed l).take n = l := by
  unfold tailed
  exact List.take_left' h
set_option maxHeartbeats 2000000 in
theorem tails_long (A : Option Addr) (n c : Nat) (l : List Nat) (w : World) (hb : Bs w A n c l) (hT : TabW w) (h : 20000 < n) :
    Calls Tryd.prog 9 #[.slice A n c] w fun e w' => e = .returned (.bool true) ∧ Below w.heap.size w w' := by
  have h' : (20000 : Int) < (n : Int) := by omega
  go_enter Tryd.func9, Tryd.ntmps9
  go_wp2_with (go_at_call 15; refine (sure_any _ hT).mono ?_; rintro e w' ⟨rfl, hb15⟩)
  go_ret
  exact ⟨rfl, hb15⟩

set_option maxHeartbeats 16000000 in
theorem tails_ok (A : Option Addr) (n c : Nat) (l : List Nat) (w : World) (hb : Bs w A n c l) (hT : TabW w) (hE : ErrW w) (h : n ≤ 20000) (hc : Hid (cutE l = 0)) :
    Calls Tryd.prog 9 #[.slice A n c] w fun e w' => e = .returned (.bool true) ∧ Below w.heap.size w w' := by
  have h' : ¬ (20000 : Int) < (n : Int) := by omega
  have hln := hb.len
  have hn4 : n + 4 ≤ 140737488355328 := by omega
  have hte := Lib.hid (cutE_tailed l)
  have htt := Lib.hid (take_tailed l n hln)
  have hnn : Hid (n + 4 - 4 = n) := Lib.hid (by omega)
  have hbY := hb.take (n - 4) (by omega)
  have hV : ErrV .nilIface 0 := ErrV.none
  go_enter Tryd.func9, Tryd.ntmps9
  go_wp2_with fail
  refine (cut_ok A n c l _ hb hT hc.out).mono ?_
  rintro e w1 ⟨A1, c1, rfl, hown1, hb1⟩
  have hbX := hown1.bs
  go_wp2_with fail
  refine (rCut_any A n c l _ (hb.keep hb1)).mono ?_
  rintro e w2 hp
  obtain ⟨rfl, hb2⟩ : RCutOk w1 A n c e w2 := by
    rcases hp with ⟨_, h⟩ | ⟨h, _⟩
    · exact h
    · exact absurd hc.out h
  clear hp
  have hbw2 := b_then hb1 hb2
  go_wp2_with fail
  refine (tail_any A n c l _ (hb.keep hbw2) (hT.keep hbw2) hn4).mono ?_
  rintro e w3 ⟨A3, c3, rfl, hown3, hb3⟩
  have hbw3 := b_then hbw2 hb3
  go_wp2_with fail
  refine (cut_ok A3 (n + 4) c3 _ _ hown3.bs (hT.keep hbw3) hte.out).mono ?_
  rintro e w4 ⟨A4, c4, rfl, hown4, hb4⟩
  have hbw4 := b_then hbw3 hb4
  rw [hnn.out, htt.out] at hown4
  rw [hnn.out]
  have hX := hbX.keep (b_then (b_then hb2 hb3) hb4)
  have hY := hbY.keep hbw4
  have hZ := hown4.bs
  have hB := hb.keep hbw4
  have hTw := hT.keep hbw4
  have hEw := hE.keep hbw4
  clear hbX hbY hown3 hown4 hte htt hnn
  go_wp2_with fail
  clear hc h h'
  refine wp_region_free (by kernel_rfl) (fun X => ⟨#[Value.slice A n c, undef, X 34, Value.slice A1 (n - 4) c1, Value.nilIface, Value.slice A (n - 4) c, Value.int IntKind.i64 0, Value.slice A4 n c4, Value.nilIface, Value.slice A n c, Value.int IntKind.i64 ↑n, Value.bool false, undef, Value.tuple #[Value.slice A1 (n - 4) c1, Value.nilIface], Value.slice A n c, Value.tuple #[Value.slice A1 (n - 4) c1, Value.nilIface], Value.slice A1 (n - 4) c1, Value.nilIface, Value.tuple #[Value.slice A (n - 4) c, Value.int IntKind.i64 0], Value.slice A n c, Value.tuple #[Value.slice A (n - 4) c, Value.int IntKind.i64 0], Value.slice A (n - 4) c, Value.int IntKind.i64 0, Value.tuple #[Value.slice A4 n c4, Value.nilIface], Value.slice A n c, Value.slice A3 (n + 4) c3, Value.tuple #[Value.slice A4 n c4, Value.nilIface], Value.slice A4 n c4, Value.nilIface, X 0, X 1, X 2, X 3, X 4, X 5, X 6, X 7, X 8, X 9, X 10, X 11, X 12, X 13, X 14, X 15, X 16, X 17, X 18, X 19, X 20, X 21, X 22, X 23, X 24, X 25, X 26, X 27, X 28, X 29, X 30, X 31, X 32, X 33], []⟩) (fun u v => Below u.heap.size u v) (fun i v w => match i with | 0 => (v = Value.slice A n c) | 1 => (∃ A5 c5, v = Value.slice A5 (n + 4) c5 ∧ Bs w A5 (n + 4) c5 (tailed l)) | 2 => (v = Value.string (strOf (tailed l))) | 3 => (v = Value.slice A n c) | 4 => (∃ A5 c5, v = Value.slice A5 (n + 4) c5 ∧ Bs w A5 (n + 4) c5 (tailed l)) | 5 => (v = Value.string (strOf (tailed l))) | 6 => (v = Value.bool true) | 7 => (v = Value.bool true) | 8 => (v = Value.slice A1 (n - 4) c1) | 9 => (v = Value.string (strOf (l.take (n - 4)))) | 10 => (v = Value.slice A (n - 4) c) | 11 => (v = Value.string (strOf (l.take (n - 4)))) | 12 => (v = Value.bool true) | 13 => (v = Value.bool true) | 14 => (v = Value.bool true) | 15 => (v = Value.nilIface) | 16 => (v = Value.int .i64 0) | 17 => (v = Value.int IntKind.i64 0) | 18 => (v = Value.bool true) | 19 => (v = Value.bool true) | 20 => (v = Value.bool true) | 21 => (v = Value.slice A4 n c4) | 22 => (v = Value.string (strOf l)) | 23 => (v = Value.slice A n c) | 24 => (v = Value.string (strOf l)) | 25 => (v = Value.bool true) | 26 => (v = Value.bool true) | 27 => (v = Value.bool true) | 28 => (v = Value.nilIface) | 29 => (v = Value.bool true) | 30 => (v = Value.bool true) | 31 => (v = Value.bool true) | 32 => (v = Value.bool true) | 33 => (v = Value.bool true) | 34 => (v = Value.bool true) | _ => True) _ (fun i => if i = 34 then Value.bool false else undef) (fun u v w a b => b_then a b) ?_ (by kernel_rfl) (b_drew (Below.refl _ _)) ?_ ?_
  · intro i v w w' h hb
    match i, h with
    | 0, h => exact h
    | 1, h => exact (let ⟨A5, c5, e, hB5⟩ := h; ⟨A5, c5, e, hB5.keep hb⟩)
    | 2, h => exact h
    | 3, h => exact h
    | 4, h => exact (let ⟨A5, c5, e, hB5⟩ := h; ⟨A5, c5, e, hB5.keep hb⟩)
    | 5, h => exact h
    | 6, h => exact h
    | 7, h => exact h
    | 8, h => exact h
    | 9, h => exact h
    | 10, h => exact h
    | 11, h => exact h
    | 12, h => exact h
    | 13, h => exact h
    | 14, h => exact h
    | 15, h => exact h
    | 16, h => exact h
    | 17, h => exact h
    | 18, h => exact h
    | 19, h => exact h
    | 20, h => exact h
    | 21, h => exact h
    | 22, h => exact h
    | 23, h => exact h
    | 24, h => exact h
    | 25, h => exact h
    | 26, h => exact h
    | 27, h => exact h
    | 28, h => exact h
    | 29, h => exact h
    | 30, h => exact h
    | 31, h => exact h
    | 32, h => exact h
    | 33, h => exact h
    | 34, h => exact h
    | _ + 35, h => exact trivial
  · skip
    refine FreeFrom.cons (k := 0) (fun X v => rfl) ?_ ?_
    · intro X w hR hpre K hK
      go_simp
      exact hK _ _ _ rfl (Below.refl _ _) rfl
    refine FreeFrom.cons (k := 1) (fun X v => rfl) ?_ ?_
    · intro X w hR hpre K hK
      have e0 : X 0 = Value.slice A n c := hpre ⟨0, .data⟩ (by simp) (by kernel_rfl)
      go_simp
      go_at_call 21
      refine (tail_any A n c l _ (hB.keep hR) (hTw.keep hR) hn4).mono ?_
      rintro e w5 ⟨A5, c5, rfl, hown5, hbn⟩
      go_simp
      exact hK _ _ _ (by (try simp only [e0]); rfl) hbn ⟨A5, c5, rfl, hown5.bs⟩
    refine FreeFrom.cons (k := 2) (fun X v => rfl) ?_ ?_
    · intro X w hR hpre K hK
      obtain ⟨A1, c1, e1, hB1⟩ : ∃ A5 c5, X 1 = Value.slice A5 (n + 4) c5 ∧ Bs w A5 (n + 4) c5 (tailed l) := hpre ⟨1, .data⟩ (by simp) (by kernel_rfl)
      have q1 := cv_str hB1
      go_simp
      exact hK _ _ _ (by (try simp only [e1]); rfl) (Below.refl _ _) rfl
    refine FreeFrom.cons (k := 3) (fun X v => rfl) ?_ ?_
    · intro X w hR hpre K hK
      go_simp
      exact hK _ _ _ rfl (Below.refl _ _) rfl
    refine FreeFrom.cons (k := 4) (fun X v => rfl) ?_ ?_
    · intro X w hR hpre K hK
      have e3 : X 3 = Value.slice A n c := hpre ⟨3, .data⟩ (by simp) (by kernel_rfl)
      go_simp
      go_at_call 33
      refine (rTail_any A n c l _ (hB.keep hR) hn4).mono ?_
      rintro e w6 ⟨A6, c6, rfl, hown6, hbn⟩
      go_simp
      exact hK _ _ _ (by (try simp only [e3]); rfl) hbn ⟨A6, c6, rfl, hown6.bs⟩
    refine FreeFrom.cons (k := 5) (fun X v => rfl) ?_ ?_
    · intro X w hR hpre K hK
      obtain ⟨A4, c4, e4, hB4⟩ : ∃ A5 c5, X 4 = Value.slice A5 (n + 4) c5 ∧ Bs w A5 (n + 4) c5 (tailed l) := hpre ⟨4, .data⟩ (by simp) (by kernel_rfl)
      have q4 := cv_str hB4
      go_simp
      exact hK _ _ _ (by (try simp only [e4]); rfl) (Below.refl _ _) rfl
    refine FreeFrom.cons (k := 6) (fun X v => rfl) ?_ ?_
    · intro X w hR hpre K hK
      have e2 : X 2 = Value.string (strOf (tailed l)) := hpre ⟨2, .data⟩ (by simp) (by kernel_rfl)
      have e5 : X 5 = Value.string (strOf (tailed l)) := hpre ⟨5, .data⟩ (by simp) (by kernel_rfl)
      go_simp
      exact hK _ _ _ (by (try simp only [e2, e5]); rfl) (Below.refl _ _) rfl
    refine FreeFrom.cons (k := 7) (fun X v => rfl) ?_ ?_
    · intro X w hR hpre K hK
      have e6 : X 6 = Value.bool true := hpre ⟨6, .data⟩ (by simp) (by kernel_rfl)
      go_simp
      exact hK _ _ _ (by (try simp only [e6]); rfl) (Below.refl _ _) rfl
    refine FreeFrom.cons (k := 8) (fun X v => rfl) ?_ ?_
    · intro X w hR hpre K hK
      have e7 : X 7 = Value.bool true := hpre ⟨7, .guard⟩ (by simp) (by kernel_rfl)
      go_simp
      exact hK _ _ _ (by (try simp only [e7]); rfl) (Below.refl _ _) rfl
    refine FreeFrom.cons (k := 9) (fun X v => rfl) ?_ ?_
    · intro X w hR hpre K hK
      have e8 : X 8 = Value.slice A1 (n - 4) c1 := hpre ⟨8, .data⟩ (by simp) (by kernel_rfl)
      have e7 : X 7 = Value.bool true := hpre ⟨7, .guard⟩ (by simp) (by kernel_rfl)
      have q9 := cv_str (hX.keep hR)
      go_simp
      exact hK _ _ _ (by (try simp only [e8, e7]); rfl) (Below.refl _ _) rfl
    refine FreeFrom.cons (k := 10) (fun X v => rfl) ?_ ?_
    · intro X w hR hpre K hK
      have e7 : X 7 = Value.bool true := hpre ⟨7, .guard⟩ (by simp) (by kernel_rfl)
      go_simp
      exact hK _ _ _ (by (try simp only [e7]); rfl) (Below.refl _ _) rfl
    refine FreeFrom.cons (k := 11) (fun X v => rfl) ?_ ?_
    · intro X w hR hpre K hK
      have e10 : X 10 = Value.slice A (n - 4) c := hpre ⟨10, .data⟩ (by simp) (by kernel_rfl)
      have e7 : X 7 = Value.bool true := hpre ⟨7, .guard⟩ (by simp) (by kernel_rfl)
      have q11 := cv_str (hY.keep hR)
      go_simp
      exact hK _ _ _ (by (try simp only [e10, e7]); rfl) (Below.refl _ _) rfl
    refine FreeFrom.cons (k := 12) (fun X v => rfl) ?_ ?_
    · intro X w hR hpre K hK
      have e9 : X 9 = Value.string (strOf (l.take (n - 4))) := hpre ⟨9, .data⟩ (by simp) (by kernel_rfl)
      have e11 : X 11 = Value.string (strOf (l.take (n - 4))) := hpre ⟨11, .data⟩ (by simp) (by kernel_rfl)
      have e7 : X 7 = Value.bool true := hpre ⟨7, .guard⟩ (by simp) (by kernel_rfl)
      go_simp
      exact hK _ _ _ (by (try simp only [e9, e11, e7]); rfl) (Below.refl _ _) rfl
    refine FreeFrom.cons (k := 13) (fun X v => rfl) ?_ ?_
    · intro X w hR hpre K hK
      have e7 : X 7 = Value.bool true := hpre ⟨7, .data⟩ (by simp) (by kernel_rfl)
      have e12 : X 12 = Value.bool true := hpre ⟨12, .data⟩ (by simp) (by kernel_rfl)
      go_simp
      exact hK _ _ _ (by (try simp only [e7, e12]); rfl) (Below.refl _ _) rfl
    refine FreeFrom.cons (k := 14) (fun X v => rfl) ?_ ?_
    · intro X w hR hpre K hK
      have e13 : X 13 = Value.bool true := hpre ⟨13, .data⟩ (by simp) (by kernel_rfl)
      go_simp
      exact hK _ _ _ (by (try simp only [e13]); rfl) (Below.refl _ _) rfl
    refine FreeFrom.cons (k := 15) (fun X v => rfl) ?_ ?_
    · intro X w hR hpre K hK
      have e14 : X 14 = Value.bool true := hpre ⟨14, .guard⟩ (by simp) (by kernel_rfl)
      go_simp
      exact hK _ _ _ (by (try simp only [e14]); rfl) (Below.refl _ _) rfl
    refine FreeFrom.cons (k := 16) (fun X v => rfl) ?_ ?_
    · intro X w hR hpre K hK
      have e15 : X 15 = Value.nilIface := hpre ⟨15, .data⟩ (by simp) (by kernel_rfl)
      have e14 : X 14 = Value.bool true := hpre ⟨14, .chain⟩ (by simp) (by kernel_rfl)
      go_simp
      go_at_call 30
      refine (num30_any _ _ _ hV (hEw.keep hR)).mono ?_
      rintro e w7 ⟨rfl, hbn⟩
      go_simp
      exact hK _ _ _ (by (try simp only [e15, e14]); rfl) hbn rfl
    refine FreeFrom.cons (k := 17) (fun X v => rfl) ?_ ?_
    · intro X w hR hpre K hK
      have e14 : X 14 = Value.bool true := hpre ⟨14, .guard⟩ (by simp) (by kernel_rfl)
      go_simp
      exact hK _ _ _ (by (try simp only [e14]); rfl) (Below.refl _ _) rfl
    refine FreeFrom.cons (k := 18) (fun X v => rfl) ?_ ?_
    · intro X w hR hpre K hK
      have e16 : X 16 = Value.int .i64 0 := hpre ⟨16, .data⟩ (by simp) (by kernel_rfl)
      have e17 : X 17 = Value.int IntKind.i64 0 := hpre ⟨17, .data⟩ (by simp) (by kernel_rfl)
      have e14 : X 14 = Value.bool true := hpre ⟨14, .guard⟩ (by simp) (by kernel_rfl)
      go_simp
      exact hK _ _ _ (by (try simp only [e16, e17, e14]); rfl) (Below.refl _ _) rfl
    refine FreeFrom.cons (k := 19) (fun X v => rfl) ?_ ?_
    · intro X w hR hpre K hK
      have e14 : X 14 = Value.bool true := hpre ⟨14, .data⟩ (by simp) (by kernel_rfl)
      have e18 : X 18 = Value.bool true := hpre ⟨18, .data⟩ (by simp) (by kernel_rfl)
      go_simp
      exact hK _ _ _ (by (try simp only [e14, e18]); rfl) (Below.refl _ _) rfl
    refine FreeFrom.cons (k := 20) (fun X v => rfl) ?_ ?_
    · intro X w hR hpre K hK
      have e19 : X 19 = Value.bool true := hpre ⟨19, .data⟩ (by simp) (by kernel_rfl)
      go_simp
      exact hK _ _ _ (by (try simp only [e19]); rfl) (Below.refl _ _) rfl
    refine FreeFrom.cons (k := 21) (fun X v => rfl) ?_ ?_
    · intro X w hR hpre K hK
      have e20 : X 20 = Value.bool true := hpre ⟨20, .guard⟩ (by simp) (by kernel_rfl)
      go_simp
      exact hK _ _ _ (by (try simp only [e20]); rfl) (Below.refl _ _) rfl
    refine FreeFrom.cons (k := 22) (fun X v => rfl) ?_ ?_
    · intro X w hR hpre K hK
      have e21 : X 21 = Value.slice A4 n c4 := hpre ⟨21, .data⟩ (by simp) (by kernel_rfl)
      have e20 : X 20 = Value.bool true := hpre ⟨20, .guard⟩ (by simp) (by kernel_rfl)
      have q22 := cv_str (hZ.keep hR)
      go_simp
      exact hK _ _ _ (by (try simp only [e21, e20]); rfl) (Below.refl _ _) rfl
    refine FreeFrom.cons (k := 23) (fun X v => rfl) ?_ ?_
    · intro X w hR hpre K hK
      have e20 : X 20 = Value.bool true := hpre ⟨20, .guard⟩ (by simp) (by kernel_rfl)
      go_simp
      exact hK _ _ _ (by (try simp only [e20]); rfl) (Below.refl _ _) rfl
    refine FreeFrom.cons (k := 24) (fun X v => rfl) ?_ ?_
    · intro X w hR hpre K hK
      have e23 : X 23 = Value.slice A n c := hpre ⟨23, .data⟩ (by simp) (by kernel_rfl)
      have e20 : X 20 = Value.bool true := hpre ⟨20, .guard⟩ (by simp) (by kernel_rfl)
      have q24 := cv_str (hB.keep hR)
      go_simp
      exact hK _ _ _ (by (try simp only [e23, e20]); rfl) (Below.refl _ _) rfl
    refine FreeFrom.cons (k := 25) (fun X v => rfl) ?_ ?_
    · intro X w hR hpre K hK
      have e22 : X 22 = Value.string (strOf l) := hpre ⟨22, .data⟩ (by simp) (by kernel_rfl)
      have e24 : X 24 = Value.string (strOf l) := hpre ⟨24, .data⟩ (by simp) (by kernel_rfl)
      have e20 : X 20 = Value.bool true := hpre ⟨20, .guard⟩ (by simp) (by kernel_rfl)
      go_simp
      exact hK _ _ _ (by (try simp only [e22, e24, e20]); rfl) (Below.refl _ _) rfl
    refine FreeFrom.cons (k := 26) (fun X v => rfl) ?_ ?_
    · intro X w hR hpre K hK
      have e20 : X 20 = Value.bool true := hpre ⟨20, .data⟩ (by simp) (by kernel_rfl)
      have e25 : X 25 = Value.bool true := hpre ⟨25, .data⟩ (by simp) (by kernel_rfl)
      go_simp
      exact hK _ _ _ (by (try simp only [e20, e25]); rfl) (Below.refl _ _) rfl
    refine FreeFrom.cons (k := 27) (fun X v => rfl) ?_ ?_
    · intro X w hR hpre K hK
      have e26 : X 26 = Value.bool true := hpre ⟨26, .data⟩ (by simp) (by kernel_rfl)
      go_simp
      exact hK _ _ _ (by (try simp only [e26]); rfl) (Below.refl _ _) rfl
    refine FreeFrom.cons (k := 28) (fun X v => rfl) ?_ ?_
    · intro X w hR hpre K hK
      have e27 : X 27 = Value.bool true := hpre ⟨27, .guard⟩ (by simp) (by kernel_rfl)
      go_simp
      exact hK _ _ _ (by (try simp only [e27]); rfl) (Below.refl _ _) rfl
    refine FreeFrom.cons (k := 29) (fun X v => rfl) ?_ ?_
    · intro X w hR hpre K hK
      have e28 : X 28 = Value.nilIface := hpre ⟨28, .data⟩ (by simp) (by kernel_rfl)
      have e27 : X 27 = Value.bool true := hpre ⟨27, .guard⟩ (by simp) (by kernel_rfl)
      go_simp
      exact hK _ _ _ (by (try simp only [e28, e27]); rfl) (Below.refl _ _) rfl
    refine FreeFrom.cons (k := 30) (fun X v => rfl) ?_ ?_
    · intro X w hR hpre K hK
      have e27 : X 27 = Value.bool true := hpre ⟨27, .data⟩ (by simp) (by kernel_rfl)
      have e29 : X 29 = Value.bool true := hpre ⟨29, .data⟩ (by simp) (by kernel_rfl)
      go_simp
      exact hK _ _ _ (by (try simp only [e27, e29]); rfl) (Below.refl _ _) rfl
    refine FreeFrom.cons (k := 31) (fun X v => rfl) ?_ ?_
    · intro X w hR hpre K hK
      have e30 : X 30 = Value.bool true := hpre ⟨30, .data⟩ (by simp) (by kernel_rfl)
      go_simp
      exact hK _ _ _ (by (try simp only [e30]); rfl) (Below.refl _ _) rfl
    refine FreeFrom.cons (k := 32) (fun X v => rfl) ?_ ?_
    · intro X w hR hpre K hK
      have e31 : X 31 = Value.bool true := hpre ⟨31, .chain⟩ (by simp) (by kernel_rfl)
      go_simp
      go_at_call 15
      refine (sure_any _ (hTw.keep hR)).mono ?_
      rintro e w8 ⟨rfl, hbn⟩
      go_simp
      exact hK _ _ _ (by (try simp only [e31]); rfl) hbn rfl
    refine FreeFrom.cons (k := 33) (fun X v => rfl) ?_ ?_
    · intro X w hR hpre K hK
      have e31 : X 31 = Value.bool true := hpre ⟨31, .data⟩ (by simp) (by kernel_rfl)
      have e32 : X 32 = Value.bool true := hpre ⟨32, .data⟩ (by simp) (by kernel_rfl)
      go_simp
      exact hK _ _ _ (by (try simp only [e31, e32]); rfl) (Below.refl _ _) rfl
    refine FreeFrom.cons (k := 34) (fun X v => rfl) ?_ ?_
    · intro X w hR hpre K hK
      have e33 : X 33 = Value.bool true := hpre ⟨33, .data⟩ (by simp) (by kernel_rfl)
      go_simp
      exact hK _ _ _ (by (try simp only [e33]); rfl) (Below.refl _ _) rfl
    exact FreeFrom.nil
  · intro X w hR hall
    have e34 : X 34 = Value.bool true := hall 34 (by decide)
    clear hall
    go_wp2_with fail
    go_ret
    exact ⟨by rw [e34]; rfl, b_then hbw4 hR⟩

set_option maxHeartbeats 16000000 in
theorem tails_bad (A : Option Addr) (n c : Nat) (l : List Nat) (w : World) (hb : Bs w A n c l) (hT : TabW w) (hE : ErrW w) (h : n ≤ 20000) (hc : Hid (cutE l ≠ 0)) :
    Calls Tryd.prog 9 #[.slice A n c] w fun e w' => e = .returned (.bool true) ∧ Below w.heap.size w w' := by
  have h' : ¬ (20000 : Int) < (n : Int) := by omega
  have hln := hb.len
  have hn4 : n + 4 ≤ 140737488355328 := by omega
  have hte := Lib.hid (cutE_tailed l)
  have htt := Lib.hid (take_tailed l n hln)
  have hnn : Hid (n + 4 - 4 = n) := Lib.hid (by omega)
  have hbY := Bs.nil w none 0
  have hV := ErrV.num ((cutE l : Nat) : Int)
  go_enter Tryd.func9, Tryd.ntmps9
  go_wp2_with fail
  refine (cut_err A n c l _ hb hT hc.out).mono ?_
  rintro e w1 ⟨rfl, hb1⟩
  have hbX := Bs.nil w1 none 0
  go_wp2_with fail
  refine (rCut_any A n c l _ (hb.keep hb1)).mono ?_
  rintro e w2 hp
  obtain ⟨rfl, hb2⟩ : RCutBad w1 l e w2 := by
    rcases hp with ⟨h, _⟩ | ⟨_, h⟩
    · exact absurd h hc.out
    · exact h
  clear hp
  have hbw2 := b_then hb1 hb2
  go_wp2_with fail
  refine (tail_any A n c l _ (hb.keep hbw2) (hT.keep hbw2) hn4).mono ?_
  rintro e w3 ⟨A3, c3, rfl, hown3, hb3⟩
  have hbw3 := b_then hbw2 hb3
  go_wp2_with fail
  refine (cut_ok A3 (n + 4) c3 _ _ hown3.bs (hT.keep hbw3) hte.out).mono ?_
  rintro e w4 ⟨A4, c4, rfl, hown4, hb4⟩
  have hbw4 := b_then hbw3 hb4
  rw [hnn.out, htt.out] at hown4
  rw [hnn.out]
  have hX := hbX.keep (b_then (b_then hb2 hb3) hb4)
  have hY := hbY.keep hbw4
  have hZ := hown4.bs
  have hB := hb.keep hbw4
  have hTw := hT.keep hbw4
  have hEw := hE.keep hbw4
  clear hbX hbY hown3 hown4 hte htt hnn
  go_wp2_with fail
  clear hc h h'
  refine wp_region_free (by kernel_rfl) (fun X => ⟨#[Value.slice A n c, undef, X 34, Value.slice none 0 0, Value.iface 97 (Value.int IntKind.i64 ↑(cutE l)), Value.slice none 0 0, Value.int IntKind.i64 ↑(cutE l), Value.slice A4 n c4, Value.nilIface, Value.slice A n c, Value.int IntKind.i64 ↑n, Value.bool false, undef, Value.tuple #[Value.slice none 0 0, Value.iface 97 (Value.int IntKind.i64 ↑(cutE l))], Value.slice A n c, Value.tuple #[Value.slice none 0 0, Value.iface 97 (Value.int IntKind.i64 ↑(cutE l))], Value.slice none 0 0, Value.iface 97 (Value.int IntKind.i64 ↑(cutE l)), Value.tuple #[Value.slice none 0 0, Value.int IntKind.i64 ↑(cutE l)], Value.slice A n c, Value.tuple #[Value.slice none 0 0, Value.int IntKind.i64 ↑(cutE l)], Value.slice none 0 0, Value.int IntKind.i64 ↑(cutE l), Value.tuple #[Value.slice A4 n c4, Value.nilIface], Value.slice A n c, Value.slice A3 (n + 4) c3, Value.tuple #[Value.slice A4 n c4, Value.nilIface], Value.slice A4 n c4, Value.nilIface, X 0, X 1, X 2, X 3, X 4, X 5, X 6, X 7, X 8, X 9, X 10, X 11, X 12, X 13, X 14, X 15, X 16, X 17, X 18, X 19, X 20, X 21, X 22, X 23, X 24, X 25, X 26, X 27, X 28, X 29, X 30, X 31, X 32, X 33], []⟩) (fun u v => Below u.heap.size u v) (fun i v w => match i with | 0 => (v = Value.slice A n c) | 1 => (∃ A5 c5, v = Value.slice A5 (n + 4) c5 ∧ Bs w A5 (n + 4) c5 (tailed l)) | 2 => (v = Value.string (strOf (tailed l))) | 3 => (v = Value.slice A n c) | 4 => (∃ A5 c5, v = Value.slice A5 (n + 4) c5 ∧ Bs w A5 (n + 4) c5 (tailed l)) | 5 => (v = Value.string (strOf (tailed l))) | 6 => (v = Value.bool true) | 7 => (v = Value.bool true) | 8 => (v = Value.slice none 0 0) | 9 => (v = Value.string (strOf [])) | 10 => (v = Value.slice none 0 0) | 11 => (v = Value.string (strOf [])) | 12 => (v = Value.bool true) | 13 => (v = Value.bool true) | 14 => (v = Value.bool true) | 15 => (v = Value.iface 97 (Value.int IntKind.i64 ↑(cutE l))) | 16 => (v = Value.int .i64 ((cutE l : Nat) : Int)) | 17 => (v = Value.int IntKind.i64 ↑(cutE l)) | 18 => (v = Value.bool true) | 19 => (v = Value.bool true) | 20 => (v = Value.bool true) | 21 => (v = Value.slice A4 n c4) | 22 => (v = Value.string (strOf l)) | 23 => (v = Value.slice A n c) | 24 => (v = Value.string (strOf l)) | 25 => (v = Value.bool true) | 26 => (v = Value.bool true) | 27 => (v = Value.bool true) | 28 => (v = Value.nilIface) | 29 => (v = Value.bool true) | 30 => (v = Value.bool true) | 31 => (v = Value.bool true) | 32 => (v = Value.bool true) | 33 => (v = Value.bool true) | 34 => (v = Value.bool true) | _ => True) _ (fun i => if i = 34 then Value.bool false else undef) (fun u v w a b => b_then a b) ?_ (by kernel_rfl) (b_drew (Below.refl _ _)) ?_ ?_
  · intro i v w w' h hb
    match i, h with
    | 0, h => exact h
    | 1, h => exact (let ⟨A5, c5, e, hB5⟩ := h; ⟨A5, c5, e, hB5.keep hb⟩)
    | 2, h => exact h
    | 3, h => exact h
    | 4, h => exact (let ⟨A5, c5, e, hB5⟩ := h; ⟨A5, c5, e, hB5.keep hb⟩)
    | 5, h => exact h
    | 6, h => exact h
    | 7, h => exact h
    | 8, h => exact h
    | 9, h => exact h
    | 10, h => exact h
    | 11, h => exact h
    | 12, h => exact h
    | 13, h => exact h
    | 14, h => exact h
    | 15, h => exact h
    | 16, h => exact h
    | 17, h => exact h
    | 18, h => exact h
    | 19, h => exact h
    | 20, h => exact h
    | 21, h => exact h
    | 22, h => exact h
    | 23, h => exact h
    | 24, h => exact h
    | 25, h => exact h
    | 26, h => exact h
    | 27, h => exact h
    | 28, h => exact h
    | 29, h => exact h
    | 30, h => exact h
    | 31, h => exact h
    | 32, h => exact h
    | 33, h => exact h
    | 34, h => exact h
    | _ + 35, h => exact trivial
  · skip
    refine FreeFrom.cons (k := 0) (fun X v => rfl) ?_ ?_
    · intro X w hR hpre K hK
      go_simp
      exact hK _ _ _ rfl (Below.refl _ _) rfl
    refine FreeFrom.cons (k := 1) (fun X v => rfl) ?_ ?_
    · intro X w hR hpre K hK
      have e0 : X 0 = Value.slice A n c := hpre ⟨0, .data⟩ (by simp) (by kernel_rfl)
      go_simp
      go_at_call 21
      refine (tail_any A n c l _ (hB.keep hR) (hTw.keep hR) hn4).mono ?_
      rintro e w5 ⟨A5, c5, rfl, hown5, hbn⟩
      go_simp
      exact hK _ _ _ (by (try simp only [e0]); rfl) hbn ⟨A5, c5, rfl, hown5.bs⟩
    refine FreeFrom.cons (k := 2) (fun X v => rfl) ?_ ?_
    · intro X w hR hpre K hK
      obtain ⟨A1, c1, e1, hB1⟩ : ∃ A5 c5, X 1 = Value.slice A5 (n + 4) c5 ∧ Bs w A5 (n + 4) c5 (tailed l) := hpre ⟨1, .data⟩ (by simp) (by kernel_rfl)
      have q1 := cv_str hB1
      go_simp
      exact hK _ _ _ (by (try simp only [e1]); rfl) (Below.refl _ _) rfl
    refine FreeFrom.cons (k := 3) (fun X v => rfl) ?_ ?_
    · intro X w hR hpre K hK
      go_simp
      exact hK _ _ _ rfl (Below.refl _ _) rfl
    refine FreeFrom.cons (k := 4) (fun X v => rfl) ?_ ?_
    · intro X w hR hpre K hK
      have e3 : X 3 = Value.slice A n c := hpre ⟨3, .data⟩ (by simp) (by kernel_rfl)
      go_simp
      go_at_call 33
      refine (rTail_any A n c l _ (hB.keep hR) hn4).mono ?_
      rintro e w6 ⟨A6, c6, rfl, hown6, hbn⟩
      go_simp
      exact hK _ _ _ (by (try simp only [e3]); rfl) hbn ⟨A6, c6, rfl, hown6.bs⟩
    refine FreeFrom.cons (k := 5) (fun X v => rfl) ?_ ?_
    · intro X w hR hpre K hK
      obtain ⟨A4, c4, e4, hB4⟩ : ∃ A5 c5, X 4 = Value.slice A5 (n + 4) c5 ∧ Bs w A5 (n + 4) c5 (tailed l) := hpre ⟨4, .data⟩ (by simp) (by kernel_rfl)
      have q4 := cv_str hB4
      go_simp
      exact hK _ _ _ (by (try simp only [e4]); rfl) (Below.refl _ _) rfl
    refine FreeFrom.cons (k := 6) (fun X v => rfl) ?_ ?_
    · intro X w hR hpre K hK
      have e2 : X 2 = Value.string (strOf (tailed l)) := hpre ⟨2, .data⟩ (by simp) (by kernel_rfl)
      have e5 : X 5 = Value.string (strOf (tailed l)) := hpre ⟨5, .data⟩ (by simp) (by kernel_rfl)
      go_simp
      exact hK _ _ _ (by (try simp only [e2, e5]); rfl) (Below.refl _ _) rfl
    refine FreeFrom.cons (k := 7) (fun X v => rfl) ?_ ?_
    · intro X w hR hpre K hK
      have e6 : X 6 = Value.bool true := hpre ⟨6, .data⟩ (by simp) (by kernel_rfl)
      go_simp
      exact hK _ _ _ (by (try simp only [e6]); rfl) (Below.refl _ _) rfl
    refine FreeFrom.cons (k := 8) (fun X v => rfl) ?_ ?_
    · intro X w hR hpre K hK
      have e7 : X 7 = Value.bool true := hpre ⟨7, .guard⟩ (by simp) (by kernel_rfl)
      go_simp
      exact hK _ _ _ (by (try simp only [e7]); rfl) (Below.refl _ _) rfl
    refine FreeFrom.cons (k := 9) (fun X v => rfl) ?_ ?_
    · intro X w hR hpre K hK
      have e8 : X 8 = Value.slice none 0 0 := hpre ⟨8, .data⟩ (by simp) (by kernel_rfl)
      have e7 : X 7 = Value.bool true := hpre ⟨7, .guard⟩ (by simp) (by kernel_rfl)
      have q9 := cv_str (hX.keep hR)
      go_simp
      exact hK _ _ _ (by (try simp only [e8, e7]); rfl) (Below.refl _ _) rfl
    refine FreeFrom.cons (k := 10) (fun X v => rfl) ?_ ?_
    · intro X w hR hpre K hK
      have e7 : X 7 = Value.bool true := hpre ⟨7, .guard⟩ (by simp) (by kernel_rfl)
      go_simp
      exact hK _ _ _ (by (try simp only [e7]); rfl) (Below.refl _ _) rfl
    refine FreeFrom.cons (k := 11) (fun X v => rfl) ?_ ?_
    · intro X w hR hpre K hK
      have e10 : X 10 = Value.slice none 0 0 := hpre ⟨10, .data⟩ (by simp) (by kernel_rfl)
      have e7 : X 7 = Value.bool true := hpre ⟨7, .guard⟩ (by simp) (by kernel_rfl)
      have q11 := cv_str (hY.keep hR)
      go_simp
      exact hK _ _ _ (by (try simp only [e10, e7]); rfl) (Below.refl _ _) rfl
    refine FreeFrom.cons (k := 12) (fun X v => rfl) ?_ ?_
    · intro X w hR hpre K hK
      have e9 : X 9 = Value.string (strOf []) := hpre ⟨9, .data⟩ (by simp) (by kernel_rfl)
      have e11 : X 11 = Value.string (strOf []) := hpre ⟨11, .data⟩ (by simp) (by kernel_rfl)
      have e7 : X 7 = Value.bool true := hpre ⟨7, .guard⟩ (by simp) (by kernel_rfl)
      go_simp
      exact hK _ _ _ (by (try simp only [e9, e11, e7]); rfl) (Below.refl _ _) rfl
    refine FreeFrom.cons (k := 13) (fun X v => rfl) ?_ ?_
    · intro X w hR hpre K hK
      have e7 : X 7 = Value.bool true := hpre ⟨7, .data⟩ (by simp) (by kernel_rfl)
      have e12 : X 12 = Value.bool true := hpre ⟨12, .data⟩ (by simp) (by kernel_rfl)
      go_simp
      exact hK _ _ _ (by (try simp only [e7, e12]); rfl) (Below.refl _ _) rfl
    refine FreeFrom.cons (k := 14) (fun X v => rfl) ?_ ?_
    · intro X w hR hpre K hK
      have e13 : X 13 = Value.bool true := hpre ⟨13, .data⟩ (by simp) (by kernel_rfl)
      go_simp
      exact hK _ _ _ (by (try simp only [e13]); rfl) (Below.refl _ _) rfl
    refine FreeFrom.cons (k := 15) (fun X v => rfl) ?_ ?_
    · intro X w hR hpre K hK
      have e14 : X 14 = Value.bool true := hpre ⟨14, .guard⟩ (by simp) (by kernel_rfl)
      go_simp
      exact hK _ _ _ (by (try simp only [e14]); rfl) (Below.refl _ _) rfl
    refine FreeFrom.cons (k := 16) (fun X v => rfl) ?_ ?_
    · intro X w hR hpre K hK
      have e15 : X 15 = Value.iface 97 (Value.int IntKind.i64 ↑(cutE l)) := hpre ⟨15, .data⟩ (by simp) (by kernel_rfl)
      have e14 : X 14 = Value.bool true := hpre ⟨14, .chain⟩ (by simp) (by kernel_rfl)
      go_simp
      go_at_call 30
      refine (num30_any _ _ _ hV (hEw.keep hR)).mono ?_
      rintro e w7 ⟨rfl, hbn⟩
      go_simp
      exact hK _ _ _ (by (try simp only [e15, e14]); rfl) hbn rfl
    refine FreeFrom.cons (k := 17) (fun X v => rfl) ?_ ?_
    · intro X w hR hpre K hK
      have e14 : X 14 = Value.bool true := hpre ⟨14, .guard⟩ (by simp) (by kernel_rfl)
      go_simp
      exact hK _ _ _ (by (try simp only [e14]); rfl) (Below.refl _ _) rfl
    refine FreeFrom.cons (k := 18) (fun X v => rfl) ?_ ?_
    · intro X w hR hpre K hK
      have e16 : X 16 = Value.int .i64 ((cutE l : Nat) : Int) := hpre ⟨16, .data⟩ (by simp) (by kernel_rfl)
      have e17 : X 17 = Value.int IntKind.i64 ↑(cutE l) := hpre ⟨17, .data⟩ (by simp) (by kernel_rfl)
      have e14 : X 14 = Value.bool true := hpre ⟨14, .guard⟩ (by simp) (by kernel_rfl)
      go_simp
      exact hK _ _ _ (by (try simp only [e16, e17, e14]); rfl) (Below.refl _ _) rfl
    refine FreeFrom.cons (k := 19) (fun X v => rfl) ?_ ?_
    · intro X w hR hpre K hK
      have e14 : X 14 = Value.bool true := hpre ⟨14, .data⟩ (by simp) (by kernel_rfl)
      have e18 : X 18 = Value.bool true := hpre ⟨18, .data⟩ (by simp) (by kernel_rfl)
      go_simp
      exact hK _ _ _ (by (try simp only [e14, e18]); rfl) (Below.refl _ _) rfl
    refine FreeFrom.cons (k := 20) (fun X v => rfl) ?_ ?_
    · intro X w hR hpre K hK
      have e19 : X 19 = Value.bool true := hpre ⟨19, .data⟩ (by simp) (by kernel_rfl)
      go_simp
      exact hK _ _ _ (by (try simp only [e19]); rfl) (Below.refl _ _) rfl
    refine FreeFrom.cons (k := 21) (fun X v => rfl) ?_ ?_
    · intro X w hR hpre K hK
      have e20 : X 20 = Value.bool true := hpre ⟨20, .guard⟩ (by simp) (by kernel_rfl)
      go_simp
      exact hK _ _ _ (by (try simp only [e20]); rfl) (Below.refl _ _) rfl
    refine FreeFrom.cons (k := 22) (fun X v => rfl) ?_ ?_
    · intro X w hR hpre K hK
      have e21 : X 21 = Value.slice A4 n c4 := hpre ⟨21, .data⟩ (by simp) (by kernel_rfl)
      have e20 : X 20 = Value.bool true := hpre ⟨20, .guard⟩ (by simp) (by kernel_rfl)
      have q22 := cv_str (hZ.keep hR)
      go_simp
      exact hK _ _ _ (by (try simp only [e21, e20]); rfl) (Below.refl _ _) rfl
    refine FreeFrom.cons (k := 23) (fun X v => rfl) ?_ ?_
    · intro X w hR hpre K hK
      have e20 : X 20 = Value.bool true := hpre ⟨20, .guard⟩ (by simp) (by kernel_rfl)
      go_simp
      exact hK _ _ _ (by (try simp only [e20]); rfl) (Below.refl _ _) rfl
    refine FreeFrom.cons (k := 24) (fun X v => rfl) ?_ ?_
    · intro X w hR hpre K hK
      have e23 : X 23 = Value.slice A n c := hpre ⟨23, .data⟩ (by simp) (by kernel_rfl)
      have e20 : X 20 = Value.bool true := hpre ⟨20, .guard⟩ (by simp) (by kernel_rfl)
      have q24 := cv_str (hB.keep hR)
      go_simp
      exact hK _ _ _ (by (try simp only [e23, e20]); rfl) (Below.refl _ _) rfl
    refine FreeFrom.cons (k := 25) (fun X v => rfl) ?_ ?_
    · intro X w hR hpre K hK
      have e22 : X 22 = Value.string (strOf l) := hpre ⟨22, .data⟩ (by simp) (by kernel_rfl)
      have e24 : X 24 = Value.string (strOf l) := hpre ⟨24, .data⟩ (by simp) (by kernel_rfl)
      have e20 : X 20 = Value.bool true := hpre ⟨20, .guard⟩ (by simp) (by kernel_rfl)
      go_simp
      exact hK _ _ _ (by (try simp only [e22, e24, e20]); rfl) (Below.refl _ _) rfl
    refine FreeFrom.cons (k := 26) (fun X v => rfl) ?_ ?_
    · intro X w hR hpre K hK
      have e20 : X 20 = Value.bool true := hpre ⟨20, .data⟩ (by simp) (by kernel_rfl)
      have e25 : X 25 = Value.bool true := hpre ⟨25, .data⟩ (by simp) (by kernel_rfl)
      go_simp
      exact hK _ _ _ (by (try simp only [e20, e25]); rfl) (Below.refl _ _) rfl
    refine FreeFrom.cons (k := 27) (fun X v => rfl) ?_ ?_
    · intro X w hR hpre K hK
      have e26 : X 26 = Value.bool true := hpre ⟨26, .data⟩ (by simp) (by kernel_rfl)
      go_simp
      exact hK _ _ _ (by (try simp only [e26]); rfl) (Below.refl _ _) rfl
    refine FreeFrom.cons (k := 28) (fun X v => rfl) ?_ ?_
    · intro X w hR hpre K hK
      have e27 : X 27 = Value.bool true := hpre ⟨27, .guard⟩ (by simp) (by kernel_rfl)
      go_simp
      exact hK _ _ _ (by (try simp only [e27]); rfl) (Below.refl _ _) rfl
    refine FreeFrom.cons (k := 29) (fun X v => rfl) ?_ ?_
    · intro X w hR hpre K hK
      have e28 : X 28 = Value.nilIface := hpre ⟨28, .data⟩ (by simp) (by kernel_rfl)
      have e27 : X 27 = Value.bool true := hpre ⟨27, .guard⟩ (by simp) (by kernel_rfl)
      go_simp
      exact hK _ _ _ (by (try simp only [e28, e27]); rfl) (Below.refl _ _) rfl
    refine FreeFrom.cons (k := 30) (fun X v => rfl) ?_ ?_
    · intro X w hR hpre K hK
      have e27 : X 27 = Value.bool true := hpre ⟨27, .data⟩ (by simp) (by kernel_rfl)
      have e29 : X 29 = Value.bool true := hpre ⟨29, .data⟩ (by simp) (by kernel_rfl)
      go_simp
      exact hK _ _ _ (by (try simp only [e27, e29]); rfl) (Below.refl _ _) rfl
    refine FreeFrom.cons (k := 31) (fun X v => rfl) ?_ ?_
    · intro X w hR hpre K hK
      have e30 : X 30 = Value.bool true := hpre ⟨30, .data⟩ (by simp) (by kernel_rfl)
      go_simp
      exact hK _ _ _ (by (try simp only [e30]); rfl) (Below.refl _ _) rfl
    refine FreeFrom.cons (k := 32) (fun X v => rfl) ?_ ?_
    · intro X w hR hpre K hK
      have e31 : X 31 = Value.bool true := hpre ⟨31, .chain⟩ (by simp) (by kernel_rfl)
      go_simp
      go_at_call 15
      refine (sure_any _ (hTw.keep hR)).mono ?_
      rintro e w8 ⟨rfl, hbn⟩
      go_simp
      exact hK _ _ _ (by (try simp only [e31]); rfl) hbn rfl
    refine FreeFrom.cons (k := 33) (fun X v => rfl) ?_ ?_
    · intro X w hR hpre K hK
      have e31 : X 31 = Value.bool true := hpre ⟨31, .data⟩ (by simp) (by kernel_rfl)
      have e32 : X 32 = Value.bool true := hpre ⟨32, .data⟩ (by simp) (by kernel_rfl)
      go_simp
      exact hK _ _ _ (by (try simp only [e31, e32]); rfl) (Below.refl _ _) rfl
    refine FreeFrom.cons (k := 34) (fun X v => rfl) ?_ ?_
    · intro X w hR hpre K hK
      have e33 : X 33 = Value.bool true := hpre ⟨33, .data⟩ (by simp) (by kernel_rfl)
      go_simp
      exact hK _ _ _ (by (try simp only [e33]); rfl) (Below.refl _ _) rfl
    exact FreeFrom.nil
  · intro X w hR hall
    have e34 : X 34 = Value.bool true := hall 34 (by decide)
    clear hall
    go_wp2_with fail
    go_ret
    exact ⟨by rw [e34]; rfl, b_then hbw4 hR⟩

theorem law_tails (A : Option Addr) (n c : Nat) (l : List Nat) (w : World) (hb : Bs w A n c l) (hT : TabW w) (hE : ErrW w) :
    Calls Tryd.prog 9 #[.slice A n c] w fun e w' => e = .returned (.bool true) ∧ Below w.heap.size w w' := by
  by_cases h : 20000 < n
  · exact tails_long A n c l w hb hT h
  · by_cases hc : cutE l = 0
    · exact tails_ok A n c l w hb hT hE (by omega) hc
    · exact tails_bad A n c l w hb hT hE (by omega) hc
end Go.Proofs.YtcoiaggedipapaaDoor
