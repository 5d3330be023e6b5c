/-
  The laws of layer 22: what they share.
-/
import Derived.Test.YtifkfcjapomlbaaDoorWRDec
namespace Go.Proofs.YtifkfcjapomlbaaDoor
open Go.RowKit
set_option linter.unusedVariables false
set_option linter.unusedSimpArgs false
set_option maxRecDepth 100000

theorem decF_ok {w w' : World} {b : List Nat} {e : Ending} (h : DecF w b e w') (h0 : wdE b = 0) : DecOk w (b.take (b.length - 4)) e w' := by
  rcases h with ⟨_, h⟩ | ⟨h, _⟩
  · exact h
  · exact absurd h0 h
theorem decF_bad {w w' : World} {b : List Nat} {e : Ending} (h : DecF w b e w') (h0 : wdE b ≠ 0) : DecBad w (wdE b) e w' := by
  rcases h with ⟨h, _⟩ | ⟨_, h⟩
  · exact absurd h h0
  · exact h
/-- A frame as the program's. -/
def GiveF (w : World) (v : Value) (e : Ending) (w' : World) : Prop := e = .returned v ∧ Below w.heap.size w w'
theorem wgive_any (k s q n : Int) (A : Option Addr) (m c : Nat) (w : World) :
    Calls Tryd.prog 10 #[.agg #[.int .i64 k, .int .u32 s, .int .u32 q, .int .u32 n, .slice A m c]] w (GiveF w (.agg #[.int .i64 k, .int .u32 s, .int .u32 q, .int .u32 n, .slice A m c])) := by
  go_enter Tryd.func10, Tryd.ntmps10
  go_wp2
  refine bodyPost_ret (v := .agg #[.int .i64 k, .int .u32 s, .int .u32 q, .int .u32 n, .slice A m c]) (by simp [results, Tryd.results10, go_sem]) rfl ⟨rfl, ?_⟩
  repeat (first | exact Below.refl _ _ | refine b_alloc ?_ _ | refine b_drew ?_ | refine b_set ?_ (by simp) _)
/-- Two frames that are one. -/
theorem wsame_yes (k s q n : Int) (A A' : Option Addr) (m c m' c' : Nat) (d : List Nat) (w : World) (hb : Bs w A m c d) (hb' : Bs w A' m' c' d) :
    Calls Tryd.prog 12 #[.agg #[.int .i64 k, .int .u32 s, .int .u32 q, .int .u32 n, .slice A m c], .agg #[.int .i64 k, .int .u32 s, .int .u32 q, .int .u32 n, .slice A' m' c']] w (fun e w' => e = .returned (.bool true) ∧ Below w.heap.size w w') := by
  have hcv1 := fun W (h : Below w.heap.size w W) => run_str (P := Tryd.prog) 23 5 9 Tryd.underlying23 Tryd.underlying5 Tryd.underlying9 (hb.keep h)
  have hcv2 := fun W (h : Below w.heap.size w W) => run_str (P := Tryd.prog) 23 5 9 Tryd.underlying23 Tryd.underlying5 Tryd.underlying9 (hb'.keep h)
  generalize strOf d = st at hcv1 hcv2
  have g1 := hcv1 _ (b_alloc (b_alloc (Below.refl w.heap.size w) (.cells #[.int .i64 k, .int .u32 s, .int .u32 q, .int .u32 n, .slice A m c] 31)) (.cells #[.int .i64 k, .int .u32 s, .int .u32 q, .int .u32 n, .slice A' m' c'] 25))
  have g2 := hcv2 _ (b_alloc (b_alloc (Below.refl w.heap.size w) (.cells #[.int .i64 k, .int .u32 s, .int .u32 q, .int .u32 n, .slice A m c] 31)) (.cells #[.int .i64 k, .int .u32 s, .int .u32 q, .int .u32 n, .slice A' m' c'] 25))
  clear hcv1 hcv2
  go_enter Tryd.func12, Tryd.ntmps12
  go_wp2_with fail
  go_ret
  refine ⟨rfl, ?_⟩
  repeat (first | exact Below.refl _ _ | refine b_alloc ?_ _ | refine b_drew ?_ | refine b_set ?_ (by simp) _)

set_option maxHeartbeats 2000000 in
theorem sure22_any (w : World) (hT : TabW w) : Calls Tryd.prog 8 #[] w (fun e w' => e = .returned (.bool true) ∧ Below w.heap.size w w') := by
  have hm : mayB ((5 : Nat) : Int) ((0 : Nat) : Int) ([] : List Nat).length = true := by decide
  obtain ⟨hd1, hd2⟩ := wenc_dec (k := 5) (s := 0) (q := 7) (n := 0) (d := []) (by decide) (by decide) hm
  obtain ⟨e1, e2, e3, e4, e5, e6⟩ := wraw_tells (k := 5) (s := 0) (q := 7) (n := 0) (d := []) (by decide) (by decide) (by decide) (by decide) (by decide)
  have hd1' := Lib.hid hd1
  have hd2' := Lib.hid hd2
  have E1 := Lib.hid e1
  have E3 := Lib.hid e3
  clear hd1 hd2 e1 e2 e3 e4 e5 e6
  go_enter Tryd.func8, Tryd.ntmps8
  go_wp2_with fail
  refine (enc_ok 5 0 7 0 none 0 0 [] _ (Bs.nil _ _ _) (hT.keep (by repeat (first | exact Below.refl _ _ | refine b_alloc ?_ _ | refine b_drew ?_ | refine b_set ?_ (by simp) _))) (by decide) (by decide) hm).mono ?_
  rintro e w1 ⟨A1, c1, rfl, hown1, hb1⟩
  have hbs1 := hown1.bs
  go_wp2_with fail
  refine (dec_any A1 _ c1 _ _ hbs1 ((hT.keep (by repeat (first | exact Below.refl _ _ | refine b_alloc ?_ _ | refine b_drew ?_ | refine b_set ?_ (by simp) _))).keep hb1)).mono ?_
  intro e w2 hp
  have hp2 := decF_ok hp hd1'.out
  clear hp
  rw [hd2'.out] at hp2
  obtain ⟨A2, c2, rfl, hbs2, hb2⟩ := hp2
  rw [E1.out, E3.out]
  go_wp2_with fail
  go_ret
  refine ⟨rfl, b_alloc (b_then (b_then ?_ hb1) hb2) _⟩
  repeat (first | exact Below.refl _ _ | refine b_alloc ?_ _ | refine b_drew ?_ | refine b_set ?_ (by simp) _)
end Go.Proofs.YtifkfcjapomlbaaDoor
