/-
  The document's Encode of a frame, by its contract.
-/
import Derived.Test.YtifkfcjapomlbaaDoorWEnc
namespace Go.Proofs.YtifkfcjapomlbaaDoor
open Go.RowKit
set_option linter.unusedVariables false
set_option linter.unusedSimpArgs false
set_option maxRecDepth 100000

/-- What is made of a frame that may be. -/
def REncF (w : World) (k s q n : Nat) (d : List Nat) (e : Ending) (w' : World) : Prop :=
  ∃ A1 c1, e = .returned (.tuple #[.slice A1 (d.length + 21 : Nat) c1, .int .i64 0]) ∧ Own w' w.heap.size 5 A1 (d.length + 21) c1 (wenc k s q n d) ∧ Below w.heap.size w w'
theorem REncF.of {w w' : World} {k s q n : Nat} {d : List Nat} {A1 : Option Addr} {c1 x base : Nat} {l : List Nat} (hx : x = d.length + 21) (hl : l = wenc k s q n d) (hb : w.heap.size ≤ base) (ho : Own w' base 5 A1 x c1 l) (hw : Below w.heap.size w w') : REncF w k s q n d (.returned (.tuple #[.slice A1 x c1, .int .i64 0])) w' := by
  subst hx
  subst hl
  exact ⟨A1, c1, rfl, ho.lower hb, hw⟩
def REncBad (w : World) (e : Ending) (w' : World) : Prop := e = .returned (.tuple #[.slice none 0 0, .int .i64 1]) ∧ Below w.heap.size w w'
theorem rEnc_bad (k s q n : Int) (A : Option Addr) (m c : Nat) (w : World) (h0 : 0 ≤ n) (h : mayB k n m = false) :
    Calls Tryd.prog 16 #[.agg #[.int .i64 k, .int .u32 s, .int .u32 q, .int .u32 n, .slice A m c]] w (REncBad w) := by
  have h' := Lib.hid h
  clear h
  go_enter Tryd.func16, Tryd.ntmps16
  go_wp2_with fail
  refine (rCheck_any k s q n A m c _ h0).mono ?_
  rw [h'.out]
  rintro e w1 ⟨rfl, hb1⟩
  go_wp2
  go_ret2
  exact ⟨rfl, b_then (b_alloc (Below.refl _ _) _) hb1⟩
set_option maxHeartbeats 8000000 in
theorem rEnc_ok (k s q n : Nat) (A : Option Addr) (m c : Nat) (d : List Nat) (w : World) (hb : Bs w A m c d) (hs : s < 4294967296) (hq : q < 4294967296) (h : mayB k n m = true) :
    Calls Tryd.prog 16 #[.agg #[.int .i64 k, .int .u32 s, .int .u32 q, .int .u32 n, .slice A m c]] w (REncF w k s q n d) := by
  have hln := hb.len
  subst hln
  obtain ⟨hk1, hk6, hm, hn⟩ := mayB_kind h
  have h' := Lib.hid h
  clear h
  have hBk := Blk.new w #[.int .i64 k, .int .u32 s, .int .u32 q, .int .u32 n, .slice A d.length c] 25
  have hba := b_alloc (Below.refl w.heap.size w) (.cells #[.int .i64 k, .int .u32 s, .int .u32 q, .int .u32 n, .slice A d.length c] 25)
  have hv : k < 18446744073709551616 := by omega
  have hvs : s < 18446744073709551616 := by omega
  have hvq : q < 18446744073709551616 := by omega
  have hvn : n < 18446744073709551616 := by omega
  have hwk : IntKind.u64.wrap (k : Int) = (k : Int) := by rw [IntKind.wrap_u64]; omega
  have hws : IntKind.u64.wrap (s : Int) = (s : Int) := by rw [IntKind.wrap_u64]; omega
  have hwq : IntKind.u64.wrap (q : Int) = (q : Int) := by rw [IntKind.wrap_u64]; omega
  have hwn : IntKind.u64.wrap (n : Int) = (n : Int) := by rw [IntKind.wrap_u64]; omega
  have hn0 : (0 : Int) ≤ (n : Int) := by omega
  go_enter Tryd.func16, Tryd.ntmps16
  go_wp2_with fail
  refine (rCheck_any k s q n A _ c _ hn0).mono ?_
  rw [h'.out]
  rintro e w1 ⟨rfl, hb1⟩
  have hB1 := hBk.keep hb1
  have hbw1 := b_then hba hb1
  have hD1 := hb.keep hbw1
  have hcs : ∀ W, Below w1.heap.size w1 W → W.cell? ⟨w.heap.size, 0, none⟩ = some (.int .i64 k) ∧ W.cell? ⟨w.heap.size, 1, none⟩ = some (.int .u32 s) ∧ W.cell? ⟨w.heap.size, 2, none⟩ = some (.int .u32 q) ∧ W.cell? ⟨w.heap.size, 3, none⟩ = some (.int .u32 n) ∧ W.cell? ⟨w.heap.size, 4, none⟩ = some (.slice A d.length c) := fun W h =>
    ⟨(hB1.keep h).cell 0 rfl, (hB1.keep h).cell 1 rfl, (hB1.keep h).cell 2 rfl, (hB1.keep h).cell 3 rfl, (hB1.keep h).cell 4 rfl⟩
  have hcs' := Lib.hid hcs
  have hq0 := hcs _ (b_drew (Below.refl _ _))
  clear hcs hBk hba hB1
  have hnr : 13 + 4 + d.length ≤ 140737488355328 := by omega
  have hnt : 13 + 4 + d.length + 4 ≤ 140737488355328 := by omega
  have hlen : 13 + 4 + d.length + 4 = d.length + 21 := by omega
  have hlen' := Lib.hid hlen
  clear hlen
  go_wp2_with fail
  go_region_held3 (fun w' => w'.cell? ⟨w.heap.size, 0, none⟩ = some (.int .i64 k) ∧ w'.cell? ⟨w.heap.size, 1, none⟩ = some (.int .u32 s) ∧ w'.cell? ⟨w.heap.size, 2, none⟩ = some (.int .u32 q) ∧ w'.cell? ⟨w.heap.size, 3, none⟩ = some (.int .u32 n) ∧ w'.cell? ⟨w.heap.size, 4, none⟩ = some (.slice A d.length c)) ((first | exact hq0 | exact hq1 | exact hq2 | exact hq3 | exact hq4 | exact hq5 | exact hq6)) (first
    | (go_at_call 34; refine (rTail_any A5 (13 + 4 + d.length) c5 (wraw k s q n d) _ hs5 hnt).mono ?_; rintro e x6 ⟨A6, c6, rfl, ho6, hy6⟩; have hz6 := b_then hz5 hy6; have hq6 := hcs'.out _ hz6)
    | (go_at_call 35; refine (rRun_any A4 A 13 c4 d.length c (wpre k s q n 3) d _ hs4 (hD1.keep hz4) hnr).mono ?_; rintro e x5 ⟨A5, c5, rfl, ho5, hy5⟩; have hz5 := b_then hz4 hy5; have hq5 := hcs'.out _ hz5; have hs5 : Bs x5 A5 (13 + 4 + d.length) c5 (wraw k s q n d) := ho5.bs)
    | (go_at_call 36; refine (rN_any A3 9 c3 (wpre k s q n 2) n 4 _ hs3 hvn (by decide) (by decide) (by decide)).mono ?_; rintro e x4 ⟨A4, c4, rfl, ho4, hy4⟩; have hz4 := b_then hz3 hy4; have hq4 := hcs'.out _ hz4; have hs4 : Bs x4 A4 13 c4 (wpre k s q n 3) := ho4.bs)
    | (go_at_call 36; refine (rN_any A2 5 c2 (wpre k s q n 1) q 4 _ hs2 hvq (by decide) (by decide) (by decide)).mono ?_; rintro e x3 ⟨A3, c3, rfl, ho3, hy3⟩; have hz3 := b_then hz2 hy3; have hq3 := hcs'.out _ hz3; have hs3 : Bs x3 A3 9 c3 (wpre k s q n 2) := ho3.bs)
    | (go_at_call 36; refine (rN_any A1 1 c1 (wpre k s q n 0) s 4 _ hs1 hvs (by decide) (by decide) (by decide)).mono ?_; rintro e x2 ⟨A2, c2, rfl, ho2, hy2⟩; have hz2 := b_then hz1 hy2; have hq2 := hcs'.out _ hz2; have hs2 : Bs x2 A2 5 c2 (wpre k s q n 1) := ho2.bs)
    | (go_at_call 36; refine (rN_any none 0 0 [] k 1 _ (Bs.nil _ _ _) hv (by decide) (by decide) (by decide)).mono ?_; rintro e x1 ⟨A1, c1, rfl, ho1, hy1⟩; have hz1 := b_then (b_drew (Below.refl w1.heap.size w1)) hy1; have hq1 := hcs'.out _ hz1; have hs1 : Bs x1 A1 1 c1 (wpre k s q n 0) := ho1.bs)
    | fail)
  have ho7 : Own x6 x5.heap.size 5 A6 (17 + d.length + 4) c6 (tailed (wraw k s q n d)) := by rw [show 17 + d.length + 4 = 13 + 4 + d.length + 4 by omega]; exact ho6
  have hfin := REncF.of (k := k) (s := s) (q := q) (n := n) (d := d) (by omega) (by rw [wenc]) (Nat.le_trans hbw1.size hz5.size) ho7 (b_then hbw1 hz6)
  go_wp2_with fail
  go_ret2
  exact hfin
end Go.Proofs.YtifkfcjapomlbaaDoor
