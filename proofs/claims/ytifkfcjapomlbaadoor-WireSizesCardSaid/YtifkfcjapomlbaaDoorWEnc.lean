/-
  wire.Encode and the document's, by contracts.
-/
import Derived.Test.YtifkfcjapomlbaaDoorWMath
namespace Go.Proofs.YtifkfcjapomlbaaDoor
open Go.RowKit
set_option linter.unusedVariables false
set_option linter.unusedSimpArgs false
set_option maxRecDepth 100000

/-- What is made of a frame that may be. -/
def EncF (w : World) (k s q n : Nat) (d : List Nat) (e : Ending) (w' : World) : Prop :=
  ∃ A1 c1, e = .returned (.tuple #[.slice A1 (d.length + 21 : Nat) c1, .nilIface]) ∧ Own w' w.heap.size 5 A1 (d.length + 21) c1 (wenc k s q n d) ∧ Below w.heap.size w w'
theorem EncF.of {w w' : World} {k s q n : Nat} {d : List Nat} {A1 : Option Addr} {c1 x base : Nat} {l : List Nat} (hx : x = d.length + 21) (hl : l = wenc k s q n d) (hb : w.heap.size ≤ base) (ho : Own w' base 5 A1 x c1 l) (hw : Below w.heap.size w w') : EncF w k s q n d (.returned (.tuple #[.slice A1 x c1, .nilIface])) w' := by
  subst hx
  subst hl
  exact ⟨A1, c1, rfl, ho.lower hb, hw⟩

/-- A frame that can't be. -/
def EncBad (w : World) (e : Ending) (w' : World) : Prop := e = .returned (.tuple #[.slice none 0 0, .iface 50 (.int .i64 1)]) ∧ Below w.heap.size w w'
theorem enc_bad (k s q n : Int) (A : Option Addr) (m c : Nat) (w : World) (h : mayB k n m = false) :
    Calls Tryd.prog 9 #[.agg #[.int .i64 k, .int .u32 s, .int .u32 q, .int .u32 n, .slice A m c]] w (EncBad w) := by
  have h' := Lib.hid h
  clear h
  go_enter Tryd.func9, Tryd.ntmps9
  go_wp2_with (go_at_call 18; refine (may_any k s q n A m c _).mono ?_; rw [h'.out]; rintro e w1 ⟨rfl, hb1⟩)
  go_ret2
  exact ⟨rfl, b_then (b_alloc (Below.refl _ _) _) hb1⟩

theorem ixA0 (a b c : Value) (w : World) : (Instr.index 55 (.agg #[a, b, c]) (.int .i64 0)).run Tryd.prog w = .ok a w := by kernel_rfl
theorem ixA1 (a b c : Value) (w : World) : (Instr.index 55 (.agg #[a, b, c]) (.int .i64 1)).run Tryd.prog w = .ok b w := by kernel_rfl
theorem ixA2 (a b c : Value) (w : World) : (Instr.index 55 (.agg #[a, b, c]) (.int .i64 2)).run Tryd.prog w = .ok c w := by kernel_rfl
set_option maxHeartbeats 4000000 in
theorem enc_ok (k s q n : Nat) (A : Option Addr) (m c : Nat) (d : List Nat) (w : World) (hb : Bs w A m c d) (hT : TabW w) (hs : s < 4294967296) (hq : q < 4294967296) (h : mayB k n m = true) :
    Calls Tryd.prog 9 #[.agg #[.int .i64 k, .int .u32 s, .int .u32 q, .int .u32 n, .slice A m c]] w (EncF w k s q n d) := by
  have hln := hb.len
  subst hln
  obtain ⟨hk1, hk6, hm, hn⟩ := mayB_kind h
  have h' := Lib.hid h
  clear h
  have hBk := Blk.new w #[.int .i64 k, .int .u32 s, .int .u32 q, .int .u32 n, .slice A d.length c] 31
  have hba := b_alloc (Below.refl w.heap.size w) (.cells #[.int .i64 k, .int .u32 s, .int .u32 q, .int .u32 n, .slice A d.length c] 31)
  have hv : k < 18446744073709551616 := by omega
  have hvs : s < 18446744073709551616 := by omega
  have hvq : q < 18446744073709551616 := by omega
  have hvn : n < 18446744073709551616 := by omega
  have hwk : IntKind.u64.wrap (k : Int) = (k : Int) := by rw [IntKind.wrap_u64]; omega
  have hws : IntKind.u64.wrap (s : Int) = (s : Int) := by rw [IntKind.wrap_u64]; omega
  have hwq : IntKind.u64.wrap (q : Int) = (q : Int) := by rw [IntKind.wrap_u64]; omega
  have hwn : IntKind.u64.wrap (n : Int) = (n : Int) := by rw [IntKind.wrap_u64]; omega
  go_enter Tryd.func9, Tryd.ntmps9
  go_wp2_with (go_at_call 18; refine (may_any k s q n A d.length c _).mono ?_; rw [h'.out]; rintro e w1 ⟨rfl, hb1⟩)
  have hB1 := hBk.keep hb1
  have hbw1 := b_then hba hb1
  have hc0 := hB1.cell 0 rfl
  have hlt1 := hB1.lt
  have hstep : ∀ x1 x2 : World, x1.cell? ⟨w.heap.size, 0, none⟩ = some (.int .i64 k) → Kept (inOut w1.heap.size none) x1 x2 → x2.cell? ⟨w.heap.size, 0, none⟩ = some (.int .i64 k) := fun x1 x2 h hk => hk.cell h (fun h => h.elim (fun h => absurd h (Nat.ne_of_lt hlt1)) (fun h => by cases h))
  have hn1 : ([] : List Nat).length + 1 ≤ 140737488355328 := by decide
  go_region_held3 (fun w' => w'.cell? ⟨w.heap.size, 0, none⟩ = some (.int .i64 k)) ((first | exact hc0 | exact hq1 | exact hq2)) (first | (go_at_call 19; refine (newOut_new _).mono ?_; rintro e x1 ⟨rfl, hO1, hbn1⟩; have hq1 := cell_keep (cell_drew hc0) hbn1) | (go_at_call 20; refine (outN_any w1.heap.size w1.heap.size none [] k 1 x1 hO1 hv (by decide) (by decide) hn1).mono ?_; rintro e x2 ⟨r2, rfl, hO2, hk2, hr2⟩; have hq2 := hstep _ _ hq1 hk2) | fail)
  have hno : ∀ (r : Option Nat) (x : World), OutAt x w1.heap.size w1.heap.size r (wpre k s q n 0) ∨ True → True := fun _ _ _ => trivial
  clear hno
  have hout : ∀ (x : World) (r : Option Nat) (l : List Nat), OutAt x w1.heap.size w1.heap.size r l → ∀ i, i < w1.heap.size → ¬ inOut w1.heap.size r i := fun x r l hO i hi h => by
    rcases h with h | h
    · omega
    · have := (hO.rlt i h).1
      omega
  have hout' := Lib.hid hout
  clear hout
  have hn2 : ∀ i, i < w1.heap.size → ¬ inOut w1.heap.size none i := fun i hi h => by
    rcases h with h | h
    · omega
    · cases h
  have hbd := b_then (b_drew hbw1) hbn1
  have hwl := hbw1.size
  have hbx2 := b_kept hbd hk2 (fun i hi => hn2 i (by omega))
  have hBx2 := (hB1.drew.keep hbn1).kept hk2 (hn2 _ hlt1)
  have hO2' : OutAt x2 w1.heap.size w1.heap.size r2 (wpre k s q n 0) := hO2
  have hwp : ∀ j, (wpre k s q n j).length + 4 ≤ 140737488355328 := fun j => by
    match j with
    | 0 => simp [wpre, Tl.le_length]
    | 1 => simp [wpre, Tl.le_length]
    | 2 => simp [wpre, Tl.le_length]
    | j + 3 => simp [wpre, Tl.le_length]
  have hwp' := Lib.hid hwp
  have hx1 := hBx2.cell 1 rfl
  have hx2 := hBx2.cell 2 rfl
  have hx3 := hBx2.cell 3 rfl
  clear hwp hstep hq1 hq2 hk2 hO2 hr2 hO1 hbn1 hc0 hbd hn2 hn1
  go_wp2_with fail
  go_loopw [6, 23] (fun x i wr => ∃ j : Nat, j ≤ 3 ∧ i = .int .i64 j ∧ ∃ r, OutAt wr w1.heap.size w1.heap.size r (wpre k s q n j) ∧ Below w.heap.size w wr ∧ Blk wr w.heap.size #[.int .i64 k, .int .u32 s, .int .u32 q, .int .u32 n, .slice A d.length c] 31) (fun _ i _ => 3 - (intOf i).toNat)
  case atStart => exact ⟨0, by omega, rfl, r2, hO2', hbx2, hBx2⟩
  case round =>
    obtain ⟨j, hj, rfl, r, hO, hbel, hB⟩ := hrel
    have hno := hout'.out _ _ _ hO
    by_cases hlt : j < 3
    · rcases (show j = 0 ∨ j = 1 ∨ j = 2 by omega) with rfl | rfl | rfl
      · have pa0 := ixA0 (.int .u32 s) (.int .u32 q) (.int .u32 n)
        go_wp2_with (go_at_call 20; refine (outN_any w1.heap.size w1.heap.size r _ s 4 _ hO hvs (by decide) (by decide) (hwp'.out 0)).mono ?_; rintro e x3 ⟨r3, rfl, hO3, hk3, hr3⟩)
        go_roundw
        case rel => exact ⟨1, by omega, rfl, r3, hO3, b_kept hbel hk3 (fun i hi => hno i (by omega)), hB.kept hk3 (hno _ hlt1)⟩
        case measure => simp [intOf]
      · have pa1 := ixA1 (.int .u32 s) (.int .u32 q) (.int .u32 n)
        go_wp2_with (go_at_call 20; refine (outN_any w1.heap.size w1.heap.size r _ q 4 _ hO hvq (by decide) (by decide) (hwp'.out 1)).mono ?_; rintro e x3 ⟨r3, rfl, hO3, hk3, hr3⟩)
        go_roundw
        case rel => exact ⟨2, by omega, rfl, r3, hO3, b_kept hbel hk3 (fun i hi => hno i (by omega)), hB.kept hk3 (hno _ hlt1)⟩
        case measure => simp [intOf]
      · have pa2 := ixA2 (.int .u32 s) (.int .u32 q) (.int .u32 n)
        go_wp2_with (go_at_call 20; refine (outN_any w1.heap.size w1.heap.size r _ n 4 _ hO hvn (by decide) (by decide) (hwp'.out 2)).mono ?_; rintro e x3 ⟨r3, rfl, hO3, hk3, hr3⟩)
        go_roundw
        case rel => exact ⟨3, by omega, rfl, r3, hO3, b_kept hbel hk3 (fun i hi => hno i (by omega)), hB.kept hk3 (hno _ hlt1)⟩
        case measure => simp [intOf]
    · obtain rfl : j = 3 := by omega
      have hD := hb.keep hbel
      have hT3 := hT.keep hbel
      have hfar : 0 < d.length → A.map (·.block) ≠ r ∧ A.map (·.block) ≠ some w1.heap.size := fun h => by
        obtain ⟨b, off, rfl, hlt⟩ := hb.lt h
        refine ⟨fun e => ?_, fun e => ?_⟩
        · have := (hO.rlt b e.symm).1
          omega
        · have : b = w1.heap.size := Option.some.inj e
          omega
      have hfar' := Lib.hid hfar
      clear hfar
      have hc4 := hB.cell 4 rfl
      have hn3 : (wpre k s q n 3).length + 4 + d.length ≤ 140737488355328 := by rw [wpre_length]; omega
      go_wp2_with fail
      refine (outRun_any w1.heap.size w1.heap.size r _ A d.length c d _ hO hD hfar'.out hn3).mono ?_
      rintro e x4 ⟨r4, rfl, hO4, hk4, hr4⟩
      have hbx4 := b_kept hbel hk4 (fun i hi => hno i (by omega))
      have hlen : (wpre k s q n 3 ++ Tl.le 4 d.length ++ d).length + 4 = d.length + 21 := by have := wraw_length k s q n d; unfold wraw at this; omega
      have hwenc : tailed (wpre k s q n 3 ++ Tl.le 4 d.length ++ d) = wenc k s q n d := by rw [wenc, wraw]
      generalize wpre k s q n 3 ++ Tl.le 4 d.length ++ d = R at hO4 hlen hwenc
      have hn5 : R.length + 4 ≤ 140737488355328 := by omega
      go_wp2_with fail
      refine (outDone_any w1.heap.size w1.heap.size r4 _ _ hO4).mono ?_
      rintro e x5 ⟨A5, c5, rfl, hown5, hb5⟩
      have hbx5 := b_then hbx4 hb5
      have hT5 := hT.keep hbx5
      have hbs5 := hown5.bs
      go_wp2_with fail
      refine (tail_any A5 _ c5 _ _ hbs5 hT5 hn5).mono ?_
      rintro e x6 ⟨A6, c6, rfl, hown6, hb6⟩
      have hfin := EncF.of (k := k) (s := s) (q := q) (n := n) (d := d) hlen hwenc hbx5.size hown6 (b_then hbx5 hb6)
      rw [hlen] at hfin
      go_wp2_with fail
      go_ret2
      exact hfin
end Go.Proofs.YtifkfcjapomlbaaDoor
