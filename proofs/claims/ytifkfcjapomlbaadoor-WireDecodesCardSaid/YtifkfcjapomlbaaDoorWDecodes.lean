/-
  WireDecodes: the walk.
-/
import Derived.Test.YtifkfcjapomlbaaDoorWLaw
namespace Go.Proofs.YtifkfcjapomlbaaDoor
open Go.RowKit
set_option linter.unusedVariables false
set_option linter.unusedSimpArgs false
set_option maxRecDepth 100000

theorem rdecF_ok {w w' : World} {b : List Nat} {e : Ending} (h : RDecF w b e w') (h0 : wdE b = 0) : RDecOk w (b.take (b.length - 4)) e w' := by
  rcases h with ⟨_, h⟩ | ⟨h, _⟩
  · exact h
  · exact absurd h0 h
theorem rdecF_bad {w w' : World} {b : List Nat} {e : Ending} (h : RDecF w b e w') (h0 : wdE b ≠ 0) : RDecBad w (wdE b) e w' := by
  rcases h with ⟨h, _⟩ | ⟨_, h⟩
  · exact absurd h h0
  · exact h
set_option maxHeartbeats 8000000 in
theorem wdecodes_big (A : Option Addr) (m c : Nat) (l : List Nat) (w : World) (hb : Bs w A m c l) (hT : TabW w) (hE : ErrW w) (h : 100000 < m) :
    Calls Tryd.prog 6 #[.slice A m c] w (fun e w' => e = .returned (.bool true) ∧ Below w.heap.size w w') := by
  have h' : (100000 : Int) < (m : Int) := by omega
  go_enter Tryd.func6, Tryd.ntmps6
  go_wp2_with fail
  refine (sure22_any _ hT).mono ?_
  rintro e w2 ⟨rfl, hb2⟩
  go_wp2_with fail
  go_ret
  exact ⟨rfl, hb2⟩

set_option maxHeartbeats 8000000 in
theorem wdecodes_ok (A : Option Addr) (m c : Nat) (l : List Nat) (w : World) (hb : Bs w A m c l) (hT : TabW w) (hE : ErrW w) (h : m ≤ 100000) (hD : Hid (wdE l = 0)) :
    Calls Tryd.prog 6 #[.slice A m c] w (fun e w' => e = .returned (.bool true) ∧ Below w.heap.size w w') := by
  have h' : ¬ (100000 : Int) < (m : Int) := by omega
  go_enter Tryd.func6, Tryd.ntmps6
  go_wp2_with fail
  obtain ⟨cc, hcc⟩ : ∃ cc, l.take (l.length - 4) = cc := ⟨_, rfl⟩
  have hcc' := Lib.hid hcc
  clear hcc
  refine (dec_any A m c l _ hb hT).mono ?_
  intro e w1 hp
  have hp2 := decF_ok hp hD.out
  rw [hcc'.out] at hp2
  obtain ⟨A1, c1, rfl, hbs1, hb1⟩ := hp2
  clear hp
  have hba1 := b_alloc (Below.refl w1.heap.size w1) (.cells #[.int .i64 (fk cc : Nat), .int .u32 (fs cc : Nat), .int .u32 (fq cc : Nat), .int .u32 (fn cc : Nat), .slice A1 (fm cc) c1] 31)
  have hBk1 := Blk.new w1 #[.int .i64 (fk cc : Nat), .int .u32 (fs cc : Nat), .int .u32 (fq cc : Nat), .int .u32 (fn cc : Nat), .slice A1 (fm cc) c1] 31
  have hbv1 := b_then hb1 hba1
  go_wp2_with fail
  generalize w1.alloc (.cells #[.int .i64 (fk cc : Nat), .int .u32 (fs cc : Nat), .int .u32 (fq cc : Nat), .int .u32 (fn cc : Nat), .slice A1 (fm cc) c1] 31) = v1 at hba1 hBk1 hbv1 ⊢
  generalize w1.heap.size = g1 at hBk1 ⊢
  have hbb := hb.keep hbv1
  refine (rdec_any A m c l _ hbb).mono ?_
  intro e w2 hp
  have hp2 := rdecF_ok hp hD.out
  rw [hcc'.out] at hp2
  obtain ⟨A2, c2, rfl, hbs2, hb2⟩ := hp2
  clear hp
  have hba2 := b_alloc (Below.refl w2.heap.size w2) (.cells #[.int .i64 (fk cc : Nat), .int .u32 (fs cc : Nat), .int .u32 (fq cc : Nat), .int .u32 (fn cc : Nat), .slice A2 (fm cc) c2] 25)
  have hBk2 := Blk.new w2 #[.int .i64 (fk cc : Nat), .int .u32 (fs cc : Nat), .int .u32 (fq cc : Nat), .int .u32 (fn cc : Nat), .slice A2 (fm cc) c2] 25
  have hbv2 := b_then (b_then hbv1 hb2) hba2
  have hBp := hBk1.keep (b_then hb2 hba2)
  have p0 := hBp.cell 0 rfl
  have p1 := hBp.cell 1 rfl
  have p2 := hBp.cell 2 rfl
  have p3 := hBp.cell 3 rfl
  have p4 := hBp.cell 4 rfl
  go_wp2_with fail
  generalize w2.alloc (.cells #[.int .i64 (fk cc : Nat), .int .u32 (fs cc : Nat), .int .u32 (fq cc : Nat), .int .u32 (fn cc : Nat), .slice A2 (fm cc) c2] 25) = v2 at hba2 hBk2 hbv2 hBp p0 p1 p2 p3 p4 ⊢
  generalize w2.heap.size = g2 at hBk2 ⊢
  clear p0 p1 p2 p3 p4
  have hs1 := hbs1.keep (b_then hba1 (b_then hb2 hba2))
  have hs2 := hbs2.keep hba2
  refine (wsame_yes (fk cc : Nat) (fs cc : Nat) (fq cc : Nat) (fn cc : Nat) A1 A2 _ c1 _ c2 _ _ hs1 hs2).mono ?_
  rintro e w3 ⟨rfl, hb3⟩
  have hbx := b_then hbv2 hb3
  have hEx := hE.keep hbx
  go_wp2_with fail
  refine (num15_any _ 0 _ ErrV.none hEx).mono ?_
  rintro e w4 ⟨rfl, hb4⟩
  have hbw4 := b_then hbx hb4
  have hT4 := hT.keep hbw4
  go_wp2_with fail
  refine (sure22_any _ hT4).mono ?_
  rintro e w5 ⟨rfl, hb5⟩
  go_wp2_with fail
  go_ret
  exact ⟨rfl, b_then hbw4 hb5⟩

set_option maxHeartbeats 8000000 in
theorem wdecodes_bad (A : Option Addr) (m c : Nat) (l : List Nat) (w : World) (hb : Bs w A m c l) (hT : TabW w) (hE : ErrW w) (h : m ≤ 100000) (hD : Hid (wdE l ≠ 0)) :
    Calls Tryd.prog 6 #[.slice A m c] w (fun e w' => e = .returned (.bool true) ∧ Below w.heap.size w w') := by
  have h' : ¬ (100000 : Int) < (m : Int) := by omega
  go_enter Tryd.func6, Tryd.ntmps6
  go_wp2_with fail
  obtain ⟨cc, hcc⟩ : ∃ cc, l.take (l.length - 4) = cc := ⟨_, rfl⟩
  have hcc' := Lib.hid hcc
  clear hcc
  refine (dec_any A m c l _ hb hT).mono ?_
  intro e w1 hp
  obtain ⟨rfl, hb1⟩ := decF_bad hp hD.out
  clear hp
  have hba1 := b_alloc (Below.refl w1.heap.size w1) (.cells #[.int .i64 0, .int .u32 0, .int .u32 0, .int .u32 0, .slice none 0 0] 31)
  have hBk1 := Blk.new w1 #[.int .i64 0, .int .u32 0, .int .u32 0, .int .u32 0, .slice none 0 0] 31
  have hbv1 := b_then hb1 hba1
  go_wp2_with fail
  generalize w1.alloc (.cells #[.int .i64 0, .int .u32 0, .int .u32 0, .int .u32 0, .slice none 0 0] 31) = v1 at hba1 hBk1 hbv1 ⊢
  generalize w1.heap.size = g1 at hBk1 ⊢
  have hbb := hb.keep hbv1
  refine (rdec_any A m c l _ hbb).mono ?_
  intro e w2 hp
  obtain ⟨rfl, hb2⟩ := rdecF_bad hp hD.out
  clear hp
  have hba2 := b_alloc (Below.refl w2.heap.size w2) (.cells #[.int .i64 0, .int .u32 0, .int .u32 0, .int .u32 0, .slice none 0 0] 25)
  have hBk2 := Blk.new w2 #[.int .i64 0, .int .u32 0, .int .u32 0, .int .u32 0, .slice none 0 0] 25
  have hbv2 := b_then (b_then hbv1 hb2) hba2
  have hBp := hBk1.keep (b_then hb2 hba2)
  have p0 := hBp.cell 0 rfl
  have p1 := hBp.cell 1 rfl
  have p2 := hBp.cell 2 rfl
  have p3 := hBp.cell 3 rfl
  have p4 := hBp.cell 4 rfl
  go_wp2_with fail
  generalize w2.alloc (.cells #[.int .i64 0, .int .u32 0, .int .u32 0, .int .u32 0, .slice none 0 0] 25) = v2 at hba2 hBk2 hbv2 hBp p0 p1 p2 p3 p4 ⊢
  generalize w2.heap.size = g2 at hBk2 ⊢
  clear p0 p1 p2 p3 p4
  refine (wsame_yes 0 0 0 0 none none 0 0 0 0 [] _ (Bs.nil _ _ _) (Bs.nil _ _ _)).mono ?_
  rintro e w3 ⟨rfl, hb3⟩
  have hbx := b_then hbv2 hb3
  have hEx := hE.keep hbx
  go_wp2_with fail
  refine (num15_any _ _ _ (ErrV.num _) hEx).mono ?_
  rintro e w4 ⟨rfl, hb4⟩
  have hbw4 := b_then hbx hb4
  have hT4 := hT.keep hbw4
  go_wp2_with fail
  refine (sure22_any _ hT4).mono ?_
  rintro e w5 ⟨rfl, hb5⟩
  go_wp2_with fail
  go_ret
  exact ⟨rfl, b_then hbw4 hb5⟩

theorem law_wiredecodes (A : Option Addr) (m c : Nat) (l : List Nat) (w : World) (hb : Bs w A m c l) (hT : TabW w) (hE : ErrW w) :
    Calls Tryd.prog 6 #[.slice A m c] w (fun e w' => e = .returned (.bool true) ∧ Below w.heap.size w w') := by
  by_cases h : 100000 < m
  · exact wdecodes_big A m c l w hb hT hE h
  · by_cases hd : wdE l = 0
    · exact wdecodes_ok A m c l w hb hT hE (by omega) hd
    · exact wdecodes_bad A m c l w hb hT hE (by omega) hd
end Go.Proofs.YtifkfcjapomlbaaDoor
