/-
  TlvDecodes: the walk.
-/
import Derived.Test.YtcoiaggedipapaaDoorRDecode
import Derived.Test.YtcoiaggedipapaaDoorSame
namespace Go.Proofs.YtcoiaggedipapaaDoor
open Go.RowKit
set_option linter.unusedVariables false
set_option linter.unusedSimpArgs false
set_option maxRecDepth 100000

theorem rdecP_ok {w w' : World} {b : List Nat} {e : Ending} (h : RDecP w b e w') (h0 : Tl.decE b = 0) : ∃ A1 c1 L, e = .returned (.tuple #[.int .u32 (Tl.decV b : Nat), .slice A1 (List.length L) c1, .int .i64 0]) ∧ OwnS w' w.heap.size 98 A1 L.length c1 L ∧ secL L = Tl.decL b ∧ Below w.heap.size w w' := by
  rcases h with ⟨_, h⟩ | ⟨h, _⟩
  · exact h
  · exact absurd h0 h
theorem rdecP_bad {w w' : World} {b : List Nat} {e : Ending} (h : RDecP w b e w') (h0 : Tl.decE b ≠ 0) : e = .returned (.tuple #[.int .u32 0, .slice none 0 0, .int .i64 (Tl.decE b : Nat)]) ∧ Below w.heap.size w w' := by
  rcases h with ⟨h, _⟩ | ⟨_, h⟩
  · exact absurd h h0
  · exact h

set_option maxHeartbeats 8000000 in
theorem decodes_big (A : Option Addr) (n c : Nat) (l : List Nat) (w : World) (hb : Bs w A n c l) (hT : TabW w) (hE : ErrW w) (h : 20000 < n) :
    Calls Tryd.prog 11 #[.slice A n c] w fun e w' => e = .returned (.bool true) ∧ Below w.heap.size w w' := by
  have h' : (20000 : Int) < (n : Int) := by omega
  go_enter Tryd.func11, Tryd.ntmps11
  go_wp2_with fail
  refine (sure19_any _ hT).mono ?_
  rintro e w2 ⟨rfl, hb2⟩
  go_wp2_with fail
  go_ret
  exact ⟨rfl, hb2⟩

set_option maxHeartbeats 8000000 in
theorem decodes_ok (A : Option Addr) (n c : Nat) (l : List Nat) (w : World) (hb : Bs w A n c l) (hT : TabW w) (hE : ErrW w) (h : n ≤ 20000) (hdec : Hid (Tl.decE l = 0)) :
    Calls Tryd.prog 11 #[.slice A n c] w fun e w' => e = .returned (.bool true) ∧ Below w.heap.size w w' := by
  have h' : ¬ (20000 : Int) < (n : Int) := by omega
  go_enter Tryd.func11, Tryd.ntmps11
  go_wp2_with fail
  refine (decode_any A n c l _ hb hT).mono ?_
  intro e w1 hp
  obtain ⟨A1, c1, M1, rfl, hown1, hM1, hb1⟩ := decP_ok hp hdec.out
  clear hp
  have hbb := hb.keep hb1
  have hM1' := Lib.hid hM1
  clear hM1
  go_wp2_with fail
  refine (rDecode_any A n c l _ hbb).mono ?_
  intro e w2 hp
  obtain ⟨A2, c2, M2, rfl, hown2, hM2, hb2⟩ := rdecP_ok hp hdec.out
  clear hp
  have hbw := b_then hb1 hb2
  have hMM := Lib.hid (hM1'.out.trans hM2.symm)
  clear hM2
  have hs1 := hown1.secs.keep hb2
  have hs2 := hown2.secs
  go_wp2_with fail
  refine (same_yes A1 A2 _ c1 _ c2 M1 M2 _ hs1 hs2 hMM.out).mono ?_
  rintro e w3 ⟨rfl, q3, rfl⟩
  have hbx := b_drewN hbw q3
  generalize w2.drewN q3 = wx at hbx ⊢
  have hEx := hE.keep hbx
  go_wp2_with fail
  refine (num45_any _ 0 _ ErrV.none hEx).mono ?_
  rintro e w4 ⟨rfl, hb4⟩
  have hbw4 := b_then hbx hb4
  have hT4 := hT.keep hbw4
  go_wp2_with fail
  refine (sure19_any _ hT4).mono ?_
  rintro e w5 ⟨rfl, hb5⟩
  go_wp2_with fail
  go_ret
  exact ⟨rfl, b_then hbw4 hb5⟩

set_option maxHeartbeats 8000000 in
theorem decodes_bad (A : Option Addr) (n c : Nat) (l : List Nat) (w : World) (hb : Bs w A n c l) (hT : TabW w) (hE : ErrW w) (h : n ≤ 20000) (hdec : Hid (Tl.decE l ≠ 0)) :
    Calls Tryd.prog 11 #[.slice A n c] w fun e w' => e = .returned (.bool true) ∧ Below w.heap.size w w' := by
  have h' : ¬ (20000 : Int) < (n : Int) := by omega
  go_enter Tryd.func11, Tryd.ntmps11
  go_wp2_with fail
  refine (decode_any A n c l _ hb hT).mono ?_
  intro e w1 hp
  obtain ⟨rfl, hb1⟩ := decP_bad hp hdec.out
  clear hp
  have hbb := hb.keep hb1
  go_wp2_with fail
  refine (rDecode_any A n c l _ hbb).mono ?_
  intro e w2 hp
  obtain ⟨rfl, hb2⟩ := rdecP_bad hp hdec.out
  clear hp
  have hbw := b_then hb1 hb2
  go_wp2_with fail
  refine (same_yes none none 0 0 0 0 [] [] _ (Secs.nil _) (Secs.nil _) rfl).mono ?_
  rintro e w3 ⟨rfl, q3, rfl⟩
  have hbx := b_drewN hbw q3
  generalize w2.drewN q3 = wx at hbx ⊢
  have hEx := hE.keep hbx
  go_wp2_with fail
  refine (num45_any _ _ _ (ErrV.num _) hEx).mono ?_
  rintro e w4 ⟨rfl, hb4⟩
  have hbw4 := b_then hbx hb4
  have hT4 := hT.keep hbw4
  go_wp2_with fail
  refine (sure19_any _ hT4).mono ?_
  rintro e w5 ⟨rfl, hb5⟩
  go_wp2_with fail
  go_ret
  exact ⟨rfl, b_then hbw4 hb5⟩

theorem law_tlvdecodes (A : Option Addr) (n c : Nat) (l : List Nat) (w : World) (hb : Bs w A n c l) (hT : TabW w) (hE : ErrW w) :
    Calls Tryd.prog 11 #[.slice A n c] w fun e w' => e = .returned (.bool true) ∧ Below w.heap.size w w' := by
  by_cases h : 20000 < n
  · exact decodes_big A n c l w hb hT hE h
  · by_cases hd : Tl.decE l = 0
    · exact decodes_ok A n c l w hb hT hE (by omega) hd
    · exact decodes_bad A n c l w hb hT hE (by omega) hd
end Go.Proofs.YtcoiaggedipapaaDoor
