import Derived.Test.YtcoiaggedipapaaDoorSum3
import Derived.Deep.RegionHeld3
namespace Go.Proofs.YtcoiaggedipapaaDoor
open Go.RowKit
set_option linter.unusedVariables false
set_option linter.unusedSimpArgs false

theorem bytes_any (s : Nat) (w : World) (hs : s < 4294967296) (b0 b1 b2 b3 : Nat) (h : Crc.tail4 s = [b0, b1, b2, b3]) :
    Calls Tryd.prog 53 #[.int .u32 s] w fun e w' => e = .returned (.agg #[.int .u8 (b0 : Int), .int .u8 (b1 : Int), .int .u8 (b2 : Int), .int .u8 (b3 : Int)]) ∧ Below w.heap.size w w' := by
  simp only [Crc.tail4, List.cons.injEq, and_true] at h
  obtain ⟨h0, h1, h2, h3⟩ := h
  have e0 : IntKind.u8.wrap ((s : Int) / 16777216) = (b0 : Int) := by rw [IntKind.wrap_u8]; omega
  have e1 : IntKind.u8.wrap ((s : Int) / 65536) = (b1 : Int) := by rw [IntKind.wrap_u8]; omega
  have e2 : IntKind.u8.wrap ((s : Int) / 256) = (b2 : Int) := by rw [IntKind.wrap_u8]; omega
  have e3 : IntKind.u8.wrap (s : Int) = (b3 : Int) := by rw [IntKind.wrap_u8]; omega
  clear h0 h1 h2 h3
  go_enter Tryd.func53, Tryd.ntmps53
  go_wp2
  simp [bodyPost, results, Tryd.results53, go_sem]
  exact b_alloc (Below.refl _ _) _

theorem tail4_split (s : Nat) : ∃ b0 b1 b2 b3 : Nat, Crc.tail4 s = [b0, b1, b2, b3] ∧ b0 < 256 ∧ b1 < 256 ∧ b2 < 256 ∧ b3 < 256 :=
  ⟨_, _, _, _, rfl, by omega, by omega, by omega, by omega⟩

/-- The sum of bytes. -/
def ofN (l : List Nat) : Nat := Crc.sum 4294967295 l
theorem ofN_lt (l : List Nat) : ofN l < 4294967296 := Crc.sum_lt l 4294967295 (by decide)
theorem of_any' (A : Option Addr) (n c : Nat) (l : List Nat) (w : World) (hb : Bs w A n c l) (hT : TabW w) :
    Calls Tryd.prog 16 #[.slice A n c] w fun e w' => e = .returned (.int .u32 (ofN l : Nat)) ∧ w = w' := of_any A n c l w hb hT
theorem rof_any' (A : Option Addr) (n c : Nat) (l : List Nat) (w : World) (hb : Bs w A n c l) :
    Calls Tryd.prog 17 #[.slice A n c] w fun e w' => e = .returned (.int .u32 (ofN l : Nat)) ∧ w = w' := rof_any A n c l w hb

/-- Bytes with their sum. -/
def tailed (l : List Nat) : List Nat := l ++ Crc.tail4 (ofN l)

set_option maxHeartbeats 4000000 in
theorem tail_any (A : Option Addr) (n c : Nat) (l : List Nat) (w : World) (hb : Bs w A n c l) (hT : TabW w) (hn : n + 4 ≤ 140737488355328) :
    Calls Tryd.prog 21 #[.slice A n c] w (Makes w (n + 4) (tailed l)) := by
  have hs := ofN_lt l
  obtain ⟨b0, b1, b2, b3, h4, q0, q1, q2, q3⟩ := tail4_split (ofN l)
  have ht : Hid (tailed l = l ++ [b0, b1, b2, b3]) := Lib.hid (by unfold tailed; rw [h4])
  have h4' := Lib.hid h4
  clear h4
  go_enter Tryd.func21, Tryd.ntmps21
  go_wp2_with (first | (go_at_call 16; refine (of_any' A n c l _ hb hT).mono ?_; rintro e w' ⟨rfl, rfl⟩) | (go_at_call 53; refine (bytes_any _ _ hs b0 b1 b2 b3 h4'.out).mono ?_; rintro e w' ⟨rfl, hb53⟩))
  have hW : Below w.heap.size w (w'.alloc (Obj.cells #[Value.int IntKind.u8 ↑b0, Value.int IntKind.u8 ↑b1, Value.int IntKind.u8 ↑b2, Value.int IntKind.u8 ↑b3] 45)) := b_alloc hb53 _
  have hq : ∀ x ∈ [b0, b1, b2, b3], x < 256 := by simp; omega
  have hB4 : Bs (w'.alloc (Obj.cells #[Value.int IntKind.u8 ↑b0, Value.int IntKind.u8 ↑b1, Value.int IntKind.u8 ↑b2, Value.int IntKind.u8 ↑b3] 45)) (some ⟨w'.heap.size, 0, none⟩) 4 4 [b0, b1, b2, b3] := Bs.lit w' 45 (0, 0) [b0, b1, b2, b3] 4 rfl (by omega) hq
  have hbW := hb.keep hW
  have hW2 := hW.size
  generalize w'.alloc (Obj.cells #[Value.int IntKind.u8 ↑b0, Value.int IntKind.u8 ↑b1, Value.int IntKind.u8 ↑b2, Value.int IntKind.u8 ↑b3] 45) = W at hW hB4 hbW hW2 ⊢
  generalize w'.heap.size = g at hB4 ⊢
  go_region_held3 (fun w' => Bs w' (some ⟨g, 0, none⟩) 4 4 [b0, b1, b2, b3]) ((first | exact hB4.drew | exact hB4.drew.keep hbel | exact hB4.drew.keep (b_grown hbel hg2 (fun k hk => (hown.ge k hk).1)))) (first | (go_at_call 54; refine (clone_any A n c l _ hbW.drew).mono ?_; rintro e w' ⟨A1, c1, rfl, hown, hbel⟩) | (refine step_append rfl _ _ 23 5 rfl Tryd.underlying23 Tryd.info5 _ A1 n c1 l (some ⟨g, 0, none⟩) 4 4 [b0, b1, b2, b3] (n + 4) rfl rfl rfl hown (by assumption) hbel.size hn ?_; intro A2 c2 w2 hown2 hg2 hat2) | fail)
  go_wp2
  go_ret
  exact ⟨A2, c2, rfl, by rw [ht.out]; exact hown2.lower hW2, b_then (b_drew hW) (b_grown hbel hg2 (fun k hk => (hown.ge k hk).1))⟩

end Go.Proofs.YtcoiaggedipapaaDoor
