import Derived.Test.YtifkfcjapomlbaaDoorNear
import Derived.Test.YtifkfcjapomlbaaDoorSum3
import Derived.Test.YtifkfcjapomlbaaDoorKit2
import Derived.Deep.DeepCutAuto
import Derived.Deep.CutBlock
import Derived.Deep.RegionWith
import Derived.Deep.QuietTactic
import Derived.BigQuiet
namespace Go.Proofs.YtifkfcjapomlbaaDoor
open Go.RowKit
set_option linter.unusedVariables false
set_option linter.unusedSimpArgs false
set_option maxRecDepth 100000

theorem four_of (l : List Nat) (h : l.length = 4) : ∃ a b c d, l = [a, b, c, d] := by
  match l, h with
  | [a, b, c, d], _ => exact ⟨a, b, c, d, rfl⟩
theorem cut_no (g c1 n : Nat) (y : List Nat) (w : World) (hb : Bs w (some ⟨g, 0, none⟩) (n + 4) c1 y) (hT : TabW w) (hq : Hid (¬ Crc.tail4 (ofN (y.take n)) = y.drop n)) :
    Calls Tryd.prog 24 #[.slice (some ⟨g, 0, none⟩) (n + 4) c1] w fun e w' => e = .returned (.tuple #[.slice none 0 0, .iface 50 (.int .i64 11)]) ∧ Below w.heap.size w w' := by
  obtain ⟨b0, b1, b2, b3, h4, _⟩ := tail4_split (ofN (y.take n))
  obtain ⟨x0, x1, x2, x3, hx⟩ := four_of (y.drop n) (by rw [List.length_drop, hb.len]; omega)
  exact cut_bad g 0 n c1 y w hb hT b0 b1 b2 b3 x0 x1 x2 x3 (Lib.hid h4) (Lib.hid hx) hq
theorem cut_yes (g c1 n : Nat) (y : List Nat) (w : World) (hb : Bs w (some ⟨g, 0, none⟩) (n + 4) c1 y) (hT : TabW w) (hq : Hid (Crc.tail4 (ofN (y.take n)) = y.drop n)) :
    Calls Tryd.prog 24 #[.slice (some ⟨g, 0, none⟩) (n + 4) c1] w (Cuts w n (y.take n)) := by
  obtain ⟨b0, b1, b2, b3, h4, _⟩ := tail4_split (ofN (y.take n))
  obtain ⟨x0, x1, x2, x3, hx⟩ := four_of (y.drop n) (by rw [List.length_drop, hb.len]; omega)
  exact cut_good g 0 n c1 y w hb hT b0 b1 b2 b3 x0 x1 x2 x3 (Lib.hid h4) (Lib.hid hx) hq
theorem sum_cut (l : List Nat) (k : Nat) : Crc.sum (ofN (l.take k)) (l.drop k) = ofN l := by
  unfold ofN
  rw [← Crc.sum_append, List.take_append_drop]

/-- What region 13 reads, and that all stays that was. -/
theorem keepS {w W V : World} {g n c c1 : Nat} {A : Option Addr} {l y yt : List Nat} (h : Bs w (some ⟨g, 0, none⟩) n c1 yt ∧ Bs w A n c l ∧ Bs w (some ⟨g, 0, none⟩) (n + 4) c1 y ∧ TabW w ∧ Below V.heap.size V w) (hb : Below w.heap.size w W) :
    Bs W (some ⟨g, 0, none⟩) n c1 yt ∧ Bs W A n c l ∧ Bs W (some ⟨g, 0, none⟩) (n + 4) c1 y ∧ TabW W ∧ Below V.heap.size V W :=
  ⟨h.1.keep hb, h.2.1.keep hb, h.2.2.1.keep hb, h.2.2.2.1.keep hb, b_then h.2.2.2.2 hb⟩
theorem TabW.drewN {w : World} (h : TabW w) (k : Nat) : TabW (w.drewN k) := ⟨h.cell⟩
end Go.Proofs.YtifkfcjapomlbaaDoor
