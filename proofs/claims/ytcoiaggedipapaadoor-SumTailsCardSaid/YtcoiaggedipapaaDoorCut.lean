import Derived.Test.YtcoiaggedipapaaDoorTail
import Derived.Deep.RegionHeld3
import Derived.Laws.Cover3
namespace Go.Proofs.YtcoiaggedipapaaDoor
open Go.RowKit
set_option linter.unusedVariables false
set_option linter.unusedSimpArgs false

theorem part0 (v0 v1 v2 v3 : Value) (w : World) : (part 5 #[v0, v1, v2, v3] 0).run Tryd.prog w = .ok v0 w := by kernel_rfl
theorem part1 (v0 v1 v2 v3 : Value) (w : World) : (part 5 #[v0, v1, v2, v3] 1).run Tryd.prog w = .ok v1 w := by kernel_rfl
theorem part2 (v0 v1 v2 v3 : Value) (w : World) : (part 5 #[v0, v1, v2, v3] 2).run Tryd.prog w = .ok v2 w := by kernel_rfl
theorem part3 (v0 v1 v2 v3 : Value) (w : World) : (part 5 #[v0, v1, v2, v3] 3).run Tryd.prog w = .ok v3 w := by kernel_rfl
theorem size5 (w : World) : (sizeOf 5).run Tryd.prog w = .ok 1 w := by kernel_rfl
theorem eq4d (d : Nat) (w : World) (a0 a1 a2 a3 b0 b1 b2 b3 : Int) : (Op.equalIn (d + 2) 45 (.agg #[.int .u8 a0, .int .u8 a1, .int .u8 a2, .int .u8 a3]) (.agg #[.int .u8 b0, .int .u8 b1, .int .u8 b2, .int .u8 b3])).run Tryd.prog w
    = .ok (a0 == b0 && (a1 == b1 && (a2 == b2 && a3 == b3))) w := by
  have h5 := fun a b => run_equalIn_int (P := Tryd.prog) w d 5 .u8 .u8 a b Tryd.underlying5
  unfold Op.equalIn
  simp only [Sem.run_bind, run_underlying Tryd.underlying45, Result.andThen_ok, size5, Std.Legacy.Range.forIn_eq_forIn_range']
  simp only [Std.Legacy.Range.size, List.range', List.forIn_cons, List.forIn_nil, Nat.zero_mul, Nat.one_mul, Nat.zero_add, Nat.mul_one, Sem.run_bind, Result.andThen_ok, part0, part1, part2, part3, h5, Sem.run_pure, Sem.run_ite]
  simp [part0, part1, part2, part3, h5, List.range', Sem.run_ite]
  by_cases h0 : a0 = b0 <;> by_cases h1 : a1 = b1 <;> by_cases h2 : a2 = b2 <;> by_cases h3 : a3 = b3 <;> simp [h0, h1, h2, h3]
theorem eq4 (w : World) (l m : List Nat) (a0 a1 a2 a3 b0 b1 b2 b3 : Nat) (hl : l = [a0, a1, a2, a3]) (hm : m = [b0, b1, b2, b3]) : (Op.equalIn 10000 45 (.agg #[.int .u8 a0, .int .u8 a1, .int .u8 a2, .int .u8 a3]) (.agg #[.int .u8 b0, .int .u8 b1, .int .u8 b2, .int .u8 b3])).run Tryd.prog w
    = .ok (decide (l = m)) w := by
  rw [eq4d 9998 w, hl, hm]
  congr 1
  rw [Bool.eq_iff_iff]
  simp
  omega
theorem TabW.drew {w : World} (h : TabW w) : TabW w.drew := ⟨h.cell⟩
/-- Are the last four bytes the sum of those ahead of them? -/
def sealed (l : List Nat) : Bool := decide (4 ≤ l.length) && decide (Crc.tail4 (ofN (l.take (l.length - 4))) = l.drop (l.length - 4))

theorem cut_short (A : Option Addr) (n c : Nat) (l : List Nat) (w : World) (hb : Bs w A n c l) (hn : n < 4) :
    Calls Tryd.prog 22 #[.slice A n c] w fun e w' => e = .returned (.tuple #[.slice none 0 0, .iface 97 (.int .i64 12)]) ∧ w = w' := by
  go_enter Tryd.func22, Tryd.ntmps22
  go_wp2
  go_ret2
  exact ⟨rfl, rfl⟩

/-- The call made a slice of these bytes, and no error. -/
def Cuts (w : World) (n : Nat) (l : List Nat) (e : Ending) (w' : World) : Prop := ∃ A1 c1, e = .returned (.tuple #[.slice A1 n c1, .nilIface]) ∧ Own w' w.heap.size 5 A1 n c1 l ∧ Below w.heap.size w w'

set_option maxRecDepth 100000 in
set_option maxHeartbeats 4000000 in
theorem cut_good (b off m c : Nat) (l : List Nat) (w : World) (hb : Bs w (some ⟨b, off, none⟩) (m + 4) c l) (hT : TabW w) (b0 b1 b2 b3 x0 x1 x2 x3 : Nat) (h4 : Hid (Crc.tail4 (ofN (l.take m)) = [b0, b1, b2, b3])) (hx : Hid (l.drop m = [x0, x1, x2, x3])) (hq : Hid (Crc.tail4 (ofN (l.take m)) = l.drop m)) :
    Calls Tryd.prog 22 #[.slice (some ⟨b, off, none⟩) (m + 4 : Nat) c] w (Cuts w m (l.take m)) := by
  have hs := ofN_lt (l.take m)
  have hcap := hb.cap
  have hmax := hb.max
  have hbt := hb.take m (by omega)
  obtain ⟨b', off', e, hc⟩ := hb.cells (by omega)
  simp only [Option.some.injEq, Addr.mk.injEq, and_true] at e
  obtain ⟨rfl, rfl⟩ := e
  have cell : ∀ j x : Nat, (l.drop m)[j]? = some x → j < 4 → w.cell? ⟨b, off + (m + j), none⟩ = some (.int .u8 (x : Int)) := by
    intro j x hj hj4
    rw [hc (m + j) (by omega)]
    rw [List.getElem?_drop] at hj
    simp [List.getD_eq_getElem?_getD, hj]
  have k0 := cell 0 x0 (by rw [hx.out]; rfl) (by omega)
  have k1 := cell 1 x1 (by rw [hx.out]; rfl) (by omega)
  have k2 := cell 2 x2 (by rw [hx.out]; rfl) (by omega)
  have k3 := cell 3 x3 (by rw [hx.out]; rfl) (by omega)
  clear hc cell
  have hm0 : (0 : Int) ≤ (m : Int) := by omega
  have hm1 : (m : Int) ≤ ((m + 4 : Nat) : Int) := by omega
  have hm2 : m ≤ m + 4 := by omega
  have hm3 : m ≤ c := by omega
  have hsl := cut_at (P := Tryd.prog) 23 5 .i64 Tryd.underlying23 Tryd.info5 b off (m + 4) c m (by omega) (by omega)
  have harr := fun (W : World) => run_arrayAt (P := Tryd.prog) (w := W) 45 5 4 (some ⟨b, off + m, none⟩) 4 (c - m) Tryd.underlying45 (by omega)
  have hsub : m + 4 - m = 4 := by omega
  rw [hsub] at hsl
  clear hsub
  have heq := fun (W : World) => (eq4 W _ _ b0 b1 b2 b3 x0 x1 x2 x3 h4.out hx.out).trans (by rw [decide_eq_true hq.out])
  go_enter Tryd.func22, Tryd.ntmps22
  go_wp2_with fail
  simp only [← Nat.add_assoc, Nat.add_zero] at k0 k1 k2 k3
  go_region_held3 (fun w' => w'.cell? ⟨b, off + m, none⟩ = some (.int .u8 (x0 : Int)) ∧ w'.cell? ⟨b, off + m + 1, none⟩ = some (.int .u8 (x1 : Int)) ∧ w'.cell? ⟨b, off + m + 2, none⟩ = some (.int .u8 (x2 : Int)) ∧ w'.cell? ⟨b, off + m + 3, none⟩ = some (.int .u8 (x3 : Int))) ((first | exact ⟨k0, k1, k2, k3⟩ | exact ⟨cell_keep (cell_drew k0) hb53, cell_keep (cell_drew k1) hb53, cell_keep (cell_drew k2) hb53, cell_keep (cell_drew k3) hb53⟩)) (first | (go_at_call 16; refine (of_any' _ m c (l.take m) _ hbt.drew hT.drew).mono ?_; rintro e w' ⟨rfl, rfl⟩) | (go_at_call 53; refine (bytes_any _ _ hs b0 b1 b2 b3 h4.out).mono ?_; rintro e w' ⟨rfl, hb53⟩) | fail)
  all_goals go_wp2_with (go_at_call 54; refine (clone_any _ m c (l.take m) _ (hbt.drew.keep hb53)).mono ?_; rintro e w' ⟨A1, c1, rfl, hown, hbel⟩)
  all_goals go_ret2
  all_goals exact ⟨A1, c1, rfl, hown.lower (b_then (b_drew (Below.refl _ _)) hb53).size, b_then (b_then (b_drew (Below.refl _ _)) hb53) hbel⟩

set_option maxRecDepth 100000 in
set_option maxHeartbeats 4000000 in
theorem cut_bad (b off m c : Nat) (l : List Nat) (w : World) (hb : Bs w (some ⟨b, off, none⟩) (m + 4) c l) (hT : TabW w) (b0 b1 b2 b3 x0 x1 x2 x3 : Nat) (h4 : Hid (Crc.tail4 (ofN (l.take m)) = [b0, b1, b2, b3])) (hx : Hid (l.drop m = [x0, x1, x2, x3])) (hq : Hid (¬ Crc.tail4 (ofN (l.take m)) = l.drop m)) :
    Calls Tryd.prog 22 #[.slice (some ⟨b, off, none⟩) (m + 4 : Nat) c] w fun e w' => e = .returned (.tuple #[.slice none 0 0, .iface 97 (.int .i64 11)]) ∧ Below w.heap.size w w' := by
  have hs := ofN_lt (l.take m)
  have hcap := hb.cap
  have hmax := hb.max
  have hbt := hb.take m (by omega)
  obtain ⟨b', off', e, hc⟩ := hb.cells (by omega)
  simp only [Option.some.injEq, Addr.mk.injEq, and_true] at e
  obtain ⟨rfl, rfl⟩ := e
  have cell : ∀ j x : Nat, (l.drop m)[j]? = some x → j < 4 → w.cell? ⟨b, off + (m + j), none⟩ = some (.int .u8 (x : Int)) := by
    intro j x hj hj4
    rw [hc (m + j) (by omega)]
    rw [List.getElem?_drop] at hj
    simp [List.getD_eq_getElem?_getD, hj]
  have k0 := cell 0 x0 (by rw [hx.out]; rfl) (by omega)
  have k1 := cell 1 x1 (by rw [hx.out]; rfl) (by omega)
  have k2 := cell 2 x2 (by rw [hx.out]; rfl) (by omega)
  have k3 := cell 3 x3 (by rw [hx.out]; rfl) (by omega)
  clear hc cell
  have hm0 : (0 : Int) ≤ (m : Int) := by omega
  have hm1 : (m : Int) ≤ ((m + 4 : Nat) : Int) := by omega
  have hm2 : m ≤ m + 4 := by omega
  have hm3 : m ≤ c := by omega
  have hsl := cut_at (P := Tryd.prog) 23 5 .i64 Tryd.underlying23 Tryd.info5 b off (m + 4) c m (by omega) (by omega)
  have harr := fun (W : World) => run_arrayAt (P := Tryd.prog) (w := W) 45 5 4 (some ⟨b, off + m, none⟩) 4 (c - m) Tryd.underlying45 (by omega)
  have hsub : m + 4 - m = 4 := by omega
  rw [hsub] at hsl
  clear hsub
  have heq := fun (W : World) => (eq4 W _ _ b0 b1 b2 b3 x0 x1 x2 x3 h4.out hx.out).trans (by rw [decide_eq_false hq.out])
  go_enter Tryd.func22, Tryd.ntmps22
  go_wp2_with fail
  simp only [← Nat.add_assoc, Nat.add_zero] at k0 k1 k2 k3
  go_region_held3 (fun w' => w'.cell? ⟨b, off + m, none⟩ = some (.int .u8 (x0 : Int)) ∧ w'.cell? ⟨b, off + m + 1, none⟩ = some (.int .u8 (x1 : Int)) ∧ w'.cell? ⟨b, off + m + 2, none⟩ = some (.int .u8 (x2 : Int)) ∧ w'.cell? ⟨b, off + m + 3, none⟩ = some (.int .u8 (x3 : Int))) ((first | exact ⟨k0, k1, k2, k3⟩ | exact ⟨cell_keep (cell_drew k0) hb53, cell_keep (cell_drew k1) hb53, cell_keep (cell_drew k2) hb53, cell_keep (cell_drew k3) hb53⟩)) (first | (go_at_call 16; refine (of_any' _ m c (l.take m) _ hbt.drew hT.drew).mono ?_; rintro e w' ⟨rfl, rfl⟩) | (go_at_call 53; refine (bytes_any _ _ hs b0 b1 b2 b3 h4.out).mono ?_; rintro e w' ⟨rfl, hb53⟩) | fail)
  all_goals go_wp2
  all_goals go_ret2
  all_goals exact ⟨rfl, b_then (b_drew (Below.refl _ _)) hb53⟩

end Go.Proofs.YtcoiaggedipapaaDoor
