/-
  Numbers and bytes that are laid: as they lie, and their math.
-/
import Derived.Test.YtcoiaggedipapaaDoorTakes
namespace Go.Proofs.YtcoiaggedipapaaDoor
open Go.RowKit
set_option linter.unusedVariables false
set_option linter.unusedSimpArgs false
set_option maxRecDepth 100000

/-- What is laid, as it lies. -/
structure ThingV where
  run : Bool
  v : Nat
  n : Int
  A : Option Addr
  m : Nat
  c : Nat
  b : List Nat
structure Things (w : World) (A : Option Addr) (n c : Nat) (L : List ThingV) : Prop where
  len : L.length = n
  cap : n ≤ c
  max : n ≤ 140737488355328
  ok : ∀ s ∈ L, s.v < 18446744073709551616 ∧ -9223372036854775808 ≤ s.n ∧ s.n ≤ 9223372036854775807 ∧ Bs w s.A s.m s.c s.b
  cells : ∀ (j : Nat) (s : ThingV), L[j]? = some s → ∃ b off, A = some ⟨b, off, none⟩ ∧ w.cell? ⟨b, off + j * 4, none⟩ = some (.bool s.run) ∧ w.cell? ⟨b, off + j * 4 + 1, none⟩ = some (.int .u64 (s.v : Nat)) ∧ w.cell? ⟨b, off + j * 4 + 2, none⟩ = some (.int .i64 s.n) ∧ w.cell? ⟨b, off + j * 4 + 3, none⟩ = some (.slice s.A s.m s.c)
theorem Things.keep {w w1 : World} {A : Option Addr} {n c : Nat} {L : List ThingV} (h : Things w A n c L) (hb : Below w.heap.size w w1) : Things w1 A n c L :=
  ⟨h.len, h.cap, h.max, fun s hs => ⟨(h.ok s hs).1, (h.ok s hs).2.1, (h.ok s hs).2.2.1, (h.ok s hs).2.2.2.keep hb⟩, fun j s hj => by
    obtain ⟨b, off, e, h1, h2, h3, h4⟩ := h.cells j s hj
    exact ⟨b, off, e, cell_keep h1 hb, cell_keep h2 hb, cell_keep h3 hb, cell_keep h4 hb⟩⟩
theorem Things.at_ {w : World} {A : Option Addr} {n c : Nat} {L : List ThingV} (h : Things w A n c L) (k : Nat) (hk : k < n) : ∃ s b off, L[k]? = some s ∧ A = some ⟨b, off, none⟩ ∧ w.cell? ⟨b, off + k * 4, none⟩ = some (.bool s.run) ∧ w.cell? ⟨b, off + k * 4 + 1, none⟩ = some (.int .u64 (s.v : Nat)) ∧ w.cell? ⟨b, off + k * 4 + 2, none⟩ = some (.int .i64 s.n) ∧ w.cell? ⟨b, off + k * 4 + 3, none⟩ = some (.slice s.A s.m s.c) ∧ s.v < 18446744073709551616 ∧ -9223372036854775808 ≤ s.n ∧ s.n ≤ 9223372036854775807 ∧ Bs w s.A s.m s.c s.b := by
  have hlt : k < L.length := by rw [h.len]; exact hk
  obtain ⟨b, off, e, h1, h2, h3, h4⟩ := h.cells k _ (List.getElem?_eq_getElem hlt)
  have := h.ok _ (List.getElem_mem hlt)
  exact ⟨_, b, off, List.getElem?_eq_getElem hlt, e, h1, h2, h3, h4, this⟩

/-- The bytes of one, of the first k, of those from k on. -/
def layOne (s : ThingV) : List Nat := if s.run = true then Tl.le 4 s.m ++ s.b else if s.n < 1 ∨ 8 < s.n then [] else Tl.le s.n.toNat s.v
def layTo (L : List ThingV) (k : Nat) : List Nat := ((L.take k).map layOne).flatten
def layFrom (L : List ThingV) (K k : Nat) : List Nat := (((L.take K).drop k).map layOne).flatten
theorem layTo_zero (L : List ThingV) : layTo L 0 = [] := rfl
theorem layTo_succ {L : List ThingV} {k : Nat} {s : ThingV} (h : L[k]? = some s) : layTo L (k + 1) = layTo L k ++ layOne s := by
  obtain ⟨hk, e⟩ := List.getElem?_eq_some_iff.1 h
  subst e
  unfold layTo
  rw [List.take_succ_eq_append_getElem hk, List.map_append, List.flatten_append]
  simp only [List.map_cons, List.map_nil, List.flatten_cons, List.flatten_nil, List.append_nil]
theorem layFrom_zero (L : List ThingV) (K : Nat) : layFrom L K 0 = layTo L K := rfl
theorem layFrom_step {L : List ThingV} {K k : Nat} {s : ThingV} (h : L[k]? = some s) (hk : k < K) : layFrom L K k = layOne s ++ layFrom L K (k + 1) := by
  obtain ⟨hl, e⟩ := List.getElem?_eq_some_iff.1 h
  subst e
  unfold layFrom
  have hlt : k < (L.take K).length := by rw [List.length_take]; omega
  rw [List.drop_eq_getElem_cons hlt, List.getElem_take, List.map_cons, List.flatten_cons]
theorem layFrom_end {L : List ThingV} {K k : Nat} (h : K ≤ k ∨ L.length ≤ k) : layFrom L K k = [] := by
  unfold layFrom
  rw [List.drop_of_length_le (by rw [List.length_take]; omega)]
  rfl
/-- How many bytes the runs have. -/
def runsOf (L : List ThingV) : Nat := (L.map (·.m)).sum
theorem layOne_length {s : ThingV} (hb : s.b.length = s.m) : (layOne s).length ≤ s.m + 12 := by
  unfold layOne
  split
  · rw [List.length_append, Tl.le_length, hb]; omega
  · split
    · simp
    · rw [Tl.le_length]; omega
theorem layTo_length : ∀ (L : List ThingV) (k : Nat), (∀ s ∈ L, s.b.length = s.m) → (layTo L k).length ≤ runsOf L + 12 * k
  | [], k, _ => by simp [layTo]
  | s :: L, 0, _ => by simp [layTo]
  | s :: L, k + 1, h => by
    have ih := layTo_length L k (fun t ht => h t (by simp [ht]))
    have h1 := layOne_length (h s (by simp))
    have e : layTo (s :: L) (k + 1) = layOne s ++ layTo L k := by simp [layTo]
    rw [e, List.length_append]
    have e2 : runsOf (s :: L) = s.m + runsOf L := by simp [runsOf]
    omega
theorem run_le {L : List ThingV} {s : ThingV} (h : s ∈ L) : s.m ≤ runsOf L := by
  induction L with
  | nil => cases h
  | cons t L ih =>
    have e2 : runsOf (t :: L) = t.m + runsOf L := by simp [runsOf]
    rcases List.mem_cons.1 h with rfl | h
    · omega
    · have := ih h; omega
theorem num_leT {n v : Nat} (h : v < 256 ^ n) : Tl.num (Tl.le n v) = v := by rw [Tl.num_le, Nat.mod_eq_of_lt h]
/-- What was laid is taken. -/
theorem takeRun_laid {m : Nat} {b r : List Nat} (hm : m < 4294967296) (hb : b.length = m) : Tl.takeRun ⟨Tl.le 4 m ++ b ++ r, 0⟩ m = (⟨r, 0⟩, b) := by
  have h4 : (Tl.le 4 m ++ b ++ r).take 4 = Tl.le 4 m := by
    rw [List.append_assoc, List.take_append, Tl.le_length, Nat.sub_self, List.take_zero, List.append_nil, List.take_of_length_le (by rw [Tl.le_length]; omega)]
  have hl : (Tl.le 4 m ++ b ++ r).length = 4 + m + r.length := by simp [Tl.le_length, hb]; omega
  have d4 : (Tl.le 4 m ++ b ++ r).drop 4 = b ++ r := by
    rw [List.append_assoc]
    exact List.drop_left' (Tl.le_length 4 m)
  unfold Tl.takeRun
  simp only
  rw [if_neg (by simp), if_neg (by omega), h4, num_leT (n := 4) hm, if_neg (by omega), if_neg (by omega), if_neg (by omega)]
  have e1 : (Tl.le 4 m ++ b ++ r).drop (4 + m) = r := by
    rw [← List.drop_drop, d4]
    exact List.drop_left' hb
  have e2 : (b ++ r).take m = b := by
    rw [← hb, List.take_left]
  rw [e1, d4, e2]
theorem takeN_laid {n v : Nat} {r : List Nat} (h1 : 1 ≤ n) (h8 : n ≤ 8) (hv : v < 18446744073709551616) : Tl.takeN ⟨Tl.le n v ++ r, 0⟩ (n : Int) 18446744073709551615 = (⟨r, 0⟩, v % 256 ^ n) := by
  have ht : (Tl.le n v ++ r).take n = Tl.le n v := by
    rw [List.take_append, Tl.le_length, Nat.sub_self, List.take_zero, List.append_nil, List.take_of_length_le (by rw [Tl.le_length]; omega)]
  have hd : (Tl.le n v ++ r).drop n = r := List.drop_left' (Tl.le_length n v)
  have hl : (Tl.le n v ++ r).length = n + r.length := by simp [Tl.le_length]
  have hle : v % 256 ^ n ≤ v := Nat.mod_le _ _
  unfold Tl.takeN
  simp only [Int.toNat_natCast]
  rw [if_neg (by simp), if_neg (by omega), if_neg (by omega), ht, Tl.num_le, if_neg (by omega), hd]
end Go.Proofs.YtcoiaggedipapaaDoor
