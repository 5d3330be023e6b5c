import Derived.Test.YtcoiaggedipapaaDoorKit
import Derived.Laws.BytesArg
import Derived.Laws.StructEq
namespace Go.Proofs.YtcoiaggedipapaaDoor
open Go.RowKit
set_option linter.unusedVariables false
set_option linter.unusedSimpArgs false

/-! ### a cell of one's own slice is written -/
theorem bytesV_set (l : List Nat) (j x : Nat) : (bytesV l).set j (.int .u8 (x : Int)) = bytesV (l.set j x) := by simp [bytesV, List.map_set]
theorem Own.set {w : World} {base : Nat} {e : TypeId} {g n c : Nat} {l : List Nat} (h : Own w base e (some ⟨g, 0, none⟩) n c l) (j x : Nat) (hx : x < 256) : Own (w.setCell ⟨g, j, none⟩ (.int .u8 (x : Int))) base e (some ⟨g, 0, none⟩) n c (l.set j x) := by
  refine ⟨?_, ?_, h.max⟩
  · have := (h.own.stored j (.int .u8 (x : Int))).1
    rwa [bytesV_set] at this
  · intro y hy
    rcases List.mem_or_eq_of_mem_set hy with hy | hy
    · exact h.small y hy
    · rw [hy]; exact hx
theorem Own.form {w : World} {base : Nat} {e : TypeId} {A : Option Addr} {n c : Nat} {l : List Nat} (h : Own w base e A n c l) (hn : 0 < n) : ∃ g, A = some ⟨g, 0, none⟩ ∧ base ≤ g ∧ g < w.heap.size ∧ ∀ j, w.frozen? ⟨g, j, none⟩ = false := by
  rcases h.own.2 with ⟨he, h0⟩ | ⟨g, cap, cur, he, hb, hg, _⟩
  · omega
  · simp only [Value.slice.injEq, true_and] at he
    exact ⟨g, he.1, hb, (Array.getElem?_eq_some_iff.1 hg).1, fun j => by simp [World.frozen?, hg]⟩

theorem Own.cell {w : World} {base : Nat} {e : TypeId} {g n c : Nat} {l : List Nat} (h : Own w base e (some ⟨g, 0, none⟩) n c l) (j : Nat) (hj : j < n) :
    w.cell? ⟨g, j, none⟩ = some (.int .u8 ((l.getD j 0 : Nat) : Int)) ∧ w.frozen? ⟨g, j, none⟩ = false ∧ base ≤ g ∧ g < w.heap.size := by
  obtain ⟨b, off, e1, hc⟩ := h.bs.cells (by omega)
  simp only [Option.some.injEq, Addr.mk.injEq, and_true] at e1
  obtain ⟨rfl, rfl⟩ := e1
  obtain ⟨g', e2, h1, h2, h3⟩ := h.form (by omega)
  simp only [Option.some.injEq, Addr.mk.injEq, and_true] at e2
  subst e2
  have := hc j hj
  rw [Nat.zero_add] at this
  exact ⟨this, h3 j, h1, h2⟩

/-! ### string(b) -/
def strOf (l : List Nat) : ByteArray := strOfNums (l.map fun x : Nat => (x : Int))
theorem strOf_inj {l m : List Nat} (hl : ∀ x ∈ l, x < 256) (hm : ∀ x ∈ m, x < 256) (h : strOf l = strOf m) : l = m := by
  have h1 := congrArg (fun s => s.data.toList) h
  simp only [strOf, strOfNums_data, List.map_map] at h1
  have key : ∀ (l m : List Nat), (∀ x ∈ l, x < 256) → (∀ x ∈ m, x < 256) → l.map ((fun n : Int => UInt8.ofNat n.toNat) ∘ fun x : Nat => (x : Int)) = m.map ((fun n : Int => UInt8.ofNat n.toNat) ∘ fun x : Nat => (x : Int)) → l = m := by
    intro l
    induction l with
    | nil => intro m _ _ h; cases m with
      | nil => rfl
      | cons c m => simp at h
    | cons c l ih =>
      intro m hl hm h
      cases m with
      | nil => simp at h
      | cons d m =>
        simp only [List.map_cons, List.cons.injEq, Function.comp_apply, Int.toNat_natCast] at h
        have h2 := congrArg UInt8.toNat h.1
        have := hl c (by simp)
        have := hm d (by simp)
        simp only [UInt8.toNat_ofNat'] at h2
        rw [ih m (fun x hx => hl x (by simp [hx])) (fun x hx => hm x (by simp [hx])) h.2]
        congr 1
        omega
  exact key l m hl hm h1
theorem str_ne {l m : List Nat} (hl : ∀ x ∈ l, x < 256) (hm : ∀ x ∈ m, x < 256) (h : l ≠ m) : ((strOf l).toList == (strOf m).toList) = false := by
  cases hb : ((strOf l).toList == (strOf m).toList) with
  | false => rfl
  | true =>
    rw [ByteArray.toList_eq, ByteArray.toList_eq] at hb
    exact absurd (strOf_inj hl hm (ByteArray.ext (Array.toList_inj.1 (eq_of_beq hb)))) h
theorem run_str {P : Program} (t e s : TypeId) (ht : P.underlying t = some (.slice e)) (he : P.underlying e = some (.int .u8)) (hs : P.underlying s = some .string) {w : World} {A : Option Addr} {n c : Nat} {l : List Nat} (h : Bs w A n c l) :
    (convert t s (.slice A n c)).run P w = .ok (.string (strOf l)) w := by
  rcases Nat.eq_zero_or_pos n with h0 | h0
  · subst h0
    obtain rfl : l = [] := List.eq_nil_of_length_eq_zero h.len
    cases A with
    | none => exact run_convert_bytes_nil w t e ht he 0 c s hs
    | some ad =>
      have hl : (loadCells ad 0).run P w = .ok (([] : List Int).map (Value.int .u8)).toArray w := by
        have := run_loadCells_list (P := P) (w := w) ad [] (fun j v hj => by simp at hj)
        simpa using this
      rw [run_convert_bytes_string w t s e _ 0 c ht he hs, run_bytesToString w _ 0 c [] hl]
      rfl
  · obtain ⟨b, off, rfl, hc⟩ := h.cells h0
    exact run_convert_bytes_arg w t e ht he b off n c (l.map fun x : Nat => (x : Int)) (by simp [h.len]) (fun i hi => by
      rw [hc i hi]
      simp [List.getD_eq_getElem?_getD, List.getElem?_map, List.getElem?_eq_getElem (show i < l.length by rw [h.len]; exact hi)]) s hs
end Go.Proofs.YtcoiaggedipapaaDoor
