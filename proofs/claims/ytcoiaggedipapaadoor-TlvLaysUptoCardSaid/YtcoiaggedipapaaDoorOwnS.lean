/-
  A slice of sections of one's own: it may be appended to.
-/
import Derived.Test.YtcoiaggedipapaaDoorSec
namespace Go.Proofs.YtcoiaggedipapaaDoor
open Go.RowKit
set_option linter.unusedVariables false
set_option linter.unusedSimpArgs false

def SecV.cells (s : SecV) : List Value := [.int .u32 (s.tag : Nat), .slice s.A s.n s.c]
def secCells (L : List SecV) : List Value := L.flatMap SecV.cells
theorem secCells_nil : secCells [] = [] := rfl
theorem secCells_cons (s : SecV) (L : List SecV) : secCells (s :: L) = .int .u32 (s.tag : Nat) :: .slice s.A s.n s.c :: secCells L := rfl
theorem secCells_append (L M : List SecV) : secCells (L ++ M) = secCells L ++ secCells M := by simp [secCells]
theorem secCells_length : ∀ L : List SecV, (secCells L).length = L.length * 2
  | [] => rfl
  | s :: L => by rw [secCells_cons]; simp only [List.length_cons, secCells_length L]; omega
theorem secCells_get : ∀ (L : List SecV) (k : Nat) (s : SecV), L[k]? = some s → (secCells L)[k * 2]? = some (.int .u32 (s.tag : Nat)) ∧ (secCells L)[k * 2 + 1]? = some (.slice s.A s.n s.c)
  | [], k, s, h => by simp at h
  | t :: L, 0, s, h => by simp at h; subst h; exact ⟨rfl, rfl⟩
  | t :: L, k + 1, s, h => by
    have := secCells_get L k s (by simpa using h)
    rw [secCells_cons, show (k + 1) * 2 = k * 2 + 1 + 1 by omega]
    simpa using this
theorem secCells_one (L : List SecV) : ∀ u ∈ secCells L, u.oneCell' = true := by
  intro u hu
  simp only [secCells, List.mem_flatMap, SecV.cells, List.mem_cons, List.not_mem_nil, or_false] at hu
  obtain ⟨s, _, rfl | rfl⟩ := hu <;> rfl

structure OwnS (w : World) (base : Nat) (e : TypeId) (A : Option Addr) (n c : Nat) (L : List SecV) : Prop where
  own : w.ownsRow base e 2 (.slice A n c) n (secCells L)
  ok : ∀ s ∈ L, s.tag < 4294967296 ∧ Bs w s.A s.n s.c s.b
  far : ∀ s ∈ L, 0 < s.n → ∀ g, A.map (·.block) = some g → s.A.map (·.block) ≠ some g
  max : n ≤ 4398046511104
theorem OwnS.len {w : World} {base : Nat} {e : TypeId} {A : Option Addr} {n c : Nat} {L : List SecV} (h : OwnS w base e A n c L) : L.length = n := by
  have := h.own.1
  rw [secCells_length] at this
  omega
theorem OwnS.nil (w : World) (base : Nat) (e : TypeId) : OwnS w base e none 0 0 [] := ⟨World.ownsRow_nil w base e 2, (fun s h => by cases h), (fun s h => by cases h), by omega⟩
theorem OwnS.ge {w : World} {base : Nat} {e : TypeId} {A : Option Addr} {n c : Nat} {L : List SecV} (h : OwnS w base e A n c L) : ∀ k, A.map (·.block) = some k → base ≤ k ∧ k < w.heap.size := by
  intro k hk
  exact h.own.lt k (by rw [blk_eq]; exact hk)
theorem OwnS.keep {w w1 : World} {base : Nat} {e : TypeId} {A : Option Addr} {n c : Nat} {L : List SecV} (h : OwnS w base e A n c L) (hb : Below w.heap.size w w1) : OwnS w1 base e A n c L :=
  ⟨h.own.kept (row := none) ⟨hb.os, hb.tape, hb.output, hb.size, fun k hk _ => hb.block k hk⟩ (by rw [blk_eq]; cases A <;> simp), fun s hs => ⟨(h.ok s hs).1, (h.ok s hs).2.keep hb⟩, h.far, h.max⟩
theorem OwnS.lower {w : World} {base base' : Nat} {e : TypeId} {A : Option Addr} {n c : Nat} {L : List SecV} (h : OwnS w base e A n c L) (hb : base' ≤ base) : OwnS w base' e A n c L := by
  refine ⟨⟨h.own.1, ?_⟩, h.ok, h.far, h.max⟩
  rcases h.own.2 with h2 | ⟨g, cap, cur, he, hbg, hr⟩
  · exact .inl h2
  · exact .inr ⟨g, cap, cur, he, Nat.le_trans hb hbg, hr⟩
theorem OwnS.secs {w : World} {base : Nat} {e : TypeId} {A : Option Addr} {n c : Nat} {L : List SecV} (h : OwnS w base e A n c L) : Secs w A n c L := by
  have hcap : n ≤ c := by
    rcases h.own.2 with ⟨he, hn⟩ | ⟨g, cap, cur, he, hb, hg, hnc, _⟩
    · omega
    · simp only [Value.slice.injEq, true_and] at he
      omega
  refine ⟨h.len, hcap, h.max, h.ok, fun j s hj => ?_⟩
  rcases h.own.2 with ⟨he, hn⟩ | ⟨g, cap, cur, he, hb, hg, hnc, _⟩
  · have := h.len
    have hj' := (List.getElem?_eq_some_iff.1 hj).1
    omega
  · simp only [Value.slice.injEq, true_and] at he
    obtain ⟨rfl, rfl⟩ := he
    obtain ⟨c0, c1⟩ := secCells_get L j s hj
    have h0 := h.own.cells (g := g) rfl _ _ c0
    have h1 := h.own.cells (g := g) rfl _ _ c1
    rw [add_plain] at h0 h1
    exact ⟨g, 0, rfl, h0, by rw [Nat.add_assoc]; exact h1⟩

section
variable {P : Program} {ops : Array Oper} {rest : List Oper} {o : Oper} {a : Act} {Q : Exit → Act → World → Prop} {w : World}
theorem run_appendS (t ty e : TypeId) (ht : P.underlying t = some (.slice e)) (hinfo : (P.info? e).map (fun i => (i.zero, i.size, i.bytes)) = some (some (.agg #[.int .u32 0, .slice none 0 0]), 2, 32))
    (base : Nat) (A0 : Option Addr) (n0 c0 : Nat) (L : List SecV) (g : Nat) (s : SecV) (n1 : Nat) (hn1 : n1 = n0 + 1)
    (HO : OwnS w base e A0 n0 c0 L) (hc0 : w.cell? ⟨g, 0, none⟩ = some (.int .u32 (s.tag : Nat))) (hc1 : w.cell? ⟨g, 1, none⟩ = some (.slice s.A s.n s.c)) (hs : s.tag < 4294967296) (hb : Bs w s.A s.n s.c s.b) (hfar : 0 < s.n → ∀ k, A0.map (·.block) = some k → s.A.map (·.block) ≠ some k)
    (hbase : base ≤ w.heap.size) (hl : n0 + 1 ≤ 4398046511104) :
    ∃ A1 c1 w1, (Builtin.append_ #[t, t] ty #[.slice A0 n0 c0, .slice (some ⟨g, 0, none⟩) 1 1]).run P w = .ok (.slice A1 n1 c1) w1 ∧ OwnS w1 base e A1 n1 c1 (L ++ [s]) ∧ w.grownBy w1 (A0.map (·.block)) ∧ (A1.map (·.block) = A0.map (·.block) ∨ A1.map (·.block) = some w.heap.size) := by
  subst hn1
  obtain ⟨i0, hi, hzz⟩ := Option.map_eq_some_iff.1 hinfo
  simp only [Prod.mk.injEq] at hzz
  obtain ⟨hz0, hz1, hz2⟩ := hzz
  obtain ⟨v1, w1, hr, h2, h3, _, h5⟩ := run_append_own_at (P := P) w base t ty e i0 _ 2 32 ht hi hz0 hz1 hz2 rfl (by omega) (.slice A0 n0 c0) n0 (secCells L) HO.own ⟨g, 0, none⟩ 1 1 (secCells [s]) rfl
    (fun j u hu => by
      rw [add_plain, Nat.zero_add]
      match j, hu with
      | 0, hu => simp [secCells, SecV.cells] at hu; subst hu; exact hc0
      | 1, hu => simp [secCells, SecV.cells] at hu; subst hu; exact hc1
      | j + 2, hu => simp [secCells, SecV.cells] at hu)
    (secCells_one [s]) (by simp only [maxLen]; omega) (by omega) hbase
  have hform : ∃ A1 c1, v1 = .slice A1 (n0 + 1) c1 := by
    rcases h2.2 with ⟨rfl, hn⟩ | ⟨g, cap, cur, rfl, _⟩
    · omega
    · exact ⟨_, _, rfl⟩
  obtain ⟨A1, c1, rfl⟩ := hform
  rw [blk_eq] at h3
  rw [blk_eq, blk_eq] at h5
  have hlt : ∀ (x : SecV), Bs w x.A x.n x.c x.b → 0 < x.n → ∀ k, x.A.map (·.block) = some k → k < w.heap.size := by
    intro x hx h0 k hk
    obtain ⟨b, off, e, hlt⟩ := hx.lt h0
    rw [e] at hk
    simp at hk
    omega
  have hall : ∀ x ∈ L ++ [s], x.tag < 4294967296 ∧ Bs w x.A x.n x.c x.b ∧ (0 < x.n → ∀ k, A0.map (·.block) = some k → x.A.map (·.block) ≠ some k) := by
    intro x hx
    rcases List.mem_append.1 hx with hx | hx
    · exact ⟨(HO.ok x hx).1, (HO.ok x hx).2, HO.far x hx⟩
    · obtain rfl := List.mem_singleton.1 hx
      exact ⟨hs, hb, hfar⟩
  refine ⟨A1, c1, w1, hr, ⟨by rw [secCells_append]; exact h2, fun x hx => ⟨(hall x hx).1, ?_⟩, fun x hx h0 k hk => ?_, hl⟩, h3, h5⟩
  · obtain ⟨_, hbx, hfx⟩ := hall x hx
    refine ⟨hbx.len, hbx.cap, hbx.max, hbx.small, fun h0 => ?_⟩
    exact (hbx.grown h3 (fun k hk e => hfx h0 k hk e)).cells h0
  · obtain ⟨_, hbx, hfx⟩ := hall x hx
    intro e
    rcases h5 with h5 | h5
    · rw [h5] at hk; exact hfx h0 k hk e
    · rw [h5] at hk
      have := hlt x hbx h0 k e
      simp at hk
      omega
theorem wp_appendS (hgd : o.guard = none) (s' x' : Operand) (t e : TypeId)
    (ho : o.op = .call { callee := .builtin .append, args := #[s', x'], argTypes := #[t, t] })
    (ht : P.underlying t = some (.slice e)) (hinfo : (P.info? e).map (fun i => (i.zero, i.size, i.bytes)) = some (some (.agg #[.int .u32 0, .slice none 0 0]), 2, 32))
    (base : Nat) (A0 : Option Addr) (n0 c0 : Nat) (L : List SecV) (g : Nat) (s : SecV) (n1 : Nat) (hn1 : n1 = n0 + 1)
    (hes : a.eval s' = .slice A0 n0 c0) (hex : a.eval x' = .slice (some ⟨g, 0, none⟩) 1 1)
    (HO : OwnS w base e A0 n0 c0 L) (hc0 : w.cell? ⟨g, 0, none⟩ = some (.int .u32 (s.tag : Nat))) (hc1 : w.cell? ⟨g, 1, none⟩ = some (.slice s.A s.n s.c)) (hs : s.tag < 4294967296) (hb : Bs w s.A s.n s.c s.b) (hfar : 0 < s.n → ∀ k, A0.map (·.block) = some k → s.A.map (·.block) ≠ some k)
    (hbase : base ≤ w.heap.size) (hl : n0 + 1 ≤ 4398046511104)
    (h : ∀ A1 c1 w1, OwnS w1 base e A1 n1 c1 (L ++ [s]) → w.grownBy w1 (A0.map (·.block)) → (A1.map (·.block) = A0.map (·.block) ∨ A1.map (·.block) = some w.heap.size) → wpList P ops Q rest (a.put o.dst (.slice A1 n1 c1)) w1) :
    wpList P ops Q (o :: rest) a w := by
  obtain ⟨A1, c1, w1, hr, hown, hg, hat⟩ := run_appendS (P := P) t o.type e ht hinfo base A0 n0 c0 L g s n1 hn1 HO hc0 hc1 hs hb hfar hbase hl
  refine wpList_plain hgd fun K hK => ?_
  unfold Oper.wp execOp
  simp only [ho, resolve, invoke, builtin, Sem.run_bind, Sem.run_pure, Result.andThen_ok, List.map_toArray, List.map_cons, List.map_nil, hes, hex, hr]
  exact hK _ _ (h A1 c1 w1 hown hg hat)
theorem step_appendS {K : Act → World → Prop} {E : Prop} (hgd : o.guard = none) (s' x' : Operand) (t e : TypeId)
    (ho : o.op = .call { callee := .builtin .append, args := #[s', x'], argTypes := #[t, t] })
    (ht : P.underlying t = some (.slice e)) (hinfo : (P.info? e).map (fun i => (i.zero, i.size, i.bytes)) = some (some (.agg #[.int .u32 0, .slice none 0 0]), 2, 32))
    (base : Nat) (A0 : Option Addr) (n0 c0 : Nat) (L : List SecV) (g : Nat) (s : SecV) (n1 : Nat) (hn1 : n1 = n0 + 1)
    (hes : a.eval s' = .slice A0 n0 c0) (hex : a.eval x' = .slice (some ⟨g, 0, none⟩) 1 1)
    (HO : OwnS w base e A0 n0 c0 L) (hc0 : w.cell? ⟨g, 0, none⟩ = some (.int .u32 (s.tag : Nat))) (hc1 : w.cell? ⟨g, 1, none⟩ = some (.slice s.A s.n s.c)) (hs : s.tag < 4294967296) (hb : Bs w s.A s.n s.c s.b) (hfar : 0 < s.n → ∀ k, A0.map (·.block) = some k → s.A.map (·.block) ≠ some k)
    (hbase : base ≤ w.heap.size) (hl : n0 + 1 ≤ 4398046511104)
    (h : ∀ A1 c1 w1, OwnS w1 base e A1 n1 c1 (L ++ [s]) → w.grownBy w1 (A0.map (·.block)) → (A1.map (·.block) = A0.map (·.block) ∨ A1.map (·.block) = some w.heap.size) → K (a.put o.dst (.slice A1 n1 c1)) w1) :
    if Region.wanted o (yielded ops a.tmps) = true then Oper.wp P o a w K Q else E := by
  have hw : Region.wanted o (yielded ops a.tmps) = true := by simp [Region.wanted, hgd]
  rw [if_pos hw]
  obtain ⟨A1, c1, w1, hr, hown, hg, hat⟩ := run_appendS (P := P) t o.type e ht hinfo base A0 n0 c0 L g s n1 hn1 HO hc0 hc1 hs hb hfar hbase hl
  unfold Oper.wp execOp
  simp only [ho, resolve, invoke, builtin, Sem.run_bind, Sem.run_pure, Result.andThen_ok, List.map_toArray, List.map_cons, List.map_nil, hes, hex, hr]
  exact h A1 c1 w1 hown hg hat
end
theorem Tryd.info81 : (Tryd.prog.info? 81).map (fun i => (i.zero, i.size, i.bytes)) = some (some (.agg #[.int .u32 0, .slice none 0 0]), 2, 32) := by kernel_rfl
end Go.Proofs.YtcoiaggedipapaaDoor
