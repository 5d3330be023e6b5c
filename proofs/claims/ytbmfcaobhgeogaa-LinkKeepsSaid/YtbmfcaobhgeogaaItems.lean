/-
  Slices of items (bytes, and whether one is turned): read; one's own.
-/
import Derived.Test.YtbmfcaobhgeogaaKit3
import Derived.Test.YtbmfcaobhgeogaaProg
import Derived.WalkKit
namespace Go.Proofs.Ytbmfcaobhgeogaa
open Go.RowKit
set_option linter.unusedVariables false
set_option linter.unusedSimpArgs false
set_option maxRecDepth 100000

/-- An item as it lies: its slice, its bytes, is it turned. -/
structure ItemV where
  A : Option Addr
  n : Nat
  c : Nat
  b : List Nat
  t : Bool
/-- What an item says. -/
def ItemV.say (s : ItemV) : List Nat × Bool := (s.b, s.t)
def says (L : List ItemV) : List (List Nat × Bool) := L.map ItemV.say
/-- A slice of items that is read. -/
structure Items (w : World) (A : Option Addr) (n c : Nat) (L : List ItemV) : Prop where
  len : L.length = n
  cap : n ≤ c
  max : n ≤ 4398046511104
  ok : ∀ s ∈ L, Bs w s.A s.n s.c s.b
  cells : ∀ (j : Nat) (s : ItemV), L[j]? = some s → ∃ b off, A = some ⟨b, off, none⟩ ∧ w.cell? ⟨b, off + j * 2, none⟩ = some (.slice s.A s.n s.c) ∧ w.cell? ⟨b, off + j * 2 + 1, none⟩ = some (.bool s.t)
theorem Items.keep {w w1 : World} {A : Option Addr} {n c : Nat} {L : List ItemV} (h : Items w A n c L) (hb : Below w.heap.size w w1) : Items w1 A n c L :=
  ⟨h.len, h.cap, h.max, fun s hs => (h.ok s hs).keep hb, fun j s hj => by
    obtain ⟨b, off, e, h1, h2⟩ := h.cells j s hj
    exact ⟨b, off, e, cell_keep h1 hb, cell_keep h2 hb⟩⟩
theorem Items.nil (w : World) : Items w none 0 0 [] := ⟨rfl, Nat.le_refl _, by omega, (fun s h => by cases h), (fun j s h => by simp at h)⟩
theorem Items.at_ {w : World} {A : Option Addr} {n c : Nat} {L : List ItemV} (h : Items w A n c L) (k : Nat) (hk : k < n) : ∃ s b off, L[k]? = some s ∧ A = some ⟨b, off, none⟩ ∧ w.cell? ⟨b, off + k * 2, none⟩ = some (.slice s.A s.n s.c) ∧ w.cell? ⟨b, off + k * 2 + 1, none⟩ = some (.bool s.t) ∧ Bs w s.A s.n s.c s.b := by
  have hlt : k < L.length := by rw [h.len]; exact hk
  obtain ⟨b, off, e, h1, h2⟩ := h.cells k _ (List.getElem?_eq_getElem hlt)
  exact ⟨_, b, off, List.getElem?_eq_getElem hlt, e, h1, h2, h.ok _ (List.getElem_mem hlt)⟩

def ItemV.cells (s : ItemV) : List Value := [.slice s.A s.n s.c, .bool s.t]
def itemCells (L : List ItemV) : List Value := L.flatMap ItemV.cells
theorem itemCells_nil : itemCells [] = [] := rfl
theorem itemCells_cons (s : ItemV) (L : List ItemV) : itemCells (s :: L) = .slice s.A s.n s.c :: .bool s.t :: itemCells L := rfl
theorem itemCells_append (L M : List ItemV) : itemCells (L ++ M) = itemCells L ++ itemCells M := by simp [itemCells]
theorem itemCells_length : ∀ L : List ItemV, (itemCells L).length = L.length * 2
  | [] => rfl
  | s :: L => by rw [itemCells_cons]; simp only [List.length_cons, itemCells_length L]; omega
theorem itemCells_get : ∀ (L : List ItemV) (k : Nat) (s : ItemV), L[k]? = some s → (itemCells L)[k * 2]? = some (.slice s.A s.n s.c) ∧ (itemCells L)[k * 2 + 1]? = some (.bool s.t)
  | [], k, s, h => by simp at h
  | t :: L, 0, s, h => by simp at h; subst h; exact ⟨rfl, rfl⟩
  | t :: L, k + 1, s, h => by
    have := itemCells_get L k s (by simpa using h)
    rw [itemCells_cons, show (k + 1) * 2 = k * 2 + 1 + 1 by omega]
    simpa using this
theorem itemCells_one (L : List ItemV) : ∀ u ∈ itemCells L, u.oneCell' = true := by
  intro u hu
  simp only [itemCells, List.mem_flatMap, ItemV.cells, List.mem_cons, List.not_mem_nil, or_false] at hu
  obtain ⟨s, _, rfl | rfl⟩ := hu <;> rfl

/-- A slice of items of one's own: it may be appended to and written. -/
structure OwnI (w : World) (base : Nat) (e : TypeId) (A : Option Addr) (n c : Nat) (L : List ItemV) : Prop where
  own : w.ownsRow base e 2 (.slice A n c) n (itemCells L)
  ok : ∀ s ∈ L, Bs w s.A s.n s.c s.b
  far : ∀ s ∈ L, 0 < s.n → ∀ g, A.map (·.block) = some g → s.A.map (·.block) ≠ some g
  max : n ≤ 4398046511104
theorem OwnI.len {w : World} {base : Nat} {e : TypeId} {A : Option Addr} {n c : Nat} {L : List ItemV} (h : OwnI w base e A n c L) : L.length = n := by
  have := h.own.1
  rw [itemCells_length] at this
  omega
theorem OwnI.nil (w : World) (base : Nat) (e : TypeId) : OwnI w base e none 0 0 [] := ⟨World.ownsRow_nil w base e 2, (fun s h => by cases h), (fun s h => by cases h), by omega⟩
/-- An empty row. -/
theorem OwnI.empty (w : World) (base : Nat) (e : TypeId) (hb : base ≤ w.heap.size) : OwnI (w.alloc (.cells #[] e)) base e (some ⟨w.heap.size, 0, none⟩) 0 0 [] := by
  refine ⟨⟨rfl, .inr ⟨w.heap.size, 0, #[], rfl, hb, heap_alloc_new w _, by omega, by simp only [maxLen]; omega, rfl, rfl⟩⟩, (fun s h => by cases h), (fun s h => by cases h), by omega⟩
theorem OwnI.ge {w : World} {base : Nat} {e : TypeId} {A : Option Addr} {n c : Nat} {L : List ItemV} (h : OwnI w base e A n c L) : ∀ k, A.map (·.block) = some k → base ≤ k ∧ k < w.heap.size := by
  intro k hk
  exact h.own.lt k (by rw [blk_eq]; exact hk)
theorem OwnI.keep {w w1 : World} {base : Nat} {e : TypeId} {A : Option Addr} {n c : Nat} {L : List ItemV} (h : OwnI w base e A n c L) (hb : Below w.heap.size w w1) : OwnI w1 base e A n c L :=
  ⟨h.own.kept (row := none) ⟨hb.os, hb.tape, hb.output, hb.size, fun k hk _ => hb.block k hk⟩ (by rw [blk_eq]; cases A <;> simp), fun s hs => (h.ok s hs).keep hb, h.far, h.max⟩
theorem OwnI.lower {w : World} {base base' : Nat} {e : TypeId} {A : Option Addr} {n c : Nat} {L : List ItemV} (h : OwnI w base e A n c L) (hb : base' ≤ base) : OwnI w base' e A n c L := by
  refine ⟨⟨h.own.1, ?_⟩, h.ok, h.far, h.max⟩
  rcases h.own.2 with h2 | ⟨g, cap, cur, he, hbg, hr⟩
  · exact .inl h2
  · exact .inr ⟨g, cap, cur, he, Nat.le_trans hb hbg, hr⟩
theorem OwnI.items {w : World} {base : Nat} {e : TypeId} {A : Option Addr} {n c : Nat} {L : List ItemV} (h : OwnI w base e A n c L) : Items w A n c L := by
  have hcap : n ≤ c := by
    rcases h.own.2 with ⟨he, hn⟩ | ⟨g, cap, cur, he, hb, hg, hnc, _⟩
    · omega
    · simp only [Value.slice.injEq, true_and] at he
      omega
  refine ⟨h.len, hcap, h.max, h.ok, fun j s hj => ?_⟩
  rcases h.own.2 with ⟨he, hn⟩ | ⟨g, cap, cur, he, hb, hg, hnc, _⟩
  · have := h.len
    have hj' := (List.getElem?_eq_some_iff.1 hj).1
    omega
  · simp only [Value.slice.injEq, true_and] at he
    obtain ⟨rfl, rfl⟩ := he
    obtain ⟨c0, c1⟩ := itemCells_get L j s hj
    have h0 := h.own.cells (g := g) rfl _ _ c0
    have h1 := h.own.cells (g := g) rfl _ _ c1
    rw [add_plain] at h0 h1
    exact ⟨g, 0, rfl, h0, by rw [Nat.add_assoc]; exact h1⟩

theorem OwnI.form {w : World} {base : Nat} {e : TypeId} {A : Option Addr} {n c : Nat} {L : List ItemV} (h : OwnI w base e A n c L) (hn : 0 < n) : ∃ g, A = some ⟨g, 0, none⟩ ∧ base ≤ g ∧ g < w.heap.size ∧ ∀ j, w.frozen? ⟨g, j, none⟩ = false := by
  rcases h.own.2 with ⟨he, h0⟩ | ⟨g, cap, cur, he, hb, hg, _⟩
  · omega
  · simp only [Value.slice.injEq, true_and] at he
    exact ⟨g, he.1, hb, (Array.getElem?_eq_some_iff.1 hg).1, fun j => by simp [World.frozen?, hg]⟩
theorem itemCells_set : ∀ (L : List ItemV) (k : Nat) (s s' : ItemV), L[k]? = some s → s'.t = s.t → (itemCells L).set (k * 2) (.slice s'.A s'.n s'.c) = itemCells (L.set k s')
  | [], k, s, s', h, _ => by simp at h
  | t :: L, 0, s, s', h, ht => by
    simp at h
    subst h
    simp [itemCells_cons, ht]
  | t :: L, k + 1, s, s', h, ht => by
    have := itemCells_set L k s s' (by simpa using h) ht
    rw [List.set_cons_succ, itemCells_cons, itemCells_cons, ← this, show (k + 1) * 2 = k * 2 + 1 + 1 by omega, List.set_cons_succ, List.set_cons_succ]
/-- An item's bytes are other ones. -/
theorem OwnI.set0 {w : World} {base : Nat} {e : TypeId} {g n c : Nat} {L : List ItemV} (h : OwnI w base e (some ⟨g, 0, none⟩) n c L) (k : Nat) (s s' : ItemV) (hs : L[k]? = some s) (ht : s'.t = s.t) (hb : Bs w s'.A s'.n s'.c s'.b) (hfar : 0 < s'.n → s'.A.map (·.block) ≠ some g) :
    OwnI (w.setCell ⟨g, k * 2, none⟩ (.slice s'.A s'.n s'.c)) base e (some ⟨g, 0, none⟩) n c (L.set k s') := by
  have hk : Kept (fun i => i = g) w (w.setCell ⟨g, k * 2, none⟩ (.slice s'.A s'.n s'.c)) := (Kept.refl (fun i => i = g) w).set (fun _ => rfl) _
  refine ⟨?_, fun x hx => ?_, fun x hx h0 q hq => ?_, h.max⟩
  · have := (h.own.stored (k * 2) (.slice s'.A s'.n s'.c)).1
    rwa [itemCells_set L k s s' hs ht] at this
  · rcases List.mem_or_eq_of_mem_set hx with hx | rfl
    · exact (h.ok x hx).far hk (fun hn b hb e => h.far x hx hn g rfl (by rw [hb, e]))
    · exact hb.far hk (fun hn b hb' e => hfar hn (by rw [hb', e]))
  · obtain rfl : g = q := Option.some.inj hq
    rcases List.mem_or_eq_of_mem_set hx with hx | rfl
    · exact h.far x hx h0 g rfl
    · exact hfar h0

section
variable {P : Program} {ops : Array Oper} {rest : List Oper} {o : Oper} {a : Act} {Q : Exit → Act → World → Prop} {w : World}
/-- Items that are read are laid behind those of one's own. -/
theorem run_appendI (t ty e : TypeId) (ht : P.underlying t = some (.slice e)) (hinfo : (P.info? e).map (fun i => (i.zero, i.size, i.bytes)) = some (some (.agg #[.slice none 0 0, .bool false]), 2, 32))
    (base : Nat) (A0 : Option Addr) (n0 c0 : Nat) (L : List ItemV) (A : Option Addr) (m c : Nat) (M : List ItemV) (n1 : Nat) (hn1 : n1 = n0 + m)
    (HO : OwnI w base e A0 n0 c0 L) (HI : Items w A m c M) (hfar : ∀ s ∈ M, 0 < s.n → ∀ k, A0.map (·.block) = some k → s.A.map (·.block) ≠ some k)
    (hbase : base ≤ w.heap.size) (hl : n0 + m ≤ 4398046511104) :
    ∃ A1 c1 w1, (Builtin.append_ #[t, t] ty #[.slice A0 n0 c0, .slice A m c]).run P w = .ok (.slice A1 n1 c1) w1 ∧ OwnI w1 base e A1 n1 c1 (L ++ M) ∧ w.grownBy w1 (A0.map (·.block)) ∧ (A1.map (·.block) = A0.map (·.block) ∨ A1.map (·.block) = some w.heap.size) := by
  subst hn1
  obtain ⟨i0, hi, hzz⟩ := Option.map_eq_some_iff.1 hinfo
  simp only [Prod.mk.injEq] at hzz
  obtain ⟨hz0, hz1, hz2⟩ := hzz
  have hM := HI.len
  have hrun : ∃ v1 w1, (Builtin.append_ #[t, t] ty #[.slice A0 n0 c0, .slice A m c]).run P w = .ok v1 w1 ∧ w1.ownsRow base e 2 v1 (n0 + m) (itemCells (L ++ M)) ∧ w.grownBy w1 (Value.slice A0 n0 c0).ownBlock ∧ (v1.ownBlock = (Value.slice A0 n0 c0).ownBlock ∨ v1.ownBlock = some w.heap.size) := by
    rcases Nat.eq_zero_or_pos m with h0 | h0
    · subst h0
      obtain rfl : M = [] := List.eq_nil_of_length_eq_zero hM
      cases A with
      | none =>
        refine ⟨.slice A0 n0 c0, w, ?_, by simpa using HO.own, ⟨rfl, rfl, rfl, Nat.le_refl _, fun _ _ _ => rfl⟩, .inl rfl⟩
        rcases HO.own.2 with ⟨he, hn⟩ | ⟨g, cap, cur, he, _, _, hnc, _⟩
        · simp only [Value.slice.injEq] at he
          obtain ⟨rfl, rfl, rfl⟩ := he
          simp [Builtin.append_, run_underlying ht, sizeOf, typeInfo, hi, Builtin.lenOf, Builtin.firstCells]
        · simp only [Value.slice.injEq, true_and] at he
          obtain ⟨rfl, rfl⟩ := he
          simp [Builtin.append_, run_underlying ht, sizeOf, typeInfo, hi, Builtin.lenOf, Builtin.firstCells, hnc, storeCells]
      | some ad =>
        obtain ⟨v1, w1, hr, h2, h3, _, h5⟩ := run_append_own_at (P := P) w base t ty e i0 _ 2 32 ht hi hz0 hz1 hz2 rfl (by omega) (.slice A0 n0 c0) n0 (itemCells L) HO.own ad 0 c [] (by simp) (fun j u h => by simp at h)
          (by intro u hu; cases hu) (by simp only [maxLen]; omega) (by omega) hbase
        exact ⟨v1, w1, hr, by simpa using h2, h3, h5⟩
    · obtain ⟨b, off, rfl⟩ : ∃ b off, A = some ⟨b, off, none⟩ := by
        obtain ⟨s, b, off, _, e, _⟩ := HI.at_ 0 h0
        exact ⟨b, off, e⟩
      obtain ⟨v1, w1, hr, h2, h3, _, h5⟩ := run_append_own_at (P := P) w base t ty e i0 _ 2 32 ht hi hz0 hz1 hz2 rfl (by omega) (.slice A0 n0 c0) n0 (itemCells L) HO.own ⟨b, off, none⟩ m c (itemCells M) (by rw [itemCells_length, hM])
        (fun j u hu => by
          have hj : j < m * 2 := by have := (List.getElem?_eq_some_iff.1 hu).1; rw [itemCells_length, hM] at this; exact this
          obtain ⟨s, b', off', hs, e', hc0, hc1, _⟩ := HI.at_ (j / 2) (by omega)
          simp only [Option.some.injEq, Addr.mk.injEq, and_true] at e'
          obtain ⟨rfl, rfl⟩ := e'
          obtain ⟨g0, g1⟩ := itemCells_get M (j / 2) s hs
          rw [add_plain]
          rcases Nat.mod_two_eq_zero_or_one j with h | h
          · have hj2 : j = j / 2 * 2 := by omega
            rw [hj2] at hu ⊢
            rw [g0] at hu
            rw [← hu]
            exact hc0
          · have hj2 : j = j / 2 * 2 + 1 := by omega
            rw [hj2, g1] at hu
            rw [← hu, hj2, ← Nat.add_assoc]
            exact hc1)
        (itemCells_one M) (by simp only [maxLen]; omega) (by omega) hbase
      exact ⟨v1, w1, hr, by rw [itemCells_append]; exact h2, h3, h5⟩
  obtain ⟨v1, w1, hr, h2, h3, h5⟩ := hrun
  have hform : ∃ A1 c1, v1 = .slice A1 (n0 + m) c1 := by
    rcases h2.2 with ⟨rfl, hn⟩ | ⟨g, cap, cur, rfl, _⟩
    · exact ⟨none, 0, by rw [hn]⟩
    · exact ⟨_, _, rfl⟩
  obtain ⟨A1, c1, rfl⟩ := hform
  rw [blk_eq] at h3
  rw [blk_eq, blk_eq] at h5
  have hlt : ∀ (x : ItemV), Bs w x.A x.n x.c x.b → 0 < x.n → ∀ k, x.A.map (·.block) = some k → k < w.heap.size := by
    intro x hx h0 k hk
    obtain ⟨b, off, e, hlt⟩ := hx.lt h0
    rw [e] at hk
    simp at hk
    omega
  have hall : ∀ x ∈ L ++ M, Bs w x.A x.n x.c x.b ∧ (0 < x.n → ∀ k, A0.map (·.block) = some k → x.A.map (·.block) ≠ some k) := by
    intro x hx
    rcases List.mem_append.1 hx with hx | hx
    · exact ⟨HO.ok x hx, HO.far x hx⟩
    · exact ⟨HI.ok x hx, hfar x hx⟩
  refine ⟨A1, c1, w1, hr, ⟨h2, fun x hx => ?_, fun x hx h0 k hk => ?_, hl⟩, h3, h5⟩
  · obtain ⟨hbx, hfx⟩ := hall x hx
    refine ⟨hbx.len, hbx.cap, hbx.max, hbx.small, fun h0 => ?_⟩
    exact (hbx.grown h3 (fun k hk e => hfx h0 k hk e)).cells h0
  · obtain ⟨hbx, hfx⟩ := hall x hx
    intro e
    rcases h5 with h5 | h5
    · rw [h5] at hk; exact hfx h0 k hk e
    · rw [h5] at hk
      have := hlt x hbx h0 k e
      simp at hk
      omega
theorem wp_appendI (hgd : o.guard = none) (s' x' : Operand) (t e : TypeId)
    (ho : o.op = .call { callee := .builtin .append, args := #[s', x'], argTypes := #[t, t] })
    (ht : P.underlying t = some (.slice e)) (hinfo : (P.info? e).map (fun i => (i.zero, i.size, i.bytes)) = some (some (.agg #[.slice none 0 0, .bool false]), 2, 32))
    (base : Nat) (A0 : Option Addr) (n0 c0 : Nat) (L : List ItemV) (A : Option Addr) (m c : Nat) (M : List ItemV) (n1 : Nat) (hn1 : n1 = n0 + m)
    (hes : a.eval s' = .slice A0 n0 c0) (hex : a.eval x' = .slice A m c)
    (HO : OwnI w base e A0 n0 c0 L) (HI : Items w A m c M) (hfar : ∀ s ∈ M, 0 < s.n → ∀ k, A0.map (·.block) = some k → s.A.map (·.block) ≠ some k)
    (hbase : base ≤ w.heap.size) (hl : n0 + m ≤ 4398046511104)
    (h : ∀ A1 c1 w1, OwnI w1 base e A1 n1 c1 (L ++ M) → w.grownBy w1 (A0.map (·.block)) → (A1.map (·.block) = A0.map (·.block) ∨ A1.map (·.block) = some w.heap.size) → wpList P ops Q rest (a.put o.dst (.slice A1 n1 c1)) w1) :
    wpList P ops Q (o :: rest) a w := by
  obtain ⟨A1, c1, w1, hr, hown, hg, hat⟩ := run_appendI (P := P) t o.type e ht hinfo base A0 n0 c0 L A m c M n1 hn1 HO HI hfar hbase hl
  refine wpList_plain hgd fun K hK => ?_
  unfold Oper.wp execOp
  simp only [ho, resolve, invoke, builtin, Sem.run_bind, Sem.run_pure, Result.andThen_ok, List.map_toArray, List.map_cons, List.map_nil, hes, hex, hr]
  exact hK _ _ (h A1 c1 w1 hown hg hat)
end
theorem Try.info68 : (Try.prog.info? 68).map (fun i => (i.zero, i.size, i.bytes)) = some (some (.agg #[.slice none 0 0, .bool false]), 2, 32) := by kernel_rfl
end Go.Proofs.Ytbmfcaobhgeogaa
