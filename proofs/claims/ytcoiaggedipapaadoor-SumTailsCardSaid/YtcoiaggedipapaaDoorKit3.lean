import Derived.Test.YtcoiaggedipapaaDoorKit2
namespace Go.Proofs.YtcoiaggedipapaaDoor
open Go.RowKit
set_option linter.unusedVariables false
set_option linter.unusedSimpArgs false

/-! ### nothing that was there is written but some blocks -/
structure Kept (S : Nat → Prop) (w w' : World) : Prop where
  os : w'.os = w.os
  tape : w'.tape = w.tape
  output : w'.output = w.output
  size : w.heap.size ≤ w'.heap.size
  block : ∀ k, k < w.heap.size → ¬ S k → w'.heap[k]? = w.heap[k]?
theorem Kept.refl (S : Nat → Prop) (w : World) : Kept S w w := ⟨rfl, rfl, rfl, Nat.le_refl _, fun _ _ _ => rfl⟩
theorem Kept.then_ {S S' : Nat → Prop} {a b c : World} (h : Kept S a b) (k : Kept S' b c) (hs : ∀ i, i < a.heap.size → S' i → S i) : Kept S a c :=
  ⟨k.os.trans h.os, k.tape.trans h.tape, k.output.trans h.output, Nat.le_trans h.size k.size, fun i hi hn =>
    (k.block i (Nat.lt_of_lt_of_le hi h.size) (fun h' => hn (hs i hi h'))).trans (h.block i hi hn)⟩
theorem Kept.trans {S : Nat → Prop} {a b c : World} (h : Kept S a b) (k : Kept S b c) : Kept S a c := h.then_ k fun _ _ h => h
theorem Kept.mono {S T : Nat → Prop} {a b : World} (h : Kept S a b) (hs : ∀ i, i < a.heap.size → S i → T i) : Kept T a b :=
  ⟨h.os, h.tape, h.output, h.size, fun i hi hn => h.block i hi fun h' => hn (hs i hi h')⟩
theorem Kept.of_below {S : Nat → Prop} {w w' : World} (h : Below w.heap.size w w') : Kept S w w' := ⟨h.os, h.tape, h.output, h.size, fun k hk _ => h.block k hk⟩
theorem Kept.of_grown {S : Nat → Prop} {w w' : World} {row : Option Nat} (h : w.grownBy w' row) (hr : ∀ k, k < w.heap.size → row = some k → S k) : Kept S w w' :=
  ⟨h.os, h.tape, h.output, h.size, fun k hk hn => h.block k hk fun e => hn (hr k hk e.symm)⟩
theorem Kept.grown_ {S : Nat → Prop} {w W w' : World} (k : Kept S w W) {row : Option Nat} (h : W.grownBy w' row) (hr : ∀ k, k < w.heap.size → row = some k → S k) : Kept S w w' :=
  k.then_ (S' := fun i => row = some i) (Kept.of_grown h fun _ _ e => e) hr
theorem Kept.below_ {S : Nat → Prop} {w W w' : World} (k : Kept S w W) (h : Below W.heap.size W w') : Kept S w w' := k.then_ (S' := fun _ => False) (Kept.of_below h) (fun _ _ h => h.elim)
theorem Kept.alloc {S : Nat → Prop} {w W : World} (k : Kept S w W) (o : Obj) : Kept S w (W.alloc o) := k.below_ ((Below.refl _ _).alloc (Nat.le_refl _) _)
theorem Kept.drew {S : Nat → Prop} {w W : World} (k : Kept S w W) : Kept S w W.drew := ⟨k.os, k.tape, k.output, k.size, k.block⟩
theorem Kept.drewN {S : Nat → Prop} {w W : World} (k : Kept S w W) (n : Nat) : Kept S w (W.drewN n) := ⟨k.os, k.tape, k.output, k.size, k.block⟩
theorem Kept.set {S : Nat → Prop} {w W : World} (k : Kept S w W) {p : Addr} (hp : p.block < w.heap.size → S p.block) (u : Value) : Kept S w (W.setCell p u) :=
  ⟨k.os, k.tape, k.output, by simpa [World.setCell] using k.size, fun i hi hn => (Below.heap_setCell W p u i (fun e => hn (by rw [e] at hi ⊢; exact hp hi))).trans (k.block i hi hn)⟩
theorem Kept.below {S : Nat → Prop} {w w' : World} (k : Kept S w w') {B : Nat} (hB : B ≤ w.heap.size) (hs : ∀ i, i < B → ¬ S i) : Below B w w' :=
  ⟨k.os, k.tape, k.output, k.size, fun i hi => k.block i (by omega) (hs i hi)⟩
theorem b_kept {w W w1 : World} (h : Below w.heap.size w W) {S : Nat → Prop} (k : Kept S W w1) (hs : ∀ i, i < w.heap.size → ¬ S i) : Below w.heap.size w w1 := h.trans (k.below h.size hs)
theorem Kept.cell {S : Nat → Prop} {w w' : World} (k : Kept S w w') {a : Addr} {v : Value} (h : w.cell? a = some v) (hn : ¬ S a.block) : w'.cell? a = some v :=
  (World.cell?_of_block (k.block _ (World.block_lt_of_cell? w a h) hn)).trans h
theorem Blk.kept {S : Nat → Prop} {w w1 : World} {g : Nat} {cs : Array Value} {t : TypeId} (h : Blk w g cs t) (k : Kept S w w1) (hn : ¬ S g) : Blk w1 g cs t := ⟨(k.block g h.lt hn).trans h.at_⟩
theorem Bs.kept {S : Nat → Prop} {w w1 : World} {A : Option Addr} {n c : Nat} {l : List Nat} (h : Bs w A n c l) (k : Kept S w w1) (hn : ∀ b, A.map (·.block) = some b → ¬ S b) : Bs w1 A n c l :=
  ⟨h.len, h.cap, h.max, h.small, fun h0 => by
    obtain ⟨b, off, e, hc⟩ := h.cells h0
    exact ⟨b, off, e, fun j hj => k.cell (hc j hj) (hn b (by rw [e]; rfl))⟩⟩
theorem Own.kept {S : Nat → Prop} {w w1 : World} {base : Nat} {e : TypeId} {A : Option Addr} {n c : Nat} {l : List Nat} (h : Own w base e A n c l) (k : Kept S w w1) (hn : ∀ b, A.map (·.block) = some b → ¬ S b) : Own w1 base e A n c l :=
  ⟨⟨h.own.1, by
    rcases h.own.2 with h2 | ⟨g, cap, cur, he, hb, hg, hr⟩
    · exact .inl h2
    · refine .inr ⟨g, cap, cur, he, hb, ?_, hr⟩
      have hlt := (Array.getElem?_eq_some_iff.1 hg).1
      have hA : A.map (·.block) = some g := by
        simp only [Value.slice.injEq] at he
        rw [he.1]; rfl
      exact (k.block g hlt (hn g hA)).trans hg⟩, h.small, h.max⟩
/-- A slice of bytes and a block that holds another value at each place do not meet. -/
theorem Bs.apart {w : World} {A : Option Addr} {n c : Nat} {l : List Nat} (h : Bs w A n c l) {g : Nat} {cs : Array Value} {t : TypeId} (hg : Blk w g cs t) (hcs : ∀ (i : Nat) (v : Value), cs[i]? = some v → ∀ x : Int, v ≠ Value.int .u8 x) (hn : 0 < n) : A.map (·.block) ≠ some g := by
  obtain ⟨b, off, e, hc⟩ := h.cells hn
  intro h'
  rw [e] at h'
  simp only [Option.map_some, Option.some.injEq] at h'
  subst h'
  have h0 := hc 0 hn
  have h1 := cell_of_row w b (off + 0) cs t (0, 0) hg.at_
  rw [h1] at h0
  exact hcs _ _ h0 _ rfl
/-- What is not empty lies apart from a block: only then is its place asked. -/
theorem Bs.far {w w1 : World} {A : Option Addr} {n c : Nat} {l : List Nat} (h : Bs w A n c l) {S : Nat → Prop} (k : Kept S w w1) (hn : 0 < n → ∀ b, A.map (·.block) = some b → ¬ S b) : Bs w1 A n c l :=
  ⟨h.len, h.cap, h.max, h.small, fun h0 => (h.kept k (hn h0)).cells h0⟩

/-! ### a slice that may be appended to: one's own, or one that is full -/
def Ap (w : World) (base : Nat) (e : TypeId) (A : Option Addr) (n c : Nat) (l : List Nat) : Prop := Own w base e A n c l ∨ (Bs w A n c l ∧ n = c ∧ 0 < n)
theorem Own.ap {w : World} {base : Nat} {e : TypeId} {A : Option Addr} {n c : Nat} {l : List Nat} (h : Own w base e A n c l) : Ap w base e A n c l := .inl h
section
variable {P : Program} {ops : Array Oper} {rest : List Oper} {o : Oper} {a : Act} {Q : Exit → Act → World → Prop} {w : World}
theorem run_append_ap (t ty e : TypeId) (ht : P.underlying t = some (.slice e)) (hinfo : (P.info? e).map (fun i => (i.zero, i.size, i.bytes)) = some (some (.int .u8 0), 1, 1))
    (base : Nat) (A0 : Option Addr) (n0 c0 : Nat) (xs : List Nat) (A : Option Addr) (m c : Nat) (ys : List Nat) (n1 : Nat) (hn1 : n1 = n0 + m) (hm : 0 < m)
    (HO : Ap w base e A0 n0 c0 xs) (HR : Bs w A m c ys) (hbase : base ≤ w.heap.size) (hl : n0 + m ≤ 140737488355328) :
    ∃ A1 c1 w1, (Builtin.append_ #[t, t] ty #[.slice A0 n0 c0, .slice A m c]).run P w = .ok (.slice A1 n1 c1) w1 ∧ Own w1 base e A1 n1 c1 (xs ++ ys) ∧ w.grownBy w1 (A0.map (·.block)) ∧ (A1.map (·.block) = A0.map (·.block) ∨ A1.map (·.block) = some w.heap.size) := by
  rcases HO with HO | ⟨HB, hnc, hpos⟩
  · exact run_append t ty e ht hinfo base A0 n0 c0 xs A m c ys n1 hn1 HO HR hbase hl
  · subst hn1
    subst hnc
    obtain ⟨i0, hi, hzz⟩ := Option.map_eq_some_iff.1 hinfo
    simp only [Prod.mk.injEq] at hzz
    obtain ⟨hz0, hz1, hz2⟩ := hzz
    obtain ⟨b0, o0, rfl, hc0⟩ := HB.cells hpos
    obtain ⟨b, off, rfl, hc⟩ := HR.cells hm
    have get : ∀ (l : List Nat) (k : Nat) (bb oo : Nat), l.length = k → (∀ j, j < k → w.cell? ⟨bb, oo + j, none⟩ = some (.int .u8 ((l.getD j 0 : Nat) : Int))) → ∀ j v, (bytesV l)[j]? = some v → w.cell? ((⟨bb, oo, none⟩ : Addr).add j) = some v := by
      intro l k bb oo hlk h j v hv
      have hj : j < l.length := by
        rcases Nat.lt_or_ge j l.length with h' | h'
        · exact h'
        · simp [bytesV, List.getElem?_eq_none h'] at hv
      rw [bytesV_get l j hj] at hv
      injection hv with hv
      subst hv
      rw [add_plain]
      exact h j (by omega)
    have hr := run_append_grow (P := P) w t ty e i0 (.int .u8 0) ht hi hz0 ⟨b0, o0, none⟩ n0 n0 (bytesV xs) (by simp [bytesV, HB.len, hz1]) (get xs n0 b0 o0 HB.len hc0) ⟨b, off, none⟩ m c (bytesV ys) (by simp [bytesV, HR.len, hz1]) (get ys m b off HR.len hc)
      (by omega) (by omega) (by rw [hz2]; exact growslice_fits (by omega) (by omega))
    have hge := grownCap_ge w (n0 + m) n0 e
    have hcm : grownCap w (n0 + m) n0 e ≤ maxLen := grownCap_le_maxLen w (n0 + m) n0 e (by simp only [maxLen]; omega)
    have hz1' : (Value.int IntKind.u8 0).cells.size = 1 := rfl
    refine ⟨_, _, _, hr, ⟨⟨by simp [bytesV, HB.len, HR.len], .inr ⟨w.heap.size, _, _, rfl, hbase, heap_alloc_new w.drew _, hge, hcm, ?_, ?_⟩⟩, ?_, hl⟩, ⟨rfl, rfl, rfl, by simp, fun k hk _ => Below.heap_alloc w.drew _ k hk⟩, .inr rfl⟩
    · simp only [Array.size_append, List.size_toArray, size_zeroCells, hz1', bytesV_length, HB.len, HR.len]
      omega
    · simp only [Array.toList_append, List.append_assoc, bytesV_append]
      rw [← List.append_assoc, ← bytesV_append]
      have : (n0 + m) * 1 = (bytesV (xs ++ ys)).length := by simp [bytesV, HB.len, HR.len]
      rw [this]
      exact List.take_left
    · intro x hx
      rcases List.mem_append.1 hx with hx | hx
      · exact HB.small x hx
      · exact HR.small x hx
theorem wp_append_ap (hgd : o.guard = none) (s x : Operand) (t e : TypeId)
    (ho : o.op = .call { callee := .builtin .append, args := #[s, x], argTypes := #[t, t] })
    (ht : P.underlying t = some (.slice e)) (hinfo : (P.info? e).map (fun i => (i.zero, i.size, i.bytes)) = some (some (.int .u8 0), 1, 1))
    (base : Nat) (A0 : Option Addr) (n0 c0 : Nat) (xs : List Nat) (A : Option Addr) (m c : Nat) (ys : List Nat) (n1 : Nat) (hn1 : n1 = n0 + m) (hm : 0 < m)
    (hs : a.eval s = .slice A0 n0 c0) (hx : a.eval x = .slice A m c)
    (HO : Ap w base e A0 n0 c0 xs) (HR : Bs w A m c ys) (hbase : base ≤ w.heap.size) (hl : n0 + m ≤ 140737488355328)
    (h : ∀ A1 c1 w1, Own w1 base e A1 n1 c1 (xs ++ ys) → w.grownBy w1 (A0.map (·.block)) → (A1.map (·.block) = A0.map (·.block) ∨ A1.map (·.block) = some w.heap.size) → wpList P ops Q rest (a.put o.dst (.slice A1 n1 c1)) w1) :
    wpList P ops Q (o :: rest) a w := by
  obtain ⟨A1, c1, w1, hr, hown, hg, hat⟩ := run_append_ap (P := P) t o.type e ht hinfo base A0 n0 c0 xs A m c ys n1 hn1 hm HO HR hbase hl
  refine wpList_plain hgd fun K hK => ?_
  unfold Oper.wp execOp
  simp only [ho, resolve, invoke, builtin, Sem.run_bind, Sem.run_pure, Result.andThen_ok, List.map_toArray, List.map_cons, List.map_nil, hs, hx, hr]
  exact hK _ _ (h A1 c1 w1 hown hg hat)
end
theorem Ap.keep {w w1 : World} {base : Nat} {e : TypeId} {A : Option Addr} {n c : Nat} {l : List Nat} (h : Ap w base e A n c l) (hb : Below w.heap.size w w1) : Ap w1 base e A n c l := by
  rcases h with h | ⟨h, h1, h2⟩
  · exact .inl (h.keep hb)
  · exact .inr ⟨h.keep hb, h1, h2⟩
end Go.Proofs.YtcoiaggedipapaaDoor
