/-
  What the walks of a link's functions share.
-/
import Derived.Test.YtbmfcaobhgeogaaLinkDel
namespace Go.Proofs.Ytbmfcaobhgeogaa
open Go.RowKit
set_option linter.unusedVariables false
set_option linter.unusedSimpArgs false
set_option maxRecDepth 100000

theorem Items.kept {S : Nat → Prop} {w w1 : World} {A : Option Addr} {n c : Nat} {L : List ItemV} (h : Items w A n c L) (k : Kept S w w1) (hA : ∀ b, A.map (·.block) = some b → ¬ S b) (hx : ∀ s ∈ L, 0 < s.n → ∀ b, s.A.map (·.block) = some b → ¬ S b) : Items w1 A n c L :=
  ⟨h.len, h.cap, h.max, fun s hs => (h.ok s hs).far k (hx s hs), fun j s hj => by
    obtain ⟨b, off, e, h1, h2⟩ := h.cells j s hj
    have hn : ¬ S b := hA b (by rw [e]; rfl)
    exact ⟨b, off, e, k.cell h1 hn, k.cell h2 hn⟩⟩
theorem Items.grown {w w1 : World} {A : Option Addr} {n c : Nat} {L : List ItemV} (h : Items w A n c L) {row : Option Nat} (hg : w.grownBy w1 row) (hA : ∀ q, row = some q → A.map (·.block) ≠ some q) (hx : ∀ s ∈ L, 0 < s.n → ∀ q, row = some q → s.A.map (·.block) ≠ some q) : Items w1 A n c L :=
  h.kept (S := fun b => row = some b) (Kept.of_grown hg fun k _ e => e) (fun b hb e => hA b e hb) (fun s hs hn b hb e => hx s hs hn b e hb)
theorem Items.one {w : World} (e : TypeId) (s : ItemV) (hb : Bs w s.A s.n s.c s.b) : Items (w.alloc (.cells #[.slice s.A s.n s.c, .bool s.t] e)) (some ⟨w.heap.size, 0, none⟩) 1 1 [s] := by
  refine ⟨rfl, Nat.le_refl _, by omega, fun x hx => ?_, fun j x hj => ?_⟩
  · obtain rfl : x = s := by simpa using hx
    exact hb.keep (b_alloc (Below.refl _ _) _)
  · match j, hj with
    | 0, hj =>
      obtain rfl : s = x := by simpa using hj
      exact ⟨w.heap.size, 0, rfl, cell_new w _ e 0 _ rfl, cell_new w _ e 1 _ rfl⟩
    | j + 1, hj => simp at hj

/-- A link laid into a variable. -/
theorem store3 {w : World} {p : Nat} {x y z a b c : Value} {t : TypeId} (h : Blk w p #[x, y, z] t) : Blk (((w.setCell ⟨p, 0, none⟩ a).setCell ⟨p, 1, none⟩ b).setCell ⟨p, 2, none⟩ c) p #[a, b, c] t := ((h.set 0 a).set 1 b).set 2 c
theorem far3 {w : World} {p q : Nat} {cs : Array Value} {a b c : Value} {t : TypeId} (h : Blk w q cs t) (hpq : q ≠ p) : Blk (((w.setCell ⟨p, 0, none⟩ a).setCell ⟨p, 1, none⟩ b).setCell ⟨p, 2, none⟩ c) q cs t := ((h.far (p := ⟨p, 0, none⟩) hpq a).far (p := ⟨p, 1, none⟩) hpq b).far (p := ⟨p, 2, none⟩) hpq c
theorem below3 {w W : World} {p : Nat} {a b c : Value} (h : Below w.heap.size w W) (hp : w.heap.size ≤ p) : Below w.heap.size w (((W.setCell ⟨p, 0, none⟩ a).setCell ⟨p, 1, none⟩ b).setCell ⟨p, 2, none⟩ c) := b_set (b_set (b_set h hp _) hp _) hp _
theorem kept3 {W : World} {p : Nat} {a b c : Value} : Kept (fun i => i = p) W (((W.setCell ⟨p, 0, none⟩ a).setCell ⟨p, 1, none⟩ b).setCell ⟨p, 2, none⟩ c) := (((Kept.refl (fun i => i = p) W).set (p := ⟨p, 0, none⟩) (fun _ => rfl) a).set (p := ⟨p, 1, none⟩) (fun _ => rfl) b).set (p := ⟨p, 2, none⟩) (fun _ => rfl) c
theorem kept1 {W : World} {p j : Nat} {a : Value} : Kept (fun i => i = p) W (W.setCell ⟨p, j, none⟩ a) := (Kept.refl (fun i => i = p) W).set (p := ⟨p, j, none⟩) (fun _ => rfl) a
/-- The result is laid: a link that can be read. -/
theorem link_result {W : World} {p base : Nat} {A0 : Option Addr} {n0 c0 : Nat} {L0 : List ItemV} {A1 : Option Addr} {n1 c1 : Nat} {L1 : List ItemV} (d : Bool) {t : TypeId} (hB : Blk W p #[.slice none 0 0, .slice none 0 0, .bool false] t) (h0 : Items W A0 n0 c0 L0) (h1 : Items W A1 n1 c1 L1)
    (ha0 : ∀ q, A0.map (·.block) = some q → p < q) (ha1 : ∀ q, A1.map (·.block) = some q → p < q) (S0 S1 : List (List Nat × Bool)) (e0 : says L0 = S0) (e1 : says L1 = S1) (hx0 : Bytes base L0) (hx1 : Bytes base L1) (hbase : base ≤ p := by omega) :
    LinkB (((W.setCell ⟨p, 0, none⟩ (.slice A0 n0 c0)).setCell ⟨p, 1, none⟩ (.slice A1 n1 c1)).setCell ⟨p, 2, none⟩ (.bool d)) base (.agg #[.slice A0 n0 c0, .slice A1 n1 c1, .bool d]) ⟨S0, S1, d⟩ :=
  ⟨A0, n0, c0, L0, A1, n1, c1, L1, rfl, h0.kept kept3 (fun b hb e => by have := ha0 b hb; omega) (fun s hs hn b hb e => (h0.ok s hs).apart hB (link_no8 _ _ _ _ _ _ _) hn (by rw [hb, e])),
    h1.kept kept3 (fun b hb e => by have := ha1 b hb; omega) (fun s hs hn b hb e => (h1.ok s hs).apart hB (link_no8 _ _ _ _ _ _ _) hn (by rw [hb, e])), e0, e1, fun q hq => by have := ha0 q hq; omega, fun q hq => by have := ha1 q hq; omega, hx0, hx1⟩
theorem OwnK.bytes0 {w : World} {base : Nat} {A0 : Option Addr} {n0 c0 : Nat} {L0 : List ItemV} {A1 : Option Addr} {n1 c1 : Nat} {L1 : List ItemV} (h : OwnK w base A0 n0 c0 L0 A1 n1 c1 L1) {b : Nat} (hb : b ≤ base + 1) : Bytes b L0 := by
  obtain ⟨lo0, hi0, lo1, hi1, f0, f1, h01, hl, hh⟩ := h.f
  intro s hs hn q hq
  obtain ⟨k, hk⟩ := List.getElem?_of_mem hs
  have hkn : k < n0 := by rw [← h.r0.len]; exact (List.getElem?_eq_some_iff.1 hk).1
  have := ((f0.own k s hkn hk).ge q hq).1
  omega
theorem OwnK.bytes1 {w : World} {base : Nat} {A0 : Option Addr} {n0 c0 : Nat} {L0 : List ItemV} {A1 : Option Addr} {n1 c1 : Nat} {L1 : List ItemV} (h : OwnK w base A0 n0 c0 L0 A1 n1 c1 L1) {b : Nat} (hb : b ≤ base + 1) : Bytes b L1 := by
  obtain ⟨lo0, hi0, lo1, hi1, f0, f1, h01, hl, hh⟩ := h.f
  intro s hs hn q hq
  obtain ⟨k, hk⟩ := List.getElem?_of_mem hs
  have hkn : k < n1 := by rw [← h.r1.len]; exact (List.getElem?_eq_some_iff.1 hk).1
  have := ((f1.own k s hkn hk).ge q hq).1
  omega
theorem OwnK.keep {w w1 : World} {base : Nat} {A0 : Option Addr} {n0 c0 : Nat} {L0 : List ItemV} {A1 : Option Addr} {n1 c1 : Nat} {L1 : List ItemV} (h : OwnK w base A0 n0 c0 L0 A1 n1 c1 L1) (hb : Below w.heap.size w w1) : OwnK w1 base A0 n0 c0 L0 A1 n1 c1 L1 := by
  obtain ⟨lo0, hi0, lo1, hi1, f0, f1, r⟩ := h.f
  exact ⟨h.r0.keep hb, h.r1.keep hb, h.ne, h.x0, h.x1, ⟨lo0, hi0, lo1, hi1, f0.keep hb, f1.keep hb, r⟩, h.b0, h.b1⟩
/-- The own link is laid into a variable. -/
theorem OwnK.laid {W : World} {p base : Nat} {A0 : Option Addr} {n0 c0 : Nat} {L0 : List ItemV} {A1 : Option Addr} {n1 c1 : Nat} {L1 : List ItemV} {B0 : Option Addr} {m0 d0 : Nat} {B1 : Option Addr} {m1 d1 : Nat} {d : Bool} {t : TypeId} (h : OwnK W base A0 n0 c0 L0 A1 n1 c1 L1) (hB : Blk W p #[.slice B0 m0 d0, .slice B1 m1 d1, .bool d] t) (hp : p ≤ base + 1) (u0 u1 : Option Addr) (x0 x1 y0 y1 : Nat) (u2 : Bool) :
    OwnK (((W.setCell ⟨p, 0, none⟩ (.slice u0 x0 y0)).setCell ⟨p, 1, none⟩ (.slice u1 x1 y1)).setCell ⟨p, 2, none⟩ (.bool u2)) base A0 n0 c0 L0 A1 n1 c1 L1 :=
  (((h.set hB (link_no8 _ _ _ _ _ _ _) hp 0 _).set (cs := #[.slice u0 x0 y0, .slice B1 m1 d1, .bool d]) (hB.set 0 _) (link_no8 _ _ _ _ _ _ _) hp 1 _).set (cs := #[.slice u0 x0 y0, .slice u1 x1 y1, .bool d]) ((hB.set 0 _).set 1 _) (link_no8 _ _ _ _ _ _ _) hp 2 _)
section
variable {P : Program} {ops : Array Oper} {rest : List Oper} {o : Oper} {a : Act} {Q : Exit → Act → World → Prop} {w : World}
/-- Items are laid behind one's own: one step of a region that draws its order. -/
theorem step_appendI {K : Act → World → Prop} {E : Prop} (hgd : o.guard = none) (s' x' : Operand) (t e : TypeId)
    (ho : o.op = .call { callee := .builtin .append, args := #[s', x'], argTypes := #[t, t] })
    (ht : P.underlying t = some (.slice e)) (hinfo : (P.info? e).map (fun i => (i.zero, i.size, i.bytes)) = some (some (.agg #[.slice none 0 0, .bool false]), 2, 32))
    (base : Nat) (A0 : Option Addr) (n0 c0 : Nat) (L : List ItemV) (A : Option Addr) (m c : Nat) (M : List ItemV) (n1 : Nat) (hn1 : n1 = n0 + m)
    (hes : a.eval s' = .slice A0 n0 c0) (hex : a.eval x' = .slice A m c)
    (HO : OwnI w base e A0 n0 c0 L) (HI : Items w A m c M) (hfar : ∀ s ∈ M, 0 < s.n → ∀ k, A0.map (·.block) = some k → s.A.map (·.block) ≠ some k)
    (hbase : base ≤ w.heap.size) (hl : n0 + m ≤ 4398046511104)
    (h : ∀ A1 c1 w1, OwnI w1 base e A1 n1 c1 (L ++ M) → w.grownBy w1 (A0.map (·.block)) → (A1.map (·.block) = A0.map (·.block) ∨ A1.map (·.block) = some w.heap.size) → K (a.put o.dst (.slice A1 n1 c1)) w1) :
    if Region.wanted o (yielded ops a.tmps) = true then Oper.wp P o a w K Q else E := by
  have hw : Region.wanted o (yielded ops a.tmps) = true := by simp [Region.wanted, hgd]
  rw [if_pos hw]
  obtain ⟨A1, c1, w1, hr, hown, hg, hat⟩ := run_appendI (P := P) t o.type e ht hinfo base A0 n0 c0 L A m c M n1 hn1 HO HI hfar hbase hl
  unfold Oper.wp execOp
  simp only [ho, resolve, invoke, builtin, Sem.run_bind, Sem.run_pure, Result.andThen_ok, List.map_toArray, List.map_cons, List.map_nil, hes, hex, hr]
  exact h A1 c1 w1 hown hg hat
end
end Go.Proofs.Ytbmfcaobhgeogaa
