/-
  link.Turn, by its contract.
-/
import Derived.Test.YtbmfcaobhgeogaaLinkTwice
namespace Go.Proofs.Ytbmfcaobhgeogaa
open Go.RowKit
set_option linter.unusedVariables false
set_option linter.unusedSimpArgs false
set_option maxRecDepth 100000

/-- What is at a place. -/
def placeOf (k : Lk) (side at_ : Int) : List Nat × Bool := ((if side = 0 then k.s0 else k.s1)[at_.toNat]?).getD ([], false)
/-- A bit is turned. -/
def turned (x : List Nat × Bool) (m : Nat) : List Nat × Bool := (x.1.set (m / 8) (x.1.getD (m / 8) 0 ^^^ (128 / 2 ^ (m % 8))), true)
/-- What Turn tells. -/
def turnR (k : Lk) (side at_ bit : Int) : Lk × Int :=
  if atE k side at_ ≠ 0 then (Lk.zero, atE k side at_)
  else if bit < 0 ∨ 8 * ((placeOf k side at_).1.length : Int) ≤ bit then (Lk.zero, 1)
  else if (placeOf k side at_).2 = true then (Lk.zero, 9)
  else if side = 0 then (⟨k.s0.set at_.toNat (turned (placeOf k side at_) bit.toNat), k.s1, k.d⟩, 0)
  else (⟨k.s0, k.s1.set at_.toNat (turned (placeOf k side at_) bit.toNat), k.d⟩, 0)

/-- A byte of an item is another one. -/
theorem OwnI.byte_set {w : World} {base : Nat} {e : TypeId} {g n c : Nat} {L : List ItemV} (h : OwnI w base e (some ⟨g, 0, none⟩) n c L) (i : Nat) (s s1 : ItemV) (hs : L[i]? = some s) (hA : s1.A = s.A) (hn : s1.n = s.n) (hc : s1.c = s.c) (ht : s1.t = s.t) {p : Addr} (hpg : g ≠ p.block) (u : Value) (hok : Bs (w.setCell p u) s1.A s1.n s1.c s1.b)
    (hoth : ∀ (k : Nat) (x : ItemV), k ≠ i → L[k]? = some x → 0 < x.n → x.A.map (·.block) ≠ some p.block) : OwnI (w.setCell p u) base e (some ⟨g, 0, none⟩) n c (L.set i s1) := by
  have hk : Kept (fun i => i = p.block) w (w.setCell p u) := (Kept.refl (fun i => i = p.block) w).set (fun _ => rfl) _
  have hcells : itemCells (L.set i s1) = itemCells L := by
    have h1 := itemCells_set L i s s1 hs ht
    rw [← h1, hA, hn, hc]
    have h2 := (itemCells_get L i s hs).1
    obtain ⟨h3, h4⟩ := List.getElem?_eq_some_iff.1 h2
    rw [← h4, List.set_getElem_self]
  refine ⟨?_, fun x hx => ?_, fun x hx h0 q hq => ?_, h.max⟩
  · rw [hcells]
    refine ⟨h.own.1, ?_⟩
    rcases h.own.2 with h2 | ⟨g', cap, cur, he, hbg, hg, h3⟩
    · exact .inl h2
    · refine .inr ⟨g', cap, cur, he, hbg, ?_, h3⟩
      have : g' ≠ p.block := by
        simp only [Value.slice.injEq, Option.some.injEq, Addr.mk.injEq, and_true, true_and] at he
        rw [← he.1]; exact hpg
      exact (Below.heap_setCell w p u g' this).trans hg
  · obtain ⟨k, hk'⟩ := List.getElem?_of_mem hx
    rw [List.getElem?_set] at hk'
    by_cases e : i = k
    · rw [if_pos e] at hk'
      have := (List.getElem?_eq_some_iff.1 hs).1
      rw [if_pos (by omega)] at hk'
      obtain rfl := Option.some.inj hk'
      exact hok
    · rw [if_neg e] at hk'
      exact (h.ok x (List.mem_of_getElem? hk')).far hk (fun hn b hb e2 => hoth k x (fun e3 => e e3.symm) hk' hn (by rw [hb, e2]))
  · obtain ⟨k, hk'⟩ := List.getElem?_of_mem hx
    rw [List.getElem?_set] at hk'
    by_cases e : i = k
    · rw [if_pos e] at hk'
      have := (List.getElem?_eq_some_iff.1 hs).1
      rw [if_pos (by omega)] at hk'
      obtain rfl := Option.some.inj hk'
      rw [hA]
      exact h.far s (List.mem_of_getElem? hs) (by omega) q hq
    · rw [if_neg e] at hk'
      exact h.far x (List.mem_of_getElem? hk') h0 q hq
theorem itemCells_set1 : ∀ (L : List ItemV) (k : Nat) (s s' : ItemV), L[k]? = some s → s'.A = s.A → s'.n = s.n → s'.c = s.c → (itemCells L).set (k * 2 + 1) (.bool s'.t) = itemCells (L.set k s')
  | [], k, s, s', h, _, _, _ => by simp at h
  | t :: L, 0, s, s', h, hA, hn, hc => by
    simp at h
    subst h
    simp [itemCells_cons, hA, hn, hc]
  | t :: L, k + 1, s, s', h, hA, hn, hc => by
    have := itemCells_set1 L k s s' (by simpa using h) hA hn hc
    rw [List.set_cons_succ, itemCells_cons, itemCells_cons, ← this, show (k + 1) * 2 + 1 = k * 2 + 1 + 1 + 1 by omega, List.set_cons_succ, List.set_cons_succ]
/-- An item's mark is another one. -/
theorem OwnI.set1 {w : World} {base : Nat} {e : TypeId} {g n c : Nat} {L : List ItemV} (h : OwnI w base e (some ⟨g, 0, none⟩) n c L) (k : Nat) (s s' : ItemV) (hs : L[k]? = some s) (hA : s'.A = s.A) (hn : s'.n = s.n) (hc : s'.c = s.c) (hb : s'.b = s.b) :
    OwnI (w.setCell ⟨g, k * 2 + 1, none⟩ (.bool s'.t)) base e (some ⟨g, 0, none⟩) n c (L.set k s') := by
  have hk : Kept (fun i => i = g) w (w.setCell ⟨g, k * 2 + 1, none⟩ (.bool s'.t)) := (Kept.refl (fun i => i = g) w).set (fun _ => rfl) _
  have hsm := List.mem_of_getElem? hs
  have hok : ∀ x ∈ L, Bs (w.setCell ⟨g, k * 2 + 1, none⟩ (.bool s'.t)) x.A x.n x.c x.b := fun x hx => (h.ok x hx).far hk (fun hn b hb e => h.far x hx hn g rfl (by rw [hb, e]))
  refine ⟨?_, fun x hx => ?_, fun x hx h0 q hq => ?_, h.max⟩
  · have := (h.own.stored (k * 2 + 1) (.bool s'.t)).1
    rwa [itemCells_set1 L k s s' hs hA hn hc] at this
  · rcases List.mem_or_eq_of_mem_set hx with hx | rfl
    · exact hok x hx
    · rw [hA, hn, hc, hb]; exact hok s hsm
  · rcases List.mem_or_eq_of_mem_set hx with hx | rfl
    · exact h.far x hx h0 q hq
    · rw [hA]; exact h.far s hsm (by omega) q hq

theorem pow_turn (r : Nat) (h : r < 8) : (2 : Int) ^ (7 - r) % 256 = ((128 / 2 ^ r : Nat) : Int) :=
  (by decide : ∀ r : Fin 8, (2 : Int) ^ (7 - r.1) % 256 = ((128 / 2 ^ r.1 : Nat) : Int)) ⟨r, h⟩
set_option maxHeartbeats 16000000 in
theorem turn_any (A0 : Option Addr) (n0 c0 : Nat) (L0 : List ItemV) (A1 : Option Addr) (n1 c1 : Nat) (L1 : List ItemV) (d : Bool) (k : Lk) (hk : k = ⟨says L0, says L1, d⟩) (side at_ bit : Int) (w : World) (hbit : bit < 9223372036854775808) (h0 : Items w A0 n0 c0 L0) (h1 : Items w A1 n1 c1 L1) :
    Calls Try.prog 18 #[(.agg #[.slice A0 n0 c0, .slice A1 n1 c1, .bool d]), .int .i64 side, .int .i64 at_, .int .i64 bit] w (LinkP w (turnR k side at_ bit)) := by
  have hl0 : k.s0.length = n0 := by rw [hk]; exact (says_len L0).trans h0.len
  have hl1 : k.s1.length = n1 := by rw [hk]; exact (says_len L1).trans h1.len
  have hkd : k.d = d := by rw [hk]
  have hmx0 := h0.max
  have hmx1 := h1.max
  have hat := fun W => at_any A0 n0 c0 A1 n1 c1 k side at_ W hl0 hl1
  rw [hkd] at hat
  rcases atE_cases k side at_ with hE | hE | ⟨hE, hx⟩
  · rw [show turnR k side at_ bit = (Lk.zero, 1) by rw [turnR, hE]; rfl]
    rw [hE, errOf_1] at hat
    clear hl0 hl1 hkd
    have htv := Lib.hid (two_vars w A0 n0 c0 A1 n1 c1 d)
    go_enter Try.func18, Try.ntmps18
    go_upto_region 1 with (fail)
    obtain ⟨hB0, hB1, hbel⟩ := htv.out _ rfl
    have hWs := hB1.lt
    generalize hW : (w.alloc (Obj.cells #[.slice A0 n0 c0, .slice A1 n1 c1, .bool d] 49)).alloc (Obj.cells #[.slice none 0 0, .slice none 0 0, .bool false] 49) = W at hB0 hB1 hbel hWs ⊢
    clear hW htv
    have k0 := hB0.cell 0 rfl
    have kf0 := hB0.free 0
    have k1 := hB0.cell 1 rfl
    have kf1 := hB0.free 1
    have k2 := hB0.cell 2 rfl
    have kf2 := hB0.free 2
    go_wp2_with (go_at_call 22; refine (hat _).mono ?_; rintro e xa ⟨rfl, hba⟩; have hB0a := hB0.keep hba; have k0 := hB0a.cell 0 rfl; have k1 := hB0a.cell 1 rfl; have k2 := hB0a.cell 2 rfl; have hB1a := hB1.keep hba; have z0 := hB1a.cell 0 rfl; have z1 := hB1a.cell 1 rfl; have z2 := hB1a.cell 2 rfl; have zf0 := hB1a.free 0; have zf1 := hB1a.free 1; have zf2 := hB1a.free 2)
    exact bodyPost_ret (v := .tuple #[.agg #[.slice none 0 0, .slice none 0 0, .bool false], .iface 64 (.int .i64 1)]) (by simp [results, Try.results18, z0, z1, z2, zf0, zf1, zf2, go_sem]) rfl ⟨_, rfl, LinkB.zero _ _, below3 (b_then hbel hba) (Nat.le_succ _)⟩
  · rw [show turnR k side at_ bit = (Lk.zero, 8) by rw [turnR, hE]; rfl]
    rw [hE, errOf_8] at hat
    clear hl0 hl1 hkd
    have htv := Lib.hid (two_vars w A0 n0 c0 A1 n1 c1 d)
    go_enter Try.func18, Try.ntmps18
    go_upto_region 1 with (fail)
    obtain ⟨hB0, hB1, hbel⟩ := htv.out _ rfl
    have hWs := hB1.lt
    generalize hW : (w.alloc (Obj.cells #[.slice A0 n0 c0, .slice A1 n1 c1, .bool d] 49)).alloc (Obj.cells #[.slice none 0 0, .slice none 0 0, .bool false] 49) = W at hB0 hB1 hbel hWs ⊢
    clear hW htv
    have k0 := hB0.cell 0 rfl
    have kf0 := hB0.free 0
    have k1 := hB0.cell 1 rfl
    have kf1 := hB0.free 1
    have k2 := hB0.cell 2 rfl
    have kf2 := hB0.free 2
    go_wp2_with (go_at_call 22; refine (hat _).mono ?_; rintro e xa ⟨rfl, hba⟩; have hB0a := hB0.keep hba; have k0 := hB0a.cell 0 rfl; have k1 := hB0a.cell 1 rfl; have k2 := hB0a.cell 2 rfl; have hB1a := hB1.keep hba; have z0 := hB1a.cell 0 rfl; have z1 := hB1a.cell 1 rfl; have z2 := hB1a.cell 2 rfl; have zf0 := hB1a.free 0; have zf1 := hB1a.free 1; have zf2 := hB1a.free 2)
    exact bodyPost_ret (v := .tuple #[.agg #[.slice none 0 0, .slice none 0 0, .bool false], .iface 64 (.int .i64 8)]) (by simp [results, Try.results18, z0, z1, z2, zf0, zf1, zf2, go_sem]) rfl ⟨_, rfl, LinkB.zero _ _, below3 (b_then hbel hba) (Nat.le_succ _)⟩
  · rw [hE, errOf_0] at hat
    rcases hx with ⟨rfl, i, rfl, hi⟩ | ⟨rfl, i, rfl, hi⟩
    · obtain ⟨⟨sb, st⟩, hsay⟩ : ∃ x, k.s0[i]? = some x := ⟨_, List.getElem?_eq_getElem hi⟩
      have hpl : placeOf k 0 (i : Int) = (sb, st) := by simp [placeOf, hsay]
      rw [hl0] at hi
      by_cases hneg : bit < 0
      · rw [show turnR k 0 (i : Int) bit = (Lk.zero, 1) by rw [turnR, hE, hpl]; simp [hneg]]
        subst hk
        clear hl0 hl1 hkd hE hpl
        have htv := Lib.hid (two_vars w A0 n0 c0 A1 n1 c1 d)
        go_enter Try.func18, Try.ntmps18
        go_upto_region 1 with (fail)
        obtain ⟨hB0, hB1, hbel⟩ := htv.out _ rfl
        have hWs := hB1.lt
        generalize hW : (w.alloc (Obj.cells #[.slice A0 n0 c0, .slice A1 n1 c1, .bool d] 49)).alloc (Obj.cells #[.slice none 0 0, .slice none 0 0, .bool false] 49) = W at hB0 hB1 hbel hWs ⊢
        clear hW htv
        have k0 := hB0.cell 0 rfl
        have kf0 := hB0.free 0
        have k1 := hB0.cell 1 rfl
        have kf1 := hB0.free 1
        have k2 := hB0.cell 2 rfl
        have kf2 := hB0.free 2
        have h0W := h0.keep hbel
        have h1W := h1.keep hbel
        go_upto_region 5 with (first | (go_at_call 22; refine (hat _).mono ?_; rintro e xa ⟨rfl, hba⟩; have hB0a := hB0.keep hba; have hB1a := hB1.keep hba; have h0a := h0W.keep hba; have h1a := h1W.keep hba; have k0 := hB0a.cell 0 rfl; have k1 := hB0a.cell 1 rfl; have k2 := hB0a.cell 2 rfl) | (go_at_call 23; refine (own_link A0 n0 c0 L0 A1 n1 c1 L1 d _ h0a h1a).mono ?_; rintro e x1 ⟨B0, d0, M0, B1, d1, M1, rfl, hK, e0, e1, hbx⟩; have hB0x := hB0a.keep hbx; have kf0 := hB0x.free 0; have kf1 := hB0x.free 1; have kf2 := hB0x.free 2; have k0 := hB0x.cell 0 rfl; have k1 := hB0x.cell 1 rfl; have k2 := hB0x.cell 2 rfl))
        have hB0y := store3 (a := .slice B0 n0 d0) (b := .slice B1 n1 d1) (c := .bool d) hB0x
        have hB1y := far3 (p := w.heap.size) (a := .slice B0 n0 d0) (b := .slice B1 n1 d1) (c := .bool d) (hB1a.keep hbx) (by omega)
        have hxa := hba.size
        have hKy := hK.laid hB0x (by omega) B0 B1 n0 n1 d0 d1 d
        have hby := below3 (p := w.heap.size) (a := .slice B0 n0 d0) (b := .slice B1 n1 d1) (c := .bool d) (b_then (b_then hbel hba) hbx) (Nat.le_refl _)
        have hsz : xa.heap.size ≤ (((x1.setCell ⟨w.heap.size, 0, none⟩ (.slice B0 n0 d0)).setCell ⟨w.heap.size, 1, none⟩ (.slice B1 n1 d1)).setCell ⟨w.heap.size, 2, none⟩ (.bool d)).heap.size := by simpa using hbx.size
        generalize hY : ((x1.setCell ⟨w.heap.size, 0, none⟩ (.slice B0 n0 d0)).setCell ⟨w.heap.size, 1, none⟩ (.slice B1 n1 d1)).setCell ⟨w.heap.size, 2, none⟩ (.bool d) = Y at hB0y hB1y hKy hby hsz ⊢
        clear hY hB0 hB1 hB0x hB0a hB1a hbx kf0 kf1 kf2 k0 k1 k2 hK x1 h0W h1W h0a h1a
        have hzz := hB1y.lt
        have hra0 : ∀ q, B0.map (·.block) = some q → w.heap.size + 1 < q ∧ q < Y.heap.size := fun q hq => ⟨by have := hKy.b0 q hq; omega, (hKy.r0.ge q hq).2⟩
        have hra1 : ∀ q, B1.map (·.block) = some q → w.heap.size + 1 < q ∧ q < Y.heap.size := fun q hq => ⟨by have := hKy.b1 q hq; omega, (hKy.r1.ge q hq).2⟩
        obtain ⟨s, g, off, hs, hBe, hc0, hc1, hsb⟩ := hKy.r0.items.at_ i hi
        obtain ⟨g', he, hgB, hgs, hgf⟩ := hKy.r0.form (by omega)
        rw [hBe] at he
        simp only [Option.some.injEq, Addr.mk.injEq, and_true] at he
        obtain ⟨rfl, rfl⟩ := he
        subst hBe
        simp only [Nat.zero_add] at hc0 hc1
        have hsx : s.b = sb ∧ s.t = st := by
          have h2 : (says M0)[i]? = some (s.b, s.t) := by simp [says, List.getElem?_map, hs, ItemV.say]
          rw [e0, hsay] at h2
          exact ⟨(congrArg Prod.fst (Option.some.inj h2)).symm, (congrArg Prod.snd (Option.some.inj h2)).symm⟩
        have hsn := hsb.len
        rw [hsx.1] at hsn
        rw [hsx.2] at hc1
        have kx := hB0y.cell 0 rfl
        have i0 : (0 : Int) ≤ (i : Int) := by omega
        have i1 : (i : Int) < (n0 : Int) := by omega
        have hq1 : bit < 0 := hneg
        have z0 := hB1y.cell 0 rfl
        have zf0 := hB1y.free 0
        have z1 := hB1y.cell 1 rfl
        have zf1 := hB1y.free 1
        have z2 := hB1y.cell 2 rfl
        have zf2 := hB1y.free 2
        clear hra0 hra1
        go_wp2_with fail
        exact bodyPost_ret (v := .tuple #[.agg #[.slice none 0 0, .slice none 0 0, .bool false], .iface 64 (.int .i64 1)]) (by simp [results, Try.results18, z0, z1, z2, zf0, zf1, zf2, go_sem]) rfl ⟨_, rfl, LinkB.zero _ _, below3 hby (Nat.le_succ _)⟩
      · obtain ⟨m, rfl⟩ : ∃ m : Nat, bit = m := ⟨bit.toNat, by omega⟩
        clear hneg
        by_cases hbig : 8 * sb.length ≤ m
        · rw [show turnR k 0 (i : Int) (m : Int) = (Lk.zero, 1) by rw [turnR, hE, hpl]; simp; intro h; omega]
          subst hk
          clear hl0 hl1 hkd hE hpl
          have htv := Lib.hid (two_vars w A0 n0 c0 A1 n1 c1 d)
          go_enter Try.func18, Try.ntmps18
          go_upto_region 1 with (fail)
          obtain ⟨hB0, hB1, hbel⟩ := htv.out _ rfl
          have hWs := hB1.lt
          generalize hW : (w.alloc (Obj.cells #[.slice A0 n0 c0, .slice A1 n1 c1, .bool d] 49)).alloc (Obj.cells #[.slice none 0 0, .slice none 0 0, .bool false] 49) = W at hB0 hB1 hbel hWs ⊢
          clear hW htv
          have k0 := hB0.cell 0 rfl
          have kf0 := hB0.free 0
          have k1 := hB0.cell 1 rfl
          have kf1 := hB0.free 1
          have k2 := hB0.cell 2 rfl
          have kf2 := hB0.free 2
          have h0W := h0.keep hbel
          have h1W := h1.keep hbel
          go_upto_region 5 with (first | (go_at_call 22; refine (hat _).mono ?_; rintro e xa ⟨rfl, hba⟩; have hB0a := hB0.keep hba; have hB1a := hB1.keep hba; have h0a := h0W.keep hba; have h1a := h1W.keep hba; have k0 := hB0a.cell 0 rfl; have k1 := hB0a.cell 1 rfl; have k2 := hB0a.cell 2 rfl) | (go_at_call 23; refine (own_link A0 n0 c0 L0 A1 n1 c1 L1 d _ h0a h1a).mono ?_; rintro e x1 ⟨B0, d0, M0, B1, d1, M1, rfl, hK, e0, e1, hbx⟩; have hB0x := hB0a.keep hbx; have kf0 := hB0x.free 0; have kf1 := hB0x.free 1; have kf2 := hB0x.free 2; have k0 := hB0x.cell 0 rfl; have k1 := hB0x.cell 1 rfl; have k2 := hB0x.cell 2 rfl))
          have hB0y := store3 (a := .slice B0 n0 d0) (b := .slice B1 n1 d1) (c := .bool d) hB0x
          have hB1y := far3 (p := w.heap.size) (a := .slice B0 n0 d0) (b := .slice B1 n1 d1) (c := .bool d) (hB1a.keep hbx) (by omega)
          have hxa := hba.size
          have hKy := hK.laid hB0x (by omega) B0 B1 n0 n1 d0 d1 d
          have hby := below3 (p := w.heap.size) (a := .slice B0 n0 d0) (b := .slice B1 n1 d1) (c := .bool d) (b_then (b_then hbel hba) hbx) (Nat.le_refl _)
          have hsz : xa.heap.size ≤ (((x1.setCell ⟨w.heap.size, 0, none⟩ (.slice B0 n0 d0)).setCell ⟨w.heap.size, 1, none⟩ (.slice B1 n1 d1)).setCell ⟨w.heap.size, 2, none⟩ (.bool d)).heap.size := by simpa using hbx.size
          generalize hY : ((x1.setCell ⟨w.heap.size, 0, none⟩ (.slice B0 n0 d0)).setCell ⟨w.heap.size, 1, none⟩ (.slice B1 n1 d1)).setCell ⟨w.heap.size, 2, none⟩ (.bool d) = Y at hB0y hB1y hKy hby hsz ⊢
          clear hY hB0 hB1 hB0x hB0a hB1a hbx kf0 kf1 kf2 k0 k1 k2 hK x1 h0W h1W h0a h1a
          have hzz := hB1y.lt
          have hra0 : ∀ q, B0.map (·.block) = some q → w.heap.size + 1 < q ∧ q < Y.heap.size := fun q hq => ⟨by have := hKy.b0 q hq; omega, (hKy.r0.ge q hq).2⟩
          have hra1 : ∀ q, B1.map (·.block) = some q → w.heap.size + 1 < q ∧ q < Y.heap.size := fun q hq => ⟨by have := hKy.b1 q hq; omega, (hKy.r1.ge q hq).2⟩
          obtain ⟨s, g, off, hs, hBe, hc0, hc1, hsb⟩ := hKy.r0.items.at_ i hi
          obtain ⟨g', he, hgB, hgs, hgf⟩ := hKy.r0.form (by omega)
          rw [hBe] at he
          simp only [Option.some.injEq, Addr.mk.injEq, and_true] at he
          obtain ⟨rfl, rfl⟩ := he
          subst hBe
          simp only [Nat.zero_add] at hc0 hc1
          have hsx : s.b = sb ∧ s.t = st := by
            have h2 : (says M0)[i]? = some (s.b, s.t) := by simp [says, List.getElem?_map, hs, ItemV.say]
            rw [e0, hsay] at h2
            exact ⟨(congrArg Prod.fst (Option.some.inj h2)).symm, (congrArg Prod.snd (Option.some.inj h2)).symm⟩
          have hsn := hsb.len
          rw [hsx.1] at hsn
          rw [hsx.2] at hc1
          have kx := hB0y.cell 0 rfl
          have i0 : (0 : Int) ≤ (i : Int) := by omega
          have i1 : (i : Int) < (n0 : Int) := by omega
          have hq1 : ¬ ((m : Nat) : Int) < 0 := by omega
          obtain ⟨q, hqd⟩ : ∃ q, m / 8 = q := ⟨_, rfl⟩
          have hqd' := Lib.hid hqd
          have hq2 : ((m : Nat) : Int).tdiv 8 = (q : Int) := by rw [Int.tdiv_eq_ediv_of_nonneg (by omega)]; omega
          have hq2h := Lib.hid (show wrap64 (q : Int) = (q : Int) from IntWalk.wrap64_in _ (by omega))
          have hq3 : (s.n : Int) ≤ (q : Int) := by omega
          clear hqd
          have hq2w := hq2h.out
          have z0 := hB1y.cell 0 rfl
          have zf0 := hB1y.free 0
          have z1 := hB1y.cell 1 rfl
          have zf1 := hB1y.free 1
          have z2 := hB1y.cell 2 rfl
          have zf2 := hB1y.free 2
          clear hra0 hra1
          go_wp2_with fail
          exact bodyPost_ret (v := .tuple #[.agg #[.slice none 0 0, .slice none 0 0, .bool false], .iface 64 (.int .i64 1)]) (by simp [results, Try.results18, z0, z1, z2, zf0, zf1, zf2, go_sem]) rfl ⟨_, rfl, LinkB.zero _ _, below3 hby (Nat.le_succ _)⟩
        · cases st with
          | true =>
            rw [show turnR k 0 (i : Int) (m : Int) = (Lk.zero, 9) by rw [turnR, hE, hpl]; simp; omega]
            subst hk
            clear hl0 hl1 hkd hE hpl
            have htv := Lib.hid (two_vars w A0 n0 c0 A1 n1 c1 d)
            go_enter Try.func18, Try.ntmps18
            go_upto_region 1 with (fail)
            obtain ⟨hB0, hB1, hbel⟩ := htv.out _ rfl
            have hWs := hB1.lt
            generalize hW : (w.alloc (Obj.cells #[.slice A0 n0 c0, .slice A1 n1 c1, .bool d] 49)).alloc (Obj.cells #[.slice none 0 0, .slice none 0 0, .bool false] 49) = W at hB0 hB1 hbel hWs ⊢
            clear hW htv
            have k0 := hB0.cell 0 rfl
            have kf0 := hB0.free 0
            have k1 := hB0.cell 1 rfl
            have kf1 := hB0.free 1
            have k2 := hB0.cell 2 rfl
            have kf2 := hB0.free 2
            have h0W := h0.keep hbel
            have h1W := h1.keep hbel
            go_upto_region 5 with (first | (go_at_call 22; refine (hat _).mono ?_; rintro e xa ⟨rfl, hba⟩; have hB0a := hB0.keep hba; have hB1a := hB1.keep hba; have h0a := h0W.keep hba; have h1a := h1W.keep hba; have k0 := hB0a.cell 0 rfl; have k1 := hB0a.cell 1 rfl; have k2 := hB0a.cell 2 rfl) | (go_at_call 23; refine (own_link A0 n0 c0 L0 A1 n1 c1 L1 d _ h0a h1a).mono ?_; rintro e x1 ⟨B0, d0, M0, B1, d1, M1, rfl, hK, e0, e1, hbx⟩; have hB0x := hB0a.keep hbx; have kf0 := hB0x.free 0; have kf1 := hB0x.free 1; have kf2 := hB0x.free 2; have k0 := hB0x.cell 0 rfl; have k1 := hB0x.cell 1 rfl; have k2 := hB0x.cell 2 rfl))
            have hB0y := store3 (a := .slice B0 n0 d0) (b := .slice B1 n1 d1) (c := .bool d) hB0x
            have hB1y := far3 (p := w.heap.size) (a := .slice B0 n0 d0) (b := .slice B1 n1 d1) (c := .bool d) (hB1a.keep hbx) (by omega)
            have hxa := hba.size
            have hKy := hK.laid hB0x (by omega) B0 B1 n0 n1 d0 d1 d
            have hby := below3 (p := w.heap.size) (a := .slice B0 n0 d0) (b := .slice B1 n1 d1) (c := .bool d) (b_then (b_then hbel hba) hbx) (Nat.le_refl _)
            have hsz : xa.heap.size ≤ (((x1.setCell ⟨w.heap.size, 0, none⟩ (.slice B0 n0 d0)).setCell ⟨w.heap.size, 1, none⟩ (.slice B1 n1 d1)).setCell ⟨w.heap.size, 2, none⟩ (.bool d)).heap.size := by simpa using hbx.size
            generalize hY : ((x1.setCell ⟨w.heap.size, 0, none⟩ (.slice B0 n0 d0)).setCell ⟨w.heap.size, 1, none⟩ (.slice B1 n1 d1)).setCell ⟨w.heap.size, 2, none⟩ (.bool d) = Y at hB0y hB1y hKy hby hsz ⊢
            clear hY hB0 hB1 hB0x hB0a hB1a hbx kf0 kf1 kf2 k0 k1 k2 hK x1 h0W h1W h0a h1a
            have hzz := hB1y.lt
            have hra0 : ∀ q, B0.map (·.block) = some q → w.heap.size + 1 < q ∧ q < Y.heap.size := fun q hq => ⟨by have := hKy.b0 q hq; omega, (hKy.r0.ge q hq).2⟩
            have hra1 : ∀ q, B1.map (·.block) = some q → w.heap.size + 1 < q ∧ q < Y.heap.size := fun q hq => ⟨by have := hKy.b1 q hq; omega, (hKy.r1.ge q hq).2⟩
            obtain ⟨s, g, off, hs, hBe, hc0, hc1, hsb⟩ := hKy.r0.items.at_ i hi
            obtain ⟨g', he, hgB, hgs, hgf⟩ := hKy.r0.form (by omega)
            rw [hBe] at he
            simp only [Option.some.injEq, Addr.mk.injEq, and_true] at he
            obtain ⟨rfl, rfl⟩ := he
            subst hBe
            simp only [Nat.zero_add] at hc0 hc1
            have hsx : s.b = sb ∧ s.t = true := by
              have h2 : (says M0)[i]? = some (s.b, s.t) := by simp [says, List.getElem?_map, hs, ItemV.say]
              rw [e0, hsay] at h2
              exact ⟨(congrArg Prod.fst (Option.some.inj h2)).symm, (congrArg Prod.snd (Option.some.inj h2)).symm⟩
            have hsn := hsb.len
            rw [hsx.1] at hsn
            rw [hsx.2] at hc1
            have kx := hB0y.cell 0 rfl
            have i0 : (0 : Int) ≤ (i : Int) := by omega
            have i1 : (i : Int) < (n0 : Int) := by omega
            have hq1 : ¬ ((m : Nat) : Int) < 0 := by omega
            obtain ⟨q, hqd⟩ : ∃ q, m / 8 = q := ⟨_, rfl⟩
            have hqd' := Lib.hid hqd
            have hq2 : ((m : Nat) : Int).tdiv 8 = (q : Int) := by rw [Int.tdiv_eq_ediv_of_nonneg (by omega)]; omega
            have hq2h := Lib.hid (show wrap64 (q : Int) = (q : Int) from IntWalk.wrap64_in _ (by omega))
            have hq3 : ¬ (s.n : Int) ≤ (q : Int) := by omega
            clear hqd
            have hq2w := hq2h.out
            have z0 := hB1y.cell 0 rfl
            have zf0 := hB1y.free 0
            have z1 := hB1y.cell 1 rfl
            have zf1 := hB1y.free 1
            have z2 := hB1y.cell 2 rfl
            have zf2 := hB1y.free 2
            clear hra0 hra1
            go_wp2_with fail
            exact bodyPost_ret (v := .tuple #[.agg #[.slice none 0 0, .slice none 0 0, .bool false], .iface 64 (.int .i64 9)]) (by simp [results, Try.results18, z0, z1, z2, zf0, zf1, zf2, go_sem]) rfl ⟨_, rfl, LinkB.zero _ _, below3 hby (Nat.le_succ _)⟩
          | false =>
            rw [show turnR k 0 (i : Int) (m : Int) = (⟨k.s0.set i (turned (sb, false) m), k.s1, k.d⟩, 0) by rw [turnR, hE, hpl]; simp; omega]
            subst hk
            clear hl0 hl1 hkd hE hpl
            have htv := Lib.hid (two_vars w A0 n0 c0 A1 n1 c1 d)
            go_enter Try.func18, Try.ntmps18
            go_upto_region 1 with (fail)
            obtain ⟨hB0, hB1, hbel⟩ := htv.out _ rfl
            have hWs := hB1.lt
            generalize hW : (w.alloc (Obj.cells #[.slice A0 n0 c0, .slice A1 n1 c1, .bool d] 49)).alloc (Obj.cells #[.slice none 0 0, .slice none 0 0, .bool false] 49) = W at hB0 hB1 hbel hWs ⊢
            clear hW htv
            have k0 := hB0.cell 0 rfl
            have kf0 := hB0.free 0
            have k1 := hB0.cell 1 rfl
            have kf1 := hB0.free 1
            have k2 := hB0.cell 2 rfl
            have kf2 := hB0.free 2
            have h0W := h0.keep hbel
            have h1W := h1.keep hbel
            go_upto_region 5 with (first | (go_at_call 22; refine (hat _).mono ?_; rintro e xa ⟨rfl, hba⟩; have hB0a := hB0.keep hba; have hB1a := hB1.keep hba; have h0a := h0W.keep hba; have h1a := h1W.keep hba; have k0 := hB0a.cell 0 rfl; have k1 := hB0a.cell 1 rfl; have k2 := hB0a.cell 2 rfl) | (go_at_call 23; refine (own_link A0 n0 c0 L0 A1 n1 c1 L1 d _ h0a h1a).mono ?_; rintro e x1 ⟨B0, d0, M0, B1, d1, M1, rfl, hK, e0, e1, hbx⟩; have hB0x := hB0a.keep hbx; have kf0 := hB0x.free 0; have kf1 := hB0x.free 1; have kf2 := hB0x.free 2; have k0 := hB0x.cell 0 rfl; have k1 := hB0x.cell 1 rfl; have k2 := hB0x.cell 2 rfl))
            have hB0y := store3 (a := .slice B0 n0 d0) (b := .slice B1 n1 d1) (c := .bool d) hB0x
            have hB1y := far3 (p := w.heap.size) (a := .slice B0 n0 d0) (b := .slice B1 n1 d1) (c := .bool d) (hB1a.keep hbx) (by omega)
            have hxa := hba.size
            have hKy := hK.laid hB0x (by omega) B0 B1 n0 n1 d0 d1 d
            have hby := below3 (p := w.heap.size) (a := .slice B0 n0 d0) (b := .slice B1 n1 d1) (c := .bool d) (b_then (b_then hbel hba) hbx) (Nat.le_refl _)
            have hsz : xa.heap.size ≤ (((x1.setCell ⟨w.heap.size, 0, none⟩ (.slice B0 n0 d0)).setCell ⟨w.heap.size, 1, none⟩ (.slice B1 n1 d1)).setCell ⟨w.heap.size, 2, none⟩ (.bool d)).heap.size := by simpa using hbx.size
            generalize hY : ((x1.setCell ⟨w.heap.size, 0, none⟩ (.slice B0 n0 d0)).setCell ⟨w.heap.size, 1, none⟩ (.slice B1 n1 d1)).setCell ⟨w.heap.size, 2, none⟩ (.bool d) = Y at hB0y hB1y hKy hby hsz ⊢
            clear hY hB0 hB1 hB0x hB0a hB1a hbx kf0 kf1 kf2 k0 k1 k2 hK x1 h0W h1W h0a h1a
            have hzz := hB1y.lt
            have hra0 : ∀ q, B0.map (·.block) = some q → w.heap.size + 1 < q ∧ q < Y.heap.size := fun q hq => ⟨by have := hKy.b0 q hq; omega, (hKy.r0.ge q hq).2⟩
            have hra1 : ∀ q, B1.map (·.block) = some q → w.heap.size + 1 < q ∧ q < Y.heap.size := fun q hq => ⟨by have := hKy.b1 q hq; omega, (hKy.r1.ge q hq).2⟩
            obtain ⟨s, g, off, hs, hBe, hc0, hc1, hsb⟩ := hKy.r0.items.at_ i hi
            obtain ⟨g', he, hgB, hgs, hgf⟩ := hKy.r0.form (by omega)
            rw [hBe] at he
            simp only [Option.some.injEq, Addr.mk.injEq, and_true] at he
            obtain ⟨rfl, rfl⟩ := he
            subst hBe
            simp only [Nat.zero_add] at hc0 hc1
            have hsx : s.b = sb ∧ s.t = false := by
              have h2 : (says M0)[i]? = some (s.b, s.t) := by simp [says, List.getElem?_map, hs, ItemV.say]
              rw [e0, hsay] at h2
              exact ⟨(congrArg Prod.fst (Option.some.inj h2)).symm, (congrArg Prod.snd (Option.some.inj h2)).symm⟩
            have hsn := hsb.len
            rw [hsx.1] at hsn
            rw [hsx.2] at hc1
            have kx := hB0y.cell 0 rfl
            have i0 : (0 : Int) ≤ (i : Int) := by omega
            have i1 : (i : Int) < (n0 : Int) := by omega
            obtain ⟨lo0, hi0, lo1, hi1, f0, f1, h01, hlow0, hlohi0⟩ := hKy.f
            have hOs := f0.own i s hi hs
            obtain ⟨b, hsA, hbge, hbs, hbf⟩ := hOs.form (by omega)
            have hFs := f0
            have hbg : b ≠ g := fun e => hKy.r0.far s (List.mem_of_getElem? hs) (by omega) g rfl (by rw [hsA, e]; rfl)
            have hblo : w.heap.size + 1 < b := by omega
            have hboth : ∀ (k : Nat) (x : ItemV), k ≠ i → M0[k]? = some x → 0 < x.n → x.A.map (·.block) ≠ some b := by
              intro k x hk hx hn e
              have hkn : k < n0 := by rw [← hKy.r0.len]; exact (List.getElem?_eq_some_iff.1 hx).1
              rcases Nat.lt_or_gt_of_ne hk with h | h
              · exact f0.sep k i x s h hi hx hs b e (by rw [hsA]; rfl)
              · exact f0.sep i k s x h hkn hs hx b (by rw [hsA]; rfl) e
            have hbB : ∀ q, B1.map (·.block) = some q → q ≠ b := (fun q hq => by have h1 := f0.hi i s hi hs b (by rw [hsA]; rfl); have h2 := hKy.x0 s (List.mem_of_getElem? hs) (by omega) q hq; exact fun e => h2 (by rw [hsA, e]; rfl))
            have hoth : ∀ x ∈ M1, 0 < x.n → x.A.map (·.block) ≠ some b := by
              intro x hx hn e
              obtain ⟨k, hk⟩ := List.getElem?_of_mem hx
              have hkn : k < n1 := by rw [← hKy.r1.len]; exact (List.getElem?_eq_some_iff.1 hk).1
              have h1 := ((f1.own k x hkn hk).ge b e).1
              have h2 := f1.hi k x hkn hk b e
              have h3 := f0.hi i s hi hs b (by rw [hsA]; rfl)
              omega
            have hq1 : ¬ ((m : Nat) : Int) < 0 := by omega
            obtain ⟨q, hqd⟩ : ∃ q, m / 8 = q := ⟨_, rfl⟩
            have hqd' := Lib.hid hqd
            have hq2 : ((m : Nat) : Int).tdiv 8 = (q : Int) := by rw [Int.tdiv_eq_ediv_of_nonneg (by omega)]; omega
            have hq2h := Lib.hid (show wrap64 (q : Int) = (q : Int) from IntWalk.wrap64_in _ (by omega))
            have hq3 : ¬ (s.n : Int) ≤ (q : Int) := by omega
            have hq4 : (0 : Int) ≤ (q : Int) := by omega
            have hq5 : (q : Int) < (s.n : Int) := by omega
            have hqm : q < s.n := by omega
            rw [hsA] at hc0
            obtain ⟨hcq, hfq, _, _⟩ := (show Own Y _ _ (some ⟨b, 0, none⟩) s.n s.c s.b by rw [← hsA]; exact hOs).cell q hqm
            rw [hsx.1] at hcq
            have hv : sb.getD q 0 < 256 := by rw [← hsx.1]; exact getD_small hOs.small _
            have hr8 : m % 8 < 8 := by omega
            obtain ⟨v, hvd⟩ : ∃ v, sb.getD q 0 = v := ⟨_, rfl⟩
            obtain ⟨r, hrd⟩ : ∃ r, m % 8 = r := ⟨_, rfl⟩
            have hvd' := Lib.hid hvd
            have hrd' := Lib.hid hrd
            have hq6 : ((m : Nat) : Int).tmod 8 = (r : Int) := by rw [Int.tmod_eq_emod_of_nonneg (by omega)]; omega
            rw [hvd] at hcq hv
            rw [hrd] at hr8
            clear hvd hrd hqd
            have hq7 : IntKind.i64.wrap ((7 : Int) - (r : Int)) = (7 : Int) - (r : Int) := IntWalk.i64_in _ (by omega)
            have hq8 : ¬ (7 : Int) - (r : Int) < 0 := by omega
            have hcqd : Y.drew.cell? ⟨b, q, none⟩ = some (.int .u8 (v : Int)) := hcq
            have hc0d : Y.drew.cell? ⟨g, i * 2, none⟩ = some (.slice (some ⟨b, 0, none⟩) s.n s.c) := hc0
            have hfqd : Y.drew.frozen? ⟨b, q, none⟩ = false := hfq
            have hq2w := hq2h.out
            go_upto_region 10 with (fail)
            go_region
            clear hq2w
            have hfg := hgf (i * 2 + 1)
            go_upto_region 12 with (fail)
            have hxv : bits .xor .u8 (v : Int) (2 ^ (7 - r) % 256) = ((v ^^^ 128 / 2 ^ r : Nat) : Int) := by
              rw [pow_turn r hr8]
              exact u8_xor_nat v (128 / 2 ^ r) hv (Nat.lt_of_le_of_lt (Nat.div_le_self _ _) (by decide))
            rw [hxv]
            have hx8 : v ^^^ 128 / 2 ^ r < 256 := Nat.xor_lt_two_pow (n := 8) hv (Nat.lt_of_le_of_lt (Nat.div_le_self _ _) (by decide))
            have hI1 := hKy.r0.byte_set i s ⟨s.A, s.n, s.c, s.b.set q (v ^^^ 128 / 2 ^ r), s.t⟩ hs rfl rfl rfl rfl (p := ⟨b, q, none⟩) (fun e => hbg e.symm) (.int .u8 ((v ^^^ 128 / 2 ^ r : Nat) : Int)) (by
              have h5 := ((show Own Y _ _ (some ⟨b, 0, none⟩) s.n s.c s.b by rw [← hsA]; exact hOs).set q _ hx8).bs
              rw [← hsA] at h5
              exact h5) hboth
            have hI2 := hI1.set1 i ⟨s.A, s.n, s.c, s.b.set q (v ^^^ 128 / 2 ^ r), s.t⟩ ⟨s.A, s.n, s.c, s.b.set q (v ^^^ 128 / 2 ^ r), true⟩ (by rw [List.getElem?_set_self]; rw [hKy.r0.len]; exact hi) rfl rfl rfl rfl
            have hJ1 := hKy.r1.items.kept (S := fun i => i = b) (kept1 (W := Y) (p := b) (j := q) (a := .int .u8 ((v ^^^ 128 / 2 ^ r : Nat) : Int))) (fun q' hq' e => hbB q' hq' e) (fun x hx hn q' hq' e => hoth x hx hn (by rw [hq', e]))
            have hJ2 := hJ1.kept (S := fun i => i = g) (kept1 (W := Y.setCell ⟨b, q, none⟩ (.int .u8 ((v ^^^ 128 / 2 ^ r : Nat) : Int))) (p := g) (j := i * 2 + 1) (a := .bool true)) (fun q' hq' e => (hKy.ne g rfl (by rw [hq', e]))) (fun x hx hn q' hq' e => hKy.x1 x hx hn g rfl (by rw [hq', e]))
            have hB02 := (hB0y.far (p := ⟨b, q, none⟩) (by show w.heap.size ≠ b; omega) (.int .u8 ((v ^^^ 128 / 2 ^ r : Nat) : Int))).far (p := ⟨g, i * 2 + 1, none⟩) (by show w.heap.size ≠ g; have := (hra0 g rfl).1; omega) (.bool true)
            have hB12 := (hB1y.far (p := ⟨b, q, none⟩) (by show w.heap.size + 1 ≠ b; omega) (.int .u8 ((v ^^^ 128 / 2 ^ r : Nat) : Int))).far (p := ⟨g, i * 2 + 1, none⟩) (by show w.heap.size + 1 ≠ g; have := (hra0 g rfl).1; omega) (.bool true)
            have hb2 : Below w.heap.size w ((Y.setCell ⟨b, q, none⟩ (.int .u8 ((v ^^^ 128 / 2 ^ r : Nat) : Int))).setCell ⟨g, i * 2 + 1, none⟩ (.bool true)) := b_set (p := ⟨g, i * 2 + 1, none⟩) (b_set (p := ⟨b, q, none⟩) hby (by show w.heap.size ≤ b; omega) _) (by show w.heap.size ≤ g; have := (hra0 g rfl).1; omega) _
            have hsay5 : says ((M0.set i ⟨s.A, s.n, s.c, s.b.set q (v ^^^ 128 / 2 ^ r), s.t⟩).set i ⟨s.A, s.n, s.c, s.b.set q (v ^^^ 128 / 2 ^ r), true⟩) = (says L0).set i (turned (sb, false) m) := by
              rw [List.set_set, ← e0]
              simp only [says, List.map_set, ItemV.say, turned, hsx.1, hqd'.out, hrd'.out, hvd'.out]
            have hxx5 : Bytes w.heap.size ((M0.set i ⟨s.A, s.n, s.c, s.b.set q (v ^^^ 128 / 2 ^ r), s.t⟩).set i ⟨s.A, s.n, s.c, s.b.set q (v ^^^ 128 / 2 ^ r), true⟩) := fun x hx hn q' hq' => by
              rw [List.set_set] at hx
              rcases List.mem_or_eq_of_mem_set hx with hx | rfl
              · exact hKy.bytes0 (by omega) x hx hn q' hq'
              · exact hKy.bytes0 (by omega) s (List.mem_of_getElem? hs) hn q' hq'
            have hIz := hI2.items
            have hzg := (hra0 g rfl).1
            generalize ((Y.setCell ⟨b, q, none⟩ (.int .u8 ((v ^^^ 128 / 2 ^ r : Nat) : Int))).setCell ⟨g, i * 2 + 1, none⟩ (.bool true)) = Z0 at hIz hJ2 hB02 hB12 hb2 ⊢
            replace hIz := hIz.keep (b_drew (Below.refl _ _))
            replace hJ2 := hJ2.keep (b_drew (Below.refl _ _))
            replace hB02 := hB02.drew
            replace hB12 := hB12.drew
            replace hb2 := b_drew hb2
            generalize Z0.drew = Z at hIz hJ2 hB02 hB12 hb2 ⊢
            clear hI1 hI2 hJ1
            have k0 := hB02.cell 0 rfl
            have kf0 := hB02.free 0
            have k1 := hB02.cell 1 rfl
            have kf1 := hB02.free 1
            have k2 := hB02.cell 2 rfl
            have kf2 := hB02.free 2
            have z0 := hB12.cell 0 rfl
            have zf0 := hB12.free 0
            have z1 := hB12.cell 1 rfl
            have zf1 := hB12.free 1
            have z2 := hB12.cell 2 rfl
            have zf2 := hB12.free 2
            clear hra0 hra1 hcq hcqd hc0 hc0d hc1 hfq hfqd hfg hxv
            go_wp2
            exact bodyPost_ret (v := .tuple #[.agg #[.slice (some ⟨g, 0, none⟩) n0 d0, .slice B1 n1 d1, .bool d], .nilIface]) (by simp [results, Try.results18, z0, z1, z2, zf0, zf1, zf2, go_sem]) rfl ⟨_, rfl, link_result d hB12 hIz hJ2 (fun q hq => by have : g = q := Option.some.inj hq; omega) (fun q hq => by have := hKy.b1 q hq; omega) _ _ hsay5 e1 hxx5 (hKy.bytes1 (by omega)), below3 hb2 (Nat.le_succ _)⟩
    · obtain ⟨⟨sb, st⟩, hsay⟩ : ∃ x, k.s1[i]? = some x := ⟨_, List.getElem?_eq_getElem hi⟩
      have hpl : placeOf k 1 (i : Int) = (sb, st) := by simp [placeOf, hsay]
      rw [hl1] at hi
      by_cases hneg : bit < 0
      · rw [show turnR k 1 (i : Int) bit = (Lk.zero, 1) by rw [turnR, hE, hpl]; simp [hneg]]
        subst hk
        clear hl0 hl1 hkd hE hpl
        have htv := Lib.hid (two_vars w A0 n0 c0 A1 n1 c1 d)
        go_enter Try.func18, Try.ntmps18
        go_upto_region 1 with (fail)
        obtain ⟨hB0, hB1, hbel⟩ := htv.out _ rfl
        have hWs := hB1.lt
        generalize hW : (w.alloc (Obj.cells #[.slice A0 n0 c0, .slice A1 n1 c1, .bool d] 49)).alloc (Obj.cells #[.slice none 0 0, .slice none 0 0, .bool false] 49) = W at hB0 hB1 hbel hWs ⊢
        clear hW htv
        have k0 := hB0.cell 0 rfl
        have kf0 := hB0.free 0
        have k1 := hB0.cell 1 rfl
        have kf1 := hB0.free 1
        have k2 := hB0.cell 2 rfl
        have kf2 := hB0.free 2
        have h0W := h0.keep hbel
        have h1W := h1.keep hbel
        go_upto_region 5 with (first | (go_at_call 22; refine (hat _).mono ?_; rintro e xa ⟨rfl, hba⟩; have hB0a := hB0.keep hba; have hB1a := hB1.keep hba; have h0a := h0W.keep hba; have h1a := h1W.keep hba; have k0 := hB0a.cell 0 rfl; have k1 := hB0a.cell 1 rfl; have k2 := hB0a.cell 2 rfl) | (go_at_call 23; refine (own_link A0 n0 c0 L0 A1 n1 c1 L1 d _ h0a h1a).mono ?_; rintro e x1 ⟨B0, d0, M0, B1, d1, M1, rfl, hK, e0, e1, hbx⟩; have hB0x := hB0a.keep hbx; have kf0 := hB0x.free 0; have kf1 := hB0x.free 1; have kf2 := hB0x.free 2; have k0 := hB0x.cell 0 rfl; have k1 := hB0x.cell 1 rfl; have k2 := hB0x.cell 2 rfl))
        have hB0y := store3 (a := .slice B0 n0 d0) (b := .slice B1 n1 d1) (c := .bool d) hB0x
        have hB1y := far3 (p := w.heap.size) (a := .slice B0 n0 d0) (b := .slice B1 n1 d1) (c := .bool d) (hB1a.keep hbx) (by omega)
        have hxa := hba.size
        have hKy := hK.laid hB0x (by omega) B0 B1 n0 n1 d0 d1 d
        have hby := below3 (p := w.heap.size) (a := .slice B0 n0 d0) (b := .slice B1 n1 d1) (c := .bool d) (b_then (b_then hbel hba) hbx) (Nat.le_refl _)
        have hsz : xa.heap.size ≤ (((x1.setCell ⟨w.heap.size, 0, none⟩ (.slice B0 n0 d0)).setCell ⟨w.heap.size, 1, none⟩ (.slice B1 n1 d1)).setCell ⟨w.heap.size, 2, none⟩ (.bool d)).heap.size := by simpa using hbx.size
        generalize hY : ((x1.setCell ⟨w.heap.size, 0, none⟩ (.slice B0 n0 d0)).setCell ⟨w.heap.size, 1, none⟩ (.slice B1 n1 d1)).setCell ⟨w.heap.size, 2, none⟩ (.bool d) = Y at hB0y hB1y hKy hby hsz ⊢
        clear hY hB0 hB1 hB0x hB0a hB1a hbx kf0 kf1 kf2 k0 k1 k2 hK x1 h0W h1W h0a h1a
        have hzz := hB1y.lt
        have hra0 : ∀ q, B0.map (·.block) = some q → w.heap.size + 1 < q ∧ q < Y.heap.size := fun q hq => ⟨by have := hKy.b0 q hq; omega, (hKy.r0.ge q hq).2⟩
        have hra1 : ∀ q, B1.map (·.block) = some q → w.heap.size + 1 < q ∧ q < Y.heap.size := fun q hq => ⟨by have := hKy.b1 q hq; omega, (hKy.r1.ge q hq).2⟩
        obtain ⟨s, g, off, hs, hBe, hc0, hc1, hsb⟩ := hKy.r1.items.at_ i hi
        obtain ⟨g', he, hgB, hgs, hgf⟩ := hKy.r1.form (by omega)
        rw [hBe] at he
        simp only [Option.some.injEq, Addr.mk.injEq, and_true] at he
        obtain ⟨rfl, rfl⟩ := he
        subst hBe
        simp only [Nat.zero_add] at hc0 hc1
        have hsx : s.b = sb ∧ s.t = st := by
          have h2 : (says M1)[i]? = some (s.b, s.t) := by simp [says, List.getElem?_map, hs, ItemV.say]
          rw [e1, hsay] at h2
          exact ⟨(congrArg Prod.fst (Option.some.inj h2)).symm, (congrArg Prod.snd (Option.some.inj h2)).symm⟩
        have hsn := hsb.len
        rw [hsx.1] at hsn
        rw [hsx.2] at hc1
        have kx := hB0y.cell 1 rfl
        have i0 : (0 : Int) ≤ (i : Int) := by omega
        have i1 : (i : Int) < (n1 : Int) := by omega
        have hq1 : bit < 0 := hneg
        have z0 := hB1y.cell 0 rfl
        have zf0 := hB1y.free 0
        have z1 := hB1y.cell 1 rfl
        have zf1 := hB1y.free 1
        have z2 := hB1y.cell 2 rfl
        have zf2 := hB1y.free 2
        clear hra0 hra1
        go_wp2_with fail
        exact bodyPost_ret (v := .tuple #[.agg #[.slice none 0 0, .slice none 0 0, .bool false], .iface 64 (.int .i64 1)]) (by simp [results, Try.results18, z0, z1, z2, zf0, zf1, zf2, go_sem]) rfl ⟨_, rfl, LinkB.zero _ _, below3 hby (Nat.le_succ _)⟩
      · obtain ⟨m, rfl⟩ : ∃ m : Nat, bit = m := ⟨bit.toNat, by omega⟩
        clear hneg
        by_cases hbig : 8 * sb.length ≤ m
        · rw [show turnR k 1 (i : Int) (m : Int) = (Lk.zero, 1) by rw [turnR, hE, hpl]; simp; intro h; omega]
          subst hk
          clear hl0 hl1 hkd hE hpl
          have htv := Lib.hid (two_vars w A0 n0 c0 A1 n1 c1 d)
          go_enter Try.func18, Try.ntmps18
          go_upto_region 1 with (fail)
          obtain ⟨hB0, hB1, hbel⟩ := htv.out _ rfl
          have hWs := hB1.lt
          generalize hW : (w.alloc (Obj.cells #[.slice A0 n0 c0, .slice A1 n1 c1, .bool d] 49)).alloc (Obj.cells #[.slice none 0 0, .slice none 0 0, .bool false] 49) = W at hB0 hB1 hbel hWs ⊢
          clear hW htv
          have k0 := hB0.cell 0 rfl
          have kf0 := hB0.free 0
          have k1 := hB0.cell 1 rfl
          have kf1 := hB0.free 1
          have k2 := hB0.cell 2 rfl
          have kf2 := hB0.free 2
          have h0W := h0.keep hbel
          have h1W := h1.keep hbel
          go_upto_region 5 with (first | (go_at_call 22; refine (hat _).mono ?_; rintro e xa ⟨rfl, hba⟩; have hB0a := hB0.keep hba; have hB1a := hB1.keep hba; have h0a := h0W.keep hba; have h1a := h1W.keep hba; have k0 := hB0a.cell 0 rfl; have k1 := hB0a.cell 1 rfl; have k2 := hB0a.cell 2 rfl) | (go_at_call 23; refine (own_link A0 n0 c0 L0 A1 n1 c1 L1 d _ h0a h1a).mono ?_; rintro e x1 ⟨B0, d0, M0, B1, d1, M1, rfl, hK, e0, e1, hbx⟩; have hB0x := hB0a.keep hbx; have kf0 := hB0x.free 0; have kf1 := hB0x.free 1; have kf2 := hB0x.free 2; have k0 := hB0x.cell 0 rfl; have k1 := hB0x.cell 1 rfl; have k2 := hB0x.cell 2 rfl))
          have hB0y := store3 (a := .slice B0 n0 d0) (b := .slice B1 n1 d1) (c := .bool d) hB0x
          have hB1y := far3 (p := w.heap.size) (a := .slice B0 n0 d0) (b := .slice B1 n1 d1) (c := .bool d) (hB1a.keep hbx) (by omega)
          have hxa := hba.size
          have hKy := hK.laid hB0x (by omega) B0 B1 n0 n1 d0 d1 d
          have hby := below3 (p := w.heap.size) (a := .slice B0 n0 d0) (b := .slice B1 n1 d1) (c := .bool d) (b_then (b_then hbel hba) hbx) (Nat.le_refl _)
          have hsz : xa.heap.size ≤ (((x1.setCell ⟨w.heap.size, 0, none⟩ (.slice B0 n0 d0)).setCell ⟨w.heap.size, 1, none⟩ (.slice B1 n1 d1)).setCell ⟨w.heap.size, 2, none⟩ (.bool d)).heap.size := by simpa using hbx.size
          generalize hY : ((x1.setCell ⟨w.heap.size, 0, none⟩ (.slice B0 n0 d0)).setCell ⟨w.heap.size, 1, none⟩ (.slice B1 n1 d1)).setCell ⟨w.heap.size, 2, none⟩ (.bool d) = Y at hB0y hB1y hKy hby hsz ⊢
          clear hY hB0 hB1 hB0x hB0a hB1a hbx kf0 kf1 kf2 k0 k1 k2 hK x1 h0W h1W h0a h1a
          have hzz := hB1y.lt
          have hra0 : ∀ q, B0.map (·.block) = some q → w.heap.size + 1 < q ∧ q < Y.heap.size := fun q hq => ⟨by have := hKy.b0 q hq; omega, (hKy.r0.ge q hq).2⟩
          have hra1 : ∀ q, B1.map (·.block) = some q → w.heap.size + 1 < q ∧ q < Y.heap.size := fun q hq => ⟨by have := hKy.b1 q hq; omega, (hKy.r1.ge q hq).2⟩
          obtain ⟨s, g, off, hs, hBe, hc0, hc1, hsb⟩ := hKy.r1.items.at_ i hi
          obtain ⟨g', he, hgB, hgs, hgf⟩ := hKy.r1.form (by omega)
          rw [hBe] at he
          simp only [Option.some.injEq, Addr.mk.injEq, and_true] at he
          obtain ⟨rfl, rfl⟩ := he
          subst hBe
          simp only [Nat.zero_add] at hc0 hc1
          have hsx : s.b = sb ∧ s.t = st := by
            have h2 : (says M1)[i]? = some (s.b, s.t) := by simp [says, List.getElem?_map, hs, ItemV.say]
            rw [e1, hsay] at h2
            exact ⟨(congrArg Prod.fst (Option.some.inj h2)).symm, (congrArg Prod.snd (Option.some.inj h2)).symm⟩
          have hsn := hsb.len
          rw [hsx.1] at hsn
          rw [hsx.2] at hc1
          have kx := hB0y.cell 1 rfl
          have i0 : (0 : Int) ≤ (i : Int) := by omega
          have i1 : (i : Int) < (n1 : Int) := by omega
          have hq1 : ¬ ((m : Nat) : Int) < 0 := by omega
          obtain ⟨q, hqd⟩ : ∃ q, m / 8 = q := ⟨_, rfl⟩
          have hqd' := Lib.hid hqd
          have hq2 : ((m : Nat) : Int).tdiv 8 = (q : Int) := by rw [Int.tdiv_eq_ediv_of_nonneg (by omega)]; omega
          have hq2h := Lib.hid (show wrap64 (q : Int) = (q : Int) from IntWalk.wrap64_in _ (by omega))
          have hq3 : (s.n : Int) ≤ (q : Int) := by omega
          clear hqd
          have hq2w := hq2h.out
          have z0 := hB1y.cell 0 rfl
          have zf0 := hB1y.free 0
          have z1 := hB1y.cell 1 rfl
          have zf1 := hB1y.free 1
          have z2 := hB1y.cell 2 rfl
          have zf2 := hB1y.free 2
          clear hra0 hra1
          go_wp2_with fail
          exact bodyPost_ret (v := .tuple #[.agg #[.slice none 0 0, .slice none 0 0, .bool false], .iface 64 (.int .i64 1)]) (by simp [results, Try.results18, z0, z1, z2, zf0, zf1, zf2, go_sem]) rfl ⟨_, rfl, LinkB.zero _ _, below3 hby (Nat.le_succ _)⟩
        · cases st with
          | true =>
            rw [show turnR k 1 (i : Int) (m : Int) = (Lk.zero, 9) by rw [turnR, hE, hpl]; simp; omega]
            subst hk
            clear hl0 hl1 hkd hE hpl
            have htv := Lib.hid (two_vars w A0 n0 c0 A1 n1 c1 d)
            go_enter Try.func18, Try.ntmps18
            go_upto_region 1 with (fail)
            obtain ⟨hB0, hB1, hbel⟩ := htv.out _ rfl
            have hWs := hB1.lt
            generalize hW : (w.alloc (Obj.cells #[.slice A0 n0 c0, .slice A1 n1 c1, .bool d] 49)).alloc (Obj.cells #[.slice none 0 0, .slice none 0 0, .bool false] 49) = W at hB0 hB1 hbel hWs ⊢
            clear hW htv
            have k0 := hB0.cell 0 rfl
            have kf0 := hB0.free 0
            have k1 := hB0.cell 1 rfl
            have kf1 := hB0.free 1
            have k2 := hB0.cell 2 rfl
            have kf2 := hB0.free 2
            have h0W := h0.keep hbel
            have h1W := h1.keep hbel
            go_upto_region 5 with (first | (go_at_call 22; refine (hat _).mono ?_; rintro e xa ⟨rfl, hba⟩; have hB0a := hB0.keep hba; have hB1a := hB1.keep hba; have h0a := h0W.keep hba; have h1a := h1W.keep hba; have k0 := hB0a.cell 0 rfl; have k1 := hB0a.cell 1 rfl; have k2 := hB0a.cell 2 rfl) | (go_at_call 23; refine (own_link A0 n0 c0 L0 A1 n1 c1 L1 d _ h0a h1a).mono ?_; rintro e x1 ⟨B0, d0, M0, B1, d1, M1, rfl, hK, e0, e1, hbx⟩; have hB0x := hB0a.keep hbx; have kf0 := hB0x.free 0; have kf1 := hB0x.free 1; have kf2 := hB0x.free 2; have k0 := hB0x.cell 0 rfl; have k1 := hB0x.cell 1 rfl; have k2 := hB0x.cell 2 rfl))
            have hB0y := store3 (a := .slice B0 n0 d0) (b := .slice B1 n1 d1) (c := .bool d) hB0x
            have hB1y := far3 (p := w.heap.size) (a := .slice B0 n0 d0) (b := .slice B1 n1 d1) (c := .bool d) (hB1a.keep hbx) (by omega)
            have hxa := hba.size
            have hKy := hK.laid hB0x (by omega) B0 B1 n0 n1 d0 d1 d
            have hby := below3 (p := w.heap.size) (a := .slice B0 n0 d0) (b := .slice B1 n1 d1) (c := .bool d) (b_then (b_then hbel hba) hbx) (Nat.le_refl _)
            have hsz : xa.heap.size ≤ (((x1.setCell ⟨w.heap.size, 0, none⟩ (.slice B0 n0 d0)).setCell ⟨w.heap.size, 1, none⟩ (.slice B1 n1 d1)).setCell ⟨w.heap.size, 2, none⟩ (.bool d)).heap.size := by simpa using hbx.size
            generalize hY : ((x1.setCell ⟨w.heap.size, 0, none⟩ (.slice B0 n0 d0)).setCell ⟨w.heap.size, 1, none⟩ (.slice B1 n1 d1)).setCell ⟨w.heap.size, 2, none⟩ (.bool d) = Y at hB0y hB1y hKy hby hsz ⊢
            clear hY hB0 hB1 hB0x hB0a hB1a hbx kf0 kf1 kf2 k0 k1 k2 hK x1 h0W h1W h0a h1a
            have hzz := hB1y.lt
            have hra0 : ∀ q, B0.map (·.block) = some q → w.heap.size + 1 < q ∧ q < Y.heap.size := fun q hq => ⟨by have := hKy.b0 q hq; omega, (hKy.r0.ge q hq).2⟩
            have hra1 : ∀ q, B1.map (·.block) = some q → w.heap.size + 1 < q ∧ q < Y.heap.size := fun q hq => ⟨by have := hKy.b1 q hq; omega, (hKy.r1.ge q hq).2⟩
            obtain ⟨s, g, off, hs, hBe, hc0, hc1, hsb⟩ := hKy.r1.items.at_ i hi
            obtain ⟨g', he, hgB, hgs, hgf⟩ := hKy.r1.form (by omega)
            rw [hBe] at he
            simp only [Option.some.injEq, Addr.mk.injEq, and_true] at he
            obtain ⟨rfl, rfl⟩ := he
            subst hBe
            simp only [Nat.zero_add] at hc0 hc1
            have hsx : s.b = sb ∧ s.t = true := by
              have h2 : (says M1)[i]? = some (s.b, s.t) := by simp [says, List.getElem?_map, hs, ItemV.say]
              rw [e1, hsay] at h2
              exact ⟨(congrArg Prod.fst (Option.some.inj h2)).symm, (congrArg Prod.snd (Option.some.inj h2)).symm⟩
            have hsn := hsb.len
            rw [hsx.1] at hsn
            rw [hsx.2] at hc1
            have kx := hB0y.cell 1 rfl
            have i0 : (0 : Int) ≤ (i : Int) := by omega
            have i1 : (i : Int) < (n1 : Int) := by omega
            have hq1 : ¬ ((m : Nat) : Int) < 0 := by omega
            obtain ⟨q, hqd⟩ : ∃ q, m / 8 = q := ⟨_, rfl⟩
            have hqd' := Lib.hid hqd
            have hq2 : ((m : Nat) : Int).tdiv 8 = (q : Int) := by rw [Int.tdiv_eq_ediv_of_nonneg (by omega)]; omega
            have hq2h := Lib.hid (show wrap64 (q : Int) = (q : Int) from IntWalk.wrap64_in _ (by omega))
            have hq3 : ¬ (s.n : Int) ≤ (q : Int) := by omega
            clear hqd
            have hq2w := hq2h.out
            have z0 := hB1y.cell 0 rfl
            have zf0 := hB1y.free 0
            have z1 := hB1y.cell 1 rfl
            have zf1 := hB1y.free 1
            have z2 := hB1y.cell 2 rfl
            have zf2 := hB1y.free 2
            clear hra0 hra1
            go_wp2_with fail
            exact bodyPost_ret (v := .tuple #[.agg #[.slice none 0 0, .slice none 0 0, .bool false], .iface 64 (.int .i64 9)]) (by simp [results, Try.results18, z0, z1, z2, zf0, zf1, zf2, go_sem]) rfl ⟨_, rfl, LinkB.zero _ _, below3 hby (Nat.le_succ _)⟩
          | false =>
            rw [show turnR k 1 (i : Int) (m : Int) = (⟨k.s0, k.s1.set i (turned (sb, false) m), k.d⟩, 0) by rw [turnR, hE, hpl]; simp; omega]
            subst hk
            clear hl0 hl1 hkd hE hpl
            have htv := Lib.hid (two_vars w A0 n0 c0 A1 n1 c1 d)
            go_enter Try.func18, Try.ntmps18
            go_upto_region 1 with (fail)
            obtain ⟨hB0, hB1, hbel⟩ := htv.out _ rfl
            have hWs := hB1.lt
            generalize hW : (w.alloc (Obj.cells #[.slice A0 n0 c0, .slice A1 n1 c1, .bool d] 49)).alloc (Obj.cells #[.slice none 0 0, .slice none 0 0, .bool false] 49) = W at hB0 hB1 hbel hWs ⊢
            clear hW htv
            have k0 := hB0.cell 0 rfl
            have kf0 := hB0.free 0
            have k1 := hB0.cell 1 rfl
            have kf1 := hB0.free 1
            have k2 := hB0.cell 2 rfl
            have kf2 := hB0.free 2
            have h0W := h0.keep hbel
            have h1W := h1.keep hbel
            go_upto_region 5 with (first | (go_at_call 22; refine (hat _).mono ?_; rintro e xa ⟨rfl, hba⟩; have hB0a := hB0.keep hba; have hB1a := hB1.keep hba; have h0a := h0W.keep hba; have h1a := h1W.keep hba; have k0 := hB0a.cell 0 rfl; have k1 := hB0a.cell 1 rfl; have k2 := hB0a.cell 2 rfl) | (go_at_call 23; refine (own_link A0 n0 c0 L0 A1 n1 c1 L1 d _ h0a h1a).mono ?_; rintro e x1 ⟨B0, d0, M0, B1, d1, M1, rfl, hK, e0, e1, hbx⟩; have hB0x := hB0a.keep hbx; have kf0 := hB0x.free 0; have kf1 := hB0x.free 1; have kf2 := hB0x.free 2; have k0 := hB0x.cell 0 rfl; have k1 := hB0x.cell 1 rfl; have k2 := hB0x.cell 2 rfl))
            have hB0y := store3 (a := .slice B0 n0 d0) (b := .slice B1 n1 d1) (c := .bool d) hB0x
            have hB1y := far3 (p := w.heap.size) (a := .slice B0 n0 d0) (b := .slice B1 n1 d1) (c := .bool d) (hB1a.keep hbx) (by omega)
            have hxa := hba.size
            have hKy := hK.laid hB0x (by omega) B0 B1 n0 n1 d0 d1 d
            have hby := below3 (p := w.heap.size) (a := .slice B0 n0 d0) (b := .slice B1 n1 d1) (c := .bool d) (b_then (b_then hbel hba) hbx) (Nat.le_refl _)
            have hsz : xa.heap.size ≤ (((x1.setCell ⟨w.heap.size, 0, none⟩ (.slice B0 n0 d0)).setCell ⟨w.heap.size, 1, none⟩ (.slice B1 n1 d1)).setCell ⟨w.heap.size, 2, none⟩ (.bool d)).heap.size := by simpa using hbx.size
            generalize hY : ((x1.setCell ⟨w.heap.size, 0, none⟩ (.slice B0 n0 d0)).setCell ⟨w.heap.size, 1, none⟩ (.slice B1 n1 d1)).setCell ⟨w.heap.size, 2, none⟩ (.bool d) = Y at hB0y hB1y hKy hby hsz ⊢
            clear hY hB0 hB1 hB0x hB0a hB1a hbx kf0 kf1 kf2 k0 k1 k2 hK x1 h0W h1W h0a h1a
            have hzz := hB1y.lt
            have hra0 : ∀ q, B0.map (·.block) = some q → w.heap.size + 1 < q ∧ q < Y.heap.size := fun q hq => ⟨by have := hKy.b0 q hq; omega, (hKy.r0.ge q hq).2⟩
            have hra1 : ∀ q, B1.map (·.block) = some q → w.heap.size + 1 < q ∧ q < Y.heap.size := fun q hq => ⟨by have := hKy.b1 q hq; omega, (hKy.r1.ge q hq).2⟩
            obtain ⟨s, g, off, hs, hBe, hc0, hc1, hsb⟩ := hKy.r1.items.at_ i hi
            obtain ⟨g', he, hgB, hgs, hgf⟩ := hKy.r1.form (by omega)
            rw [hBe] at he
            simp only [Option.some.injEq, Addr.mk.injEq, and_true] at he
            obtain ⟨rfl, rfl⟩ := he
            subst hBe
            simp only [Nat.zero_add] at hc0 hc1
            have hsx : s.b = sb ∧ s.t = false := by
              have h2 : (says M1)[i]? = some (s.b, s.t) := by simp [says, List.getElem?_map, hs, ItemV.say]
              rw [e1, hsay] at h2
              exact ⟨(congrArg Prod.fst (Option.some.inj h2)).symm, (congrArg Prod.snd (Option.some.inj h2)).symm⟩
            have hsn := hsb.len
            rw [hsx.1] at hsn
            rw [hsx.2] at hc1
            have kx := hB0y.cell 1 rfl
            have i0 : (0 : Int) ≤ (i : Int) := by omega
            have i1 : (i : Int) < (n1 : Int) := by omega
            obtain ⟨lo0, hi0, lo1, hi1, f0, f1, h01, hlow0, hlohi0⟩ := hKy.f
            have hOs := f1.own i s hi hs
            obtain ⟨b, hsA, hbge, hbs, hbf⟩ := hOs.form (by omega)
            have hFs := f1
            have hbg : b ≠ g := fun e => hKy.r1.far s (List.mem_of_getElem? hs) (by omega) g rfl (by rw [hsA, e]; rfl)
            have hblo : w.heap.size + 1 < b := by omega
            have hboth : ∀ (k : Nat) (x : ItemV), k ≠ i → M1[k]? = some x → 0 < x.n → x.A.map (·.block) ≠ some b := by
              intro k x hk hx hn e
              have hkn : k < n1 := by rw [← hKy.r1.len]; exact (List.getElem?_eq_some_iff.1 hx).1
              rcases Nat.lt_or_gt_of_ne hk with h | h
              · exact f1.sep k i x s h hi hx hs b e (by rw [hsA]; rfl)
              · exact f1.sep i k s x h hkn hs hx b (by rw [hsA]; rfl) e
            have hbB : ∀ q, B0.map (·.block) = some q → q ≠ b := (fun q hq => by have h1 := f1.hi i s hi hs b (by rw [hsA]; rfl); have h2 := hKy.x1 s (List.mem_of_getElem? hs) (by omega) q hq; exact fun e => h2 (by rw [hsA, e]; rfl))
            have hoth : ∀ x ∈ M0, 0 < x.n → x.A.map (·.block) ≠ some b := by
              intro x hx hn e
              obtain ⟨k, hk⟩ := List.getElem?_of_mem hx
              have hkn : k < n0 := by rw [← hKy.r0.len]; exact (List.getElem?_eq_some_iff.1 hk).1
              have h1 := ((f0.own k x hkn hk).ge b e).1
              have h2 := f0.hi k x hkn hk b e
              have h3 := f1.hi i s hi hs b (by rw [hsA]; rfl)
              omega
            have hq1 : ¬ ((m : Nat) : Int) < 0 := by omega
            obtain ⟨q, hqd⟩ : ∃ q, m / 8 = q := ⟨_, rfl⟩
            have hqd' := Lib.hid hqd
            have hq2 : ((m : Nat) : Int).tdiv 8 = (q : Int) := by rw [Int.tdiv_eq_ediv_of_nonneg (by omega)]; omega
            have hq2h := Lib.hid (show wrap64 (q : Int) = (q : Int) from IntWalk.wrap64_in _ (by omega))
            have hq3 : ¬ (s.n : Int) ≤ (q : Int) := by omega
            have hq4 : (0 : Int) ≤ (q : Int) := by omega
            have hq5 : (q : Int) < (s.n : Int) := by omega
            have hqm : q < s.n := by omega
            rw [hsA] at hc0
            obtain ⟨hcq, hfq, _, _⟩ := (show Own Y _ _ (some ⟨b, 0, none⟩) s.n s.c s.b by rw [← hsA]; exact hOs).cell q hqm
            rw [hsx.1] at hcq
            have hv : sb.getD q 0 < 256 := by rw [← hsx.1]; exact getD_small hOs.small _
            have hr8 : m % 8 < 8 := by omega
            obtain ⟨v, hvd⟩ : ∃ v, sb.getD q 0 = v := ⟨_, rfl⟩
            obtain ⟨r, hrd⟩ : ∃ r, m % 8 = r := ⟨_, rfl⟩
            have hvd' := Lib.hid hvd
            have hrd' := Lib.hid hrd
            have hq6 : ((m : Nat) : Int).tmod 8 = (r : Int) := by rw [Int.tmod_eq_emod_of_nonneg (by omega)]; omega
            rw [hvd] at hcq hv
            rw [hrd] at hr8
            clear hvd hrd hqd
            have hq7 : IntKind.i64.wrap ((7 : Int) - (r : Int)) = (7 : Int) - (r : Int) := IntWalk.i64_in _ (by omega)
            have hq8 : ¬ (7 : Int) - (r : Int) < 0 := by omega
            have hcqd : Y.drew.cell? ⟨b, q, none⟩ = some (.int .u8 (v : Int)) := hcq
            have hc0d : Y.drew.cell? ⟨g, i * 2, none⟩ = some (.slice (some ⟨b, 0, none⟩) s.n s.c) := hc0
            have hfqd : Y.drew.frozen? ⟨b, q, none⟩ = false := hfq
            have hq2w := hq2h.out
            go_upto_region 10 with (fail)
            go_region
            clear hq2w
            have hfg := hgf (i * 2 + 1)
            go_upto_region 12 with (fail)
            have hxv : bits .xor .u8 (v : Int) (2 ^ (7 - r) % 256) = ((v ^^^ 128 / 2 ^ r : Nat) : Int) := by
              rw [pow_turn r hr8]
              exact u8_xor_nat v (128 / 2 ^ r) hv (Nat.lt_of_le_of_lt (Nat.div_le_self _ _) (by decide))
            rw [hxv]
            have hx8 : v ^^^ 128 / 2 ^ r < 256 := Nat.xor_lt_two_pow (n := 8) hv (Nat.lt_of_le_of_lt (Nat.div_le_self _ _) (by decide))
            have hI1 := hKy.r1.byte_set i s ⟨s.A, s.n, s.c, s.b.set q (v ^^^ 128 / 2 ^ r), s.t⟩ hs rfl rfl rfl rfl (p := ⟨b, q, none⟩) (fun e => hbg e.symm) (.int .u8 ((v ^^^ 128 / 2 ^ r : Nat) : Int)) (by
              have h5 := ((show Own Y _ _ (some ⟨b, 0, none⟩) s.n s.c s.b by rw [← hsA]; exact hOs).set q _ hx8).bs
              rw [← hsA] at h5
              exact h5) hboth
            have hI2 := hI1.set1 i ⟨s.A, s.n, s.c, s.b.set q (v ^^^ 128 / 2 ^ r), s.t⟩ ⟨s.A, s.n, s.c, s.b.set q (v ^^^ 128 / 2 ^ r), true⟩ (by rw [List.getElem?_set_self]; rw [hKy.r1.len]; exact hi) rfl rfl rfl rfl
            have hJ1 := hKy.r0.items.kept (S := fun i => i = b) (kept1 (W := Y) (p := b) (j := q) (a := .int .u8 ((v ^^^ 128 / 2 ^ r : Nat) : Int))) (fun q' hq' e => hbB q' hq' e) (fun x hx hn q' hq' e => hoth x hx hn (by rw [hq', e]))
            have hJ2 := hJ1.kept (S := fun i => i = g) (kept1 (W := Y.setCell ⟨b, q, none⟩ (.int .u8 ((v ^^^ 128 / 2 ^ r : Nat) : Int))) (p := g) (j := i * 2 + 1) (a := .bool true)) (fun q' hq' e => (hKy.ne q' hq' (by rw [e]; rfl))) (fun x hx hn q' hq' e => hKy.x0 x hx hn g rfl (by rw [hq', e]))
            have hB02 := (hB0y.far (p := ⟨b, q, none⟩) (by show w.heap.size ≠ b; omega) (.int .u8 ((v ^^^ 128 / 2 ^ r : Nat) : Int))).far (p := ⟨g, i * 2 + 1, none⟩) (by show w.heap.size ≠ g; have := (hra1 g rfl).1; omega) (.bool true)
            have hB12 := (hB1y.far (p := ⟨b, q, none⟩) (by show w.heap.size + 1 ≠ b; omega) (.int .u8 ((v ^^^ 128 / 2 ^ r : Nat) : Int))).far (p := ⟨g, i * 2 + 1, none⟩) (by show w.heap.size + 1 ≠ g; have := (hra1 g rfl).1; omega) (.bool true)
            have hb2 : Below w.heap.size w ((Y.setCell ⟨b, q, none⟩ (.int .u8 ((v ^^^ 128 / 2 ^ r : Nat) : Int))).setCell ⟨g, i * 2 + 1, none⟩ (.bool true)) := b_set (p := ⟨g, i * 2 + 1, none⟩) (b_set (p := ⟨b, q, none⟩) hby (by show w.heap.size ≤ b; omega) _) (by show w.heap.size ≤ g; have := (hra1 g rfl).1; omega) _
            have hsay5 : says ((M1.set i ⟨s.A, s.n, s.c, s.b.set q (v ^^^ 128 / 2 ^ r), s.t⟩).set i ⟨s.A, s.n, s.c, s.b.set q (v ^^^ 128 / 2 ^ r), true⟩) = (says L1).set i (turned (sb, false) m) := by
              rw [List.set_set, ← e1]
              simp only [says, List.map_set, ItemV.say, turned, hsx.1, hqd'.out, hrd'.out, hvd'.out]
            have hxx5 : Bytes w.heap.size ((M1.set i ⟨s.A, s.n, s.c, s.b.set q (v ^^^ 128 / 2 ^ r), s.t⟩).set i ⟨s.A, s.n, s.c, s.b.set q (v ^^^ 128 / 2 ^ r), true⟩) := fun x hx hn q' hq' => by
              rw [List.set_set] at hx
              rcases List.mem_or_eq_of_mem_set hx with hx | rfl
              · exact hKy.bytes1 (by omega) x hx hn q' hq'
              · exact hKy.bytes1 (by omega) s (List.mem_of_getElem? hs) hn q' hq'
            have hIz := hI2.items
            have hzg := (hra1 g rfl).1
            generalize ((Y.setCell ⟨b, q, none⟩ (.int .u8 ((v ^^^ 128 / 2 ^ r : Nat) : Int))).setCell ⟨g, i * 2 + 1, none⟩ (.bool true)) = Z0 at hIz hJ2 hB02 hB12 hb2 ⊢
            replace hIz := hIz.keep (b_drew (Below.refl _ _))
            replace hJ2 := hJ2.keep (b_drew (Below.refl _ _))
            replace hB02 := hB02.drew
            replace hB12 := hB12.drew
            replace hb2 := b_drew hb2
            generalize Z0.drew = Z at hIz hJ2 hB02 hB12 hb2 ⊢
            clear hI1 hI2 hJ1
            have k0 := hB02.cell 0 rfl
            have kf0 := hB02.free 0
            have k1 := hB02.cell 1 rfl
            have kf1 := hB02.free 1
            have k2 := hB02.cell 2 rfl
            have kf2 := hB02.free 2
            have z0 := hB12.cell 0 rfl
            have zf0 := hB12.free 0
            have z1 := hB12.cell 1 rfl
            have zf1 := hB12.free 1
            have z2 := hB12.cell 2 rfl
            have zf2 := hB12.free 2
            clear hra0 hra1 hcq hcqd hc0 hc0d hc1 hfq hfqd hfg hxv
            go_wp2
            exact bodyPost_ret (v := .tuple #[.agg #[.slice B0 n0 d0, .slice (some ⟨g, 0, none⟩) n1 d1, .bool d], .nilIface]) (by simp [results, Try.results18, z0, z1, z2, zf0, zf1, zf2, go_sem]) rfl ⟨_, rfl, link_result d hB12 hJ2 hIz (fun q hq => by have := hKy.b0 q hq; omega) (fun q hq => by have : g = q := Option.some.inj hq; omega) _ _ e0 hsay5 (hKy.bytes0 (by omega)) hxx5, below3 hb2 (Nat.le_succ _)⟩

end Go.Proofs.Ytbmfcaobhgeogaa
