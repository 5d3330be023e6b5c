/-
  The document's Take, by its contract.
-/
import Derived.Test.YtbmfcaobhgeogaaDoorLinkRef
namespace Go.Proofs.YtbmfcaobhgeogaaDoor
open Go.RowKit
set_option linter.unusedVariables false
set_option linter.unusedSimpArgs false
set_option maxRecDepth 100000

theorem Items.take {w : World} {A : Option Addr} {n c : Nat} {L : List ItemV} (h : Items w A n c L) (k : Nat) (hk : k ≤ n) : Items w A k c (L.take k) := by
  have hl := h.len
  refine ⟨by rw [List.length_take]; omega, Nat.le_trans hk h.cap, Nat.le_trans hk h.max, fun s hs => h.ok s (List.mem_of_mem_take hs), fun j s hj => ?_⟩
  rw [List.getElem?_take] at hj
  split at hj
  · exact h.cells j s hj
  · cases hj
theorem Items.drop {w : World} {b off n c : Nat} {L : List ItemV} (h : Items w (some ⟨b, off, none⟩) n c L) (k : Nat) (hk : k ≤ n) : Items w (some ⟨b, off + k * 2, none⟩) (n - k) (c - k) (L.drop k) := by
  have hl := h.len
  have hc := h.cap
  have hm := h.max
  refine ⟨by rw [List.length_drop]; omega, by omega, by omega, fun s hs => h.ok s (List.mem_of_mem_drop hs), fun j s hj => ?_⟩
  rw [List.getElem?_drop] at hj
  obtain ⟨b', off', e, h1, h2⟩ := h.cells _ s hj
  simp only [Option.some.injEq, Addr.mk.injEq, and_true] at e
  obtain ⟨rfl, rfl⟩ := e
  refine ⟨b, off + k * 2, rfl, ?_, ?_⟩
  · rw [← h1]; congr 2; omega
  · rw [← h2]; congr 2; omega
theorem Items.zero (w : World) (A : Option Addr) (c : Nat) : Items w A 0 c [] := ⟨rfl, Nat.zero_le _, by omega, (fun s h => by cases h), (fun j s h => by simp at h)⟩
theorem Items.from_ {w : World} {A : Option Addr} {n c : Nat} {L : List ItemV} (h : Items w A n c L) (k : Nat) (hk : k ≤ n) : Items w (if c = k then A else A.map (·.add (k * 2))) (n - k) (c - k) (L.drop k) := by
  rcases Nat.eq_zero_or_pos (n - k) with h0 | h0
  · have : L.drop k = [] := List.drop_eq_nil_of_le (by rw [h.len]; omega)
    rw [this, h0]
    exact Items.zero _ _ _
  · obtain ⟨s, b, off, _, rfl, _⟩ := h.at_ k (by omega)
    have hcap := h.cap
    rw [if_neg (by omega)]
    simp only [Option.map_some, add_plain]
    exact h.drop k hk
section
variable {P : Program}
theorem cutI_from (t e : TypeId) (kl : IntKind) (ht : P.underlying t = some (.slice e)) (hinfo : (P.info? e).map (fun i => (i.zero, i.size, i.bytes)) = some (some (.agg #[.slice none 0 0, .bool false]), 2, 32)) (A : Option Addr) (n c m : Nat) (hm : m ≤ n) :
    ∃ A' : Option Addr, (∀ W : World, (Instr.slice t (.slice A n c) (some (.int kl (m : Int))) none none).run P W = .ok (.slice A' (n - m) (c - m)) W) ∧
      ∀ (w : World) (L : List ItemV), Items w A n c L → Items w A' (n - m) (c - m) (L.drop m) := by
  obtain ⟨i, hi, hsz⟩ := info_size hinfo
  refine ⟨if c = m then A else A.map (·.add (m * 2)), fun W => ?_, fun w L h => h.from_ m hm⟩
  have hel : P.elem t = e := by simp [Program.elem, ht]
  have hu : P.underlying t = some (.slice (P.elem t)) := by rw [hel]; exact ht
  rw [run_slice_l W t A n c hu kl (m : Int) (Int.natCast_nonneg _) (by omega), hel]
  simp [sizeOf, typeInfo, hi, hsz, sliced, Result.andThen]
theorem cutI_upto (t e : TypeId) (kh : IntKind) (ht : P.underlying t = some (.slice e)) (hinfo : (P.info? e).map (fun i => (i.zero, i.size, i.bytes)) = some (some (.agg #[.slice none 0 0, .bool false]), 2, 32)) (A : Option Addr) (n c m : Nat) (hm : m ≤ n) (hnc : n ≤ c) :
    ∃ A' : Option Addr, (∀ W : World, (Instr.slice t (.slice A n c) none (some (.int kh (m : Int))) none).run P W = .ok (.slice A' m c) W) ∧
      ∀ (w : World) (L : List ItemV), Items w A n c L → Items w A' m c (L.take m) := by
  obtain ⟨i, hi, hsz⟩ := info_size hinfo
  refine ⟨if c = 0 then A else A.map (·.add (0 * 2)), fun W => ?_, fun w L h => ?_⟩
  · have hel : P.elem t = e := by simp [Program.elem, ht]
    have hu : P.underlying t = some (.slice (P.elem t)) := by rw [hel]; exact ht
    rw [run_slice_h W t A n c hu kh (m : Int) (Int.natCast_nonneg _) (by omega), hel]
    simp [sizeOf, typeInfo, hi, hsz, sliced, Result.andThen]
  · have h0 := (h.from_ 0 (Nat.zero_le _)).take m (by omega)
    simpa using h0
end
theorem rs4_below {wr V V' : World} {p0 p1 b4 o4 : Nat} {v0 v1 v2 v4 : Value} (h : ((V.cell? ⟨p0, 0, none⟩ = some v0 ∧ V.cell? ⟨p0, 1, none⟩ = some v1 ∧ V.cell? ⟨p0, 2, none⟩ = some v2) ∧ Kept (fun i => i = p1) wr V) ∧ V.cell? ⟨b4, o4, none⟩ = some v4) (hb : Below V.heap.size V V') : ((V'.cell? ⟨p0, 0, none⟩ = some v0 ∧ V'.cell? ⟨p0, 1, none⟩ = some v1 ∧ V'.cell? ⟨p0, 2, none⟩ = some v2) ∧ Kept (fun i => i = p1) wr V') ∧ V'.cell? ⟨b4, o4, none⟩ = some v4 := ⟨rs_below h.1 hb, cell_keep h.2 hb⟩
theorem rs4_store {wr V : World} {p0 p1 b4 o4 : Nat} {v0 v1 v2 v4 a b c : Value} (h : ((V.cell? ⟨p0, 0, none⟩ = some v0 ∧ V.cell? ⟨p0, 1, none⟩ = some v1 ∧ V.cell? ⟨p0, 2, none⟩ = some v2) ∧ Kept (fun i => i = p1) wr V) ∧ V.cell? ⟨b4, o4, none⟩ = some v4) (hne : p0 ≠ p1) (hn4 : b4 ≠ p1) : (((((V.setCell ⟨p1, 0, none⟩ a).setCell ⟨p1, 1, none⟩ b).setCell ⟨p1, 2, none⟩ c).cell? ⟨p0, 0, none⟩ = some v0 ∧ (((V.setCell ⟨p1, 0, none⟩ a).setCell ⟨p1, 1, none⟩ b).setCell ⟨p1, 2, none⟩ c).cell? ⟨p0, 1, none⟩ = some v1 ∧ (((V.setCell ⟨p1, 0, none⟩ a).setCell ⟨p1, 1, none⟩ b).setCell ⟨p1, 2, none⟩ c).cell? ⟨p0, 2, none⟩ = some v2) ∧ Kept (fun i => i = p1) wr (((V.setCell ⟨p1, 0, none⟩ a).setCell ⟨p1, 1, none⟩ b).setCell ⟨p1, 2, none⟩ c)) ∧ (((V.setCell ⟨p1, 0, none⟩ a).setCell ⟨p1, 1, none⟩ b).setCell ⟨p1, 2, none⟩ c).cell? ⟨b4, o4, none⟩ = some v4 := ⟨rs_store h.1 hne, kept3.cell h.2 hn4⟩
/-- The document's link, bytes and number. -/
def RTakeP (w : World) (r : Lk × List Nat × Int) (e : Ending) (w' : World) : Prop := ∃ B0 m0 d0 M0 B1 m1 d1 M1 A n c, e = .returned (.tuple #[.agg #[.slice B0 m0 d0, .slice B1 m1 d1, .bool r.1.d], .slice A n c, .int .i64 r.2.2]) ∧ Items w' B0 m0 d0 M0 ∧ Items w' B1 m1 d1 M1 ∧ says M0 = r.1.s0 ∧ says M1 = r.1.s1 ∧ Bs w' A n c r.2.1 ∧ Below w.heap.size w w'

set_option maxHeartbeats 8000000 in
theorem rTake_any (A0 : Option Addr) (n0 c0 : Nat) (L0 : List ItemV) (A1 : Option Addr) (n1 c1 : Nat) (L1 : List ItemV) (d : Bool) (k : Lk) (hk : k = ⟨says L0, says L1, d⟩) (side at_ : Int) (w : World) (h0 : Items w A0 n0 c0 L0) (h1 : Items w A1 n1 c1 L1) :
    Calls Tryd.prog 30 #[(.agg #[.slice A0 n0 c0, .slice A1 n1 c1, .bool d]), .int .i64 side, .int .i64 at_] w (RTakeP w (takeR k side at_)) := by
  have hl0 : k.s0.length = n0 := by rw [hk]; exact (says_len L0).trans h0.len
  have hl1 : k.s1.length = n1 := by rw [hk]; exact (says_len L1).trans h1.len
  have hkd : k.d = d := by rw [hk]
  have hat := fun W => check_any A0 n0 c0 A1 n1 c1 k side at_ W hl0 hl1
  rw [hkd] at hat
  rcases atE_cases k side at_ with hE | hE | ⟨hE, hx⟩
  · rw [show takeR k side at_ = (Lk.zero, [], 1) by rw [takeR, hE]; rfl]
    rw [hE] at hat
    clear hl0 hl1 hkd
    have hbx := Lib.hid (box_two w #[.slice A0 n0 c0, .slice A1 n1 c1, .bool d] #[.slice none 0 0, .slice none 0 0, .bool false] 60 60)
    go_enter Tryd.func30, Tryd.ntmps30
    go_upto_region 1 with (fail)
    obtain ⟨hB, hC, hbel⟩ := hbx.out _ rfl
    generalize (w.alloc (Obj.cells #[.slice A0 n0 c0, .slice A1 n1 c1, .bool d] 60)).alloc (Obj.cells #[.slice none 0 0, .slice none 0 0, .bool false] 60) = W at hB hC hbel ⊢
    clear hbx
    have k0 := hB.cell 0 rfl
    have kf0 := hB.free 0
    have k1 := hB.cell 1 rfl
    have kf1 := hB.free 1
    have k2 := hB.cell 2 rfl
    have kf2 := hB.free 2
    go_wp2_with (go_at_call 44; refine (hat _).mono ?_; rintro e xa ⟨rfl, hba⟩; have hBa := hB.keep hba; have hCa := hC.keep hba; have k0 := hBa.cell 0 rfl; have k1 := hBa.cell 1 rfl; have k2 := hBa.cell 2 rfl; have z0 := hCa.cell 0 rfl; have z1 := hCa.cell 1 rfl; have z2 := hCa.cell 2 rfl; have zf0 := hCa.free 0; have zf1 := hCa.free 1; have zf2 := hCa.free 2)
    exact bodyPost_ret (v := .tuple #[.agg #[.slice none 0 0, .slice none 0 0, .bool false], .slice none 0 0, .int .i64 1]) (by simp [results, Tryd.results30, z0, z1, z2, zf0, zf1, zf2, go_sem]) rfl ⟨none, 0, 0, [], none, 0, 0, [], none, 0, 0, rfl, Items.nil _, Items.nil _, rfl, rfl, Bs.nil _ _ _, below3 (b_then hbel hba) (Nat.le_succ _)⟩
  · rw [show takeR k side at_ = (Lk.zero, [], 8) by rw [takeR, hE]; rfl]
    rw [hE] at hat
    clear hl0 hl1 hkd
    have hbx := Lib.hid (box_two w #[.slice A0 n0 c0, .slice A1 n1 c1, .bool d] #[.slice none 0 0, .slice none 0 0, .bool false] 60 60)
    go_enter Tryd.func30, Tryd.ntmps30
    go_upto_region 1 with (fail)
    obtain ⟨hB, hC, hbel⟩ := hbx.out _ rfl
    generalize (w.alloc (Obj.cells #[.slice A0 n0 c0, .slice A1 n1 c1, .bool d] 60)).alloc (Obj.cells #[.slice none 0 0, .slice none 0 0, .bool false] 60) = W at hB hC hbel ⊢
    clear hbx
    have k0 := hB.cell 0 rfl
    have kf0 := hB.free 0
    have k1 := hB.cell 1 rfl
    have kf1 := hB.free 1
    have k2 := hB.cell 2 rfl
    have kf2 := hB.free 2
    go_wp2_with (go_at_call 44; refine (hat _).mono ?_; rintro e xa ⟨rfl, hba⟩; have hBa := hB.keep hba; have hCa := hC.keep hba; have k0 := hBa.cell 0 rfl; have k1 := hBa.cell 1 rfl; have k2 := hBa.cell 2 rfl; have z0 := hCa.cell 0 rfl; have z1 := hCa.cell 1 rfl; have z2 := hCa.cell 2 rfl; have zf0 := hCa.free 0; have zf1 := hCa.free 1; have zf2 := hCa.free 2)
    exact bodyPost_ret (v := .tuple #[.agg #[.slice none 0 0, .slice none 0 0, .bool false], .slice none 0 0, .int .i64 8]) (by simp [results, Tryd.results30, z0, z1, z2, zf0, zf1, zf2, go_sem]) rfl ⟨none, 0, 0, [], none, 0, 0, [], none, 0, 0, rfl, Items.nil _, Items.nil _, rfl, rfl, Bs.nil _ _ _, below3 (b_then hbel hba) (Nat.le_succ _)⟩
  · rw [hE] at hat
    rcases hx with ⟨rfl, i, rfl, hi⟩ | ⟨rfl, i, rfl, hi⟩
    · rw [show takeR k 0 (i : Int) = (⟨k.s0.eraseIdx i, k.s1, k.d⟩, (k.s0[i]?.map (·.1)).getD [], 0) by rw [takeR, hE]; simp]
      rw [hl0] at hi
      subst hk
      clear hl0 hl1 hkd hE
      have hbx := Lib.hid (box_two w #[.slice A0 n0 c0, .slice A1 n1 c1, .bool d] #[.slice none 0 0, .slice none 0 0, .bool false] 60 60)
      go_enter Tryd.func30, Tryd.ntmps30
      go_upto_region 1 with (fail)
      obtain ⟨hB, hC, hbel⟩ := hbx.out _ rfl
      generalize (w.alloc (Obj.cells #[.slice A0 n0 c0, .slice A1 n1 c1, .bool d] 60)).alloc (Obj.cells #[.slice none 0 0, .slice none 0 0, .bool false] 60) = W at hB hC hbel ⊢
      clear hbx
      have k0 := hB.cell 0 rfl
      have kf0 := hB.free 0
      have k1 := hB.cell 1 rfl
      have kf1 := hB.free 1
      have k2 := hB.cell 2 rfl
      have kf2 := hB.free 2
      have hX := h0
      have hcapX := hX.cap
      have hmxX := hX.max
      obtain ⟨s, b, off, hs, he, hc0, hc1, hsb⟩ := hX.at_ i hi
      subst he
      have hblt : b < w.heap.size := World.block_lt_of_cell? w _ hc0
      obtain ⟨A', hcA, hcB⟩ := cutI_upto (P := Tryd.prog) 57 91 .i64 Tryd.underlying57 Tryd.info91 (some ⟨b, off, none⟩) n0 c0 i (by omega) hcapX
      obtain ⟨A'', hcC, hcD⟩ := cutI_from (P := Tryd.prog) 57 91 .i64 Tryd.underlying57 Tryd.info91 (some ⟨b, off, none⟩) n0 c0 (i + 1) (by omega)
      rw [show (((i + 1 : Nat) : Int)) = (i : Int) + 1 by omega] at hcC
      have hcB := Lib.hid hcB
      have hcD := Lib.hid hcD
      have hsbb := Lib.hid hsb
      have hold : ∀ (M : List ItemV), (∀ x ∈ M, x ∈ L0) → ∀ x ∈ M, 0 < x.n → ∀ q, x.A.map (·.block) = some q → q < w.heap.size   := fun M hM x hx hn q hq => by
        obtain ⟨b1, o1, e1, h1⟩ := (hX.ok x (hM x hx)).lt hn
        rw [e1] at hq
        have : b1 = q := Option.some.inj hq
        omega
      have hold := Lib.hid hold
      clear hsb
      have hq1 : (0 : Int) ≤ (i : Int) := by omega
      have hq2 : (i : Int) < (n0 : Int) := by omega
      go_upto_region 5 with (go_at_call 44; refine (hat _).mono ?_; rintro e xa ⟨rfl, hba⟩; have hBa := hB.keep hba; have hCa := hC.keep hba; have k0 := hBa.cell 0 rfl; have k1 := hBa.cell 1 rfl; have k2 := hBa.cell 2 rfl; have z0 := hCa.cell 0 rfl; have z1 := hCa.cell 1 rfl; have z2 := hCa.cell 2 rfl; have zf0 := hCa.free 0; have zf1 := hCa.free 1; have zf2 := hCa.free 2)
      have hbela := b_then hbel hba
      have hq0 : xa.drew.cell? ⟨w.heap.size, 0, none⟩ = some (.slice (some ⟨b, off, none⟩) n0 c0) ∧ Below xa.heap.size xa xa.drew := ⟨hBa.cell 0 rfl, b_drew (Below.refl _ _)⟩
      have hcnt : n0 - 1 = i + (n0 - (i + 1)) := by omega
      have hmx3 : 0 + i ≤ 4398046511104 := by omega
      have hmx4 : i + (n0 - (i + 1)) ≤ 4398046511104 := by omega
      have hcnt' := Lib.hid hcnt
      have hmx3' := Lib.hid hmx3
      have hmx4' := Lib.hid hmx4
      clear hcnt hmx3 hmx4
      have hkw : IntKind.i64.wrap ((i : Int) + 1) = (i : Int) + 1 := IntWalk.i64_in _ (by omega)
      go_region_held3 (fun V => V.cell? ⟨w.heap.size, 0, none⟩ = some (.slice (some ⟨b, off, none⟩) n0 c0) ∧ Below xa.heap.size xa V) ((first | exact hq0 | exact ⟨hc9, hb9⟩)) (first
        | (refine step_appendI rfl _ _ 57 91 rfl Tryd.underlying57 Tryd.info91 xa.heap.size none 0 0 [] A' i c0 (L0.take i) i (Nat.zero_add _).symm rfl rfl (OwnI.nil _ _ _) (hcB.out _ _ (hX.keep (b_then hbela (heldB (by assumption))))) (fun s hs hn k hk => by simp at hk) (Nat.le_refl _) hmx3'.out ?_; intro A3 c3 x3 hown3 hg1 hat3; have hb9 := b_then (b_drew (Below.refl xa.heap.size xa)) (below_of_none hg1); have hc9 := cell_keep hq0.1 (below_of_none hg1); have hr2 := fun k (hk : A3.map (·.block) = some k) => (hown3.ge k hk).1)
        | (refine step_appendI rfl _ _ 57 91 rfl Tryd.underlying57 Tryd.info91 xa.heap.size A3 i c3 ([] ++ L0.take i) A'' (n0 - (i + 1)) (c0 - (i + 1)) (L0.drop (i + 1)) (n0 - 1) hcnt'.out rfl rfl hown3 (hcD.out _ _ (hX.keep (b_then hbela (heldB (by assumption))))) (fun x hx hn k hk e => absurd (hold.out _ (fun y hy => List.mem_of_mem_drop hy) x hx hn k e) (by have := hr2 k hk; have := hbela.size; omega)) hb9.size hmx4'.out ?_; intro A4 c4 x4 hown4 hg2 hat4; have hC9 := (hCa.keep hb9).grown hg2 (fun e => absurd (hr2 _ e) (by have := hCa.lt; omega)); have hB9 := (hBa.keep hb9).grown hg2 (fun e => absurd (hr2 _ e) (by have := hBa.lt; omega)); have hc9 := hB9.cell 0 rfl; have hb9 := b_grown hb9 hg2 hr2))
      clear hkw
      have hbelb := b_then hbela hb9
      have hge4 := fun q (hq : A4.map (·.block) = some q) => (hown4.ge q hq).1
      have hp4 : ∀ q, A4.map (·.block) = some q → w.heap.size + 1 < q := fun q hq => by have := hge4 q hq; have := hCa.lt; omega
      have hI4 := hown4.items
      clear hq0 hr2 hg1 hg2 hat3 hat4 hown3 hown4 hge4
      generalize x4 = W6 at hC9 hB9 hb9 hbelb hI4 ⊢
      have hsb6 := hsbb.out.keep hbelb
      have hc06 := cell_keep hc0 hbelb
      have hp1 : w.heap.size ≤ w.heap.size + 1 := Nat.le_succ _
      have hp01 : w.heap.size ≠ w.heap.size + 1 := by omega
      have hpb : b ≠ w.heap.size + 1 := by omega
      have hq6 := And.intro (rs_start (p1 := w.heap.size + 1) hB9) (show W6.drew.cell? ⟨b, off + i * 2, none⟩ = some (.slice s.A s.n s.c) from hc06)
      go_upto_region 6 with (fail)
      go_region_held3 (fun V => ((V.cell? ⟨w.heap.size, 0, none⟩ = some (.slice (some ⟨b, off, none⟩) n0 c0) ∧ V.cell? ⟨w.heap.size, 1, none⟩ = some (.slice A1 n1 c1) ∧ V.cell? ⟨w.heap.size, 2, none⟩ = some (.bool d)) ∧ Kept (fun i => i = w.heap.size + 1) W6 V) ∧ V.cell? ⟨b, off + i * 2, none⟩ = some (.slice s.A s.n s.c)) ((first | exact hq6 | exact rs4_below (by assumption) hb3 | exact rs4_store (by assumption) hp01 hpb)) (first
        | (go_at_call 43; refine (with_any (some ⟨b, off, none⟩) n0 c0 A1 n1 c1 d 0 (by omega) A4 (n0 - 1) c4 _).mono ?_; rintro e x5 ⟨rfl, hb3⟩; have hC5 := hC9.drew.keep hb3; have y0 := hC5.cell 0 rfl; have y1 := hC5.cell 1 rfl; have y2 := hC5.cell 2 rfl; have yf0 := hC5.free 0; have yf1 := hC5.free 1; have yf2 := hC5.free 2)
        | fail)
      all_goals
        have hbz := rs_bel (And.left (by assumption)) hbelb hp1
        have hI5 := (hI4.keep (b_drew (Below.refl _ _))).keep hb3
        have hIf := hI5.kept (kept3 (p := w.heap.size + 1) (a := .slice A4 (n0 - 1) c4) (b := .slice A1 n1 c1) (c := .bool d)) (fun q hq e => by have := hp4 q hq; omega) (fun s hs hn q hq e => (hI5.ok s hs).apart hC5 (link_no8 _ _ _ _ _ _ _) hn (by rw [hq, e]))
        have hsy : says ([] ++ L0.take i ++ L0.drop (i + 1)) = (says L0).eraseIdx i := by simp [says, eraseIdx_parts, List.map_take, List.map_drop]
        have hbb : s.b = ((says L0)[i]?.map (·.1)).getD [] := by simp [says, List.getElem?_map, hs, ItemV.say]
        have hsz := hsbb.out.keep hbz
        rw [hbb] at hsz
        go_wp2_with fail
        exact bodyPost_ret (v := .tuple #[.agg #[.slice A4 (n0 - 1) c4, .slice A1 n1 c1, .bool d], .slice s.A s.n s.c, .int .i64 0]) (by simp [results, Tryd.results30, y0, y1, y2, yf0, yf1, yf2, go_sem]) rfl ⟨A4, n0 - 1, c4, _, A1, n1, c1, L1, _, _, _, rfl, hIf, h1.keep hbz, hsy, rfl, hsz, hbz⟩
    · rw [show takeR k 1 (i : Int) = (⟨k.s0, k.s1.eraseIdx i, k.d⟩, (k.s1[i]?.map (·.1)).getD [], 0) by rw [takeR, hE]; simp]
      rw [hl1] at hi
      subst hk
      clear hl0 hl1 hkd hE
      have hbx := Lib.hid (box_two w #[.slice A0 n0 c0, .slice A1 n1 c1, .bool d] #[.slice none 0 0, .slice none 0 0, .bool false] 60 60)
      go_enter Tryd.func30, Tryd.ntmps30
      go_upto_region 1 with (fail)
      obtain ⟨hB, hC, hbel⟩ := hbx.out _ rfl
      generalize (w.alloc (Obj.cells #[.slice A0 n0 c0, .slice A1 n1 c1, .bool d] 60)).alloc (Obj.cells #[.slice none 0 0, .slice none 0 0, .bool false] 60) = W at hB hC hbel ⊢
      clear hbx
      have k0 := hB.cell 0 rfl
      have kf0 := hB.free 0
      have k1 := hB.cell 1 rfl
      have kf1 := hB.free 1
      have k2 := hB.cell 2 rfl
      have kf2 := hB.free 2
      have hX := h1
      have hcapX := hX.cap
      have hmxX := hX.max
      obtain ⟨s, b, off, hs, he, hc0, hc1, hsb⟩ := hX.at_ i hi
      subst he
      have hblt : b < w.heap.size := World.block_lt_of_cell? w _ hc0
      obtain ⟨A', hcA, hcB⟩ := cutI_upto (P := Tryd.prog) 57 91 .i64 Tryd.underlying57 Tryd.info91 (some ⟨b, off, none⟩) n1 c1 i (by omega) hcapX
      obtain ⟨A'', hcC, hcD⟩ := cutI_from (P := Tryd.prog) 57 91 .i64 Tryd.underlying57 Tryd.info91 (some ⟨b, off, none⟩) n1 c1 (i + 1) (by omega)
      rw [show (((i + 1 : Nat) : Int)) = (i : Int) + 1 by omega] at hcC
      have hcB := Lib.hid hcB
      have hcD := Lib.hid hcD
      have hsbb := Lib.hid hsb
      have hold : ∀ (M : List ItemV), (∀ x ∈ M, x ∈ L1) → ∀ x ∈ M, 0 < x.n → ∀ q, x.A.map (·.block) = some q → q < w.heap.size   := fun M hM x hx hn q hq => by
        obtain ⟨b1, o1, e1, h1⟩ := (hX.ok x (hM x hx)).lt hn
        rw [e1] at hq
        have : b1 = q := Option.some.inj hq
        omega
      have hold := Lib.hid hold
      clear hsb
      have hq1 : (0 : Int) ≤ (i : Int) := by omega
      have hq2 : (i : Int) < (n1 : Int) := by omega
      go_upto_region 5 with (go_at_call 44; refine (hat _).mono ?_; rintro e xa ⟨rfl, hba⟩; have hBa := hB.keep hba; have hCa := hC.keep hba; have k0 := hBa.cell 0 rfl; have k1 := hBa.cell 1 rfl; have k2 := hBa.cell 2 rfl; have z0 := hCa.cell 0 rfl; have z1 := hCa.cell 1 rfl; have z2 := hCa.cell 2 rfl; have zf0 := hCa.free 0; have zf1 := hCa.free 1; have zf2 := hCa.free 2)
      have hbela := b_then hbel hba
      have hq0 : xa.drew.cell? ⟨w.heap.size, 1, none⟩ = some (.slice (some ⟨b, off, none⟩) n1 c1) ∧ Below xa.heap.size xa xa.drew := ⟨hBa.cell 1 rfl, b_drew (Below.refl _ _)⟩
      have hcnt : n1 - 1 = i + (n1 - (i + 1)) := by omega
      have hmx3 : 0 + i ≤ 4398046511104 := by omega
      have hmx4 : i + (n1 - (i + 1)) ≤ 4398046511104 := by omega
      have hcnt' := Lib.hid hcnt
      have hmx3' := Lib.hid hmx3
      have hmx4' := Lib.hid hmx4
      clear hcnt hmx3 hmx4
      have hkw : IntKind.i64.wrap ((i : Int) + 1) = (i : Int) + 1 := IntWalk.i64_in _ (by omega)
      go_region_held3 (fun V => V.cell? ⟨w.heap.size, 1, none⟩ = some (.slice (some ⟨b, off, none⟩) n1 c1) ∧ Below xa.heap.size xa V) ((first | exact hq0 | exact ⟨hc9, hb9⟩)) (first
        | (refine step_appendI rfl _ _ 57 91 rfl Tryd.underlying57 Tryd.info91 xa.heap.size none 0 0 [] A' i c1 (L1.take i) i (Nat.zero_add _).symm rfl rfl (OwnI.nil _ _ _) (hcB.out _ _ (hX.keep (b_then hbela (heldB (by assumption))))) (fun s hs hn k hk => by simp at hk) (Nat.le_refl _) hmx3'.out ?_; intro A3 c3 x3 hown3 hg1 hat3; have hb9 := b_then (b_drew (Below.refl xa.heap.size xa)) (below_of_none hg1); have hc9 := cell_keep hq0.1 (below_of_none hg1); have hr2 := fun k (hk : A3.map (·.block) = some k) => (hown3.ge k hk).1)
        | (refine step_appendI rfl _ _ 57 91 rfl Tryd.underlying57 Tryd.info91 xa.heap.size A3 i c3 ([] ++ L1.take i) A'' (n1 - (i + 1)) (c1 - (i + 1)) (L1.drop (i + 1)) (n1 - 1) hcnt'.out rfl rfl hown3 (hcD.out _ _ (hX.keep (b_then hbela (heldB (by assumption))))) (fun x hx hn k hk e => absurd (hold.out _ (fun y hy => List.mem_of_mem_drop hy) x hx hn k e) (by have := hr2 k hk; have := hbela.size; omega)) hb9.size hmx4'.out ?_; intro A4 c4 x4 hown4 hg2 hat4; have hC9 := (hCa.keep hb9).grown hg2 (fun e => absurd (hr2 _ e) (by have := hCa.lt; omega)); have hB9 := (hBa.keep hb9).grown hg2 (fun e => absurd (hr2 _ e) (by have := hBa.lt; omega)); have hc9 := hB9.cell 1 rfl; have hb9 := b_grown hb9 hg2 hr2))
      clear hkw
      have hbelb := b_then hbela hb9
      have hge4 := fun q (hq : A4.map (·.block) = some q) => (hown4.ge q hq).1
      have hp4 : ∀ q, A4.map (·.block) = some q → w.heap.size + 1 < q := fun q hq => by have := hge4 q hq; have := hCa.lt; omega
      have hI4 := hown4.items
      clear hq0 hr2 hg1 hg2 hat3 hat4 hown3 hown4 hge4
      generalize x4 = W6 at hC9 hB9 hb9 hbelb hI4 ⊢
      have hsb6 := hsbb.out.keep hbelb
      have hc06 := cell_keep hc0 hbelb
      have hp1 : w.heap.size ≤ w.heap.size + 1 := Nat.le_succ _
      have hp01 : w.heap.size ≠ w.heap.size + 1 := by omega
      have hpb : b ≠ w.heap.size + 1 := by omega
      have hq6 := And.intro (rs_start (p1 := w.heap.size + 1) hB9) (show W6.drew.cell? ⟨b, off + i * 2, none⟩ = some (.slice s.A s.n s.c) from hc06)
      go_upto_region 6 with (fail)
      go_region_held3 (fun V => ((V.cell? ⟨w.heap.size, 0, none⟩ = some (.slice A0 n0 c0) ∧ V.cell? ⟨w.heap.size, 1, none⟩ = some (.slice (some ⟨b, off, none⟩) n1 c1) ∧ V.cell? ⟨w.heap.size, 2, none⟩ = some (.bool d)) ∧ Kept (fun i => i = w.heap.size + 1) W6 V) ∧ V.cell? ⟨b, off + i * 2, none⟩ = some (.slice s.A s.n s.c)) ((first | exact hq6 | exact rs4_below (by assumption) hb3 | exact rs4_store (by assumption) hp01 hpb)) (first
        | (go_at_call 43; refine (with_any A0 n0 c0 (some ⟨b, off, none⟩) n1 c1 d 1 (by omega) A4 (n1 - 1) c4 _).mono ?_; rintro e x5 ⟨rfl, hb3⟩; have hC5 := hC9.drew.keep hb3; have y0 := hC5.cell 0 rfl; have y1 := hC5.cell 1 rfl; have y2 := hC5.cell 2 rfl; have yf0 := hC5.free 0; have yf1 := hC5.free 1; have yf2 := hC5.free 2)
        | fail)
      all_goals
        have hbz := rs_bel (And.left (by assumption)) hbelb hp1
        have hI5 := (hI4.keep (b_drew (Below.refl _ _))).keep hb3
        have hIf := hI5.kept (kept3 (p := w.heap.size + 1) (a := .slice A0 n0 c0) (b := .slice A4 (n1 - 1) c4) (c := .bool d)) (fun q hq e => by have := hp4 q hq; omega) (fun s hs hn q hq e => (hI5.ok s hs).apart hC5 (link_no8 _ _ _ _ _ _ _) hn (by rw [hq, e]))
        have hsy : says ([] ++ L1.take i ++ L1.drop (i + 1)) = (says L1).eraseIdx i := by simp [says, eraseIdx_parts, List.map_take, List.map_drop]
        have hbb : s.b = ((says L1)[i]?.map (·.1)).getD [] := by simp [says, List.getElem?_map, hs, ItemV.say]
        have hsz := hsbb.out.keep hbz
        rw [hbb] at hsz
        go_wp2_with fail
        exact bodyPost_ret (v := .tuple #[.agg #[.slice A0 n0 c0, .slice A4 (n1 - 1) c4, .bool d], .slice s.A s.n s.c, .int .i64 0]) (by simp [results, Tryd.results30, y0, y1, y2, yf0, yf1, yf2, go_sem]) rfl ⟨A0, n0, c0, L0, A4, n1 - 1, c4, _, _, _, _, rfl, h0.keep hbz, hIf, rfl, hsy, hsz, hbz⟩
end Go.Proofs.YtbmfcaobhgeogaaDoor
