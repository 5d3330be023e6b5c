/-
  link.Take, link.Lose and link.Kill, by their contracts.
-/
import Derived.Test.YtbmfcaobhgeogaaLinkSend
namespace Go.Proofs.Ytbmfcaobhgeogaa
open Go.RowKit
set_option linter.unusedVariables false
set_option linter.unusedSimpArgs false
set_option maxRecDepth 100000

/-- What Take tells: the link, the bytes, the error. -/
def takeR (k : Lk) (side at_ : Int) : Lk × List Nat × Int :=
  if atE k side at_ ≠ 0 then (Lk.zero, [], atE k side at_)
  else if side = 0 then (⟨k.s0.eraseIdx at_.toNat, k.s1, k.d⟩, (k.s0[at_.toNat]?.map (·.1)).getD [], 0)
  else (⟨k.s0, k.s1.eraseIdx at_.toNat, k.d⟩, (k.s1[at_.toNat]?.map (·.1)).getD [], 0)
/-- A link, bytes and an error are handed back. -/
def TakeP (w : World) (r : Lk × List Nat × Int) (e : Ending) (w' : World) : Prop := ∃ lv A n c, e = .returned (.tuple #[lv, .slice A n c, errOf r.2.2]) ∧ LinkB w' w.heap.size lv r.1 ∧ Bs w' A n c r.2.1 ∧ Below w.heap.size w w'
theorem atE_cases (k : Lk) (side at_ : Int) : atE k side at_ = 1 ∨ atE k side at_ = 8 ∨ (atE k side at_ = 0 ∧ ((side = 0 ∧ ∃ i : Nat, at_ = i ∧ i < k.s0.length) ∨ (side = 1 ∧ ∃ i : Nat, at_ = i ∧ i < k.s1.length))) := by
  unfold atE
  by_cases h : side ≠ 0 ∧ side ≠ 1
  · exact .inl (if_pos h)
  · rw [if_neg h]
    have hs : side = 0 ∨ side = 1 := by omega
    rcases hs with rfl | rfl
    · rw [if_pos rfl]
      by_cases h2 : at_ < 0 ∨ (k.s0.length : Int) ≤ at_
      · exact .inr (.inl (if_pos h2))
      · exact .inr (.inr ⟨if_neg h2, .inl ⟨rfl, at_.toNat, by omega, by omega⟩⟩)
    · simp only [if_neg (show ¬ (1 : Int) = 0 by omega)]
      by_cases h2 : at_ < 0 ∨ (k.s1.length : Int) ≤ at_
      · exact .inr (.inl (if_pos h2))
      · exact .inr (.inr ⟨if_neg h2, .inr ⟨trivial, at_.toNat, by omega, by omega⟩⟩)
theorem errOf_1 : errOf 1 = .iface 64 (.int .i64 1) := rfl
theorem errOf_8 : errOf 8 = .iface 64 (.int .i64 8) := rfl
theorem errOf_0 : errOf 0 = .nilIface := rfl

set_option maxHeartbeats 8000000 in
theorem take_any (A0 : Option Addr) (n0 c0 : Nat) (L0 : List ItemV) (A1 : Option Addr) (n1 c1 : Nat) (L1 : List ItemV) (d : Bool) (k : Lk) (hk : k = ⟨says L0, says L1, d⟩) (side at_ : Int) (w : World) (h0 : Items w A0 n0 c0 L0) (h1 : Items w A1 n1 c1 L1) :
    Calls Try.prog 15 #[(.agg #[.slice A0 n0 c0, .slice A1 n1 c1, .bool d]), .int .i64 side, .int .i64 at_] w (TakeP w (takeR k side at_)) := by
  have hl0 : k.s0.length = n0 := by rw [hk]; exact (says_len L0).trans h0.len
  have hl1 : k.s1.length = n1 := by rw [hk]; exact (says_len L1).trans h1.len
  have hkd : k.d = d := by rw [hk]
  have hmx0 := h0.max
  have hmx1 := h1.max
  have hat := fun W => at_any A0 n0 c0 A1 n1 c1 k side at_ W hl0 hl1
  rw [hkd] at hat
  rcases atE_cases k side at_ with hE | hE | ⟨hE, hx⟩
  · rw [show takeR k side at_ = (Lk.zero, [], 1) by rw [takeR, hE]; rfl]
    rw [hE, errOf_1] at hat
    clear hl0 hl1 hkd
    have htv := Lib.hid (two_vars w A0 n0 c0 A1 n1 c1 d)
    go_enter Try.func15, Try.ntmps15
    go_upto_region 1 with (fail)
    obtain ⟨hB0, hB1, hbel⟩ := htv.out _ rfl
    have hWs := hB1.lt
    generalize hW : (w.alloc (Obj.cells #[.slice A0 n0 c0, .slice A1 n1 c1, .bool d] 49)).alloc (Obj.cells #[.slice none 0 0, .slice none 0 0, .bool false] 49) = W at hB0 hB1 hbel hWs ⊢
    clear hW htv
    have k0 := hB0.cell 0 rfl
    have kf0 := hB0.free 0
    have k1 := hB0.cell 1 rfl
    have kf1 := hB0.free 1
    have k2 := hB0.cell 2 rfl
    have kf2 := hB0.free 2
    go_wp2_with (go_at_call 22; refine (hat _).mono ?_; rintro e xa ⟨rfl, hba⟩; have hB1a := hB1.keep hba; have z0 := hB1a.cell 0 rfl; have z1 := hB1a.cell 1 rfl; have z2 := hB1a.cell 2 rfl; have zf0 := hB1a.free 0; have zf1 := hB1a.free 1; have zf2 := hB1a.free 2)
    exact bodyPost_ret (v := .tuple #[.agg #[.slice none 0 0, .slice none 0 0, .bool false], .slice none 0 0, .iface 64 (.int .i64 1)]) (by simp [results, Try.results15, z0, z1, z2, zf0, zf1, zf2, go_sem]) rfl ⟨_, none, 0, 0, rfl, LinkB.zero _ _, Bs.nil _ _ _, below3 (b_then hbel hba) (Nat.le_succ _)⟩
  · rw [show takeR k side at_ = (Lk.zero, [], 8) by rw [takeR, hE]; rfl]
    rw [hE, errOf_8] at hat
    clear hl0 hl1 hkd
    have htv := Lib.hid (two_vars w A0 n0 c0 A1 n1 c1 d)
    go_enter Try.func15, Try.ntmps15
    go_upto_region 1 with (fail)
    obtain ⟨hB0, hB1, hbel⟩ := htv.out _ rfl
    have hWs := hB1.lt
    generalize hW : (w.alloc (Obj.cells #[.slice A0 n0 c0, .slice A1 n1 c1, .bool d] 49)).alloc (Obj.cells #[.slice none 0 0, .slice none 0 0, .bool false] 49) = W at hB0 hB1 hbel hWs ⊢
    clear hW htv
    have k0 := hB0.cell 0 rfl
    have kf0 := hB0.free 0
    have k1 := hB0.cell 1 rfl
    have kf1 := hB0.free 1
    have k2 := hB0.cell 2 rfl
    have kf2 := hB0.free 2
    go_wp2_with (go_at_call 22; refine (hat _).mono ?_; rintro e xa ⟨rfl, hba⟩; have hB1a := hB1.keep hba; have z0 := hB1a.cell 0 rfl; have z1 := hB1a.cell 1 rfl; have z2 := hB1a.cell 2 rfl; have zf0 := hB1a.free 0; have zf1 := hB1a.free 1; have zf2 := hB1a.free 2)
    exact bodyPost_ret (v := .tuple #[.agg #[.slice none 0 0, .slice none 0 0, .bool false], .slice none 0 0, .iface 64 (.int .i64 8)]) (by simp [results, Try.results15, z0, z1, z2, zf0, zf1, zf2, go_sem]) rfl ⟨_, none, 0, 0, rfl, LinkB.zero _ _, Bs.nil _ _ _, below3 (b_then hbel hba) (Nat.le_succ _)⟩
  · rw [hE, errOf_0] at hat
    rcases hx with ⟨rfl, i, rfl, hi⟩ | ⟨rfl, i, rfl, hi⟩
    · rw [show takeR k 0 (i : Int) = (⟨k.s0.eraseIdx i, k.s1, k.d⟩, (k.s0[i]?.map (·.1)).getD [], 0) by rw [takeR, hE]; simp]
      rw [hl0] at hi
      subst hk
      clear hl0 hl1 hkd hE
      have htv := Lib.hid (two_vars w A0 n0 c0 A1 n1 c1 d)
      go_enter Try.func15, Try.ntmps15
      go_upto_region 1 with (fail)
      obtain ⟨hB0, hB1, hbel⟩ := htv.out _ rfl
      have hWs := hB1.lt
      generalize hW : (w.alloc (Obj.cells #[.slice A0 n0 c0, .slice A1 n1 c1, .bool d] 49)).alloc (Obj.cells #[.slice none 0 0, .slice none 0 0, .bool false] 49) = W at hB0 hB1 hbel hWs ⊢
      clear hW htv
      have k0 := hB0.cell 0 rfl
      have kf0 := hB0.free 0
      have k1 := hB0.cell 1 rfl
      have kf1 := hB0.free 1
      have k2 := hB0.cell 2 rfl
      have kf2 := hB0.free 2
      have h0W := h0.keep hbel
      have h1W := h1.keep hbel
      go_upto_region 5 with (first | (go_at_call 22; refine (hat _).mono ?_; rintro e xa ⟨rfl, hba⟩; have hB0a := hB0.keep hba; have hB1a := hB1.keep hba; have h0a := h0W.keep hba; have h1a := h1W.keep hba; have k0 := hB0a.cell 0 rfl; have k1 := hB0a.cell 1 rfl; have k2 := hB0a.cell 2 rfl) | (go_at_call 23; refine (own_link A0 n0 c0 L0 A1 n1 c1 L1 d _ h0a h1a).mono ?_; rintro e x1 ⟨B0, d0, M0, B1, d1, M1, rfl, hK, e0, e1, hbx⟩; have hB0x := hB0a.keep hbx; have kf0 := hB0x.free 0; have kf1 := hB0x.free 1; have kf2 := hB0x.free 2; have k0 := hB0x.cell 0 rfl; have k1 := hB0x.cell 1 rfl; have k2 := hB0x.cell 2 rfl))
      have hB0y := store3 (a := .slice B0 n0 d0) (b := .slice B1 n1 d1) (c := .bool d) hB0x
      have hB1y := far3 (p := w.heap.size) (a := .slice B0 n0 d0) (b := .slice B1 n1 d1) (c := .bool d) (hB1a.keep hbx) (by omega)
      have hxa := hba.size
      have hKy := hK.laid hB0x (by omega) B0 B1 n0 n1 d0 d1 d
      have hby := below3 (p := w.heap.size) (a := .slice B0 n0 d0) (b := .slice B1 n1 d1) (c := .bool d) (b_then (b_then hbel hba) hbx) (Nat.le_refl _)
      have hsz : xa.heap.size ≤ (((x1.setCell ⟨w.heap.size, 0, none⟩ (.slice B0 n0 d0)).setCell ⟨w.heap.size, 1, none⟩ (.slice B1 n1 d1)).setCell ⟨w.heap.size, 2, none⟩ (.bool d)).heap.size := by simpa using hbx.size
      generalize hY : ((x1.setCell ⟨w.heap.size, 0, none⟩ (.slice B0 n0 d0)).setCell ⟨w.heap.size, 1, none⟩ (.slice B1 n1 d1)).setCell ⟨w.heap.size, 2, none⟩ (.bool d) = Y at hB0y hB1y hKy hby hsz ⊢
      clear hY hB0 hB1 hB0x hB0a hB1a hbx kf0 kf1 kf2 k0 k1 k2 hK x1 h0W h1W h0a h1a
      have hzz := hB1y.lt
      have hra0 : ∀ q, B0.map (·.block) = some q → w.heap.size + 1 < q ∧ q < Y.heap.size := fun q hq => ⟨by have := hKy.b0 q hq; omega, (hKy.r0.ge q hq).2⟩
      have hra1 : ∀ q, B1.map (·.block) = some q → w.heap.size + 1 < q ∧ q < Y.heap.size := fun q hq => ⟨by have := hKy.b1 q hq; omega, (hKy.r1.ge q hq).2⟩
      obtain ⟨s, g, off, hs, hBe, hc0, hc1, hsb⟩ := hKy.r0.items.at_ i hi
      obtain ⟨g', he, hgB, hgs, hgf⟩ := hKy.r0.form (by omega)
      rw [hBe] at he
      simp only [Option.some.injEq, Addr.mk.injEq, and_true] at he
      obtain ⟨rfl, rfl⟩ := he
      subst hBe
      simp only [Nat.zero_add] at hc0 hc1
      have kx := hB0y.cell 0 rfl
      have kxf := hB0y.free 0
      have i0 : (0 : Int) ≤ (i : Int) := by omega
      have i1 : (i : Int) < (n0 : Int) := by omega
      have i2 : IntKind.i64.wrap ((i : Int) + 1) = (i : Int) + 1 := IntWalk.i64_in _ (by omega)
      have hdel := delete_any xa.heap.size (some ⟨g, 0, none⟩) n0 d0 M0 i Y hKy.r0 hi
      rw [show (((i + 1 : Nat) : Int)) = (i : Int) + 1 by omega] at hdel
      have hdel' := Lib.hid hdel
      clear hdel
      have hfar := hKy.r0.far s (List.mem_of_getElem? hs)
      go_wp2_with fail
      refine hdel'.out.mono ?_
      rintro e x3 ⟨rfl, hD, hkD⟩
      have hpg := (hra0 g rfl).1
      have hkD' : Kept (fun b => b = g) Y x3 := hkD.mono fun b _ e => (Option.some.inj e).symm
      have hB04 := hB0y.kept hkD' (by omega)
      have hB14 := hB1y.kept hkD' (by omega)
      have hJ3 := hKy.r1.items.kept hkD' (fun b hb e => hKy.ne g rfl (by rw [hb, e])) (fun s hs hn b hb e => hKy.x1 s hs hn g rfl (by rw [hb, e]))
      have hS3 := hsb.far hkD' (fun hn b hb e => hfar hn g rfl (by rw [hb, e]))
      have hB05 := hB04.set 0 (.slice (some ⟨g, 0, none⟩) (n0 - 1) d0)
      have hB15 := hB14.far (p := ⟨w.heap.size, 0, none⟩) (by show w.heap.size + 1 ≠ w.heap.size; omega) (.slice (some ⟨g, 0, none⟩) (n0 - 1) d0)
      have hkS := kept1 (W := x3) (p := w.heap.size) (j := 0) (a := .slice (some ⟨g, 0, none⟩) (n0 - 1) d0)
      have hI4 := (hD.link_set hB04 (link_no8 _ _ _ _ _ _ _) (fun q hq => by have : g = q := Option.some.inj hq; omega) 0 (.slice (some ⟨g, 0, none⟩) (n0 - 1) d0)).items
      have hJ4 := hJ3.kept hkS (fun q hq e => by have := (hra1 q hq).1; omega) (fun s hs hn q hq e => (hJ3.ok s hs).apart hB04 (link_no8 _ _ _ _ _ _ _) hn (by rw [hq, e]))
      have hS4 := hS3.far hkS (fun hn q hq e => hS3.apart hB04 (link_no8 _ _ _ _ _ _ _) hn (by rw [hq, e]))
      have hb5 : Below w.heap.size w (x3.setCell ⟨w.heap.size, 0, none⟩ (.slice (some ⟨g, 0, none⟩) (n0 - 1) d0)) := b_set (b_kept hby hkD' (fun i hi e => by omega)) (Nat.le_refl _) _
      have hsay5 : says (M0.eraseIdx i) = (says L0).eraseIdx i := by rw [← e0]; simp [says, eraseIdx_parts, List.map_take, List.map_drop]
      have hbb : s.b = ((says L0)[i]?.map (·.1)).getD [] := by rw [← e0]; simp [says, List.getElem?_map, hs, ItemV.say]
      have hS5 := hS4.far (kept3 (p := w.heap.size + 1) (a := .slice (some ⟨g, 0, none⟩) (n0 - 1) d0) (b := .slice B1 n1 d1) (c := .bool d)) (fun hn q hq e => hS4.apart hB15 (link_no8 _ _ _ _ _ _ _) hn (by rw [hq, e]))
      rw [hbb] at hS5
      have kf := hB04.free 0
      have k0 := hB05.cell 0 rfl
      have kf0 := hB05.free 0
      have k1 := hB05.cell 1 rfl
      have kf1 := hB05.free 1
      have k2 := hB05.cell 2 rfl
      have kf2 := hB05.free 2
      have z0 := hB15.cell 0 rfl
      have zf0 := hB15.free 0
      have z1 := hB15.cell 1 rfl
      have zf1 := hB15.free 1
      have z2 := hB15.cell 2 rfl
      have zf2 := hB15.free 2
      have hkc := hB04.free 0
      have hkd := hB04.cell 0 rfl
      clear hdel' hra0 hra1
      go_wp2
      exact bodyPost_ret (v := .tuple #[.agg #[.slice (some ⟨g, 0, none⟩) (n0 - 1) d0, .slice B1 n1 d1, .bool d], .slice s.A s.n s.c, .nilIface]) (by simp [results, Try.results15, z0, z1, z2, zf0, zf1, zf2, go_sem]) rfl ⟨_, _, _, _, rfl, link_result d hB15 hI4 hJ4 (fun q hq => by have : g = q := Option.some.inj hq; omega) (fun q hq => by have := hKy.b1 q hq; omega) _ _ hsay5 e1 (fun s hs => hKy.bytes0 (by omega) s (List.mem_of_mem_eraseIdx hs)) (hKy.bytes1 (by omega)), hS5, below3 hb5 (Nat.le_succ _)⟩
    · rw [show takeR k 1 (i : Int) = (⟨k.s0, k.s1.eraseIdx i, k.d⟩, (k.s1[i]?.map (·.1)).getD [], 0) by rw [takeR, hE]; simp]
      rw [hl1] at hi
      subst hk
      clear hl0 hl1 hkd hE
      have htv := Lib.hid (two_vars w A0 n0 c0 A1 n1 c1 d)
      go_enter Try.func15, Try.ntmps15
      go_upto_region 1 with (fail)
      obtain ⟨hB0, hB1, hbel⟩ := htv.out _ rfl
      have hWs := hB1.lt
      generalize hW : (w.alloc (Obj.cells #[.slice A0 n0 c0, .slice A1 n1 c1, .bool d] 49)).alloc (Obj.cells #[.slice none 0 0, .slice none 0 0, .bool false] 49) = W at hB0 hB1 hbel hWs ⊢
      clear hW htv
      have k0 := hB0.cell 0 rfl
      have kf0 := hB0.free 0
      have k1 := hB0.cell 1 rfl
      have kf1 := hB0.free 1
      have k2 := hB0.cell 2 rfl
      have kf2 := hB0.free 2
      have h0W := h0.keep hbel
      have h1W := h1.keep hbel
      go_upto_region 5 with (first | (go_at_call 22; refine (hat _).mono ?_; rintro e xa ⟨rfl, hba⟩; have hB0a := hB0.keep hba; have hB1a := hB1.keep hba; have h0a := h0W.keep hba; have h1a := h1W.keep hba; have k0 := hB0a.cell 0 rfl; have k1 := hB0a.cell 1 rfl; have k2 := hB0a.cell 2 rfl) | (go_at_call 23; refine (own_link A0 n0 c0 L0 A1 n1 c1 L1 d _ h0a h1a).mono ?_; rintro e x1 ⟨B0, d0, M0, B1, d1, M1, rfl, hK, e0, e1, hbx⟩; have hB0x := hB0a.keep hbx; have kf0 := hB0x.free 0; have kf1 := hB0x.free 1; have kf2 := hB0x.free 2; have k0 := hB0x.cell 0 rfl; have k1 := hB0x.cell 1 rfl; have k2 := hB0x.cell 2 rfl))
      have hB0y := store3 (a := .slice B0 n0 d0) (b := .slice B1 n1 d1) (c := .bool d) hB0x
      have hB1y := far3 (p := w.heap.size) (a := .slice B0 n0 d0) (b := .slice B1 n1 d1) (c := .bool d) (hB1a.keep hbx) (by omega)
      have hxa := hba.size
      have hKy := hK.laid hB0x (by omega) B0 B1 n0 n1 d0 d1 d
      have hby := below3 (p := w.heap.size) (a := .slice B0 n0 d0) (b := .slice B1 n1 d1) (c := .bool d) (b_then (b_then hbel hba) hbx) (Nat.le_refl _)
      have hsz : xa.heap.size ≤ (((x1.setCell ⟨w.heap.size, 0, none⟩ (.slice B0 n0 d0)).setCell ⟨w.heap.size, 1, none⟩ (.slice B1 n1 d1)).setCell ⟨w.heap.size, 2, none⟩ (.bool d)).heap.size := by simpa using hbx.size
      generalize hY : ((x1.setCell ⟨w.heap.size, 0, none⟩ (.slice B0 n0 d0)).setCell ⟨w.heap.size, 1, none⟩ (.slice B1 n1 d1)).setCell ⟨w.heap.size, 2, none⟩ (.bool d) = Y at hB0y hB1y hKy hby hsz ⊢
      clear hY hB0 hB1 hB0x hB0a hB1a hbx kf0 kf1 kf2 k0 k1 k2 hK x1 h0W h1W h0a h1a
      have hzz := hB1y.lt
      have hra0 : ∀ q, B0.map (·.block) = some q → w.heap.size + 1 < q ∧ q < Y.heap.size := fun q hq => ⟨by have := hKy.b0 q hq; omega, (hKy.r0.ge q hq).2⟩
      have hra1 : ∀ q, B1.map (·.block) = some q → w.heap.size + 1 < q ∧ q < Y.heap.size := fun q hq => ⟨by have := hKy.b1 q hq; omega, (hKy.r1.ge q hq).2⟩
      obtain ⟨s, g, off, hs, hBe, hc0, hc1, hsb⟩ := hKy.r1.items.at_ i hi
      obtain ⟨g', he, hgB, hgs, hgf⟩ := hKy.r1.form (by omega)
      rw [hBe] at he
      simp only [Option.some.injEq, Addr.mk.injEq, and_true] at he
      obtain ⟨rfl, rfl⟩ := he
      subst hBe
      simp only [Nat.zero_add] at hc0 hc1
      have kx := hB0y.cell 1 rfl
      have kxf := hB0y.free 1
      have i0 : (0 : Int) ≤ (i : Int) := by omega
      have i1 : (i : Int) < (n1 : Int) := by omega
      have i2 : IntKind.i64.wrap ((i : Int) + 1) = (i : Int) + 1 := IntWalk.i64_in _ (by omega)
      have hdel := delete_any xa.heap.size (some ⟨g, 0, none⟩) n1 d1 M1 i Y hKy.r1 hi
      rw [show (((i + 1 : Nat) : Int)) = (i : Int) + 1 by omega] at hdel
      have hdel' := Lib.hid hdel
      clear hdel
      have hfar := hKy.r1.far s (List.mem_of_getElem? hs)
      go_wp2_with fail
      refine hdel'.out.mono ?_
      rintro e x3 ⟨rfl, hD, hkD⟩
      have hpg := (hra1 g rfl).1
      have hkD' : Kept (fun b => b = g) Y x3 := hkD.mono fun b _ e => (Option.some.inj e).symm
      have hB04 := hB0y.kept hkD' (by omega)
      have hB14 := hB1y.kept hkD' (by omega)
      have hJ3 := hKy.r0.items.kept hkD' (fun b hb e => hKy.ne b hb (by rw [e]; rfl)) (fun s hs hn b hb e => hKy.x0 s hs hn g rfl (by rw [hb, e]))
      have hS3 := hsb.far hkD' (fun hn b hb e => hfar hn g rfl (by rw [hb, e]))
      have hB05 := hB04.set 1 (.slice (some ⟨g, 0, none⟩) (n1 - 1) d1)
      have hB15 := hB14.far (p := ⟨w.heap.size, 1, none⟩) (by show w.heap.size + 1 ≠ w.heap.size; omega) (.slice (some ⟨g, 0, none⟩) (n1 - 1) d1)
      have hkS := kept1 (W := x3) (p := w.heap.size) (j := 1) (a := .slice (some ⟨g, 0, none⟩) (n1 - 1) d1)
      have hI4 := (hD.link_set hB04 (link_no8 _ _ _ _ _ _ _) (fun q hq => by have : g = q := Option.some.inj hq; omega) 1 (.slice (some ⟨g, 0, none⟩) (n1 - 1) d1)).items
      have hJ4 := hJ3.kept hkS (fun q hq e => by have := (hra0 q hq).1; omega) (fun s hs hn q hq e => (hJ3.ok s hs).apart hB04 (link_no8 _ _ _ _ _ _ _) hn (by rw [hq, e]))
      have hS4 := hS3.far hkS (fun hn q hq e => hS3.apart hB04 (link_no8 _ _ _ _ _ _ _) hn (by rw [hq, e]))
      have hb5 : Below w.heap.size w (x3.setCell ⟨w.heap.size, 1, none⟩ (.slice (some ⟨g, 0, none⟩) (n1 - 1) d1)) := b_set (b_kept hby hkD' (fun i hi e => by omega)) (Nat.le_refl _) _
      have hsay5 : says (M1.eraseIdx i) = (says L1).eraseIdx i := by rw [← e1]; simp [says, eraseIdx_parts, List.map_take, List.map_drop]
      have hbb : s.b = ((says L1)[i]?.map (·.1)).getD [] := by rw [← e1]; simp [says, List.getElem?_map, hs, ItemV.say]
      have hS5 := hS4.far (kept3 (p := w.heap.size + 1) (a := .slice B0 n0 d0) (b := .slice (some ⟨g, 0, none⟩) (n1 - 1) d1) (c := .bool d)) (fun hn q hq e => hS4.apart hB15 (link_no8 _ _ _ _ _ _ _) hn (by rw [hq, e]))
      rw [hbb] at hS5
      have kf := hB04.free 1
      have k0 := hB05.cell 0 rfl
      have kf0 := hB05.free 0
      have k1 := hB05.cell 1 rfl
      have kf1 := hB05.free 1
      have k2 := hB05.cell 2 rfl
      have kf2 := hB05.free 2
      have z0 := hB15.cell 0 rfl
      have zf0 := hB15.free 0
      have z1 := hB15.cell 1 rfl
      have zf1 := hB15.free 1
      have z2 := hB15.cell 2 rfl
      have zf2 := hB15.free 2
      have hkc := hB04.free 1
      have hkd := hB04.cell 1 rfl
      clear hdel' hra0 hra1
      go_wp2
      exact bodyPost_ret (v := .tuple #[.agg #[.slice B0 n0 d0, .slice (some ⟨g, 0, none⟩) (n1 - 1) d1, .bool d], .slice s.A s.n s.c, .nilIface]) (by simp [results, Try.results15, z0, z1, z2, zf0, zf1, zf2, go_sem]) rfl ⟨_, _, _, _, rfl, link_result d hB15 hJ4 hI4 (fun q hq => by have := hKy.b0 q hq; omega) (fun q hq => by have : g = q := Option.some.inj hq; omega) _ _ e0 hsay5 (hKy.bytes0 (by omega)) (fun s hs => hKy.bytes1 (by omega) s (List.mem_of_mem_eraseIdx hs)), hS5, below3 hb5 (Nat.le_succ _)⟩
/-- What Lose tells. -/
def loseR (k : Lk) (side at_ : Int) : Lk × Int := ((takeR k side at_).1, (takeR k side at_).2.2)
set_option maxHeartbeats 4000000 in
theorem lose_any (A0 : Option Addr) (n0 c0 : Nat) (L0 : List ItemV) (A1 : Option Addr) (n1 c1 : Nat) (L1 : List ItemV) (d : Bool) (k : Lk) (hk : k = ⟨says L0, says L1, d⟩) (side at_ : Int) (w : World) (h0 : Items w A0 n0 c0 L0) (h1 : Items w A1 n1 c1 L1) :
    Calls Try.prog 16 #[(.agg #[.slice A0 n0 c0, .slice A1 n1 c1, .bool d]), .int .i64 side, .int .i64 at_] w (LinkP w (loseR k side at_)) := by
  have htk := fun W g0 g1 => take_any A0 n0 c0 L0 A1 n1 c1 L1 d k hk side at_ W g0 g1
  unfold loseR
  generalize takeR k side at_ = r at htk ⊢
  obtain ⟨⟨s0, s1, dd⟩, bb, er⟩ := r
  generalize hev : errOf er = ev at htk
  have htk' := Lib.hid htk
  have hev' := Lib.hid hev
  clear htk hk hev
  have htv := Lib.hid (two_vars w A0 n0 c0 A1 n1 c1 d)
  go_enter Try.func16, Try.ntmps16
  go_upto_region 1 with (fail)
  obtain ⟨hB0, hB1, hbel⟩ := htv.out _ rfl
  have hWs := hB1.lt
  generalize hW : (w.alloc (Obj.cells #[.slice A0 n0 c0, .slice A1 n1 c1, .bool d] 49)).alloc (Obj.cells #[.slice none 0 0, .slice none 0 0, .bool false] 49) = W at hB0 hB1 hbel hWs ⊢
  clear hW htv
  have k0 := hB0.cell 0 rfl
  have kf0 := hB0.free 0
  have k1 := hB0.cell 1 rfl
  have kf1 := hB0.free 1
  have k2 := hB0.cell 2 rfl
  have kf2 := hB0.free 2
  have h0W := h0.keep hbel
  have h1W := h1.keep hbel
  go_wp2_with (go_at_call 15; refine (htk'.out _ h0W h1W).mono ?_; rintro e x1 ⟨lv, Ab, nb, cb, rfl, ⟨B0, m0, d0, M0, B1, m1, d1, M1, rfl, hI0, hI1, e0, e1, hb0, hb1, hx0, hx1⟩, hbs, hbt⟩; have hB0x := hB0.keep hbt; have hB1x := hB1.keep hbt; have xf0 := hB0x.free 0; have xf1 := hB0x.free 1; have xf2 := hB0x.free 2; have x0 := hB0x.cell 0 rfl; have x1c := hB0x.cell 1 rfl; have x2c := hB0x.cell 2 rfl; have z0 := hB1x.cell 0 rfl; have z1 := hB1x.cell 1 rfl; have z2 := hB1x.cell 2 rfl; have zf0 := hB1x.free 0; have zf1 := hB1x.free 1; have zf2 := hB1x.free 2)
  have hB1y := far3 (p := w.heap.size) (a := .slice B0 m0 d0) (b := .slice B1 m1 d1) (c := .bool dd) hB1x (by omega)
  have hJ0 := hI0.kept (kept3 (p := w.heap.size) (a := .slice B0 m0 d0) (b := .slice B1 m1 d1) (c := .bool dd)) (fun b hb e => by have := hb0 b hb; omega) (fun s hs hn b hb e => (hI0.ok s hs).apart hB0x (link_no8 _ _ _ _ _ _ _) hn (by rw [hb, e]))
  have hJ1 := hI1.kept (kept3 (p := w.heap.size) (a := .slice B0 m0 d0) (b := .slice B1 m1 d1) (c := .bool dd)) (fun b hb e => by have := hb1 b hb; omega) (fun s hs hn b hb e => (hI1.ok s hs).apart hB0x (link_no8 _ _ _ _ _ _ _) hn (by rw [hb, e]))
  exact bodyPost_ret (v := .tuple #[.agg #[.slice B0 m0 d0, .slice B1 m1 d1, .bool dd], errOf er]) (by simp [results, Try.results16, z0, z1, z2, zf0, zf1, zf2, go_sem]) rfl ⟨_, rfl, link_result _ hB1y hJ0 hJ1 (fun q hq => by have := hb0 q hq; omega) (fun q hq => by have := hb1 q hq; omega) _ _ e0 e1 (hx0.low (by omega)) (hx1.low (by omega)), below3 (below3 (b_then hbel hbt) (Nat.le_refl _)) (Nat.le_succ _)⟩

end Go.Proofs.Ytbmfcaobhgeogaa
