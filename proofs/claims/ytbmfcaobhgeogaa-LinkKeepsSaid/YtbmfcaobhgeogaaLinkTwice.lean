/-
  link.Twice, by its contract.
-/
import Derived.Test.YtbmfcaobhgeogaaLinkTake
namespace Go.Proofs.Ytbmfcaobhgeogaa
open Go.RowKit
set_option linter.unusedVariables false
set_option linter.unusedSimpArgs false
set_option maxRecDepth 100000

/-- What Twice tells. -/
def twiceR (k : Lk) (side at_ : Int) : Lk × Int :=
  if atE k side at_ ≠ 0 then (Lk.zero, atE k side at_)
  else if side = 0 then (if 256 ≤ k.s0.length then (Lk.zero, 10) else (⟨k.s0 ++ (k.s0[at_.toNat]?).toList, k.s1, k.d⟩, 0))
  else (if 256 ≤ k.s1.length then (Lk.zero, 10) else (⟨k.s0, k.s1 ++ (k.s1[at_.toNat]?).toList, k.d⟩, 0))

set_option maxHeartbeats 8000000 in
theorem twice_any (A0 : Option Addr) (n0 c0 : Nat) (L0 : List ItemV) (A1 : Option Addr) (n1 c1 : Nat) (L1 : List ItemV) (d : Bool) (k : Lk) (hk : k = ⟨says L0, says L1, d⟩) (side at_ : Int) (w : World) (h0 : Items w A0 n0 c0 L0) (h1 : Items w A1 n1 c1 L1) :
    Calls Try.prog 17 #[(.agg #[.slice A0 n0 c0, .slice A1 n1 c1, .bool d]), .int .i64 side, .int .i64 at_] w (LinkP w (twiceR k side at_)) := by
  have hl0 : k.s0.length = n0 := by rw [hk]; exact (says_len L0).trans h0.len
  have hl1 : k.s1.length = n1 := by rw [hk]; exact (says_len L1).trans h1.len
  have hkd : k.d = d := by rw [hk]
  have hmx0 := h0.max
  have hmx1 := h1.max
  have hat := fun W => at_any A0 n0 c0 A1 n1 c1 k side at_ W hl0 hl1
  rw [hkd] at hat
  rcases atE_cases k side at_ with hE | hE | ⟨hE, hx⟩
  · rw [show twiceR k side at_ = (Lk.zero, 1) by rw [twiceR, hE]; rfl]
    rw [hE, errOf_1] at hat
    clear hl0 hl1 hkd
    have htv := Lib.hid (two_vars w A0 n0 c0 A1 n1 c1 d)
    go_enter Try.func17, Try.ntmps17
    go_upto_region 1 with (fail)
    obtain ⟨hB0, hB1, hbel⟩ := htv.out _ rfl
    have hWs := hB1.lt
    generalize hW : (w.alloc (Obj.cells #[.slice A0 n0 c0, .slice A1 n1 c1, .bool d] 49)).alloc (Obj.cells #[.slice none 0 0, .slice none 0 0, .bool false] 49) = W at hB0 hB1 hbel hWs ⊢
    clear hW htv
    have k0 := hB0.cell 0 rfl
    have kf0 := hB0.free 0
    have k1 := hB0.cell 1 rfl
    have kf1 := hB0.free 1
    have k2 := hB0.cell 2 rfl
    have kf2 := hB0.free 2
    go_wp2_with (go_at_call 22; refine (hat _).mono ?_; rintro e xa ⟨rfl, hba⟩; have hB0a := hB0.keep hba; have k0 := hB0a.cell 0 rfl; have k1 := hB0a.cell 1 rfl; have k2 := hB0a.cell 2 rfl; have hB1a := hB1.keep hba; have z0 := hB1a.cell 0 rfl; have z1 := hB1a.cell 1 rfl; have z2 := hB1a.cell 2 rfl; have zf0 := hB1a.free 0; have zf1 := hB1a.free 1; have zf2 := hB1a.free 2)
    exact bodyPost_ret (v := .tuple #[.agg #[.slice none 0 0, .slice none 0 0, .bool false], .iface 64 (.int .i64 1)]) (by simp [results, Try.results17, z0, z1, z2, zf0, zf1, zf2, go_sem]) rfl ⟨_, rfl, LinkB.zero _ _, below3 (b_then hbel hba) (Nat.le_succ _)⟩
  · rw [show twiceR k side at_ = (Lk.zero, 8) by rw [twiceR, hE]; rfl]
    rw [hE, errOf_8] at hat
    clear hl0 hl1 hkd
    have htv := Lib.hid (two_vars w A0 n0 c0 A1 n1 c1 d)
    go_enter Try.func17, Try.ntmps17
    go_upto_region 1 with (fail)
    obtain ⟨hB0, hB1, hbel⟩ := htv.out _ rfl
    have hWs := hB1.lt
    generalize hW : (w.alloc (Obj.cells #[.slice A0 n0 c0, .slice A1 n1 c1, .bool d] 49)).alloc (Obj.cells #[.slice none 0 0, .slice none 0 0, .bool false] 49) = W at hB0 hB1 hbel hWs ⊢
    clear hW htv
    have k0 := hB0.cell 0 rfl
    have kf0 := hB0.free 0
    have k1 := hB0.cell 1 rfl
    have kf1 := hB0.free 1
    have k2 := hB0.cell 2 rfl
    have kf2 := hB0.free 2
    go_wp2_with (go_at_call 22; refine (hat _).mono ?_; rintro e xa ⟨rfl, hba⟩; have hB0a := hB0.keep hba; have k0 := hB0a.cell 0 rfl; have k1 := hB0a.cell 1 rfl; have k2 := hB0a.cell 2 rfl; have hB1a := hB1.keep hba; have z0 := hB1a.cell 0 rfl; have z1 := hB1a.cell 1 rfl; have z2 := hB1a.cell 2 rfl; have zf0 := hB1a.free 0; have zf1 := hB1a.free 1; have zf2 := hB1a.free 2)
    exact bodyPost_ret (v := .tuple #[.agg #[.slice none 0 0, .slice none 0 0, .bool false], .iface 64 (.int .i64 8)]) (by simp [results, Try.results17, z0, z1, z2, zf0, zf1, zf2, go_sem]) rfl ⟨_, rfl, LinkB.zero _ _, below3 (b_then hbel hba) (Nat.le_succ _)⟩
  · rw [hE, errOf_0] at hat
    rcases hx with ⟨rfl, i, rfl, hi⟩ | ⟨rfl, i, rfl, hi⟩
    · rw [hl0] at hi
      by_cases hf : 256 ≤ n0
      · rw [show twiceR k 0 (i : Int) = (Lk.zero, 10) by rw [twiceR, hE]; simp; omega]
        have hf' : (256 : Int) ≤ (n0 : Int) := by omega
        clear hl0 hl1 hkd hE
        have htv := Lib.hid (two_vars w A0 n0 c0 A1 n1 c1 d)
        go_enter Try.func17, Try.ntmps17
        go_upto_region 1 with (fail)
        obtain ⟨hB0, hB1, hbel⟩ := htv.out _ rfl
        have hWs := hB1.lt
        generalize hW : (w.alloc (Obj.cells #[.slice A0 n0 c0, .slice A1 n1 c1, .bool d] 49)).alloc (Obj.cells #[.slice none 0 0, .slice none 0 0, .bool false] 49) = W at hB0 hB1 hbel hWs ⊢
        clear hW htv
        have k0 := hB0.cell 0 rfl
        have kf0 := hB0.free 0
        have k1 := hB0.cell 1 rfl
        have kf1 := hB0.free 1
        have k2 := hB0.cell 2 rfl
        have kf2 := hB0.free 2
        go_wp2_with (go_at_call 22; refine (hat _).mono ?_; rintro e xa ⟨rfl, hba⟩; have hB0a := hB0.keep hba; have k0 := hB0a.cell 0 rfl; have k1 := hB0a.cell 1 rfl; have k2 := hB0a.cell 2 rfl; have hB1a := hB1.keep hba; have z0 := hB1a.cell 0 rfl; have z1 := hB1a.cell 1 rfl; have z2 := hB1a.cell 2 rfl; have zf0 := hB1a.free 0; have zf1 := hB1a.free 1; have zf2 := hB1a.free 2)
        exact bodyPost_ret (v := .tuple #[.agg #[.slice none 0 0, .slice none 0 0, .bool false], .iface 64 (.int .i64 10)]) (by simp [results, Try.results17, z0, z1, z2, zf0, zf1, zf2, go_sem]) rfl ⟨_, rfl, LinkB.zero _ _, below3 (b_then hbel hba) (Nat.le_succ _)⟩
      · rw [show twiceR k 0 (i : Int) = (⟨k.s0 ++ (k.s0[i]?).toList, k.s1, k.d⟩, 0) by rw [twiceR, hE]; simp; omega]
        have hf' : ¬ (256 : Int) ≤ (n0 : Int) := by omega
        subst hk
        clear hl0 hl1 hkd hE
        have htv := Lib.hid (two_vars w A0 n0 c0 A1 n1 c1 d)
        go_enter Try.func17, Try.ntmps17
        go_upto_region 1 with (fail)
        obtain ⟨hB0, hB1, hbel⟩ := htv.out _ rfl
        have hWs := hB1.lt
        generalize hW : (w.alloc (Obj.cells #[.slice A0 n0 c0, .slice A1 n1 c1, .bool d] 49)).alloc (Obj.cells #[.slice none 0 0, .slice none 0 0, .bool false] 49) = W at hB0 hB1 hbel hWs ⊢
        clear hW htv
        have k0 := hB0.cell 0 rfl
        have kf0 := hB0.free 0
        have k1 := hB0.cell 1 rfl
        have kf1 := hB0.free 1
        have k2 := hB0.cell 2 rfl
        have kf2 := hB0.free 2
        have h0W := h0.keep hbel
        have h1W := h1.keep hbel
        go_upto_region 7 with (first | (go_at_call 22; refine (hat _).mono ?_; rintro e xa ⟨rfl, hba⟩; have hB0a := hB0.keep hba; have hB1a := hB1.keep hba; have h0a := h0W.keep hba; have h1a := h1W.keep hba; have k0 := hB0a.cell 0 rfl; have k1 := hB0a.cell 1 rfl; have k2 := hB0a.cell 2 rfl) | (go_at_call 23; refine (own_link A0 n0 c0 L0 A1 n1 c1 L1 d _ h0a h1a).mono ?_; rintro e x1 ⟨B0, d0, M0, B1, d1, M1, rfl, hK, e0, e1, hbx⟩; have hB0x := hB0a.keep hbx; have kf0 := hB0x.free 0; have kf1 := hB0x.free 1; have kf2 := hB0x.free 2; have k0 := hB0x.cell 0 rfl; have k1 := hB0x.cell 1 rfl; have k2 := hB0x.cell 2 rfl))
        have hB0y := store3 (a := .slice B0 n0 d0) (b := .slice B1 n1 d1) (c := .bool d) hB0x
        have hB1y := far3 (p := w.heap.size) (a := .slice B0 n0 d0) (b := .slice B1 n1 d1) (c := .bool d) (hB1a.keep hbx) (by omega)
        have hxa := hba.size
        have hKy := hK.laid hB0x (by omega) B0 B1 n0 n1 d0 d1 d
        have hby := below3 (p := w.heap.size) (a := .slice B0 n0 d0) (b := .slice B1 n1 d1) (c := .bool d) (b_then (b_then hbel hba) hbx) (Nat.le_refl _)
        have hsz : xa.heap.size ≤ (((x1.setCell ⟨w.heap.size, 0, none⟩ (.slice B0 n0 d0)).setCell ⟨w.heap.size, 1, none⟩ (.slice B1 n1 d1)).setCell ⟨w.heap.size, 2, none⟩ (.bool d)).heap.size := by simpa using hbx.size
        generalize hY : ((x1.setCell ⟨w.heap.size, 0, none⟩ (.slice B0 n0 d0)).setCell ⟨w.heap.size, 1, none⟩ (.slice B1 n1 d1)).setCell ⟨w.heap.size, 2, none⟩ (.bool d) = Y at hB0y hB1y hKy hby hsz ⊢
        clear hY hB0 hB1 hB0x hB0a hB1a hbx kf0 kf1 kf2 k0 k1 k2 hK x1 h0W h1W h0a h1a
        have hzz := hB1y.lt
        have hra0 : ∀ q, B0.map (·.block) = some q → w.heap.size + 1 < q ∧ q < Y.heap.size := fun q hq => ⟨by have := hKy.b0 q hq; omega, (hKy.r0.ge q hq).2⟩
        have hra1 : ∀ q, B1.map (·.block) = some q → w.heap.size + 1 < q ∧ q < Y.heap.size := fun q hq => ⟨by have := hKy.b1 q hq; omega, (hKy.r1.ge q hq).2⟩
        obtain ⟨s, g, off, hs, hBe, hc0, hc1, hsb⟩ := hKy.r0.items.at_ i hi
        obtain ⟨g', he, hgB, hgs, hgf⟩ := hKy.r0.form (by omega)
        rw [hBe] at he
        simp only [Option.some.injEq, Addr.mk.injEq, and_true] at he
        obtain ⟨rfl, rfl⟩ := he
        subst hBe
        simp only [Nat.zero_add] at hc0 hc1
        have kx := hB0y.cell 0 rfl
        have i0 : (0 : Int) ≤ (i : Int) := by omega
        have i1 : (i : Int) < (n0 : Int) := by omega
        have hsbN := hsb.keep (b_alloc (Below.refl Y.heap.size Y) (.cells #[.slice s.A s.n s.c, .bool s.t] 68))
        have hQ := Blk.new Y #[.slice s.A s.n s.c, .bool s.t] 68
        have hQ0 := hQ.cell 0 rfl
        have hQ1 := hQ.cell 1 rfl
        have hQf := hQ.free 0
        go_upto_region 9 with (go_at_call 25; refine (clone_any s.A s.n s.c s.b _ hsbN).mono ?_; rintro e x2 ⟨A3, c3, rfl, hown3, hb3⟩; have hQx := hQ.keep hb3; have hQx0 := hQx.cell 0 rfl; have hQx1 := hQx.cell 1 rfl; have hQxf := hQx.free 0)
        have hal := b_alloc (Below.refl Y.heap.size Y) (.cells #[.slice s.A s.n s.c, .bool s.t] 68)
        have hqA : ∀ q, A3.map (·.block) = some q → Y.heap.size < q := fun q hq => by have := (hown3.ge q hq).1; simp at this; omega
        have hownZ := hown3.kept (kept1 (W := x2) (p := Y.heap.size) (j := 0) (a := .slice A3 s.n c3)) (fun q hq e => by have := hqA q hq; omega)
        have hZ : Below Y.heap.size Y (x2.setCell ⟨Y.heap.size, 0, none⟩ (.slice A3 s.n c3)) := b_set (b_then hal hb3) (Nat.le_refl _) _
        have hQz := hQx.set 0 (.slice A3 s.n c3)
        generalize x2.setCell ⟨Y.heap.size, 0, none⟩ (.slice A3 s.n c3) = Z at hownZ hZ hQz ⊢
        clear hQx hQx0 hQx1 hQxf hQ0 hQ1 hQf hQ hsbN hown3 hb3 hal kx
        have hzZ := hZ.size
        have hQz0 : Z.cell? ⟨Y.heap.size, 0, none⟩ = some (.slice A3 s.n c3) := hQz.cell 0 rfl
        have hQz1 : Z.cell? ⟨Y.heap.size, 1, none⟩ = some (.bool s.t) := hQz.cell 1 rfl
        clear hc0 hc1 hQz
        have hS : Hid (∀ V, Below Y.heap.size Y V → V.cell? ⟨w.heap.size, 0, none⟩ = some (.slice (some ⟨g, 0, none⟩) n0 d0) ∧ V.frozen? ⟨w.heap.size, 0, none⟩ = false) := Lib.hid fun V hV => ⟨(hB0y.keep hV).cell 0 rfl, (hB0y.keep hV).free 0⟩
        have hO : Hid (∀ V, Below Y.heap.size Y V → OwnI V xa.heap.size 68 (some ⟨g, 0, none⟩) n0 d0 M0) := Lib.hid fun V hV => hKy.r0.keep hV
        have hg2 : w.heap.size + 1 < g ∧ g < Y.heap.size := hra0 g rfl
        have hfar : Hid (∀ x ∈ [(⟨A3, s.n, c3, s.b, s.t⟩ : ItemV)], 0 < x.n → ∀ q, (some (⟨g, 0, none⟩ : Addr)).map (·.block) = some q → x.A.map (·.block) ≠ some q) := Lib.hid fun x hx _ q hq e => by
          obtain rfl : x = ⟨A3, s.n, c3, s.b, s.t⟩ := by simpa using hx
          have h1 : g = q := Option.some.inj hq
          have := hqA q e
          omega
        have hn1 : n0 + 1 ≤ 4398046511104 := by omega
        have hV3 := hZ.trans (b_alloc (b_drew (Below.refl Z.heap.size Z)) (.cells #[.slice A3 s.n c3, .bool s.t] 68) |>.mono hzZ)
        have hcd2 := (hS.out _ hZ).1
        have hcd3 := (hS.out _ hV3).1
        have hqd0 : (Z.drew.alloc (.cells #[.slice A3 s.n c3, .bool s.t] 68)).cell? ⟨Y.heap.size, 0, none⟩ = some (.slice A3 s.n c3) := cell_old (w := Z.drew) hQz0 _
        have hqd1 : (Z.drew.alloc (.cells #[.slice A3 s.n c3, .bool s.t] 68)).cell? ⟨Y.heap.size, 1, none⟩ = some (.bool s.t) := cell_old (w := Z.drew) hQz1 _
        have hcd5 := (hS.out _ (hZ.trans (b_alloc (Below.refl Z.heap.size Z) (.cells #[.slice A3 s.n c3, .bool s.t] 68) |>.mono hzZ))).1
        have hqd5 : (Z.alloc (.cells #[.slice A3 s.n c3, .bool s.t] 68)).cell? ⟨Y.heap.size, 0, none⟩ = some (.slice A3 s.n c3) := cell_old hQz0 _
        have hqd6 : (Z.alloc (.cells #[.slice A3 s.n c3, .bool s.t] 68)).cell? ⟨Y.heap.size, 1, none⟩ = some (.bool s.t) := cell_old hQz1 _
        have hra' := Lib.hid hg2
        have hIt := Items.one (w := Z.drew) 68 ⟨A3, s.n, c3, s.b, s.t⟩ hownZ.bs.drew
        have hsz3 : xa.heap.size ≤ (Z.drew.alloc (.cells #[.slice A3 s.n c3, .bool s.t] 68)).heap.size := Nat.le_trans hsz hV3.size
        go_cut [] (fun wx => ∃ A4 c4 M4, Blk wx w.heap.size #[.slice A4 (n0 + 1) c4, .slice B1 n1 d1, .bool d] 49 ∧ Blk wx (w.heap.size + 1) #[.slice none 0 0, .slice none 0 0, .bool false] 49 ∧ Items wx A4 (n0 + 1) c4 M4 ∧ Items wx B1 n1 d1 M1 ∧ (∀ q, A4.map (·.block) = some q → w.heap.size + 1 < q) ∧ says M4 = says L0 ++ ((says L0)[i]?).toList ∧ Below w.heap.size w wx ∧ Bytes w.heap.size M4)
        case first =>
          have hcd2d : Z.drew.cell? ⟨w.heap.size, 0, none⟩ = some (.slice (some ⟨g, 0, none⟩) n0 d0) := hcd2
          go_region_law (first | (refine step_appendI rfl _ _ 46 68 rfl Try.underlying46 Try.info68 xa.heap.size (some ⟨g, 0, none⟩) n0 d0 M0 (some ⟨Z.heap.size, 0, none⟩) 1 1 [⟨A3, s.n, c3, s.b, s.t⟩] (n0 + 1) rfl rfl rfl (hO.out _ hV3) hIt hfar.out hsz3 hn1 ?_; intro A4 c4 x4 hown4 hg4 hat4; have hB04 := (hB0y.keep hV3).grown hg4 (fun e => by have h1 := hra'.out.1; have h2 : g = w.heap.size := Option.some.inj e; omega); have hq4 : x4.cell? ⟨w.heap.size, 0, none⟩ = some (.slice (some ⟨g, 0, none⟩) n0 d0) ∧ x4.frozen? ⟨w.heap.size, 0, none⟩ = false := ⟨hB04.cell 0 rfl, hB04.free 0⟩; have hqc4 := hq4.1; have hff4 := hq4.2))
          all_goals
            go_wp2_with fail
            go_meet
            have hB05 := hB04.set 0 (.slice A4 (n0 + 1) c4)
            have hB15 := ((hB1y.keep hV3).grown hg4 (fun e => by have h2 : g = w.heap.size + 1 := Option.some.inj e; omega)).far (p := ⟨w.heap.size, 0, none⟩) (by show w.heap.size + 1 ≠ w.heap.size; omega) (.slice A4 (n0 + 1) c4)
            have hat5 : ∀ q, A4.map (·.block) = some q → w.heap.size + 1 < q := fun q hq => by
              rcases hat4 with e | e
              · have : g = q := Option.some.inj (e.symm.trans hq); omega
              · have e2 := Option.some.inj (e.symm.trans hq); simp at e2; omega
            have hI4 := (hown4.link_set hB04 (link_no8 _ _ _ _ _ _ _) (fun q hq => by have := hat5 q hq; omega) 0 (.slice A4 (n0 + 1) c4)).items
            have hJ4 := (((hKy.r1.items.keep hV3).grown hg4 (fun q hq => hKy.ne q hq) (fun s hs hn q hq => hKy.x1 s hs hn q hq)).kept (S := fun i => i = w.heap.size) (kept1 (W := x4) (p := w.heap.size) (j := 0) (a := .slice A4 (n0 + 1) c4)) (fun q hq e => by have := hKy.b1 q hq; omega) (fun s hs hn q hq e => (((hKy.r1.items.keep hV3).grown hg4 (fun q hq => hKy.ne q hq) (fun s hs hn q hq => hKy.x1 s hs hn q hq)).ok s hs).apart hB04 (link_no8 _ _ _ _ _ _ _) hn (by rw [hq, e])))
            have hb5 : Below w.heap.size w (x4.setCell ⟨w.heap.size, 0, none⟩ (.slice A4 (n0 + 1) c4)) := b_set (b_grown (b_then hby hV3) hg4 (fun q hq => by have : g = q := Option.some.inj hq; omega)) (Nat.le_refl _) _
            have hsay5 : says (M0 ++ [⟨A3, s.n, c3, s.b, s.t⟩]) = says L0 ++ ((says L0)[i]?).toList := by rw [← e0]; simp [says, ItemV.say, List.getElem?_map, hs]
            have hxx5 : Bytes w.heap.size (M0 ++ [⟨A3, s.n, c3, s.b, s.t⟩]) := fun s9 hs9 hn q hq => by
              rcases List.mem_append.1 hs9 with hs9 | hs9
              · exact hKy.bytes0 (by omega) s9 hs9 hn q hq
              · obtain rfl : s9 = ⟨A3, s.n, c3, s.b, s.t⟩ := by simpa using hs9
                have h8 := hqA q hq
                omega
            exact ⟨A4, c4, _, hB05, hB15, hI4, hJ4, hat5, hsay5, hb5, hxx5⟩
        case rest =>
          obtain ⟨A4, c4, M4, hB05, hB15, hI4, hJ4, hat5, hsay5, hb5, hxx5⟩ := hcut
          have k0 := hB05.cell 0 rfl
          have kf0 := hB05.free 0
          have k1 := hB05.cell 1 rfl
          have kf1 := hB05.free 1
          have k2 := hB05.cell 2 rfl
          have kf2 := hB05.free 2
          have z0 := hB15.cell 0 rfl
          have zf0 := hB15.free 0
          have z1 := hB15.cell 1 rfl
          have zf1 := hB15.free 1
          have z2 := hB15.cell 2 rfl
          have zf2 := hB15.free 2
          clear hQz0 hQz1 hS hO hfar hIt hcd2 hcd3 hqd0 hqd1 hcd5 hqd5 hqd6 hra'
          go_wp2
          exact bodyPost_ret (v := .tuple #[.agg #[.slice A4 (n0 + 1) c4, .slice B1 n1 d1, .bool d], .nilIface]) (by simp [results, Try.results17, z0, z1, z2, zf0, zf1, zf2, go_sem]) rfl ⟨_, rfl, link_result d hB15 hI4 hJ4 hat5 (fun q hq => by have := hKy.b1 q hq; omega) _ _ hsay5 e1 hxx5 (hKy.bytes1 (by omega)), below3 hb5 (Nat.le_succ _)⟩
    · rw [hl1] at hi
      by_cases hf : 256 ≤ n1
      · rw [show twiceR k 1 (i : Int) = (Lk.zero, 10) by rw [twiceR, hE]; simp; omega]
        have hf' : (256 : Int) ≤ (n1 : Int) := by omega
        clear hl0 hl1 hkd hE
        have htv := Lib.hid (two_vars w A0 n0 c0 A1 n1 c1 d)
        go_enter Try.func17, Try.ntmps17
        go_upto_region 1 with (fail)
        obtain ⟨hB0, hB1, hbel⟩ := htv.out _ rfl
        have hWs := hB1.lt
        generalize hW : (w.alloc (Obj.cells #[.slice A0 n0 c0, .slice A1 n1 c1, .bool d] 49)).alloc (Obj.cells #[.slice none 0 0, .slice none 0 0, .bool false] 49) = W at hB0 hB1 hbel hWs ⊢
        clear hW htv
        have k0 := hB0.cell 0 rfl
        have kf0 := hB0.free 0
        have k1 := hB0.cell 1 rfl
        have kf1 := hB0.free 1
        have k2 := hB0.cell 2 rfl
        have kf2 := hB0.free 2
        go_wp2_with (go_at_call 22; refine (hat _).mono ?_; rintro e xa ⟨rfl, hba⟩; have hB0a := hB0.keep hba; have k0 := hB0a.cell 0 rfl; have k1 := hB0a.cell 1 rfl; have k2 := hB0a.cell 2 rfl; have hB1a := hB1.keep hba; have z0 := hB1a.cell 0 rfl; have z1 := hB1a.cell 1 rfl; have z2 := hB1a.cell 2 rfl; have zf0 := hB1a.free 0; have zf1 := hB1a.free 1; have zf2 := hB1a.free 2)
        exact bodyPost_ret (v := .tuple #[.agg #[.slice none 0 0, .slice none 0 0, .bool false], .iface 64 (.int .i64 10)]) (by simp [results, Try.results17, z0, z1, z2, zf0, zf1, zf2, go_sem]) rfl ⟨_, rfl, LinkB.zero _ _, below3 (b_then hbel hba) (Nat.le_succ _)⟩
      · rw [show twiceR k 1 (i : Int) = (⟨k.s0, k.s1 ++ (k.s1[i]?).toList, k.d⟩, 0) by rw [twiceR, hE]; simp; omega]
        have hf' : ¬ (256 : Int) ≤ (n1 : Int) := by omega
        subst hk
        clear hl0 hl1 hkd hE
        have htv := Lib.hid (two_vars w A0 n0 c0 A1 n1 c1 d)
        go_enter Try.func17, Try.ntmps17
        go_upto_region 1 with (fail)
        obtain ⟨hB0, hB1, hbel⟩ := htv.out _ rfl
        have hWs := hB1.lt
        generalize hW : (w.alloc (Obj.cells #[.slice A0 n0 c0, .slice A1 n1 c1, .bool d] 49)).alloc (Obj.cells #[.slice none 0 0, .slice none 0 0, .bool false] 49) = W at hB0 hB1 hbel hWs ⊢
        clear hW htv
        have k0 := hB0.cell 0 rfl
        have kf0 := hB0.free 0
        have k1 := hB0.cell 1 rfl
        have kf1 := hB0.free 1
        have k2 := hB0.cell 2 rfl
        have kf2 := hB0.free 2
        have h0W := h0.keep hbel
        have h1W := h1.keep hbel
        go_upto_region 7 with (first | (go_at_call 22; refine (hat _).mono ?_; rintro e xa ⟨rfl, hba⟩; have hB0a := hB0.keep hba; have hB1a := hB1.keep hba; have h0a := h0W.keep hba; have h1a := h1W.keep hba; have k0 := hB0a.cell 0 rfl; have k1 := hB0a.cell 1 rfl; have k2 := hB0a.cell 2 rfl) | (go_at_call 23; refine (own_link A0 n0 c0 L0 A1 n1 c1 L1 d _ h0a h1a).mono ?_; rintro e x1 ⟨B0, d0, M0, B1, d1, M1, rfl, hK, e0, e1, hbx⟩; have hB0x := hB0a.keep hbx; have kf0 := hB0x.free 0; have kf1 := hB0x.free 1; have kf2 := hB0x.free 2; have k0 := hB0x.cell 0 rfl; have k1 := hB0x.cell 1 rfl; have k2 := hB0x.cell 2 rfl))
        have hB0y := store3 (a := .slice B0 n0 d0) (b := .slice B1 n1 d1) (c := .bool d) hB0x
        have hB1y := far3 (p := w.heap.size) (a := .slice B0 n0 d0) (b := .slice B1 n1 d1) (c := .bool d) (hB1a.keep hbx) (by omega)
        have hxa := hba.size
        have hKy := hK.laid hB0x (by omega) B0 B1 n0 n1 d0 d1 d
        have hby := below3 (p := w.heap.size) (a := .slice B0 n0 d0) (b := .slice B1 n1 d1) (c := .bool d) (b_then (b_then hbel hba) hbx) (Nat.le_refl _)
        have hsz : xa.heap.size ≤ (((x1.setCell ⟨w.heap.size, 0, none⟩ (.slice B0 n0 d0)).setCell ⟨w.heap.size, 1, none⟩ (.slice B1 n1 d1)).setCell ⟨w.heap.size, 2, none⟩ (.bool d)).heap.size := by simpa using hbx.size
        generalize hY : ((x1.setCell ⟨w.heap.size, 0, none⟩ (.slice B0 n0 d0)).setCell ⟨w.heap.size, 1, none⟩ (.slice B1 n1 d1)).setCell ⟨w.heap.size, 2, none⟩ (.bool d) = Y at hB0y hB1y hKy hby hsz ⊢
        clear hY hB0 hB1 hB0x hB0a hB1a hbx kf0 kf1 kf2 k0 k1 k2 hK x1 h0W h1W h0a h1a
        have hzz := hB1y.lt
        have hra0 : ∀ q, B0.map (·.block) = some q → w.heap.size + 1 < q ∧ q < Y.heap.size := fun q hq => ⟨by have := hKy.b0 q hq; omega, (hKy.r0.ge q hq).2⟩
        have hra1 : ∀ q, B1.map (·.block) = some q → w.heap.size + 1 < q ∧ q < Y.heap.size := fun q hq => ⟨by have := hKy.b1 q hq; omega, (hKy.r1.ge q hq).2⟩
        obtain ⟨s, g, off, hs, hBe, hc0, hc1, hsb⟩ := hKy.r1.items.at_ i hi
        obtain ⟨g', he, hgB, hgs, hgf⟩ := hKy.r1.form (by omega)
        rw [hBe] at he
        simp only [Option.some.injEq, Addr.mk.injEq, and_true] at he
        obtain ⟨rfl, rfl⟩ := he
        subst hBe
        simp only [Nat.zero_add] at hc0 hc1
        have kx := hB0y.cell 1 rfl
        have i0 : (0 : Int) ≤ (i : Int) := by omega
        have i1 : (i : Int) < (n1 : Int) := by omega
        have hsbN := hsb.keep (b_alloc (Below.refl Y.heap.size Y) (.cells #[.slice s.A s.n s.c, .bool s.t] 68))
        have hQ := Blk.new Y #[.slice s.A s.n s.c, .bool s.t] 68
        have hQ0 := hQ.cell 0 rfl
        have hQ1 := hQ.cell 1 rfl
        have hQf := hQ.free 0
        go_upto_region 9 with (go_at_call 25; refine (clone_any s.A s.n s.c s.b _ hsbN).mono ?_; rintro e x2 ⟨A3, c3, rfl, hown3, hb3⟩; have hQx := hQ.keep hb3; have hQx0 := hQx.cell 0 rfl; have hQx1 := hQx.cell 1 rfl; have hQxf := hQx.free 0)
        have hal := b_alloc (Below.refl Y.heap.size Y) (.cells #[.slice s.A s.n s.c, .bool s.t] 68)
        have hqA : ∀ q, A3.map (·.block) = some q → Y.heap.size < q := fun q hq => by have := (hown3.ge q hq).1; simp at this; omega
        have hownZ := hown3.kept (kept1 (W := x2) (p := Y.heap.size) (j := 0) (a := .slice A3 s.n c3)) (fun q hq e => by have := hqA q hq; omega)
        have hZ : Below Y.heap.size Y (x2.setCell ⟨Y.heap.size, 0, none⟩ (.slice A3 s.n c3)) := b_set (b_then hal hb3) (Nat.le_refl _) _
        have hQz := hQx.set 0 (.slice A3 s.n c3)
        generalize x2.setCell ⟨Y.heap.size, 0, none⟩ (.slice A3 s.n c3) = Z at hownZ hZ hQz ⊢
        clear hQx hQx0 hQx1 hQxf hQ0 hQ1 hQf hQ hsbN hown3 hb3 hal kx
        have hzZ := hZ.size
        have hQz0 : Z.cell? ⟨Y.heap.size, 0, none⟩ = some (.slice A3 s.n c3) := hQz.cell 0 rfl
        have hQz1 : Z.cell? ⟨Y.heap.size, 1, none⟩ = some (.bool s.t) := hQz.cell 1 rfl
        clear hc0 hc1 hQz
        have hS : Hid (∀ V, Below Y.heap.size Y V → V.cell? ⟨w.heap.size, 1, none⟩ = some (.slice (some ⟨g, 0, none⟩) n1 d1) ∧ V.frozen? ⟨w.heap.size, 1, none⟩ = false) := Lib.hid fun V hV => ⟨(hB0y.keep hV).cell 1 rfl, (hB0y.keep hV).free 1⟩
        have hO : Hid (∀ V, Below Y.heap.size Y V → OwnI V xa.heap.size 68 (some ⟨g, 0, none⟩) n1 d1 M1) := Lib.hid fun V hV => hKy.r1.keep hV
        have hg2 : w.heap.size + 1 < g ∧ g < Y.heap.size := hra1 g rfl
        have hfar : Hid (∀ x ∈ [(⟨A3, s.n, c3, s.b, s.t⟩ : ItemV)], 0 < x.n → ∀ q, (some (⟨g, 0, none⟩ : Addr)).map (·.block) = some q → x.A.map (·.block) ≠ some q) := Lib.hid fun x hx _ q hq e => by
          obtain rfl : x = ⟨A3, s.n, c3, s.b, s.t⟩ := by simpa using hx
          have h1 : g = q := Option.some.inj hq
          have := hqA q e
          omega
        have hn1 : n1 + 1 ≤ 4398046511104 := by omega
        have hV3 := hZ.trans (b_alloc (b_drew (Below.refl Z.heap.size Z)) (.cells #[.slice A3 s.n c3, .bool s.t] 68) |>.mono hzZ)
        have hcd2 := (hS.out _ hZ).1
        have hcd3 := (hS.out _ hV3).1
        have hqd0 : (Z.drew.alloc (.cells #[.slice A3 s.n c3, .bool s.t] 68)).cell? ⟨Y.heap.size, 0, none⟩ = some (.slice A3 s.n c3) := cell_old (w := Z.drew) hQz0 _
        have hqd1 : (Z.drew.alloc (.cells #[.slice A3 s.n c3, .bool s.t] 68)).cell? ⟨Y.heap.size, 1, none⟩ = some (.bool s.t) := cell_old (w := Z.drew) hQz1 _
        have hcd5 := (hS.out _ (hZ.trans (b_alloc (Below.refl Z.heap.size Z) (.cells #[.slice A3 s.n c3, .bool s.t] 68) |>.mono hzZ))).1
        have hqd5 : (Z.alloc (.cells #[.slice A3 s.n c3, .bool s.t] 68)).cell? ⟨Y.heap.size, 0, none⟩ = some (.slice A3 s.n c3) := cell_old hQz0 _
        have hqd6 : (Z.alloc (.cells #[.slice A3 s.n c3, .bool s.t] 68)).cell? ⟨Y.heap.size, 1, none⟩ = some (.bool s.t) := cell_old hQz1 _
        have hra' := Lib.hid hg2
        have hIt := Items.one (w := Z.drew) 68 ⟨A3, s.n, c3, s.b, s.t⟩ hownZ.bs.drew
        have hsz3 : xa.heap.size ≤ (Z.drew.alloc (.cells #[.slice A3 s.n c3, .bool s.t] 68)).heap.size := Nat.le_trans hsz hV3.size
        go_cut [] (fun wx => ∃ A4 c4 M4, Blk wx w.heap.size #[.slice B0 n0 d0, .slice A4 (n1 + 1) c4, .bool d] 49 ∧ Blk wx (w.heap.size + 1) #[.slice none 0 0, .slice none 0 0, .bool false] 49 ∧ Items wx A4 (n1 + 1) c4 M4 ∧ Items wx B0 n0 d0 M0 ∧ (∀ q, A4.map (·.block) = some q → w.heap.size + 1 < q) ∧ says M4 = says L1 ++ ((says L1)[i]?).toList ∧ Below w.heap.size w wx ∧ Bytes w.heap.size M4)
        case first =>
          have hcd2d : Z.drew.cell? ⟨w.heap.size, 1, none⟩ = some (.slice (some ⟨g, 0, none⟩) n1 d1) := hcd2
          go_region_law (first | (refine step_appendI rfl _ _ 46 68 rfl Try.underlying46 Try.info68 xa.heap.size (some ⟨g, 0, none⟩) n1 d1 M1 (some ⟨Z.heap.size, 0, none⟩) 1 1 [⟨A3, s.n, c3, s.b, s.t⟩] (n1 + 1) rfl rfl rfl (hO.out _ hV3) hIt hfar.out hsz3 hn1 ?_; intro A4 c4 x4 hown4 hg4 hat4; have hB04 := (hB0y.keep hV3).grown hg4 (fun e => by have h1 := hra'.out.1; have h2 : g = w.heap.size := Option.some.inj e; omega); have hq4 : x4.cell? ⟨w.heap.size, 1, none⟩ = some (.slice (some ⟨g, 0, none⟩) n1 d1) ∧ x4.frozen? ⟨w.heap.size, 1, none⟩ = false := ⟨hB04.cell 1 rfl, hB04.free 1⟩; have hqc4 := hq4.1; have hff4 := hq4.2))
          all_goals
            go_wp2_with fail
            go_meet
            have hB05 := hB04.set 1 (.slice A4 (n1 + 1) c4)
            have hB15 := ((hB1y.keep hV3).grown hg4 (fun e => by have h2 : g = w.heap.size + 1 := Option.some.inj e; omega)).far (p := ⟨w.heap.size, 1, none⟩) (by show w.heap.size + 1 ≠ w.heap.size; omega) (.slice A4 (n1 + 1) c4)
            have hat5 : ∀ q, A4.map (·.block) = some q → w.heap.size + 1 < q := fun q hq => by
              rcases hat4 with e | e
              · have : g = q := Option.some.inj (e.symm.trans hq); omega
              · have e2 := Option.some.inj (e.symm.trans hq); simp at e2; omega
            have hI4 := (hown4.link_set hB04 (link_no8 _ _ _ _ _ _ _) (fun q hq => by have := hat5 q hq; omega) 1 (.slice A4 (n1 + 1) c4)).items
            have hJ4 := (((hKy.r0.items.keep hV3).grown hg4 (fun q hq => fun e => hKy.ne q e hq) (fun s hs hn q hq => hKy.x0 s hs hn q hq)).kept (S := fun i => i = w.heap.size) (kept1 (W := x4) (p := w.heap.size) (j := 1) (a := .slice A4 (n1 + 1) c4)) (fun q hq e => by have := hKy.b0 q hq; omega) (fun s hs hn q hq e => (((hKy.r0.items.keep hV3).grown hg4 (fun q hq => fun e => hKy.ne q e hq) (fun s hs hn q hq => hKy.x0 s hs hn q hq)).ok s hs).apart hB04 (link_no8 _ _ _ _ _ _ _) hn (by rw [hq, e])))
            have hb5 : Below w.heap.size w (x4.setCell ⟨w.heap.size, 1, none⟩ (.slice A4 (n1 + 1) c4)) := b_set (b_grown (b_then hby hV3) hg4 (fun q hq => by have : g = q := Option.some.inj hq; omega)) (Nat.le_refl _) _
            have hsay5 : says (M1 ++ [⟨A3, s.n, c3, s.b, s.t⟩]) = says L1 ++ ((says L1)[i]?).toList := by rw [← e1]; simp [says, ItemV.say, List.getElem?_map, hs]
            have hxx5 : Bytes w.heap.size (M1 ++ [⟨A3, s.n, c3, s.b, s.t⟩]) := fun s9 hs9 hn q hq => by
              rcases List.mem_append.1 hs9 with hs9 | hs9
              · exact hKy.bytes1 (by omega) s9 hs9 hn q hq
              · obtain rfl : s9 = ⟨A3, s.n, c3, s.b, s.t⟩ := by simpa using hs9
                have h8 := hqA q hq
                omega
            exact ⟨A4, c4, _, hB05, hB15, hI4, hJ4, hat5, hsay5, hb5, hxx5⟩
        case rest =>
          obtain ⟨A4, c4, M4, hB05, hB15, hI4, hJ4, hat5, hsay5, hb5, hxx5⟩ := hcut
          have k0 := hB05.cell 0 rfl
          have kf0 := hB05.free 0
          have k1 := hB05.cell 1 rfl
          have kf1 := hB05.free 1
          have k2 := hB05.cell 2 rfl
          have kf2 := hB05.free 2
          have z0 := hB15.cell 0 rfl
          have zf0 := hB15.free 0
          have z1 := hB15.cell 1 rfl
          have zf1 := hB15.free 1
          have z2 := hB15.cell 2 rfl
          have zf2 := hB15.free 2
          clear hQz0 hQz1 hS hO hfar hIt hcd2 hcd3 hqd0 hqd1 hcd5 hqd5 hqd6 hra'
          go_wp2
          exact bodyPost_ret (v := .tuple #[.agg #[.slice B0 n0 d0, .slice A4 (n1 + 1) c4, .bool d], .nilIface]) (by simp [results, Try.results17, z0, z1, z2, zf0, zf1, zf2, go_sem]) rfl ⟨_, rfl, link_result d hB15 hJ4 hI4 (fun q hq => by have := hKy.b0 q hq; omega) hat5 _ _ e0 hsay5 (hKy.bytes0 (by omega)) hxx5, below3 hb5 (Nat.le_succ _)⟩

end Go.Proofs.Ytbmfcaobhgeogaa
