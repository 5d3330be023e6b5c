/-
  link.Send, by its contract.
-/
import Derived.Test.YtbmfcaobhgeogaaLinkKit
import Derived.Deep.DeepCutAuto
import Derived.Deep.AppendLies
import Derived.Deep.RegionLaw
namespace Go.Proofs.Ytbmfcaobhgeogaa
open Go.RowKit
set_option linter.unusedVariables false
set_option linter.unusedSimpArgs false
set_option maxRecDepth 100000

/-- What Send tells. -/
def sendR (k : Lk) (side : Int) (b : List Nat) : Lk × Int :=
  if side ≠ 0 ∧ side ≠ 1 then (Lk.zero, 1) else if 1048576 < b.length then (Lk.zero, 2) else if k.d then (k, 0)
  else if 256 ≤ (if side = 0 then k.s0 else k.s1).length then (Lk.zero, 10)
  else if side = 0 then (⟨k.s0 ++ [(b, false)], k.s1, k.d⟩, 0) else (⟨k.s0, k.s1 ++ [(b, false)], k.d⟩, 0)
/-- A link and an error are handed back. -/
def LinkP (w : World) (r : Lk × Int) (e : Ending) (w' : World) : Prop := ∃ lv, e = .returned (.tuple #[lv, errOf r.2]) ∧ LinkB w' w.heap.size lv r.1 ∧ Below w.heap.size w w'
/-- The two variables of a call: the link, and the result. -/
theorem two_vars (w : World) (A0 : Option Addr) (n0 c0 : Nat) (A1 : Option Addr) (n1 c1 : Nat) (d : Bool) : ∀ W, W = (w.alloc (.cells #[.slice A0 n0 c0, .slice A1 n1 c1, .bool d] 49)).alloc (.cells #[.slice none 0 0, .slice none 0 0, .bool false] 49) → Blk W w.heap.size #[.slice A0 n0 c0, .slice A1 n1 c1, .bool d] 49 ∧ Blk W (w.heap.size + 1) #[.slice none 0 0, .slice none 0 0, .bool false] 49 ∧ Below w.heap.size w W := by
  rintro W rfl
  have h := Blk.new (w.alloc (.cells #[.slice A0 n0 c0, .slice A1 n1 c1, .bool d] 49)) #[.slice none 0 0, .slice none 0 0, .bool false] 49
  have hs : (w.alloc (.cells #[.slice A0 n0 c0, .slice A1 n1 c1, .bool d] 49)).heap.size = w.heap.size + 1 := by simp
  rw [hs] at h
  exact ⟨(Blk.new w _ _).alloc _, h, b_alloc (b_alloc (Below.refl _ _) _) _⟩
set_option maxHeartbeats 8000000 in
theorem send_any (A0 : Option Addr) (n0 c0 : Nat) (L0 : List ItemV) (A1 : Option Addr) (n1 c1 : Nat) (L1 : List ItemV) (d : Bool) (k : Lk) (hk : k = ⟨says L0, says L1, d⟩) (side : Int) (A : Option Addr) (n c : Nat) (b : List Nat) (w : World) (h0 : Items w A0 n0 c0 L0) (h1 : Items w A1 n1 c1 L1) (hb : Bs w A n c b) :
    Calls Try.prog 19 #[(.agg #[.slice A0 n0 c0, .slice A1 n1 c1, .bool d]), .int .i64 side, .slice A n c] w (LinkP w (sendR k side b)) := by
  have hl0 : k.s0.length = n0 := by rw [hk]; exact (says_len L0).trans h0.len
  have hl1 : k.s1.length = n1 := by rw [hk]; exact (says_len L1).trans h1.len
  have hkd : k.d = d := by rw [hk]
  have hlb := hb.len
  have hm := hb.max
  by_cases hs : side ≠ 0 ∧ side ≠ 1
  · rw [show sendR k side b = (Lk.zero, 1) by rw [sendR, if_pos hs]]
    obtain ⟨hs0, hs1⟩ := hs
    have b0 : (side != 0) = true := by simp [hs0]
    have b1 : (side != 1) = true := by simp [hs1]
    clear hl0 hl1 hlb hkd hm
    have htv := Lib.hid (two_vars w A0 n0 c0 A1 n1 c1 d)
    go_enter Try.func19, Try.ntmps19
    go_upto_region 1 with (fail)
    obtain ⟨hB0, hB1, hbel⟩ := htv.out _ rfl
    have hWs := hB1.lt
    generalize hW : (w.alloc (Obj.cells #[.slice A0 n0 c0, .slice A1 n1 c1, .bool d] 49)).alloc (Obj.cells #[.slice none 0 0, .slice none 0 0, .bool false] 49) = W at hB0 hB1 hbel hWs ⊢
    clear hW htv
    have z0 := hB1.cell 0 rfl
    have zf0 := hB1.free 0
    have z1 := hB1.cell 1 rfl
    have zf1 := hB1.free 1
    have z2 := hB1.cell 2 rfl
    have zf2 := hB1.free 2
    go_wp2
    exact bodyPost_ret (v := .tuple #[.agg #[.slice none 0 0, .slice none 0 0, .bool false], .iface 64 (.int .i64 1)]) (by simp [results, Try.results19, z0, z1, z2, zf0, zf1, zf2, go_sem]) rfl ⟨_, rfl, LinkB.zero _ _, below3 hbel (Nat.le_succ _)⟩
  · have hs' : side = 0 ∨ side = 1 := by omega
    by_cases hlen : 1048576 < n
    · rw [show sendR k side b = (Lk.zero, 2) by rw [sendR, if_neg hs, if_pos (by omega)]]
      have hlen' : (1048576 : Int) < (n : Int) := by omega
      clear hs
      rcases hs' with rfl | rfl
      · skip
        clear hl0 hl1 hlb hkd hm
        have htv := Lib.hid (two_vars w A0 n0 c0 A1 n1 c1 d)
        go_enter Try.func19, Try.ntmps19
        go_upto_region 1 with (fail)
        obtain ⟨hB0, hB1, hbel⟩ := htv.out _ rfl
        have hWs := hB1.lt
        generalize hW : (w.alloc (Obj.cells #[.slice A0 n0 c0, .slice A1 n1 c1, .bool d] 49)).alloc (Obj.cells #[.slice none 0 0, .slice none 0 0, .bool false] 49) = W at hB0 hB1 hbel hWs ⊢
        clear hW htv
        have z0 := hB1.cell 0 rfl
        have zf0 := hB1.free 0
        have z1 := hB1.cell 1 rfl
        have zf1 := hB1.free 1
        have z2 := hB1.cell 2 rfl
        have zf2 := hB1.free 2
        go_wp2
        exact bodyPost_ret (v := .tuple #[.agg #[.slice none 0 0, .slice none 0 0, .bool false], .iface 64 (.int .i64 2)]) (by simp [results, Try.results19, z0, z1, z2, zf0, zf1, zf2, go_sem]) rfl ⟨_, rfl, LinkB.zero _ _, below3 hbel (Nat.le_succ _)⟩
      · skip
        clear hl0 hl1 hlb hkd hm
        have htv := Lib.hid (two_vars w A0 n0 c0 A1 n1 c1 d)
        go_enter Try.func19, Try.ntmps19
        go_upto_region 1 with (fail)
        obtain ⟨hB0, hB1, hbel⟩ := htv.out _ rfl
        have hWs := hB1.lt
        generalize hW : (w.alloc (Obj.cells #[.slice A0 n0 c0, .slice A1 n1 c1, .bool d] 49)).alloc (Obj.cells #[.slice none 0 0, .slice none 0 0, .bool false] 49) = W at hB0 hB1 hbel hWs ⊢
        clear hW htv
        have z0 := hB1.cell 0 rfl
        have zf0 := hB1.free 0
        have z1 := hB1.cell 1 rfl
        have zf1 := hB1.free 1
        have z2 := hB1.cell 2 rfl
        have zf2 := hB1.free 2
        go_wp2
        exact bodyPost_ret (v := .tuple #[.agg #[.slice none 0 0, .slice none 0 0, .bool false], .iface 64 (.int .i64 2)]) (by simp [results, Try.results19, z0, z1, z2, zf0, zf1, zf2, go_sem]) rfl ⟨_, rfl, LinkB.zero _ _, below3 hbel (Nat.le_succ _)⟩
    · have hlen' : ¬ (1048576 : Int) < (n : Int) := by omega
      cases d with
      | true =>
        rw [show sendR k side b = (k, 0) by rw [sendR, if_neg hs, if_neg (by omega), if_pos hkd]]
        subst hk
        clear hs
        rcases hs' with rfl | rfl
        · skip
          clear hl0 hl1 hlb hkd hm
          have htv := Lib.hid (two_vars w A0 n0 c0 A1 n1 c1 true)
          go_enter Try.func19, Try.ntmps19
          go_upto_region 1 with (fail)
          obtain ⟨hB0, hB1, hbel⟩ := htv.out _ rfl
          have hWs := hB1.lt
          generalize hW : (w.alloc (Obj.cells #[.slice A0 n0 c0, .slice A1 n1 c1, .bool true] 49)).alloc (Obj.cells #[.slice none 0 0, .slice none 0 0, .bool false] 49) = W at hB0 hB1 hbel hWs ⊢
          clear hW htv
          have k0 := hB0.cell 0 rfl
          have kf0 := hB0.free 0
          have k1 := hB0.cell 1 rfl
          have kf1 := hB0.free 1
          have k2 := hB0.cell 2 rfl
          have kf2 := hB0.free 2
          have h0W := h0.keep hbel
          have h1W := h1.keep hbel
          go_wp2_with (refine (own_link A0 n0 c0 L0 A1 n1 c1 L1 true _ h0W h1W).mono ?_; rintro e x1 ⟨B0, d0, M0, B1, d1, M1, rfl, hK, e0, e1, hbx⟩; have hB1x := hB1.keep hbx; have z0 := hB1x.cell 0 rfl; have z1 := hB1x.cell 1 rfl; have z2 := hB1x.cell 2 rfl; have zf0 := hB1x.free 0; have zf1 := hB1x.free 1; have zf2 := hB1x.free 2)
          exact bodyPost_ret (v := .tuple #[.agg #[.slice B0 n0 d0, .slice B1 n1 d1, .bool true], .nilIface]) (by simp [results, Try.results19, z0, z1, z2, zf0, zf1, zf2, go_sem]) rfl ⟨_, rfl, link_result true hB1x hK.r0.items hK.r1.items (fun q hq => by have := hK.b0 q hq; omega) (fun q hq => by have := hK.b1 q hq; omega) _ _ e0 e1 (hK.bytes0 (by omega)) (hK.bytes1 (by omega)), below3 (b_then hbel hbx) (Nat.le_succ _)⟩
        · skip
          clear hl0 hl1 hlb hkd hm
          have htv := Lib.hid (two_vars w A0 n0 c0 A1 n1 c1 true)
          go_enter Try.func19, Try.ntmps19
          go_upto_region 1 with (fail)
          obtain ⟨hB0, hB1, hbel⟩ := htv.out _ rfl
          have hWs := hB1.lt
          generalize hW : (w.alloc (Obj.cells #[.slice A0 n0 c0, .slice A1 n1 c1, .bool true] 49)).alloc (Obj.cells #[.slice none 0 0, .slice none 0 0, .bool false] 49) = W at hB0 hB1 hbel hWs ⊢
          clear hW htv
          have k0 := hB0.cell 0 rfl
          have kf0 := hB0.free 0
          have k1 := hB0.cell 1 rfl
          have kf1 := hB0.free 1
          have k2 := hB0.cell 2 rfl
          have kf2 := hB0.free 2
          have h0W := h0.keep hbel
          have h1W := h1.keep hbel
          go_wp2_with (refine (own_link A0 n0 c0 L0 A1 n1 c1 L1 true _ h0W h1W).mono ?_; rintro e x1 ⟨B0, d0, M0, B1, d1, M1, rfl, hK, e0, e1, hbx⟩; have hB1x := hB1.keep hbx; have z0 := hB1x.cell 0 rfl; have z1 := hB1x.cell 1 rfl; have z2 := hB1x.cell 2 rfl; have zf0 := hB1x.free 0; have zf1 := hB1x.free 1; have zf2 := hB1x.free 2)
          exact bodyPost_ret (v := .tuple #[.agg #[.slice B0 n0 d0, .slice B1 n1 d1, .bool true], .nilIface]) (by simp [results, Try.results19, z0, z1, z2, zf0, zf1, zf2, go_sem]) rfl ⟨_, rfl, link_result true hB1x hK.r0.items hK.r1.items (fun q hq => by have := hK.b0 q hq; omega) (fun q hq => by have := hK.b1 q hq; omega) _ _ e0 e1 (hK.bytes0 (by omega)) (hK.bytes1 (by omega)), below3 (b_then hbel hbx) (Nat.le_succ _)⟩
      | false =>
        rcases hs' with rfl | rfl
        · by_cases hf : 256 ≤ n0
          · rw [show sendR k 0 b = (Lk.zero, 10) by rw [sendR, if_neg hs, if_neg (by omega), if_neg (by simp [hkd]), if_pos rfl, if_pos (by omega)]]
            have hf' : (256 : Int) ≤ (n0 : Int) := by omega
            clear hs
            clear hl0 hl1 hlb hkd hm
            have htv := Lib.hid (two_vars w A0 n0 c0 A1 n1 c1 false)
            go_enter Try.func19, Try.ntmps19
            go_upto_region 1 with (fail)
            obtain ⟨hB0, hB1, hbel⟩ := htv.out _ rfl
            have hWs := hB1.lt
            generalize hW : (w.alloc (Obj.cells #[.slice A0 n0 c0, .slice A1 n1 c1, .bool false] 49)).alloc (Obj.cells #[.slice none 0 0, .slice none 0 0, .bool false] 49) = W at hB0 hB1 hbel hWs ⊢
            clear hW htv
            have k0 := hB0.cell 0 rfl
            have kf0 := hB0.free 0
            have k1 := hB0.cell 1 rfl
            have kf1 := hB0.free 1
            have k2 := hB0.cell 2 rfl
            have kf2 := hB0.free 2
            have z0 := hB1.cell 0 rfl
            have zf0 := hB1.free 0
            have z1 := hB1.cell 1 rfl
            have zf1 := hB1.free 1
            have z2 := hB1.cell 2 rfl
            have zf2 := hB1.free 2
            go_wp2
            exact bodyPost_ret (v := .tuple #[.agg #[.slice none 0 0, .slice none 0 0, .bool false], .iface 64 (.int .i64 10)]) (by simp [results, Try.results19, z0, z1, z2, zf0, zf1, zf2, go_sem]) rfl ⟨_, rfl, LinkB.zero _ _, below3 hbel (Nat.le_succ _)⟩
          · rw [show sendR k 0 b = (⟨k.s0 ++ [(b, false)], k.s1, k.d⟩, 0) by rw [sendR, if_neg hs, if_neg (by omega), if_neg (by simp [hkd]), if_pos rfl, if_neg (by omega), if_pos rfl]]
            have hf' : ¬ (256 : Int) ≤ (n0 : Int) := by omega
            subst hk
            clear hs
            clear hl0 hl1 hlb hkd hm
            have htv := Lib.hid (two_vars w A0 n0 c0 A1 n1 c1 false)
            go_enter Try.func19, Try.ntmps19
            go_upto_region 1 with (fail)
            obtain ⟨hB0, hB1, hbel⟩ := htv.out _ rfl
            have hWs := hB1.lt
            generalize hW : (w.alloc (Obj.cells #[.slice A0 n0 c0, .slice A1 n1 c1, .bool false] 49)).alloc (Obj.cells #[.slice none 0 0, .slice none 0 0, .bool false] 49) = W at hB0 hB1 hbel hWs ⊢
            clear hW htv
            have k0 := hB0.cell 0 rfl
            have kf0 := hB0.free 0
            have k1 := hB0.cell 1 rfl
            have kf1 := hB0.free 1
            have k2 := hB0.cell 2 rfl
            have kf2 := hB0.free 2
            have h0W := h0.keep hbel
            have h1W := h1.keep hbel
            go_upto_region 10 with (go_at_call 23; refine (own_link A0 n0 c0 L0 A1 n1 c1 L1 false _ h0W h1W).mono ?_; rintro e x1 ⟨B0, d0, M0, B1, d1, M1, rfl, hK, e0, e1, hbx⟩; have hB0x := hB0.keep hbx; have kf0 := hB0x.free 0; have kf1 := hB0x.free 1; have kf2 := hB0x.free 2; have k0 := hB0x.cell 0 rfl; have k1 := hB0x.cell 1 rfl; have k2 := hB0x.cell 2 rfl)
            have hB0y := store3 (a := .slice B0 n0 d0) (b := .slice B1 n1 d1) (c := .bool false) hB0x
            have hB1y := far3 (p := w.heap.size) (a := .slice B0 n0 d0) (b := .slice B1 n1 d1) (c := .bool false) (hB1.keep hbx) (by omega)
            have hKy := hK.laid hB0x (by omega) B0 B1 n0 n1 d0 d1 false
            have hby := below3 (p := w.heap.size) (a := .slice B0 n0 d0) (b := .slice B1 n1 d1) (c := .bool false) (b_then hbel hbx) (Nat.le_refl _)
            have hsz : W.heap.size ≤ (((x1.setCell ⟨w.heap.size, 0, none⟩ (.slice B0 n0 d0)).setCell ⟨w.heap.size, 1, none⟩ (.slice B1 n1 d1)).setCell ⟨w.heap.size, 2, none⟩ (.bool false)).heap.size := by simpa using hbx.size
            generalize hY : ((x1.setCell ⟨w.heap.size, 0, none⟩ (.slice B0 n0 d0)).setCell ⟨w.heap.size, 1, none⟩ (.slice B1 n1 d1)).setCell ⟨w.heap.size, 2, none⟩ (.bool false) = Y at hB0y hB1y hKy hby hsz ⊢
            clear hY hB0 hB1 hB0x hbx kf0 kf1 kf2 k0 k1 k2 hK x1 h0W h1W
            have hbs := hb.keep hby
            have c0 := hB0y.cell 0 rfl
            have c1 := hB0y.free 0
            have hzz := hB1y.lt
            have hra : ∀ q, B0.map (·.block) = some q → w.heap.size + 1 < q ∧ q < Y.heap.size := fun q hq => ⟨by have := hKy.b0 q hq; omega, (hKy.r0.ge q hq).2⟩
            have hS : Hid (∀ V, Below Y.heap.size Y V → V.cell? ⟨w.heap.size, 0, none⟩ = some (.slice B0 n0 d0) ∧ V.frozen? ⟨w.heap.size, 0, none⟩ = false) := Lib.hid fun V hV => ⟨(hB0y.keep hV).cell 0 rfl, (hB0y.keep hV).free 0⟩
            have hO : Hid (∀ V, Below Y.heap.size Y V → OwnI V W.heap.size 68 B0 n0 d0 M0) := Lib.hid fun V hV => hKy.r0.keep hV
            have hfar : Hid (∀ (s : ItemV), (∀ q, s.A.map (·.block) = some q → Y.heap.size ≤ q) → ∀ x ∈ [s], 0 < x.n → ∀ q, B0.map (·.block) = some q → x.A.map (·.block) ≠ some q) := Lib.hid fun s hs x hx _ q hq e => by
              obtain rfl : x = s := by simpa using hx
              have := hs q e
              have := (hra q hq).2
              omega
            have hn1 : n0 + 1 ≤ 4398046511104 := by omega
            have hra' := Lib.hid hra
            clear hra
            go_cut [] (fun wx => ∃ A4 c4 M4, Blk wx w.heap.size #[.slice A4 (n0 + 1) c4, .slice B1 n1 d1, .bool false] 49 ∧ Blk wx (w.heap.size + 1) #[.slice none 0 0, .slice none 0 0, .bool false] 49 ∧ Items wx A4 (n0 + 1) c4 M4 ∧ Items wx B1 n1 d1 M1 ∧ (∀ q, A4.map (·.block) = some q → w.heap.size + 1 < q) ∧ says M4 = says L0 ++ [(b, false)] ∧ Below w.heap.size w wx ∧ Bytes w.heap.size M4)
            case first =>
              have c0d : Y.drew.cell? ⟨w.heap.size, 0, none⟩ = some (.slice B0 n0 d0) := c0
              go_region_law (first | (go_simp; go_at_call 25; refine (clone_any A n c b _ (hbs.drew)).mono ?_; rintro e x2 ⟨A3, c3, rfl, hown3, hb3⟩; have hV2 : Below Y.heap.size Y x2 := b_then (b_drew (Below.refl _ _)) hb3; have hV3 := b_alloc hV2 (.cells #[.slice A3 n c3, .bool false] 68); have hV2' := hV2.size; have hV3' := hV3.size; have hcc2 := (hS.out _ hV2).1; have hcc3 := (hS.out _ hV3).1) | (refine step_appendI rfl _ _ 46 68 rfl Try.underlying46 Try.info68 W.heap.size B0 n0 d0 M0 (some ⟨x2.heap.size, 0, none⟩) 1 1 [⟨A3, n, c3, b, false⟩] (n0 + 1) rfl rfl rfl (hO.out _ hV3) (Items.one _ ⟨A3, n, c3, b, false⟩ hown3.bs) (hfar.out ⟨A3, n, c3, b, false⟩ (fun q hq => (hown3.ge q hq).1)) (Nat.le_trans hsz hV3') hn1 ?_; intro A4 c4 x4 hown4 hg4 hat4; have hB04 := (hB0y.keep hV3).grown hg4 (fun e => absurd (hra'.out _ e).1 (by omega)); have hq4 : x4.cell? ⟨w.heap.size, 0, none⟩ = some (.slice B0 n0 d0) ∧ x4.frozen? ⟨w.heap.size, 0, none⟩ = false := ⟨hB04.cell 0 rfl, hB04.free 0⟩; have hff4 := hq4.2))
              all_goals
                go_wp2_with fail
                go_meet
                have hB05 := hB04.set 0 (.slice A4 (n0 + 1) c4)
                have hB15 := ((hB1y.keep hV3).grown hg4 (fun e => absurd (hra'.out _ e).1 (by omega))).far (p := ⟨w.heap.size, 0, none⟩) (by show w.heap.size + 1 ≠ w.heap.size; omega) (.slice A4 (n0 + 1) c4)
                have hat5 : ∀ q, A4.map (·.block) = some q → w.heap.size + 1 < q := fun q hq => by
                  rcases hat4 with e | e
                  · exact (hra'.out q (e ▸ hq)).1
                  · have := Option.some.inj (e.symm.trans hq); omega
                have hI4 := (hown4.link_set hB04 (link_no8 _ _ _ _ _ _ _) (fun q hq => by have := hat5 q hq; omega) 0 (.slice A4 (n0 + 1) c4)).items
                have hJ4 := (((hKy.r1.items.keep hV3).grown hg4 (fun q hq => hKy.ne q hq) (fun s hs hn q hq => hKy.x1 s hs hn q hq)).kept (S := fun i => i = w.heap.size) (kept1 (W := x4) (p := w.heap.size) (j := 0) (a := .slice A4 (n0 + 1) c4)) (fun q hq e => by have := hKy.b1 q hq; omega) (fun s hs hn q hq e => (((hKy.r1.items.keep hV3).grown hg4 (fun q hq => hKy.ne q hq) (fun s hs hn q hq => hKy.x1 s hs hn q hq)).ok s hs).apart hB04 (link_no8 _ _ _ _ _ _ _) hn (by rw [hq, e])))
                have hb5 : Below w.heap.size w (x4.setCell ⟨w.heap.size, 0, none⟩ (.slice A4 (n0 + 1) c4)) := b_set (b_grown (b_then hby hV3) hg4 (fun q hq => by have := (hra'.out q hq).1; omega)) (Nat.le_refl _) _
                have hsay5 : says (M0 ++ [⟨A3, n, c3, b, false⟩]) = says L0 ++ [(b, false)] := by rw [← e0]; simp [says, ItemV.say]
                have hxx5 : Bytes w.heap.size (M0 ++ [⟨A3, n, c3, b, false⟩]) := fun s hs hn q hq => by
                  rcases List.mem_append.1 hs with hs | hs
                  · exact hKy.bytes0 (by omega) s hs hn q hq
                  · obtain rfl : s = ⟨A3, n, c3, b, false⟩ := by simpa using hs
                    have h8 := (hown3.ge q hq).1
                    simp at h8
                    omega
                exact ⟨A4, c4, _, hB05, hB15, hI4, hJ4, hat5, hsay5, hb5, hxx5⟩
            case rest =>
              obtain ⟨A4, c4, M4, hB05, hB15, hI4, hJ4, hat5, hsay5, hb5, hxx5⟩ := hcut
              have k0 := hB05.cell 0 rfl
              have kf0 := hB05.free 0
              have k1 := hB05.cell 1 rfl
              have kf1 := hB05.free 1
              have k2 := hB05.cell 2 rfl
              have kf2 := hB05.free 2
              have z0 := hB15.cell 0 rfl
              have zf0 := hB15.free 0
              have z1 := hB15.cell 1 rfl
              have zf1 := hB15.free 1
              have z2 := hB15.cell 2 rfl
              have zf2 := hB15.free 2
              go_wp2
              exact bodyPost_ret (v := .tuple #[.agg #[.slice A4 (n0 + 1) c4, .slice B1 n1 d1, .bool false], .nilIface]) (by simp [results, Try.results19, z0, z1, z2, zf0, zf1, zf2, go_sem]) rfl ⟨_, rfl, link_result false hB15 hI4 hJ4 hat5 (fun q hq => by have := hKy.b1 q hq; omega) _ _ hsay5 e1 hxx5 (hKy.bytes1 (by omega)), below3 hb5 (Nat.le_succ _)⟩
        · by_cases hf : 256 ≤ n1
          · rw [show sendR k 1 b = (Lk.zero, 10) by rw [sendR, if_neg hs, if_neg (by omega), if_neg (by simp [hkd])]; simp only [if_neg (show ¬ (1 : Int) = 0 by omega)]; rw [if_pos (by omega)]]
            have hf' : (256 : Int) ≤ (n1 : Int) := by omega
            clear hs
            clear hl0 hl1 hlb hkd hm
            have htv := Lib.hid (two_vars w A0 n0 c0 A1 n1 c1 false)
            go_enter Try.func19, Try.ntmps19
            go_upto_region 1 with (fail)
            obtain ⟨hB0, hB1, hbel⟩ := htv.out _ rfl
            have hWs := hB1.lt
            generalize hW : (w.alloc (Obj.cells #[.slice A0 n0 c0, .slice A1 n1 c1, .bool false] 49)).alloc (Obj.cells #[.slice none 0 0, .slice none 0 0, .bool false] 49) = W at hB0 hB1 hbel hWs ⊢
            clear hW htv
            have k0 := hB0.cell 0 rfl
            have kf0 := hB0.free 0
            have k1 := hB0.cell 1 rfl
            have kf1 := hB0.free 1
            have k2 := hB0.cell 2 rfl
            have kf2 := hB0.free 2
            have z0 := hB1.cell 0 rfl
            have zf0 := hB1.free 0
            have z1 := hB1.cell 1 rfl
            have zf1 := hB1.free 1
            have z2 := hB1.cell 2 rfl
            have zf2 := hB1.free 2
            go_wp2
            exact bodyPost_ret (v := .tuple #[.agg #[.slice none 0 0, .slice none 0 0, .bool false], .iface 64 (.int .i64 10)]) (by simp [results, Try.results19, z0, z1, z2, zf0, zf1, zf2, go_sem]) rfl ⟨_, rfl, LinkB.zero _ _, below3 hbel (Nat.le_succ _)⟩
          · rw [show sendR k 1 b = (⟨k.s0, k.s1 ++ [(b, false)], k.d⟩, 0) by rw [sendR, if_neg hs, if_neg (by omega), if_neg (by simp [hkd])]; simp only [if_neg (show ¬ (1 : Int) = 0 by omega)]; rw [if_neg (by omega)]]
            have hf' : ¬ (256 : Int) ≤ (n1 : Int) := by omega
            subst hk
            clear hs
            clear hl0 hl1 hlb hkd hm
            have htv := Lib.hid (two_vars w A0 n0 c0 A1 n1 c1 false)
            go_enter Try.func19, Try.ntmps19
            go_upto_region 1 with (fail)
            obtain ⟨hB0, hB1, hbel⟩ := htv.out _ rfl
            have hWs := hB1.lt
            generalize hW : (w.alloc (Obj.cells #[.slice A0 n0 c0, .slice A1 n1 c1, .bool false] 49)).alloc (Obj.cells #[.slice none 0 0, .slice none 0 0, .bool false] 49) = W at hB0 hB1 hbel hWs ⊢
            clear hW htv
            have k0 := hB0.cell 0 rfl
            have kf0 := hB0.free 0
            have k1 := hB0.cell 1 rfl
            have kf1 := hB0.free 1
            have k2 := hB0.cell 2 rfl
            have kf2 := hB0.free 2
            have h0W := h0.keep hbel
            have h1W := h1.keep hbel
            go_upto_region 10 with (go_at_call 23; refine (own_link A0 n0 c0 L0 A1 n1 c1 L1 false _ h0W h1W).mono ?_; rintro e x1 ⟨B0, d0, M0, B1, d1, M1, rfl, hK, e0, e1, hbx⟩; have hB0x := hB0.keep hbx; have kf0 := hB0x.free 0; have kf1 := hB0x.free 1; have kf2 := hB0x.free 2; have k0 := hB0x.cell 0 rfl; have k1 := hB0x.cell 1 rfl; have k2 := hB0x.cell 2 rfl)
            have hB0y := store3 (a := .slice B0 n0 d0) (b := .slice B1 n1 d1) (c := .bool false) hB0x
            have hB1y := far3 (p := w.heap.size) (a := .slice B0 n0 d0) (b := .slice B1 n1 d1) (c := .bool false) (hB1.keep hbx) (by omega)
            have hKy := hK.laid hB0x (by omega) B0 B1 n0 n1 d0 d1 false
            have hby := below3 (p := w.heap.size) (a := .slice B0 n0 d0) (b := .slice B1 n1 d1) (c := .bool false) (b_then hbel hbx) (Nat.le_refl _)
            have hsz : W.heap.size ≤ (((x1.setCell ⟨w.heap.size, 0, none⟩ (.slice B0 n0 d0)).setCell ⟨w.heap.size, 1, none⟩ (.slice B1 n1 d1)).setCell ⟨w.heap.size, 2, none⟩ (.bool false)).heap.size := by simpa using hbx.size
            generalize hY : ((x1.setCell ⟨w.heap.size, 0, none⟩ (.slice B0 n0 d0)).setCell ⟨w.heap.size, 1, none⟩ (.slice B1 n1 d1)).setCell ⟨w.heap.size, 2, none⟩ (.bool false) = Y at hB0y hB1y hKy hby hsz ⊢
            clear hY hB0 hB1 hB0x hbx kf0 kf1 kf2 k0 k1 k2 hK x1 h0W h1W
            have hbs := hb.keep hby
            have c0 := hB0y.cell 1 rfl
            have c1 := hB0y.free 1
            have hzz := hB1y.lt
            have hra : ∀ q, B1.map (·.block) = some q → w.heap.size + 1 < q ∧ q < Y.heap.size := fun q hq => ⟨by have := hKy.b1 q hq; omega, (hKy.r1.ge q hq).2⟩
            have hS : Hid (∀ V, Below Y.heap.size Y V → V.cell? ⟨w.heap.size, 1, none⟩ = some (.slice B1 n1 d1) ∧ V.frozen? ⟨w.heap.size, 1, none⟩ = false) := Lib.hid fun V hV => ⟨(hB0y.keep hV).cell 1 rfl, (hB0y.keep hV).free 1⟩
            have hO : Hid (∀ V, Below Y.heap.size Y V → OwnI V W.heap.size 68 B1 n1 d1 M1) := Lib.hid fun V hV => hKy.r1.keep hV
            have hfar : Hid (∀ (s : ItemV), (∀ q, s.A.map (·.block) = some q → Y.heap.size ≤ q) → ∀ x ∈ [s], 0 < x.n → ∀ q, B1.map (·.block) = some q → x.A.map (·.block) ≠ some q) := Lib.hid fun s hs x hx _ q hq e => by
              obtain rfl : x = s := by simpa using hx
              have := hs q e
              have := (hra q hq).2
              omega
            have hn1 : n1 + 1 ≤ 4398046511104 := by omega
            have hra' := Lib.hid hra
            clear hra
            go_cut [] (fun wx => ∃ A4 c4 M4, Blk wx w.heap.size #[.slice B0 n0 d0, .slice A4 (n1 + 1) c4, .bool false] 49 ∧ Blk wx (w.heap.size + 1) #[.slice none 0 0, .slice none 0 0, .bool false] 49 ∧ Items wx A4 (n1 + 1) c4 M4 ∧ Items wx B0 n0 d0 M0 ∧ (∀ q, A4.map (·.block) = some q → w.heap.size + 1 < q) ∧ says M4 = says L1 ++ [(b, false)] ∧ Below w.heap.size w wx ∧ Bytes w.heap.size M4)
            case first =>
              have c0d : Y.drew.cell? ⟨w.heap.size, 1, none⟩ = some (.slice B1 n1 d1) := c0
              go_region_law (first | (go_simp; go_at_call 25; refine (clone_any A n c b _ (hbs.drew)).mono ?_; rintro e x2 ⟨A3, c3, rfl, hown3, hb3⟩; have hV2 : Below Y.heap.size Y x2 := b_then (b_drew (Below.refl _ _)) hb3; have hV3 := b_alloc hV2 (.cells #[.slice A3 n c3, .bool false] 68); have hV2' := hV2.size; have hV3' := hV3.size; have hcc2 := (hS.out _ hV2).1; have hcc3 := (hS.out _ hV3).1) | (refine step_appendI rfl _ _ 46 68 rfl Try.underlying46 Try.info68 W.heap.size B1 n1 d1 M1 (some ⟨x2.heap.size, 0, none⟩) 1 1 [⟨A3, n, c3, b, false⟩] (n1 + 1) rfl rfl rfl (hO.out _ hV3) (Items.one _ ⟨A3, n, c3, b, false⟩ hown3.bs) (hfar.out ⟨A3, n, c3, b, false⟩ (fun q hq => (hown3.ge q hq).1)) (Nat.le_trans hsz hV3') hn1 ?_; intro A4 c4 x4 hown4 hg4 hat4; have hB04 := (hB0y.keep hV3).grown hg4 (fun e => absurd (hra'.out _ e).1 (by omega)); have hq4 : x4.cell? ⟨w.heap.size, 1, none⟩ = some (.slice B1 n1 d1) ∧ x4.frozen? ⟨w.heap.size, 1, none⟩ = false := ⟨hB04.cell 1 rfl, hB04.free 1⟩; have hff4 := hq4.2))
              all_goals
                go_wp2_with fail
                go_meet
                have hB05 := hB04.set 1 (.slice A4 (n1 + 1) c4)
                have hB15 := ((hB1y.keep hV3).grown hg4 (fun e => absurd (hra'.out _ e).1 (by omega))).far (p := ⟨w.heap.size, 1, none⟩) (by show w.heap.size + 1 ≠ w.heap.size; omega) (.slice A4 (n1 + 1) c4)
                have hat5 : ∀ q, A4.map (·.block) = some q → w.heap.size + 1 < q := fun q hq => by
                  rcases hat4 with e | e
                  · exact (hra'.out q (e ▸ hq)).1
                  · have := Option.some.inj (e.symm.trans hq); omega
                have hI4 := (hown4.link_set hB04 (link_no8 _ _ _ _ _ _ _) (fun q hq => by have := hat5 q hq; omega) 1 (.slice A4 (n1 + 1) c4)).items
                have hJ4 := (((hKy.r0.items.keep hV3).grown hg4 (fun q hq => fun e => hKy.ne q e hq) (fun s hs hn q hq => hKy.x0 s hs hn q hq)).kept (S := fun i => i = w.heap.size) (kept1 (W := x4) (p := w.heap.size) (j := 1) (a := .slice A4 (n1 + 1) c4)) (fun q hq e => by have := hKy.b0 q hq; omega) (fun s hs hn q hq e => (((hKy.r0.items.keep hV3).grown hg4 (fun q hq => fun e => hKy.ne q e hq) (fun s hs hn q hq => hKy.x0 s hs hn q hq)).ok s hs).apart hB04 (link_no8 _ _ _ _ _ _ _) hn (by rw [hq, e])))
                have hb5 : Below w.heap.size w (x4.setCell ⟨w.heap.size, 1, none⟩ (.slice A4 (n1 + 1) c4)) := b_set (b_grown (b_then hby hV3) hg4 (fun q hq => by have := (hra'.out q hq).1; omega)) (Nat.le_refl _) _
                have hsay5 : says (M1 ++ [⟨A3, n, c3, b, false⟩]) = says L1 ++ [(b, false)] := by rw [← e1]; simp [says, ItemV.say]
                have hxx5 : Bytes w.heap.size (M1 ++ [⟨A3, n, c3, b, false⟩]) := fun s hs hn q hq => by
                  rcases List.mem_append.1 hs with hs | hs
                  · exact hKy.bytes1 (by omega) s hs hn q hq
                  · obtain rfl : s = ⟨A3, n, c3, b, false⟩ := by simpa using hs
                    have h8 := (hown3.ge q hq).1
                    simp at h8
                    omega
                exact ⟨A4, c4, _, hB05, hB15, hI4, hJ4, hat5, hsay5, hb5, hxx5⟩
            case rest =>
              obtain ⟨A4, c4, M4, hB05, hB15, hI4, hJ4, hat5, hsay5, hb5, hxx5⟩ := hcut
              have k0 := hB05.cell 0 rfl
              have kf0 := hB05.free 0
              have k1 := hB05.cell 1 rfl
              have kf1 := hB05.free 1
              have k2 := hB05.cell 2 rfl
              have kf2 := hB05.free 2
              have z0 := hB15.cell 0 rfl
              have zf0 := hB15.free 0
              have z1 := hB15.cell 1 rfl
              have zf1 := hB15.free 1
              have z2 := hB15.cell 2 rfl
              have zf2 := hB15.free 2
              go_wp2
              exact bodyPost_ret (v := .tuple #[.agg #[.slice B0 n0 d0, .slice A4 (n1 + 1) c4, .bool false], .nilIface]) (by simp [results, Try.results19, z0, z1, z2, zf0, zf1, zf2, go_sem]) rfl ⟨_, rfl, link_result false hB15 hJ4 hI4 (fun q hq => by have := hKy.b0 q hq; omega) hat5 _ _ e0 hsay5 (hKy.bytes0 (by omega)) hxx5, below3 hb5 (Nat.le_succ _)⟩

end Go.Proofs.Ytbmfcaobhgeogaa
