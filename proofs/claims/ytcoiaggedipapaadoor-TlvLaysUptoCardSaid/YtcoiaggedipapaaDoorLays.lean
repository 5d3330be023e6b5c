/-
  TlvLays: the walk.
-/
import Derived.Test.YtcoiaggedipapaaDoorThings
namespace Go.Proofs.YtcoiaggedipapaaDoor
open Go.RowKit
set_option linter.unusedVariables false
set_option linter.unusedSimpArgs false
set_option maxRecDepth 100000

theorem and_mask (k v : Nat) : v &&& (2 ^ k - 1) = v % 2 ^ k := Nat.and_two_pow_sub_one_eq_mod v k
set_option maxHeartbeats 16000000 in
theorem law_tlvlays (A : Option Addr) (n c : Nat) (L : List ThingV) (w : World) (hL : Things w A n c L) (hR : runsOf L ≤ 1048576) (hT : TabW w) :
    Calls Tryd.prog 10 #[.slice A n c] w (fun e w' => e = .returned (.bool true) ∧ Below w.heap.size w w') := by
  have hmax := hL.max
  have hcap := hL.cap
  have hlen : ∀ k, k ≤ 60 → (layTo L k).length ≤ 1049296 := fun k hk => by
    have := layTo_length L k (fun s hs => (hL.ok s hs).2.2.2.len)
    omega
  have hlen' := Lib.hid hlen
  clear hlen
  go_enter Tryd.func10, Tryd.ntmps10
  go_wp2_with fail
  refine (newOut_new _).mono ?_
  rintro e w1 ⟨rfl, hO1, hb1⟩
  go_upto_block 0 with (fail)
  go_cut [3, 4] (fun o x wx => o = .pointer (some ⟨w.heap.size, 0, none⟩) ∧ ∃ K : Nat, K ≤ 60 ∧ K ≤ n ∧ (K = n ∨ K = 60) ∧ ∃ r Ab nb cb, x = .slice Ab nb cb ∧ Bs wx Ab nb cb (layTo L K) ∧ OutAt wx w.heap.size w.heap.size r (layTo L K) ∧ Below w.heap.size w wx)
  case first =>
    go_wp2_with fail
    go_loopw [3, 4, 5] (fun o x i wr => o = .pointer (some ⟨w.heap.size, 0, none⟩) ∧ ∃ k : Nat, k ≤ n ∧ k ≤ 60 ∧ i = .int .i64 k ∧ ∃ r Ab nb cb, x = .slice Ab nb cb ∧ Bs wr Ab nb cb (layTo L k) ∧ OutAt wr w.heap.size w.heap.size r (layTo L k) ∧ (0 < nb → ∀ q, Ab.map (·.block) = some q → ¬ inOut w.heap.size r q) ∧ Below w.heap.size w wr) (fun _ _ i _ => n - (intOf i).toNat)
    case atStart => exact ⟨rfl, 0, Nat.zero_le _, Nat.zero_le _, rfl, none, none, 0, 0, rfl, Bs.nil _ _ _, hO1, fun h => absurd h (by decide), hb1⟩
    case round =>
      obtain ⟨rfl, k, hk, hk6, rfl, r, Ab, nb, cb, rfl, hB, hO, hsep, hbel⟩ := hrel
      by_cases h12 : k < n ∧ k < 60
      · obtain ⟨h1, h2⟩ := h12
        obtain ⟨⟨sr, sv, sn, sA, sm, sc, sb⟩, ab, off, hs, he, ha0, ha1, ha2, ha3, hv, hn1, hn2, hsb⟩ := hL.at_ k h1
        subst he
        simp only at ha0 ha1 ha2 ha3 hv hn1 hn2 hsb
        have hst := Lib.hid (layTo_succ hs)
        have hmem : (⟨sr, sv, sn, sA, sm, sc, sb⟩ : ThingV) ∈ L := List.mem_of_getElem? hs
        have hsm : sm ≤ 1048576 := Nat.le_trans (run_le hmem) hR
        have hk0 : (0 : Int) ≤ (k : Int) := by omega
        have hkn : (k : Int) < (n : Int) := by omega
        have hsl := hsb.len
        clear hmem
        have hcs : ∀ W, Below w.heap.size w W → W.cell? ⟨ab, off + k * 4, none⟩ = some (.bool sr) ∧ W.cell? ⟨ab, off + k * 4 + 1, none⟩ = some (.int .u64 (sv : Nat)) ∧ W.cell? ⟨ab, off + k * 4 + 2, none⟩ = some (.int .i64 sn) ∧ W.cell? ⟨ab, off + k * 4 + 3, none⟩ = some (.slice sA sm sc) := fun W hW => ⟨cell_keep ha0 hW, cell_keep ha1 hW, cell_keep ha2 hW, cell_keep ha3 hW⟩
        have hcs' := Lib.hid hcs
        have hl1 := hlen'.out k (by omega)
        have hBl := hB.len
        have hout : ∀ i, i < w.heap.size → ¬ inOut w.heap.size r i := fun i hi h => by
          rcases h with h | h
          · omega
          · have := (hO.rlt i h).1
            omega
        have hout' := Lib.hid hout
        have hsepH := Lib.hid hsep
        clear hcs hout hsep
        cases sr with
        | true =>
          have hx0 := hcs'.out _ hbel
          have hbr := hsb.keep hbel
          have hfar : 0 < sm → sA.map (·.block) ≠ r ∧ sA.map (·.block) ≠ some w.heap.size := fun h => by
            obtain ⟨bb, oo, rfl, hlt⟩ := hsb.lt h
            refine ⟨fun e => ?_, fun e => ?_⟩
            · have := (hO.rlt bb e.symm).1
              omega
            · have : bb = w.heap.size := Option.some.inj e
              omega
          have hfar' := Lib.hid hfar
          have hn4 : (layTo L k).length + 4 + sm ≤ 140737488355328 := by omega
          have hlo : layOne ⟨true, sv, sn, sA, sm, sc, sb⟩ = Tl.le 4 sm ++ sb := rfl
          rw [hlo] at hst
          clear hlo hfar
          go_wp2_with fail
          refine (outRun_any w.heap.size w.heap.size r _ sA sm sc sb _ hO hbr hfar'.out hn4).mono ?_
          rintro e x1 ⟨r1, rfl, hO1x, hk1, hr1⟩
          have hb1x := b_kept hbel hk1 hout'.out
          have hBx := hB.far hk1 hsepH.out
          have hx1 := hcs'.out _ hb1x
          have hn4b : nb + 4 + sm ≤ 140737488355328 := by omega
          have hbr1 := hsb.keep hb1x
          go_wp2_with fail
          refine (rRun_any Ab sA nb cb sm sc _ sb _ hBx hbr1 hn4b).mono ?_
          rintro e x2 ⟨A2, c2, rfl, hown2, hb2⟩
          go_wp2_with fail
          go_roundw
          case rel =>
            refine ⟨rfl, k + 1, by omega, by omega, by go_num, r1, A2, _, c2, rfl, ?_, ?_, ?_, b_then hb1x hb2⟩
            · rw [hst.out, ← List.append_assoc]; exact hown2.bs
            · rw [hst.out, ← List.append_assoc]; exact hO1x.keep hb2
            · rintro _ q hq (h | h)
              · have := (hown2.ge q hq).1
                have := hO1x.lt
                omega
              · have := (hown2.ge q hq).1
                have := (hO1x.rlt q h).2
                omega
          case measure => simp [intOf] <;> omega
        | false =>
          have hq0 := hcs'.out _ (b_drew hbel)
          have hx0 := hcs'.out _ hbel
          have hOd := hO.keep (b_drew (Below.refl wr.heap.size wr))
          have hvz := hv
          by_cases hnr : sn < 1 ∨ 8 < sn
          · skip
            have hlo : layOne ⟨false, sv, sn, sA, sm, sc, sb⟩ = [] := by
              unfold layOne
              rw [if_neg (by simp), if_pos hnr]
            rw [hlo, List.append_nil] at hst
            have hn4b : nb ≤ 140737488355328 := by omega
            clear hlo
            replace hvz := hv
            go_wp2_with fail
            go_region_held3 (fun W => W.cell? ⟨ab, off + k * 4, none⟩ = some (.bool false) ∧ W.cell? ⟨ab, off + k * 4 + 1, none⟩ = some (.int .u64 (sv : Nat)) ∧ W.cell? ⟨ab, off + k * 4 + 2, none⟩ = some (.int .i64 sn) ∧ W.cell? ⟨ab, off + k * 4 + 3, none⟩ = some (.slice sA sm sc)) ((first | exact hq0 | exact hq1)) (first
              | (go_at_call 37; refine (outN_none w.heap.size w.heap.size r _ sv sn _ hOd hnr).mono ?_; rintro e x1 ⟨r1, rfl, hO1x, hk1, hr1⟩; have hb1x := b_kept (b_drew hbel) hk1 hout'.out; have hq1 := hcs'.out _ hb1x)
              | fail)
            have hBx := hB.drew.far hk1 hsepH.out
            clear hq0 hq1
            have hq0 := hcs'.out _ (b_drew hb1x)
            go_wp2_with fail
            go_region_held3 (fun W => W.cell? ⟨ab, off + k * 4, none⟩ = some (.bool false) ∧ W.cell? ⟨ab, off + k * 4 + 1, none⟩ = some (.int .u64 (sv : Nat)) ∧ W.cell? ⟨ab, off + k * 4 + 2, none⟩ = some (.int .i64 sn) ∧ W.cell? ⟨ab, off + k * 4 + 3, none⟩ = some (.slice sA sm sc)) ((first | exact hq0 | exact hq1)) (first
              | (go_at_call 38; refine (rN_none Ab nb cb _ sv sn _ hBx.drew hnr hn4b).mono ?_; rintro e x2 ⟨A2, c2, rfl, hown2, hb2⟩; have hb2x := b_then (b_drew hb1x) hb2; have hq1 := hcs'.out _ hb2x)
              | fail)
            go_wp2_with fail
            go_roundw
            case rel =>
              refine ⟨rfl, k + 1, by omega, by omega, by go_num, r1, A2, _, c2, rfl, ?_, ?_, ?_, hb2x⟩
              · rw [hst.out]; exact hown2.bs
              · rw [hst.out]; exact (hO1x.keep (b_drew (Below.refl _ _))).keep hb2
              · rintro _ q hq (h | h)
                · have := (hown2.ge q hq).1
                  have := hO1x.lt
                  have h9 : x1.drew.heap.size = x1.heap.size := rfl
                  omega
                · have := (hown2.ge q hq).1
                  have := (hO1x.rlt q h).2
                  have h9 : x1.drew.heap.size = x1.heap.size := rfl
                  omega
            case measure => simp [intOf] <;> omega
          · skip
            obtain ⟨m, rfl⟩ : ∃ m : Nat, sn = (m : Int) := ⟨sn.toNat, by omega⟩
            have m1 : 1 ≤ m := by omega
            have m8 : m ≤ 8 := by omega
            have hlo : layOne ⟨false, sv, (m : Int), sA, sm, sc, sb⟩ = Tl.le m sv := by
              unfold layOne
              rw [if_neg (by simp), if_neg (by show ¬ ((m : Int) < 1 ∨ 8 < (m : Int)); omega)]
              rfl
            rw [hlo] at hst
            have hn4 : (layTo L k).length + m ≤ 140737488355328 := by omega
            have hn4b : nb + m ≤ 140737488355328 := by omega
            clear hlo
            replace hvz := hv
            go_wp2_with fail
            go_region_held3 (fun W => W.cell? ⟨ab, off + k * 4, none⟩ = some (.bool false) ∧ W.cell? ⟨ab, off + k * 4 + 1, none⟩ = some (.int .u64 (sv : Nat)) ∧ W.cell? ⟨ab, off + k * 4 + 2, none⟩ = some (.int .i64 (m : Int)) ∧ W.cell? ⟨ab, off + k * 4 + 3, none⟩ = some (.slice sA sm sc)) ((first | exact hq0 | exact hq1)) (first
              | (go_at_call 37; refine (outN_any w.heap.size w.heap.size r _ sv m _ hOd hvz m1 m8 hn4).mono ?_; rintro e x1 ⟨r1, rfl, hO1x, hk1, hr1⟩; have hb1x := b_kept (b_drew hbel) hk1 hout'.out; have hq1 := hcs'.out _ hb1x)
              | fail)
            have hBx := hB.drew.far hk1 hsepH.out
            clear hq0 hq1
            have hq0 := hcs'.out _ (b_drew hb1x)
            go_wp2_with fail
            go_region_held3 (fun W => W.cell? ⟨ab, off + k * 4, none⟩ = some (.bool false) ∧ W.cell? ⟨ab, off + k * 4 + 1, none⟩ = some (.int .u64 (sv : Nat)) ∧ W.cell? ⟨ab, off + k * 4 + 2, none⟩ = some (.int .i64 (m : Int)) ∧ W.cell? ⟨ab, off + k * 4 + 3, none⟩ = some (.slice sA sm sc)) ((first | exact hq0 | exact hq1)) (first
              | (go_at_call 38; refine (rN_any Ab nb cb _ sv m _ hBx.drew hvz m1 m8 hn4b).mono ?_; rintro e x2 ⟨A2, c2, rfl, hown2, hb2⟩; have hb2x := b_then (b_drew hb1x) hb2; have hq1 := hcs'.out _ hb2x)
              | fail)
            go_wp2_with fail
            go_roundw
            case rel =>
              refine ⟨rfl, k + 1, by omega, by omega, by go_num, r1, A2, _, c2, rfl, ?_, ?_, ?_, hb2x⟩
              · rw [hst.out]; exact hown2.bs
              · rw [hst.out]; exact (hO1x.keep (b_drew (Below.refl _ _))).keep hb2
              · rintro _ q hq (h | h)
                · have := (hown2.ge q hq).1
                  have := hO1x.lt
                  have h9 : x1.drew.heap.size = x1.heap.size := rfl
                  omega
                · have := (hown2.ge q hq).1
                  have := (hO1x.rlt q h).2
                  have h9 : x1.drew.heap.size = x1.heap.size := rfl
                  omega
            case measure => simp [intOf] <;> omega
      · have hex : k = n ∨ (k < n ∧ k = 60) := by omega
        clear h12
        rcases hex with rfl | ⟨h1x, rfl⟩
        · go_wp2_with fail
          go_meet
          exact ⟨rfl, k, hk6, Nat.le_refl _, .inl rfl, r, Ab, nb, cb, rfl, hB, hO, hbel⟩
        · go_wp2_with fail
          go_meet
          exact ⟨rfl, 60, by omega, hk, .inr rfl, r, Ab, nb, cb, rfl, hB, hO, hbel⟩
  case rest =>
    obtain ⟨rfl, K, hK6, hKn, hKe, r, Ab, nb, cb, rfl, hB, hO, hbel⟩ := hcut
    generalize wc = wr at hB hO hbel ⊢
    obtain ⟨st, hstr⟩ : ∃ st, strOf (layTo L K) = st := ⟨_, rfl⟩
    have hcc := fun (W : World) (hW : Bs W Ab nb cb (layTo L K)) => run_str (P := Tryd.prog) 23 5 9 Tryd.underlying23 Tryd.underlying5 Tryd.underlying9 hW
    rw [hstr] at hcc
    replace hstr := Lib.hid hstr
    have hq0 := hcc _ hB.drew
    have hOd := hO.keep (b_drew (Below.refl wr.heap.size wr))
    have hq0r := hq0
    go_upto_region 11 with (fail)
    go_cut [68] (fun bb wx => bb = .bool false ∧ Bs wx Ab nb cb (layTo L K) ∧ Below w.heap.size w wx)
    case first =>
      go_region_with (go_at_call 39; refine (outDone_any w.heap.size w.heap.size r _ _ hOd).mono ?_; rintro e x3 ⟨A3, c3, rfl, hown3, hb3⟩; have hq1 := hcc _ (hB.drew.keep hb3); have hcx := run_str (P := Tryd.prog) 23 5 9 Tryd.underlying23 Tryd.underlying5 Tryd.underlying9 hown3.bs; rw [hstr.out] at hcx)
      all_goals go_wp2_with fail
      all_goals go_meet
      all_goals exact ⟨rfl, hB.drew.keep hb3, b_then (b_drew hbel) hb3⟩
    case rest =>
      obtain ⟨rfl, hBx3, hbx3⟩ := hcut
      clear hq0 hq0r hcc hOd hO hB
      generalize wc = x3 at hBx3 hbx3 ⊢
      go_wp2_with fail
      refine (newIn_any Ab nb cb _ _ hBx3).mono ?_
      rintro e x4 ⟨rfl, hI4, hb4⟩
      have hbx4 := b_then hbx3 hb4
      have hg2 := hbx3.size
      generalize x3.heap.size = g2 at hI4 hg2 ⊢
      rw [← layFrom_zero] at hI4
      have hnotg : ∀ i, i < w.heap.size → ¬ inIn g2 i := fun i hi e => by have : i = g2 := e; omega
      have hnotg' := Lib.hid hnotg
      clear hnotg hb4 hBx3 hbx3
      go_wp2_with fail
      go_loopw [7, 8] (fun i wt wr => ∃ k : Nat, k ≤ K ∧ i = .int .i64 k ∧ InAt wr g2 ⟨layFrom L K k, 0⟩ ∧ Below w.heap.size w wr) (fun i _ _ => n - (intOf i).toNat)
      case atStart => exact ⟨0, Nat.zero_le _, rfl, hI4, hbx4⟩
      case round =>
        obtain ⟨k, hk, rfl, hI, hbel⟩ := hrel
        by_cases h12 : k < n ∧ k < 60
        · obtain ⟨h1, h2⟩ := h12
          have hkK : k < K := by omega
          obtain ⟨⟨sr, sv, sn, sA, sm, sc, sb⟩, ab, off, hs, he, ha0, ha1, ha2, ha3, hv, hn1, hn2, hsb⟩ := hL.at_ k h1
          subst he
          simp only at ha0 ha1 ha2 ha3 hv hn1 hn2 hsb
          have hst := Lib.hid (layTo_succ hs)
          have hmem : (⟨sr, sv, sn, sA, sm, sc, sb⟩ : ThingV) ∈ L := List.mem_of_getElem? hs
          have hsm : sm ≤ 1048576 := Nat.le_trans (run_le hmem) hR
          have hk0 : (0 : Int) ≤ (k : Int) := by omega
          have hkn : (k : Int) < (n : Int) := by omega
          have hsl := hsb.len
          clear hmem
          have hfr := Lib.hid (layFrom_step hs hkK)
          clear hst
          have hcs : ∀ W, Below w.heap.size w W → W.cell? ⟨ab, off + k * 4, none⟩ = some (.bool sr) ∧ W.cell? ⟨ab, off + k * 4 + 1, none⟩ = some (.int .u64 (sv : Nat)) ∧ W.cell? ⟨ab, off + k * 4 + 2, none⟩ = some (.int .i64 sn) ∧ W.cell? ⟨ab, off + k * 4 + 3, none⟩ = some (.slice sA sm sc) := fun W hW => ⟨cell_keep ha0 hW, cell_keep ha1 hW, cell_keep ha2 hW, cell_keep ha3 hW⟩
          have hcs' := Lib.hid hcs
          have hx0 := hcs _ hbel
          clear hcs
          cases sr with
          | true =>
            have hlo : layOne ⟨true, sv, sn, sA, sm, sc, sb⟩ = Tl.le 4 sm ++ sb := rfl
            rw [hlo] at hfr
            have htk : Hid (Tl.takeRun ⟨layFrom L K k, 0⟩ (sm : Nat) = (⟨layFrom L K (k + 1), 0⟩, sb)) := Lib.hid (by rw [hfr.out]; exact takeRun_laid (by omega) hsl)
            obtain ⟨st2, hstr2⟩ : ∃ st, strOf sb = st := ⟨_, rfl⟩
            have hcc2 := fun (W : World) (hW : Below w.heap.size w W) => run_str (P := Tryd.prog) 23 5 9 Tryd.underlying23 Tryd.underlying5 Tryd.underlying9 (hsb.keep hW)
            rw [hstr2] at hcc2
            replace hstr2 := Lib.hid hstr2
            have hq0 := And.intro (hcs'.out _ (b_drew hbel)) (hcc2 _ (b_drew hbel))
            have hId := hI.keep (b_drew (Below.refl wr.heap.size wr))
            have hsi : (sm : Int) ≤ 9223372036854775807 := by omega
            clear hlo hfr
            obtain ⟨⟨hp0, hp1, hp2, hp3⟩, hp4⟩ := hq0
            go_upto_region 18 with (fail)
            go_cut [101] from 71 to 145 (fun bb wx => bb = .bool false ∧ InAt wx g2 ⟨layFrom L K (k + 1), 0⟩ ∧ Below w.heap.size w wx)
            case first =>
              go_region_with (go_at_call 41; refine (inRun_any g2 ⟨layFrom L K k, 0⟩ (sm : Nat) _ hId hsi).mono ?_; rintro e x2 ⟨A3, n3, c3, rfl, hown3, hI3, hk3⟩; rw [htk.out] at hown3 hI3; have hb3 := b_kept (b_drew hbel) hk3 hnotg'.out; obtain ⟨hr0, hr1, hr2, hr3⟩ := hcs'.out _ hb3; have hr4 := hcc2 _ hb3; have hcx := run_str (P := Tryd.prog) 23 5 9 Tryd.underlying23 Tryd.underlying5 Tryd.underlying9 hown3.bs; rw [hstr2.out] at hcx)
              all_goals go_wp2_with fail
              all_goals go_meet
              all_goals exact ⟨rfl, hI3, hb3⟩
            case rest =>
              obtain ⟨rfl, hI3, hb3⟩ := hcut
              clear hp0 hp1 hp2 hp3 hp4
              generalize wc = x2 at hI3 hb3 ⊢
              go_wp2_with fail
              go_roundw
              case rel => exact ⟨k + 1, by omega, by go_num, hI3, hb3⟩
              case measure => simp [intOf] <;> omega
          | false =>
            by_cases hnr : sn < 1 ∨ 8 < sn
            · have hlo : layOne ⟨false, sv, sn, sA, sm, sc, sb⟩ = [] := by
                unfold layOne
                rw [if_neg (by simp), if_pos hnr]
              rw [hlo, List.nil_append] at hfr
              rw [hfr.out] at hI
              have hk1 : k + 1 ≤ K := hkK
              clear hlo
              rcases hnr with hnr | hnr
              · go_wp2_with fail
                go_roundw
                case rel => exact ⟨k + 1, hk1, by go_num, hI, hbel⟩
                case measure => simp [intOf] <;> omega
              · have hnr1 : ¬ sn < 1 := by omega
                go_wp2_with fail
                go_roundw
                case rel => exact ⟨k + 1, hk1, by go_num, hI, hbel⟩
                case measure => simp [intOf] <;> omega
            · obtain ⟨m, rfl⟩ : ∃ m : Nat, sn = (m : Int) := ⟨sn.toNat, by omega⟩
              have m1 : 1 ≤ m := by omega
              have m8 : m ≤ 8 := by omega
              have hlo : layOne ⟨false, sv, (m : Int), sA, sm, sc, sb⟩ = Tl.le m sv := by
                unfold layOne
                rw [if_neg (by simp), if_neg (by show ¬ ((m : Int) < 1 ∨ 8 < (m : Int)); omega)]
                rfl
              rw [hlo] at hfr
              have htk : Hid (Tl.takeN ⟨layFrom L K k, 0⟩ (m : Int) 18446744073709551615 = (⟨layFrom L K (k + 1), 0⟩, sv % 256 ^ m)) := Lib.hid (by rw [hfr.out]; exact takeN_laid m1 m8 hv)
              have hk1 : k + 1 ≤ K := hkK
              clear hlo hfr
              rcases (show m = 1 ∨ m = 2 ∨ m = 3 ∨ m = 4 ∨ m = 5 ∨ m = 6 ∨ m = 7 ∨ m = 8 by omega) with rfl | rfl | rfl | rfl | rfl | rfl | rfl | rfl
              · have hmk : bits .and .u64 (sv : Int) 255 = ((sv % 256 ^ 1 : Nat) : Int) := by
                  have := u64_and_nat sv 255 (by omega) (by decide)
                  rw [show ((255 : Nat) : Int) = 255 from rfl] at this
                  rw [this, show 255 = 2 ^ 8 - 1 from rfl, and_mask]
                have htkz : Hid (Tl.takeN ⟨layFrom L K k, 0⟩ (1 : Int) 18446744073709551615 = (⟨layFrom L K (k + 1), 0⟩, sv % 256 ^ 1)) := Lib.hid htk.out
                clear htk
                go_wp2_with (go_at_call 42; refine (inN_any g2 ⟨layFrom L K k, 0⟩ 1 18446744073709551615 _ hI (by decide)).mono ?_; rintro e x2 ⟨he, hI3, hk3⟩; rw [htkz.out] at he hI3; subst he)
                go_roundw
                case rel => exact ⟨k + 1, hk1, by go_num, hI3, b_kept hbel hk3 hnotg'.out⟩
                case measure => simp [intOf] <;> omega
              · have hmk : bits .and .u64 (sv : Int) 65535 = ((sv % 256 ^ 2 : Nat) : Int) := by
                  have := u64_and_nat sv 65535 (by omega) (by decide)
                  rw [show ((65535 : Nat) : Int) = 65535 from rfl] at this
                  rw [this, show 65535 = 2 ^ 16 - 1 from rfl, and_mask]
                have htkz : Hid (Tl.takeN ⟨layFrom L K k, 0⟩ (2 : Int) 18446744073709551615 = (⟨layFrom L K (k + 1), 0⟩, sv % 256 ^ 2)) := Lib.hid htk.out
                clear htk
                go_wp2_with (go_at_call 42; refine (inN_any g2 ⟨layFrom L K k, 0⟩ 2 18446744073709551615 _ hI (by decide)).mono ?_; rintro e x2 ⟨he, hI3, hk3⟩; rw [htkz.out] at he hI3; subst he)
                go_roundw
                case rel => exact ⟨k + 1, hk1, by go_num, hI3, b_kept hbel hk3 hnotg'.out⟩
                case measure => simp [intOf] <;> omega
              · have hmk : bits .and .u64 (sv : Int) 16777215 = ((sv % 256 ^ 3 : Nat) : Int) := by
                  have := u64_and_nat sv 16777215 (by omega) (by decide)
                  rw [show ((16777215 : Nat) : Int) = 16777215 from rfl] at this
                  rw [this, show 16777215 = 2 ^ 24 - 1 from rfl, and_mask]
                have htkz : Hid (Tl.takeN ⟨layFrom L K k, 0⟩ (3 : Int) 18446744073709551615 = (⟨layFrom L K (k + 1), 0⟩, sv % 256 ^ 3)) := Lib.hid htk.out
                clear htk
                go_wp2_with (go_at_call 42; refine (inN_any g2 ⟨layFrom L K k, 0⟩ 3 18446744073709551615 _ hI (by decide)).mono ?_; rintro e x2 ⟨he, hI3, hk3⟩; rw [htkz.out] at he hI3; subst he)
                go_roundw
                case rel => exact ⟨k + 1, hk1, by go_num, hI3, b_kept hbel hk3 hnotg'.out⟩
                case measure => simp [intOf] <;> omega
              · have hmk : bits .and .u64 (sv : Int) 4294967295 = ((sv % 256 ^ 4 : Nat) : Int) := by
                  have := u64_and_nat sv 4294967295 (by omega) (by decide)
                  rw [show ((4294967295 : Nat) : Int) = 4294967295 from rfl] at this
                  rw [this, show 4294967295 = 2 ^ 32 - 1 from rfl, and_mask]
                have htkz : Hid (Tl.takeN ⟨layFrom L K k, 0⟩ (4 : Int) 18446744073709551615 = (⟨layFrom L K (k + 1), 0⟩, sv % 256 ^ 4)) := Lib.hid htk.out
                clear htk
                go_wp2_with (go_at_call 42; refine (inN_any g2 ⟨layFrom L K k, 0⟩ 4 18446744073709551615 _ hI (by decide)).mono ?_; rintro e x2 ⟨he, hI3, hk3⟩; rw [htkz.out] at he hI3; subst he)
                go_roundw
                case rel => exact ⟨k + 1, hk1, by go_num, hI3, b_kept hbel hk3 hnotg'.out⟩
                case measure => simp [intOf] <;> omega
              · have hmk : bits .and .u64 (sv : Int) 1099511627775 = ((sv % 256 ^ 5 : Nat) : Int) := by
                  have := u64_and_nat sv 1099511627775 (by omega) (by decide)
                  rw [show ((1099511627775 : Nat) : Int) = 1099511627775 from rfl] at this
                  rw [this, show 1099511627775 = 2 ^ 40 - 1 from rfl, and_mask]
                have htkz : Hid (Tl.takeN ⟨layFrom L K k, 0⟩ (5 : Int) 18446744073709551615 = (⟨layFrom L K (k + 1), 0⟩, sv % 256 ^ 5)) := Lib.hid htk.out
                clear htk
                go_wp2_with (go_at_call 42; refine (inN_any g2 ⟨layFrom L K k, 0⟩ 5 18446744073709551615 _ hI (by decide)).mono ?_; rintro e x2 ⟨he, hI3, hk3⟩; rw [htkz.out] at he hI3; subst he)
                go_roundw
                case rel => exact ⟨k + 1, hk1, by go_num, hI3, b_kept hbel hk3 hnotg'.out⟩
                case measure => simp [intOf] <;> omega
              · have hmk : bits .and .u64 (sv : Int) 281474976710655 = ((sv % 256 ^ 6 : Nat) : Int) := by
                  have := u64_and_nat sv 281474976710655 (by omega) (by decide)
                  rw [show ((281474976710655 : Nat) : Int) = 281474976710655 from rfl] at this
                  rw [this, show 281474976710655 = 2 ^ 48 - 1 from rfl, and_mask]
                have htkz : Hid (Tl.takeN ⟨layFrom L K k, 0⟩ (6 : Int) 18446744073709551615 = (⟨layFrom L K (k + 1), 0⟩, sv % 256 ^ 6)) := Lib.hid htk.out
                clear htk
                go_wp2_with (go_at_call 42; refine (inN_any g2 ⟨layFrom L K k, 0⟩ 6 18446744073709551615 _ hI (by decide)).mono ?_; rintro e x2 ⟨he, hI3, hk3⟩; rw [htkz.out] at he hI3; subst he)
                go_roundw
                case rel => exact ⟨k + 1, hk1, by go_num, hI3, b_kept hbel hk3 hnotg'.out⟩
                case measure => simp [intOf] <;> omega
              · have hmk : bits .and .u64 (sv : Int) 72057594037927935 = ((sv % 256 ^ 7 : Nat) : Int) := by
                  have := u64_and_nat sv 72057594037927935 (by omega) (by decide)
                  rw [show ((72057594037927935 : Nat) : Int) = 72057594037927935 from rfl] at this
                  rw [this, show 72057594037927935 = 2 ^ 56 - 1 from rfl, and_mask]
                have htkz : Hid (Tl.takeN ⟨layFrom L K k, 0⟩ (7 : Int) 18446744073709551615 = (⟨layFrom L K (k + 1), 0⟩, sv % 256 ^ 7)) := Lib.hid htk.out
                clear htk
                go_wp2_with (go_at_call 42; refine (inN_any g2 ⟨layFrom L K k, 0⟩ 7 18446744073709551615 _ hI (by decide)).mono ?_; rintro e x2 ⟨he, hI3, hk3⟩; rw [htkz.out] at he hI3; subst he)
                go_roundw
                case rel => exact ⟨k + 1, hk1, by go_num, hI3, b_kept hbel hk3 hnotg'.out⟩
                case measure => simp [intOf] <;> omega
              · have hmk : sv % 256 ^ 8 = sv := Nat.mod_eq_of_lt hv
                rw [hmk] at htk
                have htkz : Hid (Tl.takeN ⟨layFrom L K k, 0⟩ (8 : Int) 18446744073709551615 = (⟨layFrom L K (k + 1), 0⟩, sv)) := Lib.hid htk.out
                clear htk
                go_wp2_with (go_at_call 42; refine (inN_any g2 ⟨layFrom L K k, 0⟩ 8 18446744073709551615 _ hI (by decide)).mono ?_; rintro e x2 ⟨he, hI3, hk3⟩; rw [htkz.out] at he hI3; subst he)
                go_roundw
                case rel => exact ⟨k + 1, hk1, by go_num, hI3, b_kept hbel hk3 hnotg'.out⟩
                case measure => simp [intOf] <;> omega
        · have hkK : k = K := by omega
          have hex : k = n ∨ (k < n ∧ k = 60) := by omega
          clear h12
          rw [layFrom_end (.inl (by omega))] at hI
          subst hkK
          have hTr := hT.keep hbel
          have hd0 : Tl.done ⟨[], 0⟩ = 0 := rfl
          rcases hex with hex | ⟨h1x, hex⟩
          · subst hex
            go_wp2_with fail
            refine (inDone_any g2 ⟨[], 0⟩ _ hI).mono ?_
            rintro e x5 ⟨V, rfl, hV, rfl⟩
            rw [hd0] at hV
            obtain rfl := hV.eq
            go_wp2_with fail
            refine (sure19_any _ hTr).mono ?_
            rintro e x6 ⟨rfl, hb6⟩
            go_wp2_with fail
            go_ret
            exact ⟨rfl, b_then hbel hb6⟩
          · subst hex
            go_wp2_with fail
            refine (inDone_any g2 ⟨[], 0⟩ _ hI).mono ?_
            rintro e x5 ⟨V, rfl, hV, rfl⟩
            rw [hd0] at hV
            obtain rfl := hV.eq
            go_wp2_with fail
            refine (sure19_any _ hTr).mono ?_
            rintro e x6 ⟨rfl, hb6⟩
            go_wp2_with fail
            go_ret
            exact ⟨rfl, b_then hbel hb6⟩
end Go.Proofs.YtcoiaggedipapaaDoor
