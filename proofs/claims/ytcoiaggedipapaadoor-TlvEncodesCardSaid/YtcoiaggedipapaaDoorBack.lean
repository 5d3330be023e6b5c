/-
  TlvBack: the walk.
-/
import Derived.Test.YtcoiaggedipapaaDoorSame
namespace Go.Proofs.YtcoiaggedipapaaDoor
open Go.RowKit
set_option linter.unusedVariables false
set_option linter.unusedSimpArgs false
set_option maxRecDepth 100000

theorem Secs.secOk {w : World} {A : Option Addr} {n c : Nat} {L : List SecV} (h : Secs w A n c L) : ∀ s ∈ secL L, Tl.SecOk s := by
  intro s hs
  simp only [secL, List.mem_map] at hs
  obtain ⟨t, ht, rfl⟩ := hs
  have := h.ok t ht
  exact ⟨this.1, this.2.small⟩
theorem Secs.blt {w : World} {A : Option Addr} {n c : Nat} {L : List SecV} (h : Secs w A n c L) : ∀ s ∈ L, 0 < s.n → ∀ k, s.A.map (·.block) = some k → k < w.heap.size := by
  intro s hs h0 k hk
  obtain ⟨b, off, e, hlt⟩ := (h.ok s hs).2.lt h0
  rw [e] at hk
  simp at hk
  omega
theorem Secs.size_le {w : World} {A : Option Addr} {n c : Nat} {L : List SecV} (h : Secs w A n c L) (hl : longB L = false) : Tl.size (secL L) ≤ 22416 ∧ L.length ≤ 200 := by
  have e := size_len L (fun s hs => (h.ok s hs).2.len)
  unfold longB at hl
  simp only [Bool.or_eq_false_iff, decide_eq_false_iff_not] at hl
  obtain ⟨h1, h2⟩ := hl
  rw [Nat.min_eq_left (by omega), lenTo_all L _ (Nat.le_refl _)] at h2
  omega

set_option maxHeartbeats 8000000 in
theorem back_long (v : Nat) (A : Option Addr) (n c : Nat) (L : List SecV) (A' : Option Addr) (n' c' : Nat) (l : List Nat) (w : World) (hv : v < 4294967296) (hS : Secs w A n c L) (hb : Bs w A' n' c' l) (hT : TabW w) (hlong : Hid (longB L = true)) :
    Calls Tryd.prog 6 #[.int .u32 v, .slice A n c, .slice A' n' c'] w fun e w' => e = .returned (.bool true) ∧ Below w.heap.size w w' := by
  go_enter Tryd.func6, Tryd.ntmps6
  go_wp2_with fail
  refine (long_any A n c L _ hS).mono ?_
  rw [hlong.out]
  rintro e w1 ⟨rfl, rfl⟩
  go_wp2_with fail
  refine (sure19_any _ hT).mono ?_
  rintro e w2 ⟨rfl, hb2⟩
  go_wp2_with fail
  go_ret
  exact ⟨rfl, hb2⟩

set_option maxHeartbeats 8000000 in
theorem back_big (v : Nat) (A : Option Addr) (n c : Nat) (L : List SecV) (A' : Option Addr) (n' c' : Nat) (l : List Nat) (w : World) (hv : v < 4294967296) (hS : Secs w A n c L) (hb : Bs w A' n' c' l) (hT : TabW w) (hlong : Hid (longB L = false)) (hbig : 20000 < n') :
    Calls Tryd.prog 6 #[.int .u32 v, .slice A n c, .slice A' n' c'] w fun e w' => e = .returned (.bool true) ∧ Below w.heap.size w w' := by
  have hbig' : (20000 : Int) < (n' : Int) := by omega
  go_enter Tryd.func6, Tryd.ntmps6
  go_wp2_with fail
  refine (long_any A n c L _ hS).mono ?_
  rw [hlong.out]
  rintro e w1 ⟨rfl, rfl⟩
  go_wp2_with fail
  refine (sure19_any _ hT).mono ?_
  rintro e w2 ⟨rfl, hb2⟩
  go_wp2_with fail
  go_ret
  exact ⟨rfl, hb2⟩

set_option maxHeartbeats 8000000 in
theorem back_ed (v : Nat) (A : Option Addr) (n c : Nat) (L : List SecV) (A' : Option Addr) (n' c' : Nat) (l : List Nat) (w : World) (hv : v < 4294967296) (hS : Secs w A n c L) (hb : Bs w A' n' c' l) (hT : TabW w) (hlong : Hid (longB L = false)) (hbig : n' ≤ 20000) (henc : Hid (Tl.encE (secL L) = 0)) (hdec : Hid (Tl.decE l = 0)) :
    Calls Tryd.prog 6 #[.int .u32 v, .slice A n c, .slice A' n' c'] w fun e w' => e = .returned (.bool true) ∧ Below w.heap.size w w' := by
  have hbig' : ¬ (20000 : Int) < (n' : Int) := by omega
  have hsz := (hS.size_le hlong.out).1
  have hsz' : Tl.size (secL L) ≤ 1099511627776 := by omega
  have hbl := Lib.hid hS.blt
  obtain ⟨hd1, hd2, hd3⟩ := Tl.dec_file v (secL L) hv hS.secOk henc.out
  have hd1' := Lib.hid hd1
  have hd2' := Lib.hid hd2
  have hd3' := Lib.hid hd3
  clear hd1 hd2 hd3
  obtain ⟨hf1, hf2, hf3, hf4⟩ := Tl.file_dec l hb.small hdec.out
  have hf1' := Lib.hid hf1
  have hf2' := Lib.hid hf2
  have hfs : Tl.size (Tl.decL l) = n' := by have := Tl.file_length (Tl.decV l) (Tl.decL l); rw [hf1, hb.len] at this; exact this.symm
  have hfs' := Lib.hid hfs
  clear hf1 hf2 hf3 hfs
  go_enter Tryd.func6, Tryd.ntmps6
  go_wp2_with fail
  refine (long_any A n c L _ hS).mono ?_
  rw [hlong.out]
  rintro e w1 ⟨rfl, rfl⟩
  go_wp2_with fail
  refine (give_any A n c L _ hS hbl.out).mono ?_
  rintro e w2 ⟨A2, c2, rfl, hown2, hb2⟩
  have hS2 := hown2.secs
  have hT2 := hT.keep hb2
  go_wp2_with fail
  refine (encode_any v A2 n c2 L _ hS2 hT2 hv hsz').mono ?_
  intro e w3 hp
  obtain ⟨A3, c3, rfl, hown3, hb3⟩ := encP_ok hp henc.out
  clear hp
  have hbs3 := hown3.bs
  have hbw3 := b_then hb2 hb3
  have hT3 := hT.keep hbw3
  go_wp2_with fail
  refine (decode_any A3 _ c3 _ _ hbs3 hT3).mono ?_
  intro e w4 hp
  obtain ⟨A4, c4, M, rfl, hown4, hM, hb4⟩ := decP_ok hp hd1'.out
  clear hp
  rw [hd2'.out] at hM
  rw [hd3'.out]
  have hM' := Lib.hid hM
  clear hM
  have hS4 := hown4.secs
  have hbw4 := b_then hbw3 hb4
  have hSw := hS.keep hbw4
  go_wp2_with fail
  refine (same_yes A4 A _ c4 n c M L _ hS4 hSw hM'.out).mono ?_
  rintro e w5 ⟨rfl, q5, rfl⟩
  have hbx := b_drewN hbw4 q5
  generalize w4.drewN q5 = wx at hbx ⊢
  have hbxb := hb.keep hbx
  have hTx := hT.keep hbx
  go_wp2_with fail
  refine (decode_any A' n' c' l _ hbxb hTx).mono ?_
  intro e w6 hp
  obtain ⟨A6, c6, M6, rfl, hown6, hM6, hb6⟩ := decP_ok hp hdec.out
  clear hp
  have hS6 := hown6.secs
  have hbw6 := b_then hbx hb6
  have hT6 := hT.keep hbw6
  have hM6s : Hid (Tl.size (secL M6) = n') := Lib.hid (by rw [hM6]; exact hfs'.out)
  have hM6e : Hid (Tl.encE (secL M6) = 0) := Lib.hid (by rw [hM6]; exact hf2'.out)
  have hM6f : Hid (Tl.file (Tl.decV l) (secL M6) = l) := Lib.hid (by rw [hM6]; exact hf1'.out)
  have hM6z : Tl.size (secL M6) ≤ 1099511627776 := by rw [hM6s.out]; omega
  clear hM6
  go_wp2_with fail
  refine (encode_any (Tl.decV l) A6 _ c6 M6 _ hS6 hT6 hf4 hM6z).mono ?_
  intro e w7 hp
  obtain ⟨A7, c7, rfl, hown7, hb7⟩ := encP_ok hp hM6e.out
  clear hp hM6z
  rw [hM6s.out, hM6f.out] at hown7
  rw [hM6s.out]
  have hbs7 := hown7.bs
  have hbw7 := b_then hbw6 hb7
  have hT7 := hT.keep hbw7
  have hb7' := hb.keep hbw7
  have hcv1 := run_str (P := Tryd.prog) 23 5 9 Tryd.underlying23 Tryd.underlying5 Tryd.underlying9 hbs7
  have hcv2 := run_str (P := Tryd.prog) 23 5 9 Tryd.underlying23 Tryd.underlying5 Tryd.underlying9 hb7'
  generalize strOf l = st at hcv1 hcv2
  go_wp2_with fail
  refine (sure19_any _ hT7).mono ?_
  rintro e w8 ⟨rfl, hb8⟩
  go_wp2_with fail
  go_ret
  exact ⟨rfl, b_then hbw7 hb8⟩

set_option maxHeartbeats 8000000 in
theorem back_en (v : Nat) (A : Option Addr) (n c : Nat) (L : List SecV) (A' : Option Addr) (n' c' : Nat) (l : List Nat) (w : World) (hv : v < 4294967296) (hS : Secs w A n c L) (hb : Bs w A' n' c' l) (hT : TabW w) (hlong : Hid (longB L = false)) (hbig : n' ≤ 20000) (henc : Hid (Tl.encE (secL L) = 0)) (hdec : Hid (Tl.decE l ≠ 0)) :
    Calls Tryd.prog 6 #[.int .u32 v, .slice A n c, .slice A' n' c'] w fun e w' => e = .returned (.bool true) ∧ Below w.heap.size w w' := by
  have hbig' : ¬ (20000 : Int) < (n' : Int) := by omega
  have hsz := (hS.size_le hlong.out).1
  have hsz' : Tl.size (secL L) ≤ 1099511627776 := by omega
  have hbl := Lib.hid hS.blt
  obtain ⟨hd1, hd2, hd3⟩ := Tl.dec_file v (secL L) hv hS.secOk henc.out
  have hd1' := Lib.hid hd1
  have hd2' := Lib.hid hd2
  have hd3' := Lib.hid hd3
  clear hd1 hd2 hd3
  go_enter Tryd.func6, Tryd.ntmps6
  go_wp2_with fail
  refine (long_any A n c L _ hS).mono ?_
  rw [hlong.out]
  rintro e w1 ⟨rfl, rfl⟩
  go_wp2_with fail
  refine (give_any A n c L _ hS hbl.out).mono ?_
  rintro e w2 ⟨A2, c2, rfl, hown2, hb2⟩
  have hS2 := hown2.secs
  have hT2 := hT.keep hb2
  go_wp2_with fail
  refine (encode_any v A2 n c2 L _ hS2 hT2 hv hsz').mono ?_
  intro e w3 hp
  obtain ⟨A3, c3, rfl, hown3, hb3⟩ := encP_ok hp henc.out
  clear hp
  have hbs3 := hown3.bs
  have hbw3 := b_then hb2 hb3
  have hT3 := hT.keep hbw3
  go_wp2_with fail
  refine (decode_any A3 _ c3 _ _ hbs3 hT3).mono ?_
  intro e w4 hp
  obtain ⟨A4, c4, M, rfl, hown4, hM, hb4⟩ := decP_ok hp hd1'.out
  clear hp
  rw [hd2'.out] at hM
  rw [hd3'.out]
  have hM' := Lib.hid hM
  clear hM
  have hS4 := hown4.secs
  have hbw4 := b_then hbw3 hb4
  have hSw := hS.keep hbw4
  go_wp2_with fail
  refine (same_yes A4 A _ c4 n c M L _ hS4 hSw hM'.out).mono ?_
  rintro e w5 ⟨rfl, q5, rfl⟩
  have hbx := b_drewN hbw4 q5
  generalize w4.drewN q5 = wx at hbx ⊢
  have hbxb := hb.keep hbx
  have hTx := hT.keep hbx
  go_wp2_with fail
  refine (decode_any A' n' c' l _ hbxb hTx).mono ?_
  intro e w6 hp
  obtain ⟨rfl, hb6⟩ := decP_bad hp hdec.out
  clear hp
  have hbw6 := b_then hbx hb6
  have hT6 := hT.keep hbw6
  go_wp2_with fail
  refine (sure19_any _ hT6).mono ?_
  rintro e w8 ⟨rfl, hb8⟩
  go_wp2_with fail
  go_ret
  exact ⟨rfl, b_then hbw6 hb8⟩

set_option maxHeartbeats 8000000 in
theorem back_nd (v : Nat) (A : Option Addr) (n c : Nat) (L : List SecV) (A' : Option Addr) (n' c' : Nat) (l : List Nat) (w : World) (hv : v < 4294967296) (hS : Secs w A n c L) (hb : Bs w A' n' c' l) (hT : TabW w) (hlong : Hid (longB L = false)) (hbig : n' ≤ 20000) (henc : Hid (Tl.encE (secL L) ≠ 0)) (hdec : Hid (Tl.decE l = 0)) :
    Calls Tryd.prog 6 #[.int .u32 v, .slice A n c, .slice A' n' c'] w fun e w' => e = .returned (.bool true) ∧ Below w.heap.size w w' := by
  have hbig' : ¬ (20000 : Int) < (n' : Int) := by omega
  have hsz := (hS.size_le hlong.out).1
  have hsz' : Tl.size (secL L) ≤ 1099511627776 := by omega
  have hbl := Lib.hid hS.blt
  obtain ⟨hf1, hf2, hf3, hf4⟩ := Tl.file_dec l hb.small hdec.out
  have hf1' := Lib.hid hf1
  have hf2' := Lib.hid hf2
  have hfs : Tl.size (Tl.decL l) = n' := by have := Tl.file_length (Tl.decV l) (Tl.decL l); rw [hf1, hb.len] at this; exact this.symm
  have hfs' := Lib.hid hfs
  clear hf1 hf2 hf3 hfs
  go_enter Tryd.func6, Tryd.ntmps6
  go_wp2_with fail
  refine (long_any A n c L _ hS).mono ?_
  rw [hlong.out]
  rintro e w1 ⟨rfl, rfl⟩
  go_wp2_with fail
  refine (give_any A n c L _ hS hbl.out).mono ?_
  rintro e w2 ⟨A2, c2, rfl, hown2, hb2⟩
  have hS2 := hown2.secs
  have hT2 := hT.keep hb2
  go_wp2_with fail
  refine (encode_any v A2 n c2 L _ hS2 hT2 hv hsz').mono ?_
  intro e w3 hp
  obtain ⟨rfl, hb3⟩ := encP_bad hp henc.out
  clear hp
  have hbx := b_then hb2 hb3
  have hbxb := hb.keep hbx
  have hTx := hT.keep hbx
  go_wp2_with fail
  refine (decode_any A' n' c' l _ hbxb hTx).mono ?_
  intro e w6 hp
  obtain ⟨A6, c6, M6, rfl, hown6, hM6, hb6⟩ := decP_ok hp hdec.out
  clear hp
  have hS6 := hown6.secs
  have hbw6 := b_then hbx hb6
  have hT6 := hT.keep hbw6
  have hM6s : Hid (Tl.size (secL M6) = n') := Lib.hid (by rw [hM6]; exact hfs'.out)
  have hM6e : Hid (Tl.encE (secL M6) = 0) := Lib.hid (by rw [hM6]; exact hf2'.out)
  have hM6f : Hid (Tl.file (Tl.decV l) (secL M6) = l) := Lib.hid (by rw [hM6]; exact hf1'.out)
  have hM6z : Tl.size (secL M6) ≤ 1099511627776 := by rw [hM6s.out]; omega
  clear hM6
  go_wp2_with fail
  refine (encode_any (Tl.decV l) A6 _ c6 M6 _ hS6 hT6 hf4 hM6z).mono ?_
  intro e w7 hp
  obtain ⟨A7, c7, rfl, hown7, hb7⟩ := encP_ok hp hM6e.out
  clear hp hM6z
  rw [hM6s.out, hM6f.out] at hown7
  rw [hM6s.out]
  have hbs7 := hown7.bs
  have hbw7 := b_then hbw6 hb7
  have hT7 := hT.keep hbw7
  have hb7' := hb.keep hbw7
  have hcv1 := run_str (P := Tryd.prog) 23 5 9 Tryd.underlying23 Tryd.underlying5 Tryd.underlying9 hbs7
  have hcv2 := run_str (P := Tryd.prog) 23 5 9 Tryd.underlying23 Tryd.underlying5 Tryd.underlying9 hb7'
  generalize strOf l = st at hcv1 hcv2
  go_wp2_with fail
  refine (sure19_any _ hT7).mono ?_
  rintro e w8 ⟨rfl, hb8⟩
  go_wp2_with fail
  go_ret
  exact ⟨rfl, b_then hbw7 hb8⟩

set_option maxHeartbeats 8000000 in
theorem back_nn (v : Nat) (A : Option Addr) (n c : Nat) (L : List SecV) (A' : Option Addr) (n' c' : Nat) (l : List Nat) (w : World) (hv : v < 4294967296) (hS : Secs w A n c L) (hb : Bs w A' n' c' l) (hT : TabW w) (hlong : Hid (longB L = false)) (hbig : n' ≤ 20000) (henc : Hid (Tl.encE (secL L) ≠ 0)) (hdec : Hid (Tl.decE l ≠ 0)) :
    Calls Tryd.prog 6 #[.int .u32 v, .slice A n c, .slice A' n' c'] w fun e w' => e = .returned (.bool true) ∧ Below w.heap.size w w' := by
  have hbig' : ¬ (20000 : Int) < (n' : Int) := by omega
  have hsz := (hS.size_le hlong.out).1
  have hsz' : Tl.size (secL L) ≤ 1099511627776 := by omega
  have hbl := Lib.hid hS.blt
  go_enter Tryd.func6, Tryd.ntmps6
  go_wp2_with fail
  refine (long_any A n c L _ hS).mono ?_
  rw [hlong.out]
  rintro e w1 ⟨rfl, rfl⟩
  go_wp2_with fail
  refine (give_any A n c L _ hS hbl.out).mono ?_
  rintro e w2 ⟨A2, c2, rfl, hown2, hb2⟩
  have hS2 := hown2.secs
  have hT2 := hT.keep hb2
  go_wp2_with fail
  refine (encode_any v A2 n c2 L _ hS2 hT2 hv hsz').mono ?_
  intro e w3 hp
  obtain ⟨rfl, hb3⟩ := encP_bad hp henc.out
  clear hp
  have hbx := b_then hb2 hb3
  have hbxb := hb.keep hbx
  have hTx := hT.keep hbx
  go_wp2_with fail
  refine (decode_any A' n' c' l _ hbxb hTx).mono ?_
  intro e w6 hp
  obtain ⟨rfl, hb6⟩ := decP_bad hp hdec.out
  clear hp
  have hbw6 := b_then hbx hb6
  have hT6 := hT.keep hbw6
  go_wp2_with fail
  refine (sure19_any _ hT6).mono ?_
  rintro e w8 ⟨rfl, hb8⟩
  go_wp2_with fail
  go_ret
  exact ⟨rfl, b_then hbw6 hb8⟩

theorem law_tlvback (v : Nat) (A : Option Addr) (n c : Nat) (L : List SecV) (A' : Option Addr) (n' c' : Nat) (l : List Nat) (w : World) (hv : v < 4294967296) (hS : Secs w A n c L) (hb : Bs w A' n' c' l) (hT : TabW w) :
    Calls Tryd.prog 6 #[.int .u32 v, .slice A n c, .slice A' n' c'] w fun e w' => e = .returned (.bool true) ∧ Below w.heap.size w w' := by
  cases hlong : longB L with
  | true => exact back_long v A n c L A' n' c' l w hv hS hb hT hlong
  | false =>
    by_cases hbig : 20000 < n'
    · exact back_big v A n c L A' n' c' l w hv hS hb hT hlong hbig
    · have hbig' : n' ≤ 20000 := by omega
      by_cases he : Tl.encE (secL L) = 0 <;> by_cases hd : Tl.decE l = 0
      · exact back_ed v A n c L A' n' c' l w hv hS hb hT hlong hbig' he hd
      · exact back_en v A n c L A' n' c' l w hv hS hb hT hlong hbig' he hd
      · exact back_nd v A n c L A' n' c' l w hv hS hb hT hlong hbig' he hd
      · exact back_nn v A n c L A' n' c' l w hv hS hb hT hlong hbig' he hd
end Go.Proofs.YtcoiaggedipapaaDoor
