/-
  TlvEncodes: the walk.
-/
import Derived.Test.YtcoiaggedipapaaDoorREncode
import Derived.Test.YtcoiaggedipapaaDoorFind
import Derived.Test.YtcoiaggedipapaaDoorBack
import Derived.Test.YtcoiaggedipapaaDoorAs
namespace Go.Proofs.YtcoiaggedipapaaDoor
open Go.RowKit
set_option linter.unusedVariables false
set_option linter.unusedSimpArgs false
set_option maxRecDepth 100000

set_option maxHeartbeats 4000000 in
theorem encodes_long (v : Nat) (A : Option Addr) (n c : Nat) (L : List SecV) (tag : Nat) (w : World) (hS : Secs w A n c L) (hT : TabW w) (hlong : Hid (longB L = true)) :
    Calls Tryd.prog 12 #[.int .u32 v, .slice A n c, .int .u32 tag] w (fun e w' => e = .returned (.bool true) ∧ Below w.heap.size w w') := by
  go_enter Tryd.func12, Tryd.ntmps12
  go_wp2_with fail
  refine (long_any A n c L _ hS).mono ?_
  rw [hlong.out]
  rintro e w1 ⟨rfl, rfl⟩
  go_wp2_with fail
  refine (sure19_any _ hT).mono ?_
  rintro e w2 ⟨rfl, hb2⟩
  go_wp2_with fail
  go_ret
  exact ⟨rfl, hb2⟩
set_option maxHeartbeats 8000000 in
theorem encodes_ef (v : Nat) (A : Option Addr) (n c : Nat) (L : List SecV) (tag : Nat) (K : Nat) (s : SecV) (w : World) (hv : v < 4294967296) (hS : Secs w A n c L) (hT : TabW w) (hE : ErrW w) (hlong : Hid (longB L = false)) (henc : Hid (Tl.encE (secL L) = 0)) (hF : Found L tag K s) :
    Calls Tryd.prog 12 #[.int .u32 v, .slice A n c, .int .u32 tag] w (fun e w' => e = .returned (.bool true) ∧ Below w.heap.size w w') := by
  have hsz := (hS.size_le hlong.out).1
  have hsz' : Tl.size (secL L) ≤ 1099511627776 := by omega
  have hbl := Lib.hid hS.blt
  go_enter Tryd.func12, Tryd.ntmps12
  go_wp2_with fail
  refine (long_any A n c L _ hS).mono ?_
  rw [hlong.out]
  rintro e w1 ⟨rfl, rfl⟩
  go_wp2_with fail
  refine (give_any A n c L _ hS hbl.out).mono ?_
  rintro e w2 ⟨A2, c2, rfl, hown2, hb2⟩
  have hS2 := hown2.secs
  have hT2 := hT.keep hb2
  go_wp2_with fail
  refine (encode_any v A2 n c2 L _ hS2 hT2 hv hsz').mono ?_
  intro e w3 hp
  obtain ⟨A3, c3, rfl, hown3, hb3⟩ := encP_ok hp henc.out
  clear hp
  have hbw3 := b_then hb2 hb3
  have hS3 := hS.keep hbw3
  go_wp2_with fail
  refine (rEncode_any v A n c L _ hS3 hv hsz').mono ?_
  intro e w4 hp
  obtain ⟨A4, c4, rfl, hown4, hb4⟩ := rencP_ok hp henc.out
  clear hp
  have hbw4 := b_then hbw3 hb4
  have hS4 := hS.keep hbw4
  have hbl4 := Lib.hid hS4.blt
  go_wp2_with fail
  refine (give_any A n c L _ hS4 hbl4.out).mono ?_
  rintro e w5 ⟨A5, c5, rfl, hown5, hb5⟩
  have hbw5 := b_then hbw4 hb5
  have hS5 := hown5.secs
  go_wp2_with fail
  refine (find_ok A5 n c5 L tag K s _ hS5 hF).mono ?_
  rintro e w6 ⟨A6, c6, rfl, hown6, hb6⟩
  have hbw6 := b_then hbw5 hb6
  have hS6 := hS.keep hbw6
  go_wp2_with fail
  refine (rFind_ok A n c L tag K s _ hS6 hF).mono ?_
  rintro e w7 ⟨rfl, rfl⟩
  have hx3 := (hown3.bs.keep (b_then hb4 (b_then hb5 hb6)))
  have hx4 := (hown4.bs.keep (b_then hb5 hb6))
  have cv1 := run_str (P := Tryd.prog) 23 5 9 Tryd.underlying23 Tryd.underlying5 Tryd.underlying9 hx3
  have cv2 := run_str (P := Tryd.prog) 23 5 9 Tryd.underlying23 Tryd.underlying5 Tryd.underlying9 hx4
  generalize strOf (Tl.file v (secL L)) = st1 at cv1 cv2
  have hE6 := hE.keep hbw6
  go_wp2_with fail
  refine (num45_any _ 0 _ ErrV.none hE6).mono ?_
  rintro e w8 ⟨rfl, hb8⟩
  have hbw8 := b_then hbw6 hb8
  have hsb := (hS.keep hbw8).ok s (List.mem_of_getElem? hF.at_)
  have hx6 := hown6.bs.keep hb8
  have cv3 := run_str (P := Tryd.prog) 23 5 9 Tryd.underlying23 Tryd.underlying5 Tryd.underlying9 hx6
  have cv4 := run_str (P := Tryd.prog) 23 5 9 Tryd.underlying23 Tryd.underlying5 Tryd.underlying9 hsb.2
  generalize strOf s.b = st2 at cv3 cv4
  have hE8 := hE.keep hbw8
  go_wp2_with fail
  refine (num45_any _ 0 _ ErrV.none hE8).mono ?_
  rintro e w9 ⟨rfl, hb9⟩
  have hbw9 := b_then hbw8 hb9
  have hT9 := hT.keep hbw9
  go_wp2_with fail
  refine (sure19_any _ hT9).mono ?_
  rintro e w10 ⟨rfl, hb10⟩
  go_wp2_with fail
  go_ret
  exact ⟨rfl, b_then hbw9 hb10⟩
set_option maxHeartbeats 8000000 in
theorem encodes_el (v : Nat) (A : Option Addr) (n c : Nat) (L : List SecV) (tag : Nat) (w : World) (hv : v < 4294967296) (hS : Secs w A n c L) (hT : TabW w) (hE : ErrW w) (hlong : Hid (longB L = false)) (henc : Hid (Tl.encE (secL L) = 0)) (hF : Lost L tag) :
    Calls Tryd.prog 12 #[.int .u32 v, .slice A n c, .int .u32 tag] w (fun e w' => e = .returned (.bool true) ∧ Below w.heap.size w w') := by
  have hsz := (hS.size_le hlong.out).1
  have hsz' : Tl.size (secL L) ≤ 1099511627776 := by omega
  have hbl := Lib.hid hS.blt
  go_enter Tryd.func12, Tryd.ntmps12
  go_wp2_with fail
  refine (long_any A n c L _ hS).mono ?_
  rw [hlong.out]
  rintro e w1 ⟨rfl, rfl⟩
  go_wp2_with fail
  refine (give_any A n c L _ hS hbl.out).mono ?_
  rintro e w2 ⟨A2, c2, rfl, hown2, hb2⟩
  have hS2 := hown2.secs
  have hT2 := hT.keep hb2
  go_wp2_with fail
  refine (encode_any v A2 n c2 L _ hS2 hT2 hv hsz').mono ?_
  intro e w3 hp
  obtain ⟨A3, c3, rfl, hown3, hb3⟩ := encP_ok hp henc.out
  clear hp
  have hbw3 := b_then hb2 hb3
  have hS3 := hS.keep hbw3
  go_wp2_with fail
  refine (rEncode_any v A n c L _ hS3 hv hsz').mono ?_
  intro e w4 hp
  obtain ⟨A4, c4, rfl, hown4, hb4⟩ := rencP_ok hp henc.out
  clear hp
  have hbw4 := b_then hbw3 hb4
  have hS4 := hS.keep hbw4
  have hbl4 := Lib.hid hS4.blt
  go_wp2_with fail
  refine (give_any A n c L _ hS4 hbl4.out).mono ?_
  rintro e w5 ⟨A5, c5, rfl, hown5, hb5⟩
  have hbw5 := b_then hbw4 hb5
  have hS5 := hown5.secs
  go_wp2_with fail
  refine (find_no A5 n c5 L tag _ hS5 hF).mono ?_
  rintro e w6 ⟨rfl, hb6⟩
  have hbw6 := b_then hbw5 hb6
  have hS6 := hS.keep hbw6
  go_wp2_with fail
  refine (rFind_no A n c L tag _ hS6 hF).mono ?_
  rintro e w7 ⟨rfl, rfl⟩
  have hx3 := (hown3.bs.keep (b_then hb4 (b_then hb5 hb6)))
  have hx4 := (hown4.bs.keep (b_then hb5 hb6))
  have cv1 := run_str (P := Tryd.prog) 23 5 9 Tryd.underlying23 Tryd.underlying5 Tryd.underlying9 hx3
  have cv2 := run_str (P := Tryd.prog) 23 5 9 Tryd.underlying23 Tryd.underlying5 Tryd.underlying9 hx4
  generalize strOf (Tl.file v (secL L)) = st1 at cv1 cv2
  have hE6 := hE.keep hbw6
  go_wp2_with fail
  refine (num45_any _ 0 _ ErrV.none hE6).mono ?_
  rintro e w8 ⟨rfl, hb8⟩
  have hbw8 := b_then hbw6 hb8
  have cv3 := run_str (P := Tryd.prog) 23 5 9 Tryd.underlying23 Tryd.underlying5 Tryd.underlying9 (Bs.nil w8 none 0)
  generalize strOf [] = st2 at cv3
  have hE8 := hE.keep hbw8
  go_wp2_with fail
  refine (num45_any _ _ _ (ErrV.num 8) hE8).mono ?_
  rintro e w9 ⟨rfl, hb9⟩
  have hbw9 := b_then hbw8 hb9
  have hT9 := hT.keep hbw9
  go_wp2_with fail
  refine (sure19_any _ hT9).mono ?_
  rintro e w10 ⟨rfl, hb10⟩
  go_wp2_with fail
  go_ret
  exact ⟨rfl, b_then hbw9 hb10⟩
set_option maxHeartbeats 8000000 in
theorem encodes_nf (v : Nat) (A : Option Addr) (n c : Nat) (L : List SecV) (tag : Nat) (K : Nat) (s : SecV) (w : World) (hv : v < 4294967296) (hS : Secs w A n c L) (hT : TabW w) (hE : ErrW w) (hlong : Hid (longB L = false)) (henc : Hid (Tl.encE (secL L) ≠ 0)) (hF : Found L tag K s) :
    Calls Tryd.prog 12 #[.int .u32 v, .slice A n c, .int .u32 tag] w (fun e w' => e = .returned (.bool true) ∧ Below w.heap.size w w') := by
  have hsz := (hS.size_le hlong.out).1
  have hsz' : Tl.size (secL L) ≤ 1099511627776 := by omega
  have hbl := Lib.hid hS.blt
  go_enter Tryd.func12, Tryd.ntmps12
  go_wp2_with fail
  refine (long_any A n c L _ hS).mono ?_
  rw [hlong.out]
  rintro e w1 ⟨rfl, rfl⟩
  go_wp2_with fail
  refine (give_any A n c L _ hS hbl.out).mono ?_
  rintro e w2 ⟨A2, c2, rfl, hown2, hb2⟩
  have hS2 := hown2.secs
  have hT2 := hT.keep hb2
  go_wp2_with fail
  refine (encode_any v A2 n c2 L _ hS2 hT2 hv hsz').mono ?_
  intro e w3 hp
  obtain ⟨rfl, hb3⟩ := encP_bad hp henc.out
  clear hp
  have hbw3 := b_then hb2 hb3
  have hS3 := hS.keep hbw3
  go_wp2_with fail
  refine (rEncode_any v A n c L _ hS3 hv hsz').mono ?_
  intro e w4 hp
  obtain ⟨rfl, hb4⟩ := rencP_bad hp henc.out
  clear hp
  have hbw4 := b_then hbw3 hb4
  have hS4 := hS.keep hbw4
  have hbl4 := Lib.hid hS4.blt
  go_wp2_with fail
  refine (give_any A n c L _ hS4 hbl4.out).mono ?_
  rintro e w5 ⟨A5, c5, rfl, hown5, hb5⟩
  have hbw5 := b_then hbw4 hb5
  have hS5 := hown5.secs
  go_wp2_with fail
  refine (find_ok A5 n c5 L tag K s _ hS5 hF).mono ?_
  rintro e w6 ⟨A6, c6, rfl, hown6, hb6⟩
  have hbw6 := b_then hbw5 hb6
  have hS6 := hS.keep hbw6
  go_wp2_with fail
  refine (rFind_ok A n c L tag K s _ hS6 hF).mono ?_
  rintro e w7 ⟨rfl, rfl⟩
  have cv1 := run_str (P := Tryd.prog) 23 5 9 Tryd.underlying23 Tryd.underlying5 Tryd.underlying9 (Bs.nil w6 none 0)
  generalize strOf [] = st1 at cv1
  have hE6 := hE.keep hbw6
  go_wp2_with fail
  refine (num45_any _ _ _ (ErrV.num _) hE6).mono ?_
  rintro e w8 ⟨rfl, hb8⟩
  have hbw8 := b_then hbw6 hb8
  have hsb := (hS.keep hbw8).ok s (List.mem_of_getElem? hF.at_)
  have hx6 := hown6.bs.keep hb8
  have cv3 := run_str (P := Tryd.prog) 23 5 9 Tryd.underlying23 Tryd.underlying5 Tryd.underlying9 hx6
  have cv4 := run_str (P := Tryd.prog) 23 5 9 Tryd.underlying23 Tryd.underlying5 Tryd.underlying9 hsb.2
  generalize strOf s.b = st2 at cv3 cv4
  have hE8 := hE.keep hbw8
  go_wp2_with fail
  refine (num45_any _ 0 _ ErrV.none hE8).mono ?_
  rintro e w9 ⟨rfl, hb9⟩
  have hbw9 := b_then hbw8 hb9
  have hT9 := hT.keep hbw9
  go_wp2_with fail
  refine (sure19_any _ hT9).mono ?_
  rintro e w10 ⟨rfl, hb10⟩
  go_wp2_with fail
  go_ret
  exact ⟨rfl, b_then hbw9 hb10⟩
set_option maxHeartbeats 8000000 in
theorem encodes_nl (v : Nat) (A : Option Addr) (n c : Nat) (L : List SecV) (tag : Nat) (w : World) (hv : v < 4294967296) (hS : Secs w A n c L) (hT : TabW w) (hE : ErrW w) (hlong : Hid (longB L = false)) (henc : Hid (Tl.encE (secL L) ≠ 0)) (hF : Lost L tag) :
    Calls Tryd.prog 12 #[.int .u32 v, .slice A n c, .int .u32 tag] w (fun e w' => e = .returned (.bool true) ∧ Below w.heap.size w w') := by
  have hsz := (hS.size_le hlong.out).1
  have hsz' : Tl.size (secL L) ≤ 1099511627776 := by omega
  have hbl := Lib.hid hS.blt
  go_enter Tryd.func12, Tryd.ntmps12
  go_wp2_with fail
  refine (long_any A n c L _ hS).mono ?_
  rw [hlong.out]
  rintro e w1 ⟨rfl, rfl⟩
  go_wp2_with fail
  refine (give_any A n c L _ hS hbl.out).mono ?_
  rintro e w2 ⟨A2, c2, rfl, hown2, hb2⟩
  have hS2 := hown2.secs
  have hT2 := hT.keep hb2
  go_wp2_with fail
  refine (encode_any v A2 n c2 L _ hS2 hT2 hv hsz').mono ?_
  intro e w3 hp
  obtain ⟨rfl, hb3⟩ := encP_bad hp henc.out
  clear hp
  have hbw3 := b_then hb2 hb3
  have hS3 := hS.keep hbw3
  go_wp2_with fail
  refine (rEncode_any v A n c L _ hS3 hv hsz').mono ?_
  intro e w4 hp
  obtain ⟨rfl, hb4⟩ := rencP_bad hp henc.out
  clear hp
  have hbw4 := b_then hbw3 hb4
  have hS4 := hS.keep hbw4
  have hbl4 := Lib.hid hS4.blt
  go_wp2_with fail
  refine (give_any A n c L _ hS4 hbl4.out).mono ?_
  rintro e w5 ⟨A5, c5, rfl, hown5, hb5⟩
  have hbw5 := b_then hbw4 hb5
  have hS5 := hown5.secs
  go_wp2_with fail
  refine (find_no A5 n c5 L tag _ hS5 hF).mono ?_
  rintro e w6 ⟨rfl, hb6⟩
  have hbw6 := b_then hbw5 hb6
  have hS6 := hS.keep hbw6
  go_wp2_with fail
  refine (rFind_no A n c L tag _ hS6 hF).mono ?_
  rintro e w7 ⟨rfl, rfl⟩
  have cv1 := run_str (P := Tryd.prog) 23 5 9 Tryd.underlying23 Tryd.underlying5 Tryd.underlying9 (Bs.nil w6 none 0)
  generalize strOf [] = st1 at cv1
  have hE6 := hE.keep hbw6
  go_wp2_with fail
  refine (num45_any _ _ _ (ErrV.num _) hE6).mono ?_
  rintro e w8 ⟨rfl, hb8⟩
  have hbw8 := b_then hbw6 hb8
  have cv3 := run_str (P := Tryd.prog) 23 5 9 Tryd.underlying23 Tryd.underlying5 Tryd.underlying9 (Bs.nil w8 none 0)
  generalize strOf [] = st2 at cv3
  have hE8 := hE.keep hbw8
  go_wp2_with fail
  refine (num45_any _ _ _ (ErrV.num 8) hE8).mono ?_
  rintro e w9 ⟨rfl, hb9⟩
  have hbw9 := b_then hbw8 hb9
  have hT9 := hT.keep hbw9
  go_wp2_with fail
  refine (sure19_any _ hT9).mono ?_
  rintro e w10 ⟨rfl, hb10⟩
  go_wp2_with fail
  go_ret
  exact ⟨rfl, b_then hbw9 hb10⟩
theorem law_tlvencodes (v : Nat) (A : Option Addr) (n c : Nat) (L : List SecV) (tag : Nat) (w : World) (hv : v < 4294967296) (hS : Secs w A n c L) (hT : TabW w) (hE : ErrW w) :
    Calls Tryd.prog 12 #[.int .u32 v, .slice A n c, .int .u32 tag] w (fun e w' => e = .returned (.bool true) ∧ Below w.heap.size w w') := by
  cases hlong : longB L with
  | true => exact encodes_long v A n c L tag w hS hT hlong
  | false =>
    rcases found_or L tag with ⟨K, s, hF⟩ | hF
    · by_cases he : Tl.encE (secL L) = 0
      · exact encodes_ef v A n c L tag K s w hv hS hT hE hlong he hF
      · exact encodes_nf v A n c L tag K s w hv hS hT hE hlong he hF
    · by_cases he : Tl.encE (secL L) = 0
      · exact encodes_el v A n c L tag w hv hS hT hE hlong he hF
      · exact encodes_nl v A n c L tag w hv hS hT hE hlong he hF
end Go.Proofs.YtcoiaggedipapaaDoor
