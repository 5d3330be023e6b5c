/-
  LinkKeeps: nothing comes but what was sent to that side, or that with one bit turned; nothing without a loss is less.
-/
import Derived.Test.YtbmfcaobhgeogaaKeepsL
import Derived.Test.YtbmfcaobhgeogaaKeepsW
import Derived.Test.YtbmfcaobhgeogaaKeepsU
import Derived.Test.YtbmfcaobhgeogaaKeepsS
import Derived.Test.YtbmfcaobhgeogaaKeepsT
namespace Go.Proofs.Ytbmfcaobhgeogaa
open Go.RowKit
set_option linter.unusedVariables false
set_option linter.unusedSimpArgs false
set_option maxRecDepth 1000000
/-- What stands behind the loop and the loop's own exits. -/
abbrev KQ (w : World) (K0 : Act → World → Prop) : Exit → Act → World → Prop := Exit.inBlock 0 (Exit.then K0 (bodyPost Try.prog Try.f6 fun e w' => e = Ending.returned (Value.bool true) ∧ Below w.heap.size w w'))
set_option maxHeartbeats 4000000 in
theorem keeps_exit (A : Option Addr) (n c : Nat) (w : World) (hmx : n ≤ 140737488355328) (R : Act → World → Prop) (K0 : Act → World → Prop) (hexit : ∀ a' w'', KX A n c w a' w'' → K0 a' w'') (U : Nat → Value) (wo : World) (k : Nat) (hex : (n : Int) ≤ (k : Int) ∨ ((k : Int) < (n : Int) ∧ (100 : Int) ≤ (k : Int))) (hb : Below w.heap.size w wo) :
    Code.wp Try.prog kbody (Exit.then R (KQ w K0)) ⟨#[.slice A n c, undef, U 2, .pointer (some ⟨w.heap.size, 0, none⟩), .pointer (some ⟨w.heap.size + 1, 0, none⟩), .pointer (some ⟨w.heap.size + 1 + 1, 0, none⟩), .int .i64 (k : Int), U 7, U 8, U 9, U 10, U 11, U 12, U 13, U 14, U 15, U 16, U 17, U 18, U 19, U 20, U 21, U 22, .agg #[.slice none 0 0, .slice none 0 0, .bool false], .agg #[.int .i64 0, .int .i64 0], U 25, U 26, U 27, U 28, U 29, U 30, U 31, U 32, U 33, U 34, U 35, U 36, U 37, U 38, U 39, U 40, U 41, U 42, U 43, U 44, U 45, U 46, U 47, U 48, U 49, U 50, U 51, U 52, U 53, U 54, U 55, U 56, U 57, U 58, U 59, U 60, U 61, U 62, U 63, U 64, U 65, U 66, U 67, U 68, U 69, U 70, U 71, U 72, U 73, U 74, U 75, U 76, U 77, U 78, U 79, U 80, U 81, U 82, U 83, U 84, U 85, U 86, U 87, U 88, U 89, U 90, U 91, U 92, U 93, U 94, U 95, U 96, U 97, U 98, U 99, U 100, U 101, U 102, U 103, U 104, U 105, U 106, U 107, U 108, U 109, U 110, U 111, U 112, U 113, U 114, U 115, U 116, U 117, U 118, U 119, U 120, U 121, U 122, U 123, U 124, U 125, U 126, U 127, U 128, U 129, U 130, U 131, U 132, U 133, U 134, U 135, U 136, U 137, U 138, U 139, U 140, U 141, U 142, U 143, U 144, U 145, U 146, U 147, U 148, U 149, U 150, U 151, U 152, U 153, U 154, U 155, U 156, U 157, U 158, U 159, U 160, U 161, U 162, U 163, U 164, U 165, U 166, U 167, U 168, U 169, U 170, U 171, U 172, U 173, U 174, U 175, U 176, U 177, U 178, U 179, U 180, U 181, U 182, U 183, U 184, U 185, U 186, U 187, U 188, U 189, U 190, U 191, undef], []⟩ wo := by
  have hX := Lib.hid hexit
  clear hexit
  conv => arg 2; whnf
  rcases hex with h1 | ⟨h1, h2⟩
  all_goals go_wp2_with fail
  all_goals exact hX.out _ _ (KX.mk hb rfl)
set_option maxHeartbeats 4000000 in
theorem keeps_round (A : Option Addr) (n c : Nat) (L : List ActV) (w : World) (hL : Acts w A n c L) (nk : Nat) (hnk : min n 100 = nk) (K0 : Act → World → Prop) (hexit : ∀ a' w'', KX A n c w a' w'' → K0 a' w'') (a : Act) (wo : World) (hI : KI A n c nk w a wo) :
    Code.wp Try.prog kbody (Exit.then (fun a' w'' => KI A n c nk w a' w'' ∧ kmu nk a' < kmu nk a) (KQ w K0)) a wo := by
  obtain ⟨k, U, hk, hsz, hV, rfl⟩ := hI
  rw [show kmu nk ⟨#[.slice A n c, undef, U 2, .pointer (some ⟨w.heap.size, 0, none⟩), .pointer (some ⟨w.heap.size + 1, 0, none⟩), .pointer (some ⟨w.heap.size + 1 + 1, 0, none⟩), .int .i64 (k : Int), U 7, U 8, U 9, U 10, U 11, U 12, U 13, U 14, U 15, U 16, U 17, U 18, U 19, U 20, U 21, U 22, .agg #[.slice none 0 0, .slice none 0 0, .bool false], .agg #[.int .i64 0, .int .i64 0], U 25, U 26, U 27, U 28, U 29, U 30, U 31, U 32, U 33, U 34, U 35, U 36, U 37, U 38, U 39, U 40, U 41, U 42, U 43, U 44, U 45, U 46, U 47, U 48, U 49, U 50, U 51, U 52, U 53, U 54, U 55, U 56, U 57, U 58, U 59, U 60, U 61, U 62, U 63, U 64, U 65, U 66, U 67, U 68, U 69, U 70, U 71, U 72, U 73, U 74, U 75, U 76, U 77, U 78, U 79, U 80, U 81, U 82, U 83, U 84, U 85, U 86, U 87, U 88, U 89, U 90, U 91, U 92, U 93, U 94, U 95, U 96, U 97, U 98, U 99, U 100, U 101, U 102, U 103, U 104, U 105, U 106, U 107, U 108, U 109, U 110, U 111, U 112, U 113, U 114, U 115, U 116, U 117, U 118, U 119, U 120, U 121, U 122, U 123, U 124, U 125, U 126, U 127, U 128, U 129, U 130, U 131, U 132, U 133, U 134, U 135, U 136, U 137, U 138, U 139, U 140, U 141, U 142, U 143, U 144, U 145, U 146, U 147, U 148, U 149, U 150, U 151, U 152, U 153, U 154, U 155, U 156, U 157, U 158, U 159, U 160, U 161, U 162, U 163, U 164, U 165, U 166, U 167, U 168, U 169, U 170, U 171, U 172, U 173, U 174, U 175, U 176, U 177, U 178, U 179, U 180, U 181, U 182, U 183, U 184, U 185, U 186, U 187, U 188, U 189, U 190, U 191, undef], []⟩ = nk - k by simp [kmu, intOf]]
  have hmx := hL.max
  obtain ⟨B0, m0, d0, M0, B1, m1, d1, M1, S0, t0, u0, l0, S1, t1, u1, l1, hK, hF0, hF1, hmm, htt⟩ := hV
  by_cases hkk : k < nk
  · obtain ⟨av, ha⟩ : ∃ av, L[k]? = some av := ⟨_, List.getElem?_eq_getElem (by rw [hL.len]; omega)⟩
    have hz : ∃ z : Nat, z < 6 ∧ (IntKind.u64.wrap av.kind).tmod 6 = (z : Int) := by
      have h := wrap_u64_nonneg av.kind
      refine ⟨((IntKind.u64.wrap av.kind).tmod 6).toNat, ?_, ?_⟩ <;> rw [Int.tmod_eq_emod_of_nonneg h] <;> omega
    obtain ⟨z, hz6, hz⟩ := hz
    have hz5 : z = 2 ∨ z = 3 ∨ z = 4 ∨ z = 5 ∨ z = 0 ∨ z = 1 := by omega
    have hn1 : nk ≤ n := by omega
    have hn2 : nk ≤ 100 := by omega
    rcases and_one av.side with hs2 | hs2
    · rcases hz5 with rfl | rfl | rfl | rfl | rfl | rfl
      · rcases take_cases0 (says M0) (says M1) av.at_ with hr | ⟨i, hi, hr⟩
        · exact take_err0 A n c L w hL nk hn1 hn2 K0 U wo k hkk hsz av ha hz hs2 B0 m0 d0 M0 B1 m1 d1 M1 S0 t0 u0 l0 S1 t1 u1 l1 hK hF0 hF1 hmm htt hr
        · obtain ⟨x, e, hx8, j, hj, hnear⟩ := hF0.near hi
          rw [e] at hr
          exact take_ok0 A n c L w hL nk hn1 hn2 K0 U wo k hkk hsz av ha hz hs2 B0 m0 d0 M0 B1 m1 d1 M1 S0 t0 u0 l0 S1 t1 u1 l1 hK hF0 hF1 hmm htt i hi x hx8 j hj hnear hr
      · rcases take_cases0 (says M0) (says M1) av.at_ with hr | ⟨i, hi, hr⟩
        · exact lose_err0 A n c L w hL nk hn1 hn2 K0 U wo k hkk hsz av ha hz hs2 B0 m0 d0 M0 B1 m1 d1 M1 S0 t0 u0 l0 S1 t1 u1 l1 hK hF0 hF1 hmm htt hr
        · exact lose_ok0 A n c L w hL nk hn1 hn2 K0 U wo k hkk hsz av ha hz hs2 B0 m0 d0 M0 B1 m1 d1 M1 S0 t0 u0 l0 S1 t1 u1 l1 hK hF0 hF1 hmm htt i hi hr
      · rcases twice_cases0 (says M0) (says M1) av.at_ with hr | ⟨i, hi, hr⟩
        · exact twice_err0 A n c L w hL nk hn1 hn2 K0 U wo k hkk hsz av ha hz hs2 B0 m0 d0 M0 B1 m1 d1 M1 S0 t0 u0 l0 S1 t1 u1 l1 hK hF0 hF1 hmm htt hr
        · exact twice_ok0 A n c L w hL nk hn1 hn2 K0 U wo k hkk hsz av ha hz hs2 B0 m0 d0 M0 B1 m1 d1 M1 S0 t0 u0 l0 S1 t1 u1 l1 hK hF0 hF1 hmm htt i hi hr
      · rcases turn_cases0 (says M0) (says M1) av.at_ av.bit with hr | ⟨i, m, sb, hi, hm, hr⟩
        · exact turn_err0 A n c L w hL nk hn1 hn2 K0 U wo k hkk hsz av ha hz hs2 B0 m0 d0 M0 B1 m1 d1 M1 S0 t0 u0 l0 S1 t1 u1 l1 hK hF0 hF1 hmm htt hr
        · exact turn_ok0 A n c L w hL nk hn1 hn2 K0 U wo k hkk hsz av ha hz hs2 B0 m0 d0 M0 B1 m1 d1 M1 S0 t0 u0 l0 S1 t1 u1 l1 hK hF0 hF1 hmm htt i m sb hi hm hr
      · exact send0_0 A n c L w hL nk hn1 hn2 K0 U wo k hkk hsz av ha hz hs2 B0 m0 d0 M0 B1 m1 d1 M1 S0 t0 u0 l0 S1 t1 u1 l1 hK hF0 hF1 hmm htt
      · exact send1_0 A n c L w hL nk hn1 hn2 K0 U wo k hkk hsz av ha hz hs2 B0 m0 d0 M0 B1 m1 d1 M1 S0 t0 u0 l0 S1 t1 u1 l1 hK hF0 hF1 hmm htt
    · rcases hz5 with rfl | rfl | rfl | rfl | rfl | rfl
      · rcases take_cases1 (says M0) (says M1) av.at_ with hr | ⟨i, hi, hr⟩
        · exact take_err1 A n c L w hL nk hn1 hn2 K0 U wo k hkk hsz av ha hz hs2 B0 m0 d0 M0 B1 m1 d1 M1 S0 t0 u0 l0 S1 t1 u1 l1 hK hF0 hF1 hmm htt hr
        · obtain ⟨x, e, hx8, j, hj, hnear⟩ := hF1.near hi
          rw [e] at hr
          exact take_ok1 A n c L w hL nk hn1 hn2 K0 U wo k hkk hsz av ha hz hs2 B0 m0 d0 M0 B1 m1 d1 M1 S0 t0 u0 l0 S1 t1 u1 l1 hK hF0 hF1 hmm htt i hi x hx8 j hj hnear hr
      · rcases take_cases1 (says M0) (says M1) av.at_ with hr | ⟨i, hi, hr⟩
        · exact lose_err1 A n c L w hL nk hn1 hn2 K0 U wo k hkk hsz av ha hz hs2 B0 m0 d0 M0 B1 m1 d1 M1 S0 t0 u0 l0 S1 t1 u1 l1 hK hF0 hF1 hmm htt hr
        · exact lose_ok1 A n c L w hL nk hn1 hn2 K0 U wo k hkk hsz av ha hz hs2 B0 m0 d0 M0 B1 m1 d1 M1 S0 t0 u0 l0 S1 t1 u1 l1 hK hF0 hF1 hmm htt i hi hr
      · rcases twice_cases1 (says M0) (says M1) av.at_ with hr | ⟨i, hi, hr⟩
        · exact twice_err1 A n c L w hL nk hn1 hn2 K0 U wo k hkk hsz av ha hz hs2 B0 m0 d0 M0 B1 m1 d1 M1 S0 t0 u0 l0 S1 t1 u1 l1 hK hF0 hF1 hmm htt hr
        · exact twice_ok1 A n c L w hL nk hn1 hn2 K0 U wo k hkk hsz av ha hz hs2 B0 m0 d0 M0 B1 m1 d1 M1 S0 t0 u0 l0 S1 t1 u1 l1 hK hF0 hF1 hmm htt i hi hr
      · rcases turn_cases1 (says M0) (says M1) av.at_ av.bit with hr | ⟨i, m, sb, hi, hm, hr⟩
        · exact turn_err1 A n c L w hL nk hn1 hn2 K0 U wo k hkk hsz av ha hz hs2 B0 m0 d0 M0 B1 m1 d1 M1 S0 t0 u0 l0 S1 t1 u1 l1 hK hF0 hF1 hmm htt hr
        · exact turn_ok1 A n c L w hL nk hn1 hn2 K0 U wo k hkk hsz av ha hz hs2 B0 m0 d0 M0 B1 m1 d1 M1 S0 t0 u0 l0 S1 t1 u1 l1 hK hF0 hF1 hmm htt i m sb hi hm hr
      · exact send0_1 A n c L w hL nk hn1 hn2 K0 U wo k hkk hsz av ha hz hs2 B0 m0 d0 M0 B1 m1 d1 M1 S0 t0 u0 l0 S1 t1 u1 l1 hK hF0 hF1 hmm htt
      · exact send1_1 A n c L w hL nk hn1 hn2 K0 U wo k hkk hsz av ha hz hs2 B0 m0 d0 M0 B1 m1 d1 M1 S0 t0 u0 l0 S1 t1 u1 l1 hK hF0 hF1 hmm htt
  · exact keeps_exit A n c w hmx _ K0 hexit U wo k (by omega) hK.bel
theorem keeps_loop (A : Option Addr) (n c : Nat) (L : List ActV) (w : World) (hL : Acts w A n c L) (nk : Nat) (hnk : min n 100 = nk) (K0 : Act → World → Prop) (hexit : ∀ a' w'', KX A n c w a' w'' → K0 a' w'') (U : Nat → Value) (wo : World) (hsz : w.heap.size + 2 < wo.heap.size) (hV : KV w w.heap.size 0 wo) :
    Code.wp Try.prog (Code.loop kbody) (KQ w K0) ⟨#[.slice A n c, undef, U 2, .pointer (some ⟨w.heap.size, 0, none⟩), .pointer (some ⟨w.heap.size + 1, 0, none⟩), .pointer (some ⟨w.heap.size + 1 + 1, 0, none⟩), .int .i64 ((0 : Nat) : Int), U 7, U 8, U 9, U 10, U 11, U 12, U 13, U 14, U 15, U 16, U 17, U 18, U 19, U 20, U 21, U 22, .agg #[.slice none 0 0, .slice none 0 0, .bool false], .agg #[.int .i64 0, .int .i64 0], U 25, U 26, U 27, U 28, U 29, U 30, U 31, U 32, U 33, U 34, U 35, U 36, U 37, U 38, U 39, U 40, U 41, U 42, U 43, U 44, U 45, U 46, U 47, U 48, U 49, U 50, U 51, U 52, U 53, U 54, U 55, U 56, U 57, U 58, U 59, U 60, U 61, U 62, U 63, U 64, U 65, U 66, U 67, U 68, U 69, U 70, U 71, U 72, U 73, U 74, U 75, U 76, U 77, U 78, U 79, U 80, U 81, U 82, U 83, U 84, U 85, U 86, U 87, U 88, U 89, U 90, U 91, U 92, U 93, U 94, U 95, U 96, U 97, U 98, U 99, U 100, U 101, U 102, U 103, U 104, U 105, U 106, U 107, U 108, U 109, U 110, U 111, U 112, U 113, U 114, U 115, U 116, U 117, U 118, U 119, U 120, U 121, U 122, U 123, U 124, U 125, U 126, U 127, U 128, U 129, U 130, U 131, U 132, U 133, U 134, U 135, U 136, U 137, U 138, U 139, U 140, U 141, U 142, U 143, U 144, U 145, U 146, U 147, U 148, U 149, U 150, U 151, U 152, U 153, U 154, U 155, U 156, U 157, U 158, U 159, U 160, U 161, U 162, U 163, U 164, U 165, U 166, U 167, U 168, U 169, U 170, U 171, U 172, U 173, U 174, U 175, U 176, U 177, U 178, U 179, U 180, U 181, U 182, U 183, U 184, U 185, U 186, U 187, U 188, U 189, U 190, U 191, undef], []⟩ wo :=
  wp_loop (KI A n c nk w) (fun a _ => kmu nk a) ⟨0, U, Nat.zero_le _, hsz, hV, rfl⟩ (fun a w'' hI => keeps_round A n c L w hL nk hnk K0 hexit a w'' hI)

set_option maxHeartbeats 8000000 in
theorem law_keeps (A : Option Addr) (n c : Nat) (L : List ActV) (w : World) (hL : Acts w A n c L) :
    Calls Try.prog 6 #[.slice A n c] w (fun e w' => e = .returned (.bool true) ∧ Below w.heap.size w w') := by
  have hmx := hL.max
  obtain ⟨nk, hnk⟩ : ∃ nk, min n 100 = nk := ⟨_, rfl⟩
  have hst := Lib.hid (start3 w)
  have hloop := Lib.hid (fun K0 => keeps_loop A n c L w hL nk hnk K0)
  clear hnk hL
  go_enter Try.func6, Try.ntmps6
  go_upto_region 4 with (fail)
  obtain ⟨hst, hsz⟩ := hst.out _ rfl
  generalize hW0 : ((w.alloc (.cells #[.slice none 0 0, .slice none 0 0, .bool false] 49)).alloc (.cells #[.slice none 0 0, .slice none 0 0] 51)).alloc (.cells #[.int .i64 0, .int .i64 0] 36) = W0 at hst hsz ⊢
  clear hW0
  go_wp2_with fail
  refine hloop.out _ ?_ (fun i => if i = 2 then .bool false else undef) W0 hsz hst
  rintro a' w'' ⟨U, hbl, rfl⟩
  go_wp2_with (go_at_call 20; refine (sure23_any _).mono ?_; rintro e x2 ⟨rfl, hbs⟩)
  go_ret
  exact ⟨rfl, b_then hbl hbs⟩
end Go.Proofs.Ytbmfcaobhgeogaa
