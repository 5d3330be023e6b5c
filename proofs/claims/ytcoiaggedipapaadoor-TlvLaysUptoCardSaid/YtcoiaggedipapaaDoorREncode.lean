/-
  The document's Encode of sections, by its contract.
-/
import Derived.Test.YtcoiaggedipapaaDoorLaw19
import Derived.Test.YtcoiaggedipapaaDoorRIn
import Derived.Test.YtcoiaggedipapaaDoorTails
namespace Go.Proofs.YtcoiaggedipapaaDoor
open Go.RowKit
set_option linter.unusedVariables false
set_option linter.unusedSimpArgs false
set_option maxRecDepth 100000

/-- What the document's Encode hands back. -/
def REncP (w : World) (v : Nat) (l : List Tl.Sec) (e : Ending) (w' : World) : Prop :=
  (Tl.encE l = 0 ∧ ∃ A1 c1, e = .returned (.tuple #[.slice A1 (Tl.size l) c1, .int .i64 0]) ∧ Own w' w.heap.size 5 A1 (Tl.size l) c1 (Tl.file v l) ∧ Below w.heap.size w w') ∨
  (Tl.encE l ≠ 0 ∧ e = .returned (.tuple #[.slice none 0 0, .int .i64 (Tl.encE l : Nat)]) ∧ Below w.heap.size w w')
theorem REncP.bad {w w' : World} {v : Nat} {l : List Tl.Sec} {x : Nat} (h : Tl.encE l = x) (hx : x ≠ 0) (hb : Below w.heap.size w w') : REncP w v l (.returned (.tuple #[.slice none 0 0, .int .i64 (x : Nat)])) w' :=
  .inr ⟨by rw [h]; exact hx, by rw [h], hb⟩
theorem rencP_ok {w w' : World} {v : Nat} {l : List Tl.Sec} {e : Ending} (h : REncP w v l e w') (h0 : Tl.encE l = 0) : ∃ A1 c1, e = .returned (.tuple #[.slice A1 (Tl.size l) c1, .int .i64 0]) ∧ Own w' w.heap.size 5 A1 (Tl.size l) c1 (Tl.file v l) ∧ Below w.heap.size w w' := by
  rcases h with ⟨_, h⟩ | ⟨h, _⟩
  · exact h
  · exact absurd h0 h
theorem rencP_bad {w w' : World} {v : Nat} {l : List Tl.Sec} {e : Ending} (h : REncP w v l e w') (h0 : Tl.encE l ≠ 0) : e = .returned (.tuple #[.slice none 0 0, .int .i64 (Tl.encE l : Nat)]) ∧ Below w.heap.size w w' := by
  rcases h with ⟨h, _⟩ | ⟨_, h⟩
  · exact absurd h h0
  · exact h

set_option maxHeartbeats 8000000 in
theorem rEncode_any (v : Nat) (A : Option Addr) (n c : Nat) (L : List SecV) (w : World) (hS : Secs w A n c L) (hv : v < 4294967296) (hsz : Tl.size (secL L) ≤ 1099511627776) :
    Calls Tryd.prog 46 #[.int .u32 v, .slice A n c] w (REncP w v (secL L)) := by
  have hmax := hS.max
  have hln := hS.len
  go_enter Tryd.func46, Tryd.ntmps46
  go_wp2_with fail
  go_loopw [6, 7] (fun x i wr => ∃ k : Nat, k ≤ n ∧ i = .int .i64 k ∧ x = .int .i64 (sizeTo L k : Nat) ∧ Tl.Rises (secL L) k ∧ Below w.heap.size w wr) (fun _ i _ => n - (intOf i).toNat)
  case atStart => exact ⟨0, Nat.zero_le _, rfl, rfl, (fun j h0 hj => by omega), Below.refl _ _⟩
  case round =>
    obtain ⟨k, hk, rfl, rfl, hri, hbel⟩ := hrel
    by_cases hlt : k < n
    · obtain ⟨s, b, off, hs, rfl, hc0, hc1, htag, hbs⟩ := (hS.keep hbel).at_ k hlt
      have hst := Lib.hid (sizeTo_succ hs)
      have hle := sizeTo_le L (k + 1)
      rw [hst.out] at hle
      have htk := Lib.hid (tagAt_get hs)
      have hbl := hbs.len
      generalize sizeTo L k = z at hst hle ⊢
      have hk0' : (0 : Int) ≤ (k : Int) := by omega
      have hkn : (k : Int) < (n : Int) := by omega
      rcases Nat.eq_zero_or_pos k with h0 | h0
      · subst h0
        simp only [Nat.zero_mul, Nat.add_zero] at hc0 hc1
        go_wp2_with fail
        go_quiet (fail)
        have hc0q := cell_keep hc0 (b_drewN (Below.refl wr.heap.size wr) nq)
        have hc1q := cell_keep hc1 (b_drewN (Below.refl wr.heap.size wr) nq)
        go_wp2_with fail
        go_roundw
        case rel => exact ⟨1, by omega, rfl, by rw [hst.out, hbl]; go_num, rises_succ hri (fun h => by omega), b_drewN hbel _⟩
        case measure => simp [intOf] <;> omega
      · obtain ⟨j, hj⟩ : ∃ j, k = j + 1 := ⟨k - 1, by omega⟩
        obtain ⟨s', b', off', hs', e', hc0', hc1', htag', hbs'⟩ := (hS.keep hbel).at_ j (by omega)
        simp only [Option.some.injEq, Addr.mk.injEq, and_true] at e'
        obtain ⟨rfl, rfl⟩ := e'
        have htk' := Lib.hid (tagAt_get hs')
        have ej : IntKind.i64.wrap ((k : Int) - 1) = (j : Int) := by rw [IntWalk.i64_in _ (by omega)]; omega
        have hk0 : (0 : Int) < (k : Int) := by omega
        have hj0 : (0 : Int) ≤ (j : Int) := by omega
        have hjn : (j : Int) < (n : Int) := by omega
        have hk1 : (k - 1 : Nat) = j := by omega
        have hk1' := Lib.hid hk1
        clear hj hk1
        by_cases hle' : s.tag ≤ s'.tag
        · have hleb : (s.tag : Int) ≤ (s'.tag : Int) := by omega
          have hno : Hid (Tl.encE (secL L) = 31) := Lib.hid (by
            unfold Tl.encE
            rw [if_neg]
            intro h
            have := h k h0 (by rw [secL_length]; omega)
            rw [hk1'.out, htk.out, htk'.out] at this
            omega)
          go_wp2_with fail
          go_quiet (fail)
          go_wp2_with fail
          go_ret2
          exact REncP.bad hno.out (by decide) (b_drewN hbel _)
        · have hleb : ¬ (s.tag : Int) ≤ (s'.tag : Int) := by omega
          have hri' := rises_succ hri (fun h => by rw [hk1'.out, htk.out, htk'.out]; omega)
          go_wp2_with fail
          go_quiet (fail)
          have hc0q := cell_keep hc0 (b_drewN (Below.refl wr.heap.size wr) nq)
          have hc1q := cell_keep hc1 (b_drewN (Below.refl wr.heap.size wr) nq)
          go_wp2_with fail
          go_roundw
          case rel => exact ⟨k + 1, by omega, by go_num, by rw [hst.out, hbl]; go_num, hri', b_drewN hbel _⟩
          case measure => simp [intOf] <;> omega
    · have : k = n := by omega
      subst this
      have hri' : Tl.Rises (secL L) (secL L).length := by rw [secL_length, hln]; exact hri
      have hse := sizeTo_all L k (by omega)
      rw [hse]
      clear hse hri
      by_cases hbad : 4096 < k ∨ 134217728 < Tl.size (secL L)
      · have hno : Hid (Tl.encE (secL L) = 2) := Lib.hid (by unfold Tl.encE; rw [if_pos hri', secL_length, hln, if_pos hbad])
        generalize Tl.size (secL L) = z at hbad hsz ⊢
        by_cases h1 : 4096 < k
        · have h1' : (4096 : Int) < (k : Int) := by omega
          go_wp2_with fail
          go_ret2
          exact REncP.bad hno.out (by decide) hbel
        · have h1' : ¬ (4096 : Int) < (k : Int) := by omega
          have h2' : (134217728 : Int) < (z : Int) := by omega
          go_wp2_with fail
          go_ret2
          exact REncP.bad hno.out (by decide) hbel
      · have hyes : Hid (Tl.encE (secL L) = 0) := Lib.hid (by unfold Tl.encE; rw [if_pos hri', secL_length, hln, if_neg hbad])
        have hz := Lib.hid (show Tl.size (secL L) ≤ 134217728 by omega)
        have hz' := hz.out
        have hk4 : ¬ (4096 : Int) < (k : Int) := by omega
        have hz4 : ¬ (134217728 : Int) < (Tl.size (secL L) : Int) := by omega
        have hlist := Lib.hid (show ∀ x ∈ Tl.magic, x < 256 by decide)
        clear hbad
        have hB0 := Bs.made wr 5 Tl.magic 4 rfl (by decide) hlist.out
        have hb0 := b_alloc hbel (.cells (bytesV Tl.magic).toArray 5)
        have hwv : IntKind.u64.wrap (v : Int) = (v : Int) := by rw [IntKind.wrap_u64]; omega
        go_wp2_with fail
        refine (rN_any _ 4 4 Tl.magic v 4 _ hB0 (by omega) (by decide) (by decide) (by decide)).mono ?_
        rintro e w1 ⟨A1, c1, rfl, hown1, hy1⟩
        have hb1 := b_then hb0 hy1
        clear hB0 hlist
        go_wp2_with fail
        refine (rN_any A1 (4 + 4) c1 _ k 4 _ hown1.bs (by omega) (by decide) (by decide) (by decide)).mono ?_
        rintro e w2 ⟨A2, c2, rfl, hown2', hy2⟩
        have hb2 := b_then hb1 hy2
        have hown2 := hown2'.lower hb1.size
        clear hown1 hown2'
        go_wp2_with fail
        go_loopw [8, 9, 10] (fun x i sx wr => ∃ j : Nat, j ≤ k ∧ i = .int .i64 j ∧ ∃ A1 c1, x = .slice A1 (sizeTo L j - 4 : Nat) c1 ∧ Own wr w.heap.size 5 A1 (sizeTo L j - 4) c1 (Tl.head v k ++ Tl.body (secL (L.take j))) ∧ Below w.heap.size w wr) (fun _ i _ _ => k - (intOf i).toNat)
        case atStart => exact ⟨0, Nat.zero_le _, rfl, A2, c2, rfl, by simpa [Tl.head, Tl.body, secL, sizeTo, Tl.size] using hown2, hb2⟩
        case round =>
          obtain ⟨j, hj, rfl, A1, c1, rfl, hown, hbel1⟩ := hrel
          by_cases hlt1 : j < k
          · obtain ⟨s, b, off, hs, rfl, hc0, hc1, htag, hbs⟩ := (hS.keep hbel1).at_ j hlt1
            have hbl := hbs.len
            have hst := Lib.hid (sizeTo_succ hs)
            have hle := sizeTo_le L (j + 1)
            rw [hst.out] at hle
            have hbd := Lib.hid (body_succ hs)
            have h16 : 16 ≤ sizeTo L j := size_16 _
            generalize sizeTo L j = z at hst hle hown h16 ⊢
            have ht4 : s.tag < 18446744073709551616 := by omega
            have hw1 : IntKind.u64.wrap (s.tag : Int) = (s.tag : Int) := by rw [IntKind.wrap_u64]; omega
            have hj0 : (0 : Int) ≤ (j : Int) := by omega
            have hjk : (j : Int) < (k : Int) := by omega
            have hcs : ∀ W, Below wr.heap.size wr W → W.cell? ⟨b, off + j * 2, none⟩ = some (.int .u32 s.tag) ∧ W.cell? ⟨b, off + j * 2 + 1, none⟩ = some (.slice s.A s.n s.c) := fun W h => ⟨cell_keep hc0 h, cell_keep hc1 h⟩
            have hcs' := Lib.hid hcs
            have hq0 := hcs _ (b_drew (Below.refl _ _))
            clear hcs
            have hn8 : 4 + 4 + s.n ≤ 140737488355328 := by omega
            go_wp2_with fail
            have hout' := Lib.hid (fun (x : World) (h : Below wr.heap.size wr x) => hown.keep h)
            go_region_held3 (fun w' => w'.cell? ⟨b, off + j * 2, none⟩ = some (.int .u32 s.tag) ∧ w'.cell? ⟨b, off + j * 2 + 1, none⟩ = some (.slice s.A s.n s.c)) ((first | exact hq0 | exact hq1 | exact hq2)) (first
              | (go_at_call 36; refine (rRun_any A3 s.A 4 c3 s.n s.c (Tl.le 4 s.tag) s.b _ hs3 (hbs.keep hz3) hn8).mono ?_; rintro e x2 ⟨A4, c4, rfl, ho4, hy4⟩; have hz4x := b_then hz3 hy4; have hq2 := hcs'.out _ hz4x)
              | (go_at_call 38; refine (rN_any none 0 0 [] s.tag 4 _ (Bs.nil _ _ _) ht4 (by decide) (by decide) (by decide)).mono ?_; rintro e x1 ⟨A3, c3, rfl, ho3, hy3⟩; have hz3 := b_then (b_drew (Below.refl wr.heap.size wr)) hy3; have hq1 := hcs'.out _ hz3; have hs3 : Bs x1 A3 4 c3 (Tl.le 4 s.tag) := ho3.bs)
              | fail)
            have hs4 : Bs x2 A4 (8 + s.n) c4 (Tl.secHead s.sec ++ s.b) := by
              have := ho4.bs
              unfold Tl.secHead
              rw [show s.sec.b.length = s.n from hbl, show 8 + s.n = 4 + 4 + s.n by omega]
              exact this
            have hn12 : 8 + s.n + 4 ≤ 140737488355328 := by omega
            have hz13 : (z - 4) + (8 + s.n + 4) ≤ 140737488355328 := by omega
            have hws := hbel1.size
            clear hq0 hq1 hq2 hcs' hc0 hc1 ho4 ho3 hs3
            go_wp2_with (first
              | (go_at_call 33; refine (rTail_any A4 (8 + s.n) c4 _ _ hs4 hn12).mono ?_; rintro e x4 ⟨A6, c6, rfl, hown6, hbt⟩; have hB4 := b_then hz4x hbt; have hO4 := hout'.out x4 hB4; have hb6 := hown6.bs; have hs4z := Nat.le_trans hws hB4.size)
              | (at_builtin; refine wp_append rfl _ _ 23 5 rfl Tryd.underlying23 Tryd.info5 w.heap.size A1 (z - 4) c1 _ A6 (8 + s.n + 4) c6 _ (z - 4 + (8 + s.n + 4)) rfl rfl rfl hO4 hb6 hs4z hz13 ?_; intro A7 c7 x5 hown7 hg7 hat7))
            go_roundw
            case rel =>
              have hzz : z - 4 + (8 + s.n + 4) = sizeTo L (j + 1) - 4 := by rw [hst.out, hbl]; omega
              refine ⟨j + 1, by omega, by go_num, A7, c7, by rw [hzz], ?_, (hbel1.trans (hB4.mono hws)).grown hg7 hs4z (fun q hq => (hO4.ge q hq).1)⟩
              rw [← hzz, hbd.out, ← List.append_assoc]
              exact hown7
            case measure => simp [intOf] <;> omega
          · have : j = k := by omega
            subst this
            have hz4' : sizeTo L j - 4 + 4 ≤ 140737488355328 := by have := sizeTo_le L j; omega
            have hse := Lib.hid (sizeTo_all L j (by omega))
            have hfl : Hid (tailed (Tl.head v j ++ Tl.body (secL (L.take j))) = Tl.file v (secL L)) := Lib.hid (by
              unfold Tl.file
              rw [secL_length, hln, List.take_of_length_le (by omega)])
            have hbs1 := hown.bs
            have h16 : 16 ≤ sizeTo L j := size_16 _
            go_wp2_with (go_at_call 33; refine (rTail_any A1 (sizeTo L j - 4) c1 _ _ hbs1 hz4').mono ?_; rintro e x4 ⟨A6, c6, rfl, hown6, hbt⟩)
            go_ret2
            refine .inl ⟨hyes.out, A6, c6, ?_, ?_, b_then hbel1 hbt⟩
            · rw [← hse.out, show sizeTo L j - 4 + 4 = sizeTo L j by omega]
              rfl
            · rw [← hse.out, ← hfl.out]
              have := hown6.lower hbel1.size
              rwa [show sizeTo L j - 4 + 4 = sizeTo L j by omega] at this
end Go.Proofs.YtcoiaggedipapaaDoor
