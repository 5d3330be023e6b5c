/-
  The reference's Decode, by its contract.
-/
import Derived.Test.YtcoiaggedipapaaDoorDecode
import Derived.Test.YtcoiaggedipapaaDoorTails
namespace Go.Proofs.YtcoiaggedipapaaDoor
open Go.RowKit
set_option linter.unusedVariables false
set_option linter.unusedSimpArgs false
set_option maxRecDepth 100000

theorem Tryd.info98 : (Tryd.prog.info? 98).map (fun i => (i.zero, i.size, i.bytes)) = some (some (.agg #[.int .u32 0, .slice none 0 0]), 2, 32) := by kernel_rfl
/-- What the reference's Decode hands back. -/
def RDecP (w : World) (b : List Nat) (e : Ending) (w' : World) : Prop :=
  (Tl.decE b = 0 ∧ ∃ A1 c1 L, e = .returned (.tuple #[.int .u32 (Tl.decV b : Nat), .slice A1 (List.length L) c1, .int .i64 0]) ∧ OwnS w' w.heap.size 98 A1 L.length c1 L ∧ secL L = Tl.decL b ∧ Below w.heap.size w w') ∨
  (Tl.decE b ≠ 0 ∧ e = .returned (.tuple #[.int .u32 0, .slice none 0 0, .int .i64 (Tl.decE b : Nat)]) ∧ Below w.heap.size w w')
theorem RDecP.bad {w w' : World} {b : List Nat} {x : Nat} (h : Tl.decE b = x) (hx : x ≠ 0) (hb : Below w.heap.size w w') : RDecP w b (.returned (.tuple #[.int .u32 0, .slice none 0 0, .int .i64 (x : Nat)])) w' :=
  .inr ⟨by rw [h]; exact hx, by rw [h], hb⟩
def pnce : ByteArray := ⟨#[80, 78, 67, 69]⟩
theorem pnce_eq : strOf Tl.magic = pnce := by rfl
theorem rCut_yes (A : Option Addr) (n c : Nat) (l : List Nat) (w : World) (hb : Bs w A n c l) (h : cutE l = 0) : Calls Tryd.prog 32 #[.slice A n c] w (RCutOk w A n c) :=
  (rCut_any A n c l w hb).mono fun e w' hp => by
    rcases hp with ⟨_, h'⟩ | ⟨h', _⟩
    · exact h'
    · exact absurd h h'
theorem rCut_no (A : Option Addr) (n c : Nat) (l : List Nat) (w : World) (hb : Bs w A n c l) (h : cutE l ≠ 0) : Calls Tryd.prog 32 #[.slice A n c] w (RCutBad w l) :=
  (rCut_any A n c l w hb).mono fun e w' hp => by
    rcases hp with ⟨h', _⟩ | ⟨_, h'⟩
    · exact absurd h' h
    · exact h'
set_option maxHeartbeats 4000000 in
theorem rDecode_whole (A : Option Addr) (n c : Nat) (l : List Nat) (w : World) (hb : Bs w A n c l) (hW : Tl.wholeE l ≠ 0) :
    Calls Tryd.prog 44 #[.slice A n c] w (RDecP w l) := by
  have hln := hb.len
  have hmax := hb.max
  have hcap := hb.cap
  have hdE : Tl.decE l = Tl.wholeE l := by unfold Tl.decE; rw [if_pos hW]
  by_cases h1 : 134217728 < l.length
  · have hE : Hid (Tl.decE l = 2) := Lib.hid (by rw [hdE]; unfold Tl.wholeE; rw [if_pos h1])
    have h1' : (134217728 : Int) < (n : Int) := by omega
    clear hdE hW
    go_enter Tryd.func44, Tryd.ntmps44
    go_wp2_with fail
    go_ret3
    exact RDecP.bad hE.out (by decide) (Below.refl _ _)
  · have h1' : ¬ (134217728 : Int) < (n : Int) := by omega
    by_cases h2 : l.length < 16
    · have hE : Hid (Tl.decE l = 12) := Lib.hid (by rw [hdE]; unfold Tl.wholeE; rw [if_neg h1, if_pos h2])
      have h2' : (n : Int) < 16 := by omega
      clear hdE hW
      go_enter Tryd.func44, Tryd.ntmps44
      go_wp2_with fail
      go_ret3
      exact RDecP.bad hE.out (by decide) (Below.refl _ _)
    · have h2' : ¬ (n : Int) < 16 := by omega
      have hb4 := hb.take 4 (by omega)
      have h4c : (4 : Int) ≤ (c : Int) := by omega
      have h4c' : 4 ≤ c := by omega
      by_cases h3 : l.take 4 = Tl.magic
      · rw [h3] at hb4
        have hcv := run_str (P := Tryd.prog) 23 5 9 Tryd.underlying23 Tryd.underlying5 Tryd.underlying9 hb4
        rw [pnce_eq] at hcv
        unfold pnce at hcv
        by_cases h4 : sealed l = true
        · have hc0 : cutE l = 0 := by unfold cutE; rw [if_neg (by omega), if_pos h4]
          have h5 : 4096 < Tl.many l := by
            by_cases h5 : 4096 < Tl.many l
            · exact h5
            · unfold Tl.wholeE at hW
              rw [if_neg h1, if_neg h2, if_neg (by simpa using h3), if_pos h4, if_neg h5] at hW
              exact absurd rfl hW
          have hE : Hid (Tl.decE l = 2) := Lib.hid (by rw [hdE]; unfold Tl.wholeE; rw [if_neg h1, if_neg h2, if_neg (by simpa using h3), if_pos h4, if_pos h5])
          obtain ⟨A2, hA2, hB2⟩ := cut_mid (P := Tryd.prog) 23 5 .i64 .i64 Tryd.underlying23 Tryd.info5 A n c 8 12 (by omega) (by omega) hcap
          simp only [show ((8 : Nat) : Int) = 8 from rfl, show ((12 : Nat) : Int) = 12 from rfl, show 12 - 8 = 4 from rfl] at hA2 hB2
          have hnum := fun W (h : Bs W A2 4 (c - 8) ((l.take 12).drop 8)) => rnumber_any A2 4 (c - 8) _ W h (by decide)
          have hmm : Tl.num ((l.take 12).drop 8) = Tl.many l := rfl
          rw [hmm] at hnum
          have hnum' := Lib.hid hnum
          have h5' : (4096 : Int) < (Tl.many l : Int) := by omega
          clear hmm hnum h5 hdE hW h3 h4
          go_enter Tryd.func44, Tryd.ntmps44
          go_wp2_with (first
            | (go_at_call 32; refine (rCut_yes A n c l _ hb hc0).mono ?_; rintro e w1 ⟨rfl, hb1⟩; have hbw := hb.keep hb1)
            | (go_at_call 62; refine (hnum'.out _ (hB2 _ _ hbw)).mono ?_; rintro e w3 ⟨rfl, rfl⟩))
          go_ret3
          exact RDecP.bad hE.out (by decide) hb1
        · have hc0 : cutE l = 11 := by unfold cutE; rw [if_neg (by omega), if_neg h4]
          have hc1 : cutE l ≠ 0 := by omega
          have hc0' := Lib.hid hc0
          have hE : Hid (Tl.decE l = 11) := Lib.hid (by rw [hdE]; unfold Tl.wholeE; rw [if_neg h1, if_neg h2, if_neg (by simpa using h3), if_neg h4])
          clear hc0 hdE hW h3 h4
          go_enter Tryd.func44, Tryd.ntmps44
          go_wp2_with (go_at_call 32; refine (rCut_no A n c l _ hb hc1).mono ?_; unfold RCutBad; rw [hc0'.out]; rintro e w1 ⟨rfl, hb1⟩)
          go_ret3
          exact RDecP.bad hE.out (by decide) hb1
      · have hE : Hid (Tl.decE l = 3) := Lib.hid (by rw [hdE]; unfold Tl.wholeE; rw [if_neg h1, if_neg h2, if_pos (by simpa using h3)])
        have hcv := run_str (P := Tryd.prog) 23 5 9 Tryd.underlying23 Tryd.underlying5 Tryd.underlying9 hb4
        have hne := str_ne hb4.small (by decide : ∀ x ∈ Tl.magic, x < 256) h3
        rw [pnce_eq, show pnce.toList = [80, 78, 67, 69] by rw [ByteArray.toList_eq]; rfl] at hne
        generalize strOf (l.take 4) = s4 at hcv hne
        clear hdE hW h3
        go_enter Tryd.func44, Tryd.ntmps44
        go_wp2_with fail
        go_ret3
        exact RDecP.bad hE.out (by decide) (Below.refl _ _)

/-- What is left behind a place. -/
theorem inner_drop (l : List Nat) (n p a b : Nat) (hln : l.length = n) (hp : p + b ≤ n - 4) : (((l.take (n - 4)).drop p).take b).drop a = (l.take (p + b)).drop (p + a) := by
  rw [List.take_drop, List.take_take, List.drop_drop, Nat.min_eq_left (by omega)]
set_option maxHeartbeats 8000000 in
theorem rDecode_any (A : Option Addr) (n c : Nat) (l : List Nat) (w : World) (hb : Bs w A n c l) :
    Calls Tryd.prog 44 #[.slice A n c] w (RDecP w l) := by
  by_cases hW : Tl.wholeE l = 0
  · have hln := hb.len
    have hmax := hb.max
    have hcap := hb.cap
    have hlen : 16 ≤ l.length ∧ l.length ≤ 134217728 ∧ Tl.many l ≤ 4096 ∧ l.take 4 = Tl.magic ∧ cutE l = 0 := by
      unfold Tl.wholeE at hW
      split at hW
      · omega
      · split at hW
        · omega
        · split at hW
          · omega
          · split at hW
            · split at hW
              · omega
              · rename_i a1 a2 a3 a4 a5
                exact ⟨by omega, by omega, by omega, by simpa using a3, by unfold cutE; rw [if_neg (by omega), if_pos a4]⟩
            · omega
    obtain ⟨h16, h27, hmany, hmag, hc0⟩ := hlen
    have hdE : Hid (Tl.decE l = (Tl.secs (Tl.many l) none (Tl.inner l)).1) := Lib.hid (by unfold Tl.decE; rw [if_neg (by simp [hW])])
    have hdL : Hid (Tl.decL l = (Tl.secs (Tl.many l) none (Tl.inner l)).2) := Lib.hid rfl
    clear hW
    have hb4 := hb.take 4 (by omega)
    have h4c : (4 : Int) ≤ (c : Int) := by omega
    have h4c' : 4 ≤ c := by omega
    rw [hmag] at hb4
    have hcv := run_str (P := Tryd.prog) 23 5 9 Tryd.underlying23 Tryd.underlying5 Tryd.underlying9 hb4
    rw [pnce_eq] at hcv
    unfold pnce at hcv
    obtain ⟨A2, hA2, hB2⟩ := cut_mid (P := Tryd.prog) 23 5 .i64 .i64 Tryd.underlying23 Tryd.info5 A n c 8 12 (by omega) (by omega) hcap
    simp only [show ((8 : Nat) : Int) = 8 from rfl, show ((12 : Nat) : Int) = 12 from rfl, show 12 - 8 = 4 from rfl] at hA2 hB2
    obtain ⟨A4, hA4, hB4⟩ := cut_mid (P := Tryd.prog) 23 5 .i64 .i64 Tryd.underlying23 Tryd.info5 A n c 4 8 (by omega) (by omega) hcap
    simp only [show ((4 : Nat) : Int) = 4 from rfl, show ((8 : Nat) : Int) = 8 from rfl, show 8 - 4 = 4 from rfl] at hA4 hB4
    have hnum := fun W (h : Bs W A2 4 (c - 8) ((l.take 12).drop 8)) => rnumber_any A2 4 (c - 8) _ W h (by decide)
    have hmm : Tl.num ((l.take 12).drop 8) = Tl.many l := rfl
    rw [hmm] at hnum
    have hnum' := Lib.hid hnum
    clear hmm hnum
    have hnum4 := fun W (h : Bs W A4 4 (c - 4) ((l.take 8).drop 4)) => rnumber_any A4 4 (c - 4) _ W h (by decide)
    have hdv : Tl.num ((l.take 8).drop 4) = Tl.decV l := rfl
    have hdl : Tl.decV l < 4294967296 := by rw [← hdv, List.drop_take]; exact Tl.num_take_lt (l.drop 4) (fun x hx => hb.small x (List.mem_of_mem_drop hx)) 4
    rw [hdv] at hnum4
    have hnum4' := Lib.hid hnum4
    clear hdv hnum4 hmag
    have h16i : (16 : Int) ≤ (n : Int) := by omega
    have hin : Hid (Tl.inner l = (l.take (n - 4)).drop 12) := Lib.hid (by unfold Tl.inner; rw [hln])
    have hstart := DecInv.start (Tl.many l) l
    rw [hin.out] at hstart
    generalize Tl.many l = m at hmany hdE hdL hnum' hstart
    go_enter Tryd.func44, Tryd.ntmps44
    go_wp2_with (first
      | (go_at_call 32; refine (rCut_yes A n c l _ hb hc0).mono ?_; rintro e w1 ⟨rfl, hb1⟩; have hbw := hb.keep hb1)
      | (go_at_call 62; refine (hnum'.out _ (hB2 _ _ hbw)).mono ?_; rintro e w3 ⟨rfl, rfl⟩))
    go_loopw [9, 10, 11] (fun y x i wr => ∃ k : Nat, k ≤ m ∧ i = .int .u64 k ∧ ∃ p : Nat, 12 ≤ p ∧ p ≤ n - 4 ∧ x = .int .i64 p ∧ ∃ A6 c6 L, y = .slice A6 k c6 ∧ OwnS wr w.heap.size 98 A6 k c6 L ∧ DecInv m k l L ((l.take (n - 4)).drop p) ∧ Below w.heap.size w wr) (fun _ _ i _ => m - (intOf i).toNat)
    case atStart => exact ⟨0, Nat.zero_le _, rfl, 12, by omega, by omega, rfl, none, 0, [], rfl, OwnS.nil _ _ _, hstart, hb1⟩
    case round =>
      obtain ⟨k, hk, rfl, p, hp12, hpn, rfl, A6, c6, L, rfl, hL, hinv, hbel⟩ := hrel
      have hbr := hb.keep hbel
      obtain ⟨r, hr⟩ : ∃ r, r = (l.take (n - 4)).drop p := ⟨_, rfl⟩
      have hrl : r.length = n - 4 - p := by rw [hr, List.length_drop, List.length_take]; omega
      have hsm : ∀ x ∈ r, x < 256 := fun x hx => by rw [hr] at hx; exact hb.small x (List.mem_of_mem_take (List.mem_of_mem_drop hx))
      rw [← hr] at hinv
      have hr' := Lib.hid hr
      clear hr
      have hp0 : (0 : Int) ≤ (p : Int) := by omega
      by_cases hlt : k < m
      · by_cases h12 : r.length < 12
        · have he : Tl.secE r = 12 := by unfold Tl.secE; rw [if_pos h12]
          have hx := Lib.hid ((hdE.out).trans ((hinv.err hlt (by rw [he]; decide)).trans he))
          have h12i : (n : Int) - 4 - (p : Int) < 12 := by omega
          clear he h12
          go_wp2_with fail
          go_ret3
          exact RDecP.bad hx.out (by decide) hbel
        · have h12i : ¬ (n : Int) - 4 - (p : Int) < 12 := by omega
          have hsn : Tl.secN r < 4294967296 := by
            unfold Tl.secN
            rw [List.drop_take]
            exact Tl.num_take_lt (r.drop 4) (fun x hx => hsm x (List.mem_of_mem_drop hx)) 4
          obtain ⟨A5, hA5, hB5⟩ := cut_mid (P := Tryd.prog) 23 5 .i64 .i64 Tryd.underlying23 Tryd.info5 A n c (p + 4) (p + 8) (by omega) (by omega) hcap
          have hs5 := hB5 _ _ hb
          rw [show p + 8 - (p + 4) = 4 by omega] at hA5 hs5
          rw [show ((p + 4 : Nat) : Int) = (p : Int) + 4 by omega, show ((p + 8 : Nat) : Int) = (p : Int) + 8 by omega] at hA5
          rw [← inner_drop l n p 4 8 hln (by omega), ← hr'.out] at hs5
          have hq5 := fun W (h : Bs W A5 4 (c - (p + 4)) ((r.take 8).drop 4)) => rnumber_any A5 4 _ _ W h (by decide)
          have hqq : Tl.num ((r.take 8).drop 4) = Tl.secN r := rfl
          rw [hqq] at hq5
          have hq5' := Lib.hid hq5
          clear hq5 hqq hB5
          by_cases hqn : r.length - 12 < Tl.secN r
          · have he : Tl.secE r = 12 := by unfold Tl.secE; rw [if_neg h12, if_pos hqn]
            have hx := Lib.hid ((hdE.out).trans ((hinv.err hlt (by rw [he]; decide)).trans he))
            have hqi : (n : Int) - 4 - (p : Int) - 12 < (Tl.secN r : Int) := by omega
            clear he h12 hqn
            go_wp2_with (go_at_call 62; refine (hq5'.out _ (hs5.keep hbel)).mono ?_; rintro e w3 ⟨rfl, rfl⟩)
            go_ret3
            exact RDecP.bad hx.out (by decide) hbel
          · have hqi : ¬ (n : Int) - 4 - (p : Int) - 12 < (Tl.secN r : Int) := by omega
            have hpq : p + (12 + Tl.secN r) ≤ n - 4 := by omega
            obtain ⟨A7, hA7, hB7⟩ := cut_mid (P := Tryd.prog) 23 5 .i64 .i64 Tryd.underlying23 Tryd.info5 A n c p (p + (12 + Tl.secN r)) (by omega) (by omega) hcap
            have hs7 := hB7 _ _ hb
            rw [show p + (12 + Tl.secN r) - p = 12 + Tl.secN r by omega] at hA7 hs7
            rw [show ((p + (12 + Tl.secN r) : Nat) : Int) = (p : Int) + 12 + (Tl.secN r : Int) by omega] at hA7
            have e7 := inner_drop l n p 0 (12 + Tl.secN r) hln hpq
            rw [List.drop_zero, Nat.add_zero, ← hr'.out] at e7
            rw [← e7] at hs7
            clear e7 hB7
            by_cases hse : sealed (r.take (12 + Tl.secN r)) = true
            · have he : Tl.secE r = 0 := by unfold Tl.secE; rw [if_neg h12, if_neg hqn, if_pos hse]
              have hce : cutE (r.take (12 + Tl.secN r)) = 0 := by unfold cutE; rw [if_neg (by rw [List.length_take]; omega), if_pos hse]
              have hce' := Lib.hid hce
              have he' := Lib.hid he
              obtain ⟨A4t, hA4t, hB4t⟩ := cut_mid (P := Tryd.prog) 23 5 .i64 .i64 Tryd.underlying23 Tryd.info5 A n c p (p + 4) (by omega) (by omega) hcap
              have hs4 := hB4t _ _ hb
              rw [show p + 4 - p = 4 by omega] at hA4t hs4
              rw [show ((p + 4 : Nat) : Int) = (p : Int) + 4 by omega] at hA4t
              have e4 := inner_drop l n p 0 4 hln (by omega)
              rw [List.drop_zero, Nat.add_zero, ← hr'.out] at e4
              rw [← e4] at hs4
              have hq4 := fun W (h : Bs W A4t 4 (c - p) (r.take 4)) => rnumber_any A4t 4 _ _ W h (by decide)
              have htg : Tl.num (r.take 4) = (Tl.secOf r).tag := rfl
              have htl : (Tl.secOf r).tag < 4294967296 := by rw [← htg]; exact Tl.num_take_lt r hsm 4
              rw [htg] at hq4
              have hq4' := Lib.hid hq4
              clear hq4 e4 hB4t htg he hce hse
              obtain ⟨A8, hA8, hB8⟩ := cut_mid (P := Tryd.prog) 23 5 .i64 .i64 Tryd.underlying23 Tryd.info5 A n c (p + 8) (p + (8 + Tl.secN r)) (by omega) (by omega) hcap
              have hs8 := hB8 _ _ hb
              rw [show p + (8 + Tl.secN r) - (p + 8) = Tl.secN r by omega] at hA8 hs8
              rw [show ((p + (8 + Tl.secN r) : Nat) : Int) = (p : Int) + 8 + (Tl.secN r : Int) by omega, show ((p + 8 : Nat) : Int) = (p : Int) + 8 by omega] at hA8
              rw [← inner_drop l n p 8 (8 + Tl.secN r) hln (by omega), ← hr'.out] at hs8
              have hs8b : ((r.take (8 + Tl.secN r)).drop 8) = (Tl.secOf r).b := rfl
              rw [hs8b] at hs8
              clear hB8 hs8b
              have hdr : Hid (r.drop (12 + Tl.secN r) = (l.take (n - 4)).drop (p + (12 + Tl.secN r))) := Lib.hid (by rw [hr'.out, List.drop_drop])
              have hstep : ∀ (hn : Tl.notAbove (lastOf (secL L)) (Tl.secOf r).tag = false) (s : SecV) (hs : s.sec = Tl.secOf r), DecInv m (k + 1) l (L ++ [s]) ((l.take (n - 4)).drop (p + (12 + Tl.secN r))) := fun hn s hs => by
                rw [← hdr.out]
                exact hinv.step hlt he'.out hn s hs
              have hstep' := Lib.hid hstep
              have hord := Lib.hid (fun (hn : Tl.notAbove (lastOf (secL L)) (Tl.secOf r).tag = true) => (hdE.out).trans (hinv.order hlt he'.out hn))
              clear hstep hdr hinv
              have hLs := hL.secs
              have hLl := hL.len
              have hkm : k + 1 ≤ 4398046511104 := by omega
              generalize hqe : Tl.secN r = q at hsn hqn hqi hpq hA7 hs7 hce' hq5' hA8 hs8 hstep'
              have hqe' := Lib.hid hqe
              generalize hte : (Tl.secOf r).tag = tg at htl hq4' hord hstep'
              have ht' : Hid (Tl.Sec.mk tg (Tl.secOf r).b = Tl.secOf r) := Lib.hid (by rw [← hte])
              clear hqe hte h12 hqn
              have hqI : (12 : Int) + (q : Int) + (p : Int) ≤ (n : Int) := by omega
              rcases Nat.eq_zero_or_pos k with h0 | h0
              · subst h0
                have hL0 : L = [] := List.eq_nil_of_length_eq_zero hLl
                subst hL0
                have hna : Tl.notAbove (lastOf (secL [])) tg = false := rfl
                go_wp2_with fail
                refine (hq5'.out _ (hs5.keep hbel)).mono ?_
                rintro e w3 ⟨rfl, rfl⟩
                go_wp2_with fail
                refine (hq5'.out _ (hs5.keep hbel)).mono ?_
                rintro e w3 ⟨rfl, rfl⟩
                go_wp2_with fail
                refine (rCut_yes A7 (12 + q) _ _ _ (hs7.keep hbel) hce'.out).mono ?_
                rintro e w2 ⟨rfl, hb2⟩
                have hbq := b_then hbel hb2
                go_wp2_with fail
                refine (hq4'.out _ (hs4.keep hbq)).mono ?_
                rintro e w3 ⟨rfl, rfl⟩
                have hba := b_alloc (Below.refl w2.heap.size w2) (Obj.cells #[.int .u32 (tg : Nat), .slice A8 q (c - (p + 8))] 98)
                have hLW := (hL.keep hb2).keep hba
                have hbsW := hs8.keep (b_then hbq hba)
                have hbWW := b_then hbq hba
                have hbz := hbWW.size
                have hn0 : (w2.alloc (Obj.cells #[.int .u32 (tg : Nat), .slice A8 q (c - (p + 8))] 98)).cell? ⟨w2.heap.size, 0, none⟩ = some (.int .u32 (tg : Nat)) := cell_new w2 _ _ _ _ rfl
                have hn1 : (w2.alloc (Obj.cells #[.int .u32 (tg : Nat), .slice A8 q (c - (p + 8))] 98)).cell? ⟨w2.heap.size, 1, none⟩ = some (.slice A8 q (c - (p + 8))) := cell_new w2 _ _ _ _ rfl
                have hfar : 0 < q → ∀ g, Option.map (fun x => x.block) A6 = some g → A8.map (·.block) ≠ some g := fun h0 g h1 h2 => by
                  obtain ⟨b8, o8, e8, hlt8⟩ := hs8.lt h0
                  rw [e8] at h2
                  have h3 := (hL.ge g h1).1
                  simp at h2
                  omega
                go_wp2_with (at_builtin; refine wp_appendS rfl _ _ 36 98 rfl Tryd.underlying36 Tryd.info98 w.heap.size A6 0 c6 [] w2.heap.size ⟨tg, A8, q, c - (p + 8), (Tl.secOf r).b⟩ (0 + 1) rfl rfl rfl hLW hn0 hn1 htl hbsW hfar hbz hkm ?_; intro A9 c9 w9 hown9 hg9 hat9)
                go_roundw
                case rel => exact ⟨0 + 1, by omega, by go_num, p + (12 + q), by omega, by omega, by go_num, A9, c9, _, rfl, hown9, hstep'.out hna _ (by rw [← ht'.out]; rfl), b_grown hbWW hg9 (fun g hg => (hL.ge g hg).1)⟩
                case measure => simp [intOf] <;> omega
              · obtain ⟨j, hj⟩ : ∃ j, k = j + 1 := ⟨k - 1, by omega⟩
                obtain ⟨s', b', off', hs', rfl, hc0', hc1', htag', hbs'⟩ := hLs.at_ j (by omega)
                have hlo := Lib.hid (lastOf_get hs' (by omega))
                have hna0 := Lib.hid (show Tl.notAbove (lastOf (secL L)) tg = decide (tg ≤ s'.tag) by rw [hlo.out]; rfl)
                have ej : (k : Int) - 1 = (j : Int) := by omega
                have hk0 : (0 : Int) < (k : Int) := by omega
                have hj0 : (0 : Int) ≤ (j : Int) := by omega
                have hjn : (j : Int) < (k : Int) := by omega
                have hjc : (j : Int) < (c6 : Int) := by have := hLs.cap; omega
                clear hj
                by_cases hle' : tg ≤ s'.tag
                · have hna : Tl.notAbove (lastOf (secL L)) tg = true := by rw [hna0.out]; exact decide_eq_true hle'
                  have hno := Lib.hid (hord.out hna)
                  have hleb : (tg : Int) ≤ (s'.tag : Int) := by omega
                  clear hna hle'
                  go_wp2_with fail
                  refine (hq5'.out _ (hs5.keep hbel)).mono ?_
                  rintro e w3 ⟨rfl, rfl⟩
                  go_wp2_with fail
                  refine (hq5'.out _ (hs5.keep hbel)).mono ?_
                  rintro e w3 ⟨rfl, rfl⟩
                  go_wp2_with fail
                  refine (rCut_yes A7 (12 + q) _ _ _ (hs7.keep hbel) hce'.out).mono ?_
                  rintro e w2 ⟨rfl, hb2⟩
                  have hbq := b_then hbel hb2
                  go_wp2_with fail
                  refine (hq4'.out _ (hs4.keep hbq)).mono ?_
                  rintro e w3 ⟨rfl, rfl⟩
                  have hc0a := cell_keep hc0' hb2
                  go_wp2_with fail
                  go_ret3
                  exact RDecP.bad hno.out (by decide) hbq
                · have hna : Tl.notAbove (lastOf (secL L)) tg = false := by rw [hna0.out]; exact decide_eq_false hle'
                  have hleb : ¬ (tg : Int) ≤ (s'.tag : Int) := by omega
                  clear hle'
                  go_wp2_with fail
                  refine (hq5'.out _ (hs5.keep hbel)).mono ?_
                  rintro e w3 ⟨rfl, rfl⟩
                  go_wp2_with fail
                  refine (hq5'.out _ (hs5.keep hbel)).mono ?_
                  rintro e w3 ⟨rfl, rfl⟩
                  go_wp2_with fail
                  refine (rCut_yes A7 (12 + q) _ _ _ (hs7.keep hbel) hce'.out).mono ?_
                  rintro e w2 ⟨rfl, hb2⟩
                  have hbq := b_then hbel hb2
                  go_wp2_with fail
                  refine (hq4'.out _ (hs4.keep hbq)).mono ?_
                  rintro e w3 ⟨rfl, rfl⟩
                  have hc0a := cell_keep hc0' hb2
                  have hba := b_alloc (Below.refl w2.heap.size w2) (Obj.cells #[.int .u32 (tg : Nat), .slice A8 q (c - (p + 8))] 98)
                  have hLW := (hL.keep hb2).keep hba
                  have hbsW := hs8.keep (b_then hbq hba)
                  have hbWW := b_then hbq hba
                  have hbz := hbWW.size
                  have hn0 : (w2.alloc (Obj.cells #[.int .u32 (tg : Nat), .slice A8 q (c - (p + 8))] 98)).cell? ⟨w2.heap.size, 0, none⟩ = some (.int .u32 (tg : Nat)) := cell_new w2 _ _ _ _ rfl
                  have hn1 : (w2.alloc (Obj.cells #[.int .u32 (tg : Nat), .slice A8 q (c - (p + 8))] 98)).cell? ⟨w2.heap.size, 1, none⟩ = some (.slice A8 q (c - (p + 8))) := cell_new w2 _ _ _ _ rfl
                  have hfar : 0 < q → ∀ g, Option.map (fun (x : Addr) => x.block) (some ⟨b', off', none⟩) = some g → A8.map (·.block) ≠ some g := fun h0 g h1 h2 => by
                    obtain ⟨b8, o8, e8, hlt8⟩ := hs8.lt h0
                    rw [e8] at h2
                    have h3 := (hL.ge g h1).1
                    simp at h2
                    omega
                  go_wp2_with (at_builtin; refine wp_appendS rfl _ _ 36 98 rfl Tryd.underlying36 Tryd.info98 w.heap.size (some ⟨b', off', none⟩) k c6 L w2.heap.size ⟨tg, A8, q, c - (p + 8), (Tl.secOf r).b⟩ (k + 1) rfl rfl rfl hLW hn0 hn1 htl hbsW hfar hbz hkm ?_; intro A9 c9 w9 hown9 hg9 hat9)
                  go_roundw
                  case rel => exact ⟨k + 1, by omega, by go_num, p + (12 + q), by omega, by omega, by go_num, A9, c9, _, rfl, hown9, hstep'.out hna _ (by rw [← ht'.out]; rfl), b_grown hbWW hg9 (fun g hg => (hL.ge g hg).1)⟩
                  case measure => simp [intOf] <;> omega
            · have he : Tl.secE r = 11 := by unfold Tl.secE; rw [if_neg h12, if_neg hqn, if_neg hse]
              have hce : cutE (r.take (12 + Tl.secN r)) = 11 := by unfold cutE; rw [if_neg (by rw [List.length_take]; omega), if_neg hse]
              have hce1 : cutE (r.take (12 + Tl.secN r)) ≠ 0 := by omega
              have hce' := Lib.hid hce
              have hx := Lib.hid ((hdE.out).trans ((hinv.err hlt (by rw [he]; decide)).trans he))
              clear he hce h12 hqn hse
              generalize Tl.secN r = q at hsn hqi hpq hA7 hs7 hce' hce1 hq5'
              have hqI : (12 : Int) + (q : Int) + (p : Int) ≤ (n : Int) := by omega
              go_wp2_with (first
                  | (go_at_call 62; refine (hq5'.out _ (hs5.keep hbel)).mono ?_; rintro e w3 ⟨rfl, rfl⟩)
                  | (go_at_call 32; refine (rCut_no A7 (12 + q) _ _ _ (hs7.keep hbel) hce1).mono ?_; unfold RCutBad; rw [hce'.out]; rintro e w2 ⟨rfl, hb2⟩; have hbq := b_then hbel hb2))
              go_ret3
              exact RDecP.bad hx.out (by decide) hbq
      · have hkm : k = m := by omega
        subst hkm
        obtain ⟨hf1, hf2⟩ := hinv.fin
        have hf1' := Lib.hid (hdE.out.trans hf1)
        have hf2' := Lib.hid (hdL.out.trans hf2)
        clear hf1 hf2 hinv hstart
        have hbr4 := hB4 _ _ hbr
        have hLl := hL.len
        by_cases h0 : r.length = 0
        · have hpe : ((p : Int) != (n : Int) - 4) = false := by rw [bne_eq_false_iff_eq]; omega
          have hf3 := Lib.hid (hf1'.out.trans (if_pos h0))
          clear h0
          go_wp2_with (go_at_call 62; refine (hnum4'.out _ hbr4).mono ?_; rintro e w3 ⟨rfl, rfl⟩)
          go_ret3
          exact .inl ⟨hf3.out, A6, c6, L, by rw [hLl]; rfl, by rw [hLl]; exact hL, hf2'.out.symm, hbel⟩
        · have hpe : ((p : Int) != (n : Int) - 4) = true := by rw [bne_iff_ne]; omega
          have hf3 := Lib.hid (hf1'.out.trans (if_neg h0))
          clear h0
          go_wp2_with fail
          go_ret3
          exact RDecP.bad hf3.out (by decide) hbel
  · exact rDecode_whole A n c l w hb hW
end Go.Proofs.YtcoiaggedipapaaDoor
