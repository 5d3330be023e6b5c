/-
  tlv.section, by its contract.
-/
import Derived.Test.YtcoiaggedipapaaDoorWhole
import Derived.Deep.RegionHeld3
namespace Go.Proofs.YtcoiaggedipapaaDoor
open Go.RowKit
set_option linter.unusedVariables false
set_option linter.unusedSimpArgs false
set_option maxRecDepth 100000

/-- The first section of bytes is refused. -/
def SectBad (w : World) (x : Nat) (e : Ending) (w' : World) : Prop :=
  e = .returned (.tuple #[.agg #[.int .u32 0, .slice none 0 0], .int .i64 0, .iface 97 (.int .i64 (x : Nat))]) ∧ Below w.heap.size w w'
/-- The first section of bytes, and how many it has. -/
def SectOk (w : World) (r : List Nat) (e : Ending) (w' : World) : Prop :=
  ∃ A1 c1, e = .returned (.tuple #[.agg #[.int .u32 ((Tl.secOf r).tag : Nat), .slice A1 (Tl.secN r) c1], .int .i64 (12 + Tl.secN r : Nat), .nilIface]) ∧ Own w' w.heap.size 5 A1 (Tl.secN r) c1 (Tl.secOf r).b ∧ Below w.heap.size w w'
set_option maxHeartbeats 4000000 in
theorem section_bad (A : Option Addr) (n c : Nat) (r : List Nat) (w : World) (hb : Bs w A n c r) (hT : TabW w) (h : Tl.secE r ≠ 0) :
    Calls Tryd.prog 58 #[.slice A n c] w (SectBad w (Tl.secE r)) := by
  have hln := hb.len
  have hmax := hb.max
  have hcap := hb.cap
  by_cases h1 : r.length < 12
  · have hE : Tl.secE r = 12 := by unfold Tl.secE; rw [if_pos h1]
    rw [hE]
    clear hE h
    have h1' : (n : Int) < 12 := by omega
    go_enter Tryd.func58, Tryd.ntmps58
    go_wp2
    exact bodyPost_ret (v := .tuple #[.agg #[.int .u32 0, .slice none 0 0], .int .i64 0, .iface 97 (.int .i64 ((12 : Nat) : Int))]) (by simp [results, Tryd.results58, go_sem]) rfl ⟨rfl, b_alloc (Below.refl _ _) _⟩
  · have h1' : ¬ (n : Int) < 12 := by omega
    have h12 : 12 ≤ n := by omega
    obtain ⟨A2, hA2, hB2⟩ := cut_mid (P := Tryd.prog) 23 5 .i64 .i64 Tryd.underlying23 Tryd.info5 A n c 4 8 (by omega) (by omega) hcap
    simp only [show ((4 : Nat) : Int) = 4 from rfl, show ((8 : Nat) : Int) = 8 from rfl, show 8 - 4 = 4 from rfl] at hA2 hB2
    have hnum := fun W (h : Bs W A2 4 (c - 4) ((r.take 8).drop 4)) => number_any A2 4 (c - 4) _ W h (by decide)
    have hsn : Tl.secN r < 4294967296 := by
      unfold Tl.secN
      rw [List.drop_take]
      exact Tl.num_take_lt (r.drop 4) (fun x hx => hb.small x (List.mem_of_mem_drop hx)) 4
    have hmm : Tl.num ((r.take 8).drop 4) = Tl.secN r := rfl
    rw [hmm] at hnum
    have hnum' := Lib.hid hnum
    clear hmm hnum
    by_cases h2 : r.length - 12 < Tl.secN r
    · have hE : Tl.secE r = 12 := by unfold Tl.secE; rw [if_neg h1, if_pos h2]
      rw [hE]
      clear hE h
      have h2' : (n : Int) - 12 < (Tl.secN r : Int) := by omega
      clear h2
      go_enter Tryd.func58, Tryd.ntmps58
      go_wp2_with (go_at_call 57; refine (hnum'.out _ (hB2 _ _ (hb.keep (b_alloc (Below.refl _ _) _)))).mono ?_; rintro e w3 ⟨rfl, rfl⟩)
      exact bodyPost_ret (v := .tuple #[.agg #[.int .u32 0, .slice none 0 0], .int .i64 0, .iface 97 (.int .i64 ((12 : Nat) : Int))]) (by simp [results, Tryd.results58, go_sem]) rfl ⟨rfl, b_alloc (Below.refl _ _) _⟩
    · have h2' : ¬ (n : Int) - 12 < (Tl.secN r : Int) := by omega
      have hs : ¬ sealed (r.take (12 + Tl.secN r)) = true := by
        intro hs
        unfold Tl.secE at h
        rw [if_neg h1, if_neg h2, if_pos hs] at h
        exact h rfl
      have hE : Tl.secE r = 11 := by unfold Tl.secE; rw [if_neg h1, if_neg h2, if_neg hs]
      have hbt := hb.take (12 + Tl.secN r) (by omega)
      have hcE : cutE (r.take (12 + Tl.secN r)) = 11 := by unfold cutE; rw [if_neg (by rw [List.length_take]; omega), if_neg hs]
      have hc1 : cutE (r.take (12 + Tl.secN r)) ≠ 0 := by omega
      have hcE' := Lib.hid hcE
      rw [hE]
      clear hE h hcE hs
      generalize Tl.secN r = q at hsn h2 h2' hbt hc1 hcE' hnum'
      have hqi : 12 + (q : Int) ≤ (c : Int) := by omega
      have hqc : 12 + q ≤ c := by omega
      have hqc2 : (((12 + q : Nat)) : Int) = 12 + (q : Int) := by omega
      obtain ⟨A3, hA3, hB3⟩ := cut_mid (P := Tryd.prog) 23 5 .i64 .i64 Tryd.underlying23 Tryd.info5 A n c 0 (12 + q) (by omega) (by omega) hcap
      clear h2
      go_enter Tryd.func58, Tryd.ntmps58
      go_wp2_with (first
        | (go_at_call 57; refine (hnum'.out _ (hB2 _ _ (hb.keep (b_alloc (Below.refl _ _) _)))).mono ?_; rintro e w3 ⟨rfl, rfl⟩)
        | (go_at_call 22; refine (cut_err A (12 + q) c _ _ (hbt.keep (b_alloc (Below.refl _ _) _)) (hT.keep (b_alloc (Below.refl _ _) _)) hc1).mono ?_; unfold CutBad; rw [hcE'.out]; rintro e w1 ⟨rfl, hb1⟩; have hBk := (Blk.new w #[.int .u32 0, .slice none 0 0] 81).keep hb1; have k0 := hBk.cell 0 rfl; have k1 := hBk.cell 1 rfl; have f0 := hBk.free 0; have f1 := hBk.free 1; have hbw := b_then (b_alloc (Below.refl _ _) _) hb1))
      refine bodyPost_ret (v := .tuple #[.agg #[.int .u32 0, .slice none 0 0], .int .i64 0, .iface 97 (.int .i64 ((11 : Nat) : Int))]) (by simp [results, Tryd.results58, go_sem, k0, k1]) rfl ⟨rfl, ?_⟩
      exact b_set (b_set hbw (Nat.le_refl _) _) (Nat.le_refl _) _

theorem secE_ok {r : List Nat} (h : Tl.secE r = 0) : 12 ≤ r.length ∧ 12 + Tl.secN r ≤ r.length ∧ cutE (r.take (12 + Tl.secN r)) = 0 := by
  unfold Tl.secE at h
  split at h
  · omega
  · rename_i h1
    split at h
    · omega
    · rename_i h2
      split at h
      · rename_i h3
        refine ⟨by omega, by omega, ?_⟩
        unfold cutE
        rw [if_neg (by rw [List.length_take]; omega), if_pos h3]
      · omega
set_option maxHeartbeats 4000000 in
theorem section_ok (A : Option Addr) (n c : Nat) (r : List Nat) (w : World) (hb : Bs w A n c r) (hT : TabW w) (h : Tl.secE r = 0) :
    Calls Tryd.prog 58 #[.slice A n c] w (SectOk w r) := by
  have hln := hb.len
  have hmax := hb.max
  have hcap := hb.cap
  obtain ⟨h1, h2, hcE⟩ := secE_ok h
  clear h
  have h1' : ¬ (n : Int) < 12 := by omega
  have h12 : 12 ≤ n := by omega
  obtain ⟨A2, hA2, hB2⟩ := cut_mid (P := Tryd.prog) 23 5 .i64 .i64 Tryd.underlying23 Tryd.info5 A n c 4 8 (by omega) (by omega) hcap
  simp only [show ((4 : Nat) : Int) = 4 from rfl, show ((8 : Nat) : Int) = 8 from rfl, show 8 - 4 = 4 from rfl] at hA2 hB2
  have hnum := fun W (h : Bs W A2 4 (c - 4) ((r.take 8).drop 4)) => number_any A2 4 (c - 4) _ W h (by decide)
  have hsn : Tl.secN r < 4294967296 := by
    unfold Tl.secN
    rw [List.drop_take]
    exact Tl.num_take_lt (r.drop 4) (fun x hx => hb.small x (List.mem_of_mem_drop hx)) 4
  have hmm : Tl.num ((r.take 8).drop 4) = Tl.secN r := rfl
  rw [hmm] at hnum
  have hnum' := Lib.hid hnum
  clear hmm hnum
  have hbt := hb.take (12 + Tl.secN r) (by omega)
  have hb4 := hb.take 4 (by omega)
  have htg : Tl.num (r.take 4) = (Tl.secOf r).tag := rfl
  have htl : (Tl.secOf r).tag < 4294967296 := by rw [← htg]; exact Tl.num_take_lt r hb.small 4
  have hnum4 := fun W (h : Bs W A 4 c (r.take 4)) => number_any A 4 c _ W h (by decide)
  rw [htg] at hnum4
  have hnum4' := Lib.hid hnum4
  clear hnum4 htg
  have hbd : Hid (((r.take (12 + Tl.secN r)).take (12 + Tl.secN r - 4)).drop 8 = (Tl.secOf r).b) := Lib.hid (by
    rw [List.take_take, Nat.min_eq_left (by omega), show 12 + Tl.secN r - 4 = 8 + Tl.secN r by omega]; rfl)
  have hpost : ∀ (q : Nat), q = Tl.secN r → ∀ (t : Nat), t = (Tl.secOf r).tag → ∀ A1 c1 w', Own w' w.heap.size 5 A1 q c1 (Tl.secOf r).b → Below w.heap.size w w' → SectOk w r (.returned (.tuple #[.agg #[.int .u32 (t : Nat), .slice A1 q c1], .int .i64 (12 + q : Nat), .nilIface])) w' := by
    rintro q rfl t rfl A1 c1 w' h1 h2
    exact ⟨A1, c1, rfl, h1, h2⟩
  have hpost' := Lib.hid hpost
  clear hpost
  have hqe : Hid (Tl.secN r = Tl.secN r) := Lib.hid rfl
  have hte : Hid ((Tl.secOf r).tag = (Tl.secOf r).tag) := Lib.hid rfl
  generalize hq : Tl.secN r = q at hsn h2 hbt hcE hnum' hbd
  have hq' := Lib.hid hq
  generalize ht : (Tl.secOf r).tag = tg at htl hnum4'
  have ht' := Lib.hid ht
  clear hq ht hqe hte
  have h2' : ¬ (n : Int) - 12 < (q : Int) := by omega
  have hqi : 12 + (q : Int) ≤ (c : Int) := by omega
  have hqc : 12 + q ≤ c := by omega
  have hcE' := Lib.hid hcE
  have hw1 : IntKind.u32.wrap (tg : Int) = (tg : Int) := by rw [IntKind.wrap_u32]; omega
  have hw1' := Lib.hid hw1
  clear hw1 h2 hcE
  have hl8 : (8 : Int) ≤ ((12 + q - 4 : Nat) : Int) := by omega
  have hm8 : 12 + q - 4 - 8 = q := by omega
  have hm8' := Lib.hid hm8
  clear hm8
  go_enter Tryd.func58, Tryd.ntmps58
  go_wp2_with (first
    | (go_at_call 57; refine (hnum'.out _ (hB2 _ _ (hb.keep (b_alloc (Below.refl _ _) _)))).mono ?_; rintro e w3 ⟨rfl, rfl⟩)
    | (go_at_call 22; refine (cut_ok A (12 + q) c _ _ (hbt.keep (b_alloc (Below.refl _ _) _)) (hT.keep (b_alloc (Below.refl _ _) _)) hcE'.out).mono ?_; rintro e w1 ⟨A1, c1, rfl, hown1, hb1⟩; have hBk := (Blk.new w #[.int .u32 0, .slice none 0 0] 81).keep hb1; have hbw := b_then (b_alloc (Below.refl _ _) _) hb1))
  have hs1 := hown1.bs
  have hcap1 := hs1.cap
  obtain ⟨A3, hA3, hB3⟩ := cut_from (P := Tryd.prog) 23 5 .i64 Tryd.underlying23 Tryd.info5 A1 (12 + q - 4) c1 8 (by omega)
  simp only [show ((8 : Nat) : Int) = 8 from rfl] at hA3
  have hs3 := hB3 _ _ hs1
  rw [hm8'.out] at hA3 hs3
  rw [hbd.out] at hs3
  have hw1 := hw1'.out
  have hbr := hb4.keep hbw
  have hc4 : (4 : Int) ≤ (c : Int) := by omega
  go_region_held3 (fun w' => True) (trivial) (first | (go_at_call 57; refine (hnum4'.out _ (hbr.keep (by first | exact b_drew (Below.refl _ _) | exact b_then (b_drew (Below.refl _ _)) hb5))).mono ?_; rintro e w3 ⟨rfl, rfl⟩) | (go_at_call 54; refine (clone_any A3 q _ _ _ hs3.drew).mono ?_; rintro e w5 ⟨A5, c5, rfl, hown5, hb5⟩; have hBk5 := (hBk.drew).keep hb5; have k0 := hBk5.cell 0 rfl; have k1 := hBk5.cell 1 rfl; have f0 := hBk5.free 0; have f1 := hBk5.free 1) | fail)
  all_goals go_wp2
  all_goals refine bodyPost_ret (v := .tuple #[.agg #[.int .u32 (tg : Nat), .slice A5 q c5], .int .i64 (12 + q : Nat), .nilIface]) (by simp [results, Tryd.results58, go_sem, k0, k1]) rfl (hpost'.out q hq'.out.symm tg ht'.out.symm A5 c5 _ ?_ ?_)
  all_goals first
    | exact ((hown5.lower (b_drew hbw).size).kept ((Kept.refl (fun k => k = w.heap.size) _).set (fun _ => rfl) _) (fun b hb e => by have h3 := (hown5.ge b hb).1; have h4 := hBk.lt; have h5 : w1.drew.heap.size = w1.heap.size := rfl; omega)).kept ((Kept.refl (fun k => k = w.heap.size) _).set (fun _ => rfl) _) (fun b hb e => by have h3 := (hown5.ge b hb).1; have h4 := hBk.lt; have h5 : w1.drew.heap.size = w1.heap.size := rfl; omega)
    | exact b_set (b_set (b_then (b_drew hbw) hb5) (Nat.le_refl _) _) (Nat.le_refl _) _
end Go.Proofs.YtcoiaggedipapaaDoor
