/-
  tlv.Decode, by its contract.
-/
import Derived.Test.YtcoiaggedipapaaDoorSection
import Derived.Test.YtcoiaggedipapaaDoorOwnS
namespace Go.Proofs.YtcoiaggedipapaaDoor
open Go.RowKit
set_option linter.unusedVariables false
set_option linter.unusedSimpArgs false
set_option maxRecDepth 100000

def lastOf (l : List Tl.Sec) : Option Nat := l.getLast?.map (·.tag)
theorem lastOf_snoc (l : List Tl.Sec) (s : Tl.Sec) : lastOf (l ++ [s]) = some s.tag := by simp [lastOf]
/-- What Decode hands back. -/
def DecP (w : World) (b : List Nat) (e : Ending) (w' : World) : Prop :=
  (Tl.decE b = 0 ∧ ∃ A1 c1 L, e = .returned (.tuple #[.int .u32 (Tl.decV b : Nat), .slice A1 (List.length L) c1, .nilIface]) ∧ OwnS w' w.heap.size 81 A1 L.length c1 L ∧ secL L = Tl.decL b ∧ Below w.heap.size w w') ∨
  (Tl.decE b ≠ 0 ∧ e = .returned (.tuple #[.int .u32 0, .slice none 0 0, .iface 97 (.int .i64 (Tl.decE b : Nat))]) ∧ Below w.heap.size w w')
theorem DecP.bad {w w' : World} {b : List Nat} {x : Nat} (h : Tl.decE b = x) (hx : x ≠ 0) (hb : Below w.heap.size w w') : DecP w b (.returned (.tuple #[.int .u32 0, .slice none 0 0, .iface 97 (.int .i64 (x : Nat))])) w' :=
  .inr ⟨by rw [h]; exact hx, by rw [h], hb⟩
theorem ErrN.ne {V : Value} {x : Nat} (h : ErrN V x) (hx : x ≠ 0) : V = .iface 97 (.int .i64 (x : Int)) := by
  cases h with
  | none => exact absurd rfl hx
  | num y hy => rfl
theorem ErrN.eq {V : Value} (h : ErrN V 0) : V = .nilIface := by
  cases h with
  | none => rfl
  | num y hy => exact absurd rfl hy

/-- One step of the sections. -/
theorem secs_step {k : Nat} {last : Option Nat} {r : List Nat} (he : Tl.secE r = 0) (hn : Tl.notAbove last (Tl.secOf r).tag = false) :
    Tl.secs (k + 1) last r = ((Tl.secs k (some (Tl.secOf r).tag) (r.drop (12 + Tl.secN r))).1, Tl.secOf r :: (Tl.secs k (some (Tl.secOf r).tag) (r.drop (12 + Tl.secN r))).2) := by
  simp only [Tl.secs, he, hn, ne_eq, not_true_eq_false, if_false, Bool.false_eq_true]
theorem secs_err {k : Nat} {last : Option Nat} {r : List Nat} (he : Tl.secE r ≠ 0) : Tl.secs (k + 1) last r = (Tl.secE r, []) := by
  simp only [Tl.secs, ne_eq, he, not_false_eq_true, if_true]
theorem secs_order {k : Nat} {last : Option Nat} {r : List Nat} (he : Tl.secE r = 0) (hn : Tl.notAbove last (Tl.secOf r).tag = true) : Tl.secs (k + 1) last r = (31, []) := by
  simp only [Tl.secs, he, hn, ne_eq, not_true_eq_false, if_false, if_true]
/-- What is still to come. -/
def DecInv (m k : Nat) (b : List Nat) (L : List SecV) (r : List Nat) : Prop := ∃ q, m = k + q ∧ Tl.secs m none (Tl.inner b) = ((Tl.secs q (lastOf (secL L)) r).1, secL L ++ (Tl.secs q (lastOf (secL L)) r).2)
theorem DecInv.start (m : Nat) (b : List Nat) : DecInv m 0 b [] (Tl.inner b) := ⟨m, by omega, by simp [secL, lastOf]⟩
theorem DecInv.step {m k : Nat} {b : List Nat} {L : List SecV} {r : List Nat} (h : DecInv m k b L r) (hk : k < m) (he : Tl.secE r = 0) (hn : Tl.notAbove (lastOf (secL L)) (Tl.secOf r).tag = false) (s : SecV) (hs : s.sec = Tl.secOf r) :
    DecInv m (k + 1) b (L ++ [s]) (r.drop (12 + Tl.secN r)) := by
  obtain ⟨q, hq, h⟩ := h
  obtain ⟨p, rfl⟩ : ∃ p, q = p + 1 := ⟨q - 1, by omega⟩
  refine ⟨p, by omega, ?_⟩
  rw [h, secs_step he hn]
  have e : secL (L ++ [s]) = secL L ++ [Tl.secOf r] := by simp [secL, hs]
  rw [e, lastOf_snoc]
  simp
theorem DecInv.err {m k : Nat} {b : List Nat} {L : List SecV} {r : List Nat} (h : DecInv m k b L r) (hk : k < m) (he : Tl.secE r ≠ 0) : (Tl.secs m none (Tl.inner b)).1 = Tl.secE r := by
  obtain ⟨q, hq, h⟩ := h
  obtain ⟨p, rfl⟩ : ∃ p, q = p + 1 := ⟨q - 1, by omega⟩
  rw [h, secs_err he]
theorem DecInv.order {m k : Nat} {b : List Nat} {L : List SecV} {r : List Nat} (h : DecInv m k b L r) (hk : k < m) (he : Tl.secE r = 0) (hn : Tl.notAbove (lastOf (secL L)) (Tl.secOf r).tag = true) : (Tl.secs m none (Tl.inner b)).1 = 31 := by
  obtain ⟨q, hq, h⟩ := h
  obtain ⟨p, rfl⟩ : ∃ p, q = p + 1 := ⟨q - 1, by omega⟩
  rw [h, secs_order he hn]
theorem DecInv.fin {m : Nat} {b : List Nat} {L : List SecV} {r : List Nat} (h : DecInv m m b L r) : (Tl.secs m none (Tl.inner b)).1 = (if r.length = 0 then 0 else 3) ∧ (Tl.secs m none (Tl.inner b)).2 = secL L := by
  obtain ⟨q, hq, h⟩ := h
  obtain rfl : q = 0 := by omega
  rw [h]
  simp [Tl.secs]
theorem lastOf_get {L : List SecV} {j : Nat} {s : SecV} (h : L[j]? = some s) (hl : L.length = j + 1) : lastOf (secL L) = some s.tag := by
  unfold lastOf secL
  rw [List.getLast?_map, List.getLast?_eq_getElem?, hl, Nat.add_sub_cancel, h]
  rfl

set_option maxHeartbeats 8000000 in
theorem decode_any (A : Option Addr) (n c : Nat) (l : List Nat) (w : World) (hb : Bs w A n c l) (hT : TabW w) :
    Calls Tryd.prog 27 #[.slice A n c] w (DecP w l) := by
  have hln := hb.len
  have hmax := hb.max
  have hcap := hb.cap
  by_cases hW : Tl.wholeE l = 0
  · have hlen : 16 ≤ l.length ∧ l.length ≤ 134217728 ∧ Tl.many l ≤ 4096 := by
      unfold Tl.wholeE at hW
      split at hW
      · omega
      · split at hW
        · omega
        · split at hW
          · omega
          · split at hW
            · split at hW
              · omega
              · omega
            · omega
    obtain ⟨h16, h27, hmany⟩ := hlen
    have hW' := Lib.hid hW
    have hdE : Hid (Tl.decE l = (Tl.secs (Tl.many l) none (Tl.inner l)).1) := Lib.hid (by unfold Tl.decE; rw [if_neg (by simp [hW])])
    have hdL : Hid (Tl.decL l = (Tl.secs (Tl.many l) none (Tl.inner l)).2) := Lib.hid rfl
    clear hW
    obtain ⟨A2, hA2, hB2⟩ := cut_mid (P := Tryd.prog) 23 5 .i64 .i64 Tryd.underlying23 Tryd.info5 A n c 8 12 (by omega) (by omega) hcap
    simp only [show ((8 : Nat) : Int) = 8 from rfl, show ((12 : Nat) : Int) = 12 from rfl, show 12 - 8 = 4 from rfl] at hA2 hB2
    obtain ⟨A4, hA4, hB4⟩ := cut_mid (P := Tryd.prog) 23 5 .i64 .i64 Tryd.underlying23 Tryd.info5 A n c 4 8 (by omega) (by omega) hcap
    simp only [show ((4 : Nat) : Int) = 4 from rfl, show ((8 : Nat) : Int) = 8 from rfl, show 8 - 4 = 4 from rfl] at hA4 hB4
    obtain ⟨A3, hA3, hB3⟩ := cut_mid (P := Tryd.prog) 23 5 .i64 .i64 Tryd.underlying23 Tryd.info5 A n c 12 (n - 4) (by omega) (by omega) hcap
    simp only [show ((12 : Nat) : Int) = 12 from rfl, show ((n - 4 : Nat) : Int) = (n : Int) - 4 by omega] at hA3
    have hnum := fun W (h : Bs W A2 4 (c - 8) ((l.take 12).drop 8)) => number_any A2 4 (c - 8) _ W h (by decide)
    have hmm : Tl.num ((l.take 12).drop 8) = Tl.many l := rfl
    rw [hmm] at hnum
    have hnum' := Lib.hid hnum
    clear hmm hnum
    have hnum4 := fun W (h : Bs W A4 4 (c - 4) ((l.take 8).drop 4)) => number_any A4 4 (c - 4) _ W h (by decide)
    have hdv : Tl.num ((l.take 8).drop 4) = Tl.decV l := rfl
    have hdl : Tl.decV l < 4294967296 := by rw [← hdv, List.drop_take]; exact Tl.num_take_lt (l.drop 4) (fun x hx => hb.small x (List.mem_of_mem_drop hx)) 4
    rw [hdv] at hnum4
    have hnum4' := Lib.hid hnum4
    clear hdv hnum4
    have hin : Hid ((l.take (n - 4)).drop 12 = Tl.inner l) := Lib.hid (by unfold Tl.inner; rw [hln])
    have h16i : (16 : Int) ≤ (n : Int) := by omega
    have hstart := DecInv.start (Tl.many l) l
    generalize Tl.many l = m at hmany hdE hdL hnum' hstart
    go_enter Tryd.func27, Tryd.ntmps27
    go_wp2_with (first
      | (go_at_call 56; refine (whole_any A n c l _ hb hT).mono ?_; rw [hW'.out]; rintro e w1 ⟨V, rfl, hV, hb1⟩; obtain rfl := hV.eq; have hbw := hb.keep hb1)
      | (go_at_call 57; refine (hnum'.out _ (hB2 _ _ hbw)).mono ?_; rintro e w3 ⟨rfl, rfl⟩))
    have hr0 := hB3 _ _ hb
    rw [hin.out] at hr0
    go_loopw [6, 7, 26] (fun x y i wr => ∃ k : Nat, k ≤ m ∧ i = .int .i64 k ∧ ∃ A5 n5 c5 r, x = .slice A5 n5 c5 ∧ Bs w A5 n5 c5 r ∧ ∃ A6 c6 L, y = .slice A6 k c6 ∧ OwnS wr w.heap.size 81 A6 k c6 L ∧ DecInv m k l L r ∧ Below w.heap.size w wr) (fun _ _ i _ => m - (intOf i).toNat)
    case atStart => exact ⟨0, Nat.zero_le _, rfl, A3, _, _, _, rfl, hr0, none, 0, [], rfl, OwnS.nil _ _ _, hstart, hb1⟩
    case round =>
      obtain ⟨k, hk, rfl, A5, n5, c5, r, rfl, hr, A6, c6, L, rfl, hL, hinv, hbel⟩ := hrel
      have hrl := hr.len
      have hrc := hr.cap
      have hTr := hT.keep hbel
      have hrw := hr.keep hbel
      by_cases hlt : k < m
      · by_cases he : Tl.secE r = 0
        · have hse := secE_ok he
          have hsl : 12 + Tl.secN r ≤ n5 := by omega
          have hsn : Tl.secN r < 4294967296 := by
            unfold Tl.secN
            rw [List.drop_take]
            exact Tl.num_take_lt (r.drop 4) (fun x hx => hr.small x (List.mem_of_mem_drop hx)) 4
          have htl : (Tl.secOf r).tag < 4294967296 := Tl.num_take_lt r hr.small 4
          obtain ⟨A9, hA9, hB9⟩ := cut_from (P := Tryd.prog) 23 5 .i64 Tryd.underlying23 Tryd.info5 A5 n5 c5 (12 + Tl.secN r) hsl
          have hr9 := hB9 _ _ hr
          clear hB9 hse
          have he' := Lib.hid he
          clear he
          have hstep := fun (hn : Tl.notAbove (lastOf (secL L)) (Tl.secOf r).tag = false) (s : SecV) (hs : s.sec = Tl.secOf r) => hinv.step hlt he'.out hn s hs
          have hstep' := Lib.hid hstep
          have hord := Lib.hid (fun (hn : Tl.notAbove (lastOf (secL L)) (Tl.secOf r).tag = true) => (hdE.out).trans (hinv.order hlt he'.out hn))
          clear hstep
          have hsecOk : Hid (∀ w1 A7 c7, Own w1 wr.heap.size 5 A7 (Tl.secN r) c7 (Tl.secOf r).b → (SecV.mk (Tl.secOf r).tag A7 (Tl.secN r) c7 (Tl.secOf r).b).sec = Tl.secOf r) := Lib.hid (fun _ _ _ _ => rfl)
          have hLs := hL.secs
          have hLl := hL.len
          have hq2 : 12 + (Tl.secN r : Int) ≤ (c5 : Int) := by omega
          have hq3 : 12 + (Tl.secN r : Int) ≤ (n5 : Int) := by omega
          have hcast : ((12 + Tl.secN r : Nat) : Int) = 12 + (Tl.secN r : Int) := by omega
          rw [hcast] at hA9
          clear hcast
          have hkm : k + 1 ≤ 4398046511104 := by omega
          rcases Nat.eq_zero_or_pos k with h0 | h0
          · subst h0
            have hL0 : L = [] := List.eq_nil_of_length_eq_zero hLl
            subst hL0
            have hna : Tl.notAbove (lastOf (secL [])) (Tl.secOf r).tag = false := rfl
            go_wp2_with (go_at_call 58; refine (section_ok A5 n5 c5 r _ hrw hTr he'.out).mono ?_; rintro e w1 ⟨A7, c7, rfl, hown7, hb2⟩)
            go_quiet (fail)
            have hbq := b_then hbel hb2
            have hcl0 : ((w1.alloc (Obj.cells #[.int .u32 ((Tl.secOf r).tag : Nat), .slice A7 (Tl.secN r) c7] 81)).drewN nq).cell? ⟨w1.heap.size, 0, none⟩ = some (.int .u32 ((Tl.secOf r).tag : Nat)) := cell_new _ _ _ _ _ rfl
            have hcl1 : ((w1.alloc (Obj.cells #[.int .u32 ((Tl.secOf r).tag : Nat), .slice A7 (Tl.secN r) c7] 81)).drewN nq).cell? ⟨w1.heap.size, 1, none⟩ = some (.slice A7 (Tl.secN r) c7) := cell_new _ _ _ _ _ rfl
            have hW0 : Below w1.heap.size w1 ((w1.alloc (Obj.cells #[.int .u32 ((Tl.secOf r).tag : Nat), .slice A7 (Tl.secN r) c7] 81)).drewN nq) := b_drewN (b_alloc (Below.refl _ _) _) nq
            generalize (w1.alloc (Obj.cells #[.int .u32 ((Tl.secOf r).tag : Nat), .slice A7 (Tl.secN r) c7] 81)).drewN nq = W at hcl0 hcl1 hW0 ⊢
            have hba := b_alloc (b_drew (Below.refl W.heap.size W)) (Obj.cells #[.int .u32 ((Tl.secOf r).tag : Nat), .slice A7 (Tl.secN r) c7] 81)
            have hLW := ((hL.keep hb2).keep hW0).keep hba
            have hbsW := (hown7.bs.keep hW0).keep hba
            have hbWW := b_then (b_then hbq hW0) hba
            have hbz := hbWW.size
            have hn0 : (W.drew.alloc (Obj.cells #[.int .u32 ((Tl.secOf r).tag : Nat), .slice A7 (Tl.secN r) c7] 81)).cell? ⟨W.heap.size, 0, none⟩ = some (.int .u32 ((Tl.secOf r).tag : Nat)) := cell_new W.drew _ _ _ _ rfl
            have hn1 : (W.drew.alloc (Obj.cells #[.int .u32 ((Tl.secOf r).tag : Nat), .slice A7 (Tl.secN r) c7] 81)).cell? ⟨W.heap.size, 1, none⟩ = some (.slice A7 (Tl.secN r) c7) := cell_new W.drew _ _ _ _ rfl
            have hfar : 0 < Tl.secN r → ∀ g, A6.map (·.block) = some g → A7.map (·.block) ≠ some g := fun _ g h1 h2 => by
              have h3 := (hL.ge g h1).2
              have h4 := (hown7.ge g h2).1
              omega
            have hkeepS : ∀ X : World, Below W.heap.size W X → X.cell? ⟨w1.heap.size, 0, none⟩ = some (.int .u32 ((Tl.secOf r).tag : Nat)) ∧ X.cell? ⟨w1.heap.size, 1, none⟩ = some (.slice A7 (Tl.secN r) c7) := fun X h => ⟨cell_keep hcl0 h, cell_keep hcl1 h⟩
            have hrow : ∀ g, A6.map (·.block) = some g → w.heap.size ≤ g := fun g h => (hL.ge g h).1
            have hg1 : w1.heap.size ≠ w.heap.size ∨ True := .inr trivial
            have hrow2 : ∀ g, A6.map (·.block) = some g → g ≠ w1.heap.size := fun g h e => by
              have h3 := (hL.ge g h).2
              have h4 := hb2.size
              omega
            go_wp2_with fail
            go_region_held3 (fun w' => w'.cell? ⟨w1.heap.size, 0, none⟩ = some (.int .u32 ((Tl.secOf r).tag : Nat)) ∧ w'.cell? ⟨w1.heap.size, 1, none⟩ = some (.slice A7 (Tl.secN r) c7)) ((first | exact hkeepS _ (b_drew (Below.refl _ _)) | exact hkeepS _ hba | exact ⟨hg8.cell (hkeepS _ hba).1 (fun e => hrow2 _ e.symm rfl), hg8.cell (hkeepS _ hba).2 (fun e => hrow2 _ e.symm rfl)⟩)) (first | (refine step_appendS rfl _ _ 39 81 rfl Tryd.underlying39 Tryd.info81 w.heap.size A6 0 c6 [] W.heap.size ⟨(Tl.secOf r).tag, A7, Tl.secN r, c7, (Tl.secOf r).b⟩ (0 + 1) rfl rfl rfl hLW hn0 hn1 htl hbsW hfar hbz hkm ?_; intro A8 c8 w8 hown8 hg8 hat8) | fail)
            go_wp2_with fail
            go_roundw
            case rel => exact ⟨0 + 1, by omega, by go_num, A9, _, _, _, rfl, hr9, A8, c8, _, rfl, hown8, hstep'.out hna _ rfl, b_grown hbWW hg8 hrow⟩
            case measure => simp [intOf] <;> omega
          · obtain ⟨j, hj⟩ : ∃ j, k = j + 1 := ⟨k - 1, by omega⟩
            obtain ⟨s', b', off', hs', rfl, hc0', hc1', htag', hbs'⟩ := hLs.at_ j (by omega)
            have hlo := Lib.hid (lastOf_get hs' (by omega))
            have hna0 := Lib.hid (show Tl.notAbove (lastOf (secL L)) (Tl.secOf r).tag = decide ((Tl.secOf r).tag ≤ s'.tag) by rw [hlo.out]; rfl)
            have ej : IntKind.i64.wrap ((k : Int) - 1) = (j : Int) := by rw [IntWalk.i64_in _ (by omega)]; omega
            have hk0 : (0 : Int) < (k : Int) := by omega
            have hj0 : (0 : Int) ≤ (j : Int) := by omega
            have hjn : (j : Int) < (k : Int) := by omega
            have hjc : (j : Int) < (c6 : Int) := by have := hLs.cap; omega
            clear hj
            by_cases hle' : (Tl.secOf r).tag ≤ s'.tag
            · have hna : Tl.notAbove (lastOf (secL L)) (Tl.secOf r).tag = true := by rw [hna0.out]; exact decide_eq_true hle'
              have hno := Lib.hid (hord.out hna)
              have hleb : ((Tl.secOf r).tag : Int) ≤ (s'.tag : Int) := by omega
              clear hna hle'
              go_wp2_with (go_at_call 58; refine (section_ok A5 n5 c5 r _ hrw hTr he'.out).mono ?_; rintro e w1 ⟨A7, c7, rfl, hown7, hb2⟩; have hc0a := fun o => cell_old (cell_keep hc0' hb2) o)
              go_quiet (fail)
              go_wp2_with fail
              go_ret3
              exact DecP.bad hno.out (by decide) (b_drewN (b_alloc (b_then hbel hb2) _) _)
            · have hna : Tl.notAbove (lastOf (secL L)) (Tl.secOf r).tag = false := by rw [hna0.out]; exact decide_eq_false hle'
              have hleb : ¬ ((Tl.secOf r).tag : Int) ≤ (s'.tag : Int) := by omega
              clear hle'
              go_wp2_with (go_at_call 58; refine (section_ok A5 n5 c5 r _ hrw hTr he'.out).mono ?_; rintro e w1 ⟨A7, c7, rfl, hown7, hb2⟩; have hc0a := fun o => cell_old (cell_keep hc0' hb2) o)
              go_quiet (fail)
              clear hc0a
              have hbq := b_then hbel hb2
              have hcl0 : ((w1.alloc (Obj.cells #[.int .u32 ((Tl.secOf r).tag : Nat), .slice A7 (Tl.secN r) c7] 81)).drewN nq).cell? ⟨w1.heap.size, 0, none⟩ = some (.int .u32 ((Tl.secOf r).tag : Nat)) := cell_new _ _ _ _ _ rfl
              have hcl1 : ((w1.alloc (Obj.cells #[.int .u32 ((Tl.secOf r).tag : Nat), .slice A7 (Tl.secN r) c7] 81)).drewN nq).cell? ⟨w1.heap.size, 1, none⟩ = some (.slice A7 (Tl.secN r) c7) := cell_new _ _ _ _ _ rfl
              have hW0 : Below w1.heap.size w1 ((w1.alloc (Obj.cells #[.int .u32 ((Tl.secOf r).tag : Nat), .slice A7 (Tl.secN r) c7] 81)).drewN nq) := b_drewN (b_alloc (Below.refl _ _) _) nq
              generalize (w1.alloc (Obj.cells #[.int .u32 ((Tl.secOf r).tag : Nat), .slice A7 (Tl.secN r) c7] 81)).drewN nq = W at hcl0 hcl1 hW0 ⊢
              have hba := b_alloc (b_drew (Below.refl W.heap.size W)) (Obj.cells #[.int .u32 ((Tl.secOf r).tag : Nat), .slice A7 (Tl.secN r) c7] 81)
              have hLW := ((hL.keep hb2).keep hW0).keep hba
              have hbsW := (hown7.bs.keep hW0).keep hba
              have hbWW := b_then (b_then hbq hW0) hba
              have hbz := hbWW.size
              have hn0 : (W.drew.alloc (Obj.cells #[.int .u32 ((Tl.secOf r).tag : Nat), .slice A7 (Tl.secN r) c7] 81)).cell? ⟨W.heap.size, 0, none⟩ = some (.int .u32 ((Tl.secOf r).tag : Nat)) := cell_new W.drew _ _ _ _ rfl
              have hn1 : (W.drew.alloc (Obj.cells #[.int .u32 ((Tl.secOf r).tag : Nat), .slice A7 (Tl.secN r) c7] 81)).cell? ⟨W.heap.size, 1, none⟩ = some (.slice A7 (Tl.secN r) c7) := cell_new W.drew _ _ _ _ rfl
              have hfar : 0 < Tl.secN r → ∀ g, (some (⟨b', off', none⟩ : Addr)).map (·.block) = some g → A7.map (·.block) ≠ some g := fun _ g h1 h2 => by
                have h3 := (hL.ge g h1).2
                have h4 := (hown7.ge g h2).1
                omega
              have hkeepS : ∀ X : World, Below W.heap.size W X → X.cell? ⟨w1.heap.size, 0, none⟩ = some (.int .u32 ((Tl.secOf r).tag : Nat)) ∧ X.cell? ⟨w1.heap.size, 1, none⟩ = some (.slice A7 (Tl.secN r) c7) := fun X h => ⟨cell_keep hcl0 h, cell_keep hcl1 h⟩
              have hrow : ∀ g, (some (⟨b', off', none⟩ : Addr)).map (·.block) = some g → w.heap.size ≤ g := fun g h => (hL.ge g h).1
              have hg1 : w1.heap.size ≠ w.heap.size ∨ True := .inr trivial
              have hrow2 : ∀ g, (some (⟨b', off', none⟩ : Addr)).map (·.block) = some g → g ≠ w1.heap.size := fun g h e => by
                have h3 := (hL.ge g h).2
                have h4 := hb2.size
                omega
              go_wp2_with fail
              go_region_held3 (fun w' => w'.cell? ⟨w1.heap.size, 0, none⟩ = some (.int .u32 ((Tl.secOf r).tag : Nat)) ∧ w'.cell? ⟨w1.heap.size, 1, none⟩ = some (.slice A7 (Tl.secN r) c7)) ((first | exact hkeepS _ (b_drew (Below.refl _ _)) | exact hkeepS _ hba | exact ⟨hg8.cell (hkeepS _ hba).1 (fun e => hrow2 _ e.symm rfl), hg8.cell (hkeepS _ hba).2 (fun e => hrow2 _ e.symm rfl)⟩)) (first | (refine step_appendS rfl _ _ 39 81 rfl Tryd.underlying39 Tryd.info81 w.heap.size (some ⟨b', off', none⟩) k c6 L W.heap.size ⟨(Tl.secOf r).tag, A7, Tl.secN r, c7, (Tl.secOf r).b⟩ (k + 1) rfl rfl rfl hLW hn0 hn1 htl hbsW hfar hbz hkm ?_; intro A8 c8 w8 hown8 hg8 hat8) | fail)
              go_wp2_with fail
              go_roundw
              case rel => exact ⟨k + 1, by omega, by go_num, A9, _, _, _, rfl, hr9, A8, c8, _, rfl, hown8, hstep'.out hna _ rfl, b_grown hbWW hg8 hrow⟩
              case measure => simp [intOf] <;> omega
        · have hx := Lib.hid ((hdE.out).trans (hinv.err hlt he))
          have he' := Lib.hid he
          go_wp2_with (go_at_call 58; refine (section_bad A5 n5 c5 r _ hrw hTr he'.out).mono ?_; rintro e w1 ⟨rfl, hb2⟩)
          refine bodyPost_ret (v := .tuple #[.int .u32 0, .slice none 0 0, .iface 97 (.int .i64 (Tl.secE r : Nat))]) (by simp [results, Tryd.results27, go_sem]) rfl ?_
          exact DecP.bad hx.out he'.out (b_alloc (b_then hbel hb2) _)
      · have hkm : k = m := by omega
        subst hkm
        obtain ⟨hf1, hf2⟩ := hinv.fin
        have hf1' := Lib.hid (hdE.out.trans hf1)
        have hf2' := Lib.hid (hdL.out.trans hf2)
        clear hf1 hf2 hinv hstart
        have hbr := hB4 _ _ (hb.keep hbel)
        have hLl := hL.len
        by_cases h0 : r.length = 0
        · have h0i : ¬ (0 : Int) < (n5 : Int) := by omega
          have hf3 := Lib.hid (hf1'.out.trans (if_pos h0))
          clear h0
          go_wp2_with (go_at_call 57; refine (hnum4'.out _ hbr).mono ?_; rintro e w3 ⟨rfl, rfl⟩)
          go_ret3
          exact .inl ⟨hf3.out, A6, c6, L, by rw [hLl]; rfl, by rw [hLl]; exact hL, hf2'.out.symm, hbel⟩
        · have h0i : (0 : Int) < (n5 : Int) := by omega
          have hf3 := Lib.hid (hf1'.out.trans (if_neg h0))
          clear h0
          go_wp2_with fail
          go_ret3
          exact DecP.bad hf3.out (by decide) hbel
  · have hx : Hid (Tl.decE l = Tl.wholeE l) := Lib.hid (by unfold Tl.decE; rw [if_pos hW])
    have hW' := Lib.hid hW
    go_enter Tryd.func27, Tryd.ntmps27
    go_wp2_with (go_at_call 56; refine (whole_any A n c l _ hb hT).mono ?_; rintro e w1 ⟨V, rfl, hV, hb1⟩; obtain rfl := hV.ne hW'.out)
    go_ret3
    exact DecP.bad hx.out hW'.out hb1
end Go.Proofs.YtcoiaggedipapaaDoor
