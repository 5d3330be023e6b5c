/-
  TlvOrder: the walk.
-/
import Derived.Test.YtcoiaggedipapaaDoorFind
import Derived.Test.YtcoiaggedipapaaDoorBack
import Derived.Test.YtcoiaggedipapaaDoorAs
namespace Go.Proofs.YtcoiaggedipapaaDoor
open Go.RowKit
set_option linter.unusedVariables false
set_option linter.unusedSimpArgs false
set_option maxRecDepth 100000

/-- A slice of numbers that is read. -/
structure U32s (w : World) (A : Option Addr) (n c : Nat) (T : List Nat) : Prop where
  len : T.length = n
  cap : n ≤ c
  max : n ≤ 140737488355328
  small : ∀ x ∈ T, x < 4294967296
  cells : ∀ j, j < n → ∃ b off, A = some ⟨b, off, none⟩ ∧ w.cell? ⟨b, off + j, none⟩ = some (.int .u32 ((T.getD j 0 : Nat) : Int))
theorem U32s.keep {w w1 : World} {A : Option Addr} {n c : Nat} {T : List Nat} (h : U32s w A n c T) (hb : Below w.heap.size w w1) : U32s w1 A n c T :=
  ⟨h.len, h.cap, h.max, h.small, fun j hj => by
    obtain ⟨b, off, e, h1⟩ := h.cells j hj
    exact ⟨b, off, e, cell_keep h1 hb⟩⟩
theorem U32s.lt {w : World} {A : Option Addr} {n c : Nat} {T : List Nat} (h : U32s w A n c T) (j : Nat) : T.getD j 0 < 4294967296 := by
  by_cases hj : j < T.length
  · rw [List.getD_eq_getElem?_getD, List.getElem?_eq_getElem hj]
    exact h.small _ (List.getElem_mem hj)
  · rw [List.getD_eq_getElem?_getD, List.getElem?_eq_none (by omega)]
    decide
/-- The first k ascend. -/
def RiseT (T : List Nat) (k : Nat) : Prop := ∀ j, 0 < j → j < k → T.getD (j - 1) 0 < T.getD j 0
/-- The sections that are made of the first k. -/
structure MadeL (T : List Nat) (k : Nat) (L : List SecV) : Prop where
  len : L.length = k
  at_ : ∀ (j : Nat) (s : SecV), L[j]? = some s → s.tag = T.getD j 0 ∧ s.n = 1 ∧ s.b = [j]
theorem MadeL.snoc {T : List Nat} {k : Nat} {L : List SecV} (h : MadeL T k L) (s : SecV) (h1 : s.tag = T.getD k 0) (h2 : s.n = 1) (h3 : s.b = [k]) : MadeL T (k + 1) (L ++ [s]) := by
  refine ⟨by simp [h.len], fun j t hj => ?_⟩
  by_cases hlt : j < k
  · rw [List.getElem?_append_left (by rw [h.len]; exact hlt)] at hj
    exact h.at_ j t hj
  · rw [List.getElem?_append_right (by rw [h.len]; omega), h.len] at hj
    obtain ⟨h4, h5⟩ := List.getElem?_eq_some_iff.1 hj
    have : j = k := by simp at h4; omega
    subst this
    simp at h5
    subst h5
    exact ⟨h1, h2, h3⟩
theorem MadeL.rises {T : List Nat} {k : Nat} {L : List SecV} (h : MadeL T k L) : Tl.Rises (secL L) (secL L).length ↔ RiseT T k := by
  have ht : ∀ j, j < k → Tl.tagAt (secL L) j = T.getD j 0 := fun j hj => by
    have hl : j < L.length := by rw [h.len]; exact hj
    have := List.getElem?_eq_getElem hl
    rw [tagAt_get this]
    exact (h.at_ j _ this).1
  rw [secL_length, h.len]
  constructor
  · intro hr j h0 hj
    have := hr j h0 hj
    rwa [ht j hj, ht (j - 1) (by omega)] at this
  · intro hr j h0 hj
    rw [ht j hj, ht (j - 1) (by omega)]
    exact hr j h0 hj
theorem MadeL.size {T : List Nat} {k : Nat} {L : List SecV} (h : MadeL T k L) : Tl.size (secL L) = 16 + 13 * k := by
  have h1 := size_len L (fun s hs => by
    obtain ⟨j, hj, e⟩ := List.getElem_of_mem hs
    have := h.at_ j s (by rw [List.getElem?_eq_getElem hj, e])
    rw [this.2.1, this.2.2]
    rfl)
  have h2 : (L.map (·.n)).sum = L.length := by
    have : ∀ M : List SecV, (∀ s ∈ M, s.n = 1) → (M.map (·.n)).sum = M.length := by
      intro M
      induction M with
      | nil => intro _; rfl
      | cons s M ih =>
        intro hM
        simp only [List.map_cons, List.sum_cons, List.length_cons]
        rw [ih (fun t ht => hM t (by simp [ht])), hM s (by simp)]
        omega
    exact this L (fun s hs => by
      obtain ⟨j, hj, e⟩ := List.getElem_of_mem hs
      exact (h.at_ j s (by rw [List.getElem?_eq_getElem hj, e])).2.1)
  rw [h1, h2, h.len]
  omega
theorem MadeL.enc {T : List Nat} {k : Nat} {L : List SecV} (h : MadeL T k L) (hk : k ≤ 50) : (RiseT T k → Tl.encE (secL L) = 0) ∧ (¬ RiseT T k → Tl.encE (secL L) = 31) := by
  unfold Tl.encE
  constructor
  · intro hr
    rw [if_pos (h.rises.2 hr), if_neg (by rw [h.size, secL_length, h.len]; omega)]
  · intro hr
    rw [if_neg (fun q => hr (h.rises.1 q))]
theorem riseT_succ {T : List Nat} {k : Nat} : RiseT T (k + 1) ↔ RiseT T k ∧ (0 < k → T.getD (k - 1) 0 < T.getD k 0) := by
  constructor
  · intro h
    exact ⟨fun j h0 hj => h j h0 (by omega), fun h0 => h k h0 (by omega)⟩
  · rintro ⟨h1, h2⟩ j h0 hj
    by_cases e : j = k
    · subst e; exact h2 h0
    · exact h1 j h0 (by omega)

set_option maxHeartbeats 16000000 in
theorem law_tlvorder (A : Option Addr) (n c : Nat) (T : List Nat) (tag : Nat) (w : World) (hU : U32s w A n c T) (htg : tag < 4294967296) (hT : TabW w) (hE : ErrW w) :
    Calls Tryd.prog 13 #[.slice A n c, .int .u32 tag] w fun e w' => e = .returned (.bool true) ∧ Below w.heap.size w w' := by
  have hmax := hU.max
  have hcap := hU.cap
  go_enter Tryd.func13, Tryd.ntmps13
  go_upto_block 0 with (fail)
  go_cut [5, 6] (fun x o wx => ∃ (k : Nat) (b : Bool) (A1 : Option Addr) (c1 : Nat) (L : List SecV), k ≤ 50 ∧ x = .slice A1 k c1 ∧ o = .bool b ∧ (b = true ↔ RiseT T k) ∧ MadeL T k L ∧ OwnS wx w.heap.size 81 A1 k c1 L ∧ Below w.heap.size w wx)
  case first =>
    go_wp2_with fail
    go_loopw [5, 6, 7] (fun x o i wr => ∃ k : Nat, k ≤ n ∧ k ≤ 50 ∧ i = .int .i64 k ∧ ∃ (b : Bool) (A1 : Option Addr) (c1 : Nat) (L : List SecV), x = .slice A1 k c1 ∧ o = .bool b ∧ (b = true ↔ RiseT T k) ∧ MadeL T k L ∧ OwnS wr w.heap.size 81 A1 k c1 L ∧ Below w.heap.size w wr) (fun _ _ i _ => n - (intOf i).toNat)
    case atStart => exact ⟨0, Nat.zero_le _, Nat.zero_le _, rfl, true, none, 0, [], rfl, rfl, ⟨fun _ j h0 hj => by omega, fun _ => rfl⟩, ⟨rfl, fun (j : Nat) (s : SecV) (h : ([] : List SecV)[j]? = some s) => by simp at h⟩, OwnS.nil _ _ _, Below.refl _ _⟩
    case round =>
      obtain ⟨k, hk, hk5, rfl, b, A1, c1, L, rfl, rfl, hb, hL, hown, hbel⟩ := hrel
      by_cases h12 : k < n ∧ k < 50
      · obtain ⟨h1, h2⟩ := h12
        obtain ⟨ab, off, rfl, hck⟩ := (hU.keep hbel).cells k h1
        have htl := hU.lt k
        generalize htk : T.getD k 0 = tk at hck htl
        replace htk := Lib.hid htk
        have hk0 : (0 : Int) ≤ (k : Int) := by omega
        have hkn : (k : Int) < (n : Int) := by omega
        cases b with
        | false =>
          have hnew : Hid (¬ RiseT T (k + 1)) := Lib.hid (fun h => by have := hb.2 (riseT_succ.1 h).1; cases this)
          go_wp2_with fail
          go_quiet (fail)
          have hbq := b_drewN hbel nq
          have hownq := hown.keep (b_drewN (Below.refl _ _) nq)
          have hckq := cell_keep hck (b_drewN (Below.refl wr.heap.size wr) nq)
          generalize wr.drewN nq = V at hbq hownq hckq ⊢
          have hw8 : IntKind.u8.wrap (k : Int) = (k : Int) := by rw [IntKind.wrap_u8]; omega
          have hMb : Bs (V.alloc (.cells #[.int .u8 (k : Nat)] 5)) (some ⟨V.heap.size, 0, none⟩) 1 1 [k] := Bs.made V 5 [k] 1 rfl (by decide) (by intro x hx; simp at hx; omega)
          have hba := b_alloc (Below.refl V.heap.size V) (.cells #[.int .u8 (k : Nat)] 5)
          have hbb := b_alloc hba (.cells #[.int .u32 (tk : Nat), .slice (some ⟨V.heap.size, 0, none⟩) 1 1] 81)
          have hn0 : ((V.alloc (.cells #[.int .u8 (k : Nat)] 5)).alloc (.cells #[.int .u32 (tk : Nat), .slice (some ⟨V.heap.size, 0, none⟩) 1 1] 81)).cell? ⟨(V.alloc (.cells #[.int .u8 (k : Nat)] 5)).heap.size, 0, none⟩ = some (.int .u32 (tk : Nat)) := cell_new _ _ _ _ _ rfl
          have hn1 : ((V.alloc (.cells #[.int .u8 (k : Nat)] 5)).alloc (.cells #[.int .u32 (tk : Nat), .slice (some ⟨V.heap.size, 0, none⟩) 1 1] 81)).cell? ⟨(V.alloc (.cells #[.int .u8 (k : Nat)] 5)).heap.size, 1, none⟩ = some (.slice (some ⟨V.heap.size, 0, none⟩) 1 1) := cell_new _ _ _ _ _ rfl
          have hMb2 := hMb.keep (b_alloc (Below.refl _ _) (.cells #[.int .u32 (tk : Nat), .slice (some ⟨V.heap.size, 0, none⟩) 1 1] 81))
          have hLW := hownq.keep hbb
          have hsz1 : (V.alloc (.cells #[.int .u8 (k : Nat)] 5)).heap.size = V.heap.size + 1 := by simp
          have hbz := (b_then hbq hbb).size
          have hVw := hbq.size
          have hfar : ∀ g, A1.map (·.block) = some g → (some (⟨V.heap.size, 0, none⟩ : Addr)).map (·.block) ≠ some g := fun g h3 h4 => by
            have h5 := (hownq.ge g h3).2
            have h6 : V.heap.size = g := Option.some.inj h4
            omega
          have hkm : k + 1 ≤ 4398046511104 := by omega
          have hsn := hL.snoc ⟨tk, some ⟨V.heap.size, 0, none⟩, 1, 1, [k]⟩ htk.out.symm rfl rfl
          rw [hsz1] at hn0 hn1
          have hrow : ∀ g, A1.map (·.block) = some g → w.heap.size ≤ g := fun g h => (hownq.ge g h).1
          clear hsz1 hba hMb
          go_wp2_with (at_builtin; refine wp_appendS rfl _ _ 39 81 rfl Tryd.underlying39 Tryd.info81 w.heap.size A1 k c1 _ (V.heap.size + 1) ⟨tk, some ⟨V.heap.size, 0, none⟩, 1, 1, [k]⟩ (k + 1) rfl rfl rfl hLW hn0 hn1 htl hMb2 (fun _ => hfar) hbz hkm ?_; intro A2 c2 w2 hown2 hg2 hat2)
          go_roundw
          case rel => exact ⟨k + 1, by omega, by omega, by go_num, false, A2, c2, _, rfl, rfl, ⟨(fun h => by cases h), fun h => absurd h hnew.out⟩, hsn, hown2, b_grown (b_then hbq hbb) hg2 hrow⟩
          case measure => simp [intOf] <;> omega
        | true =>
          have hri := hb.1 rfl
          rcases Nat.eq_zero_or_pos k with h0 | h0
          · have hnew : Hid (RiseT T (k + 1)) := Lib.hid (riseT_succ.2 ⟨hri, fun h => by omega⟩)
            subst h0
            simp only [Nat.add_zero] at hck
            go_wp2_with fail
            have hid1 := Lib.hid (And.intro hk (And.intro hk5 (And.intro h1 h2)))
            have hid2 := Lib.hid hL
            have hid3 := Lib.hid hown
            have hid4 := Lib.hid hbel
            have hid5 := Lib.hid hck
            have hid6 := Lib.hid htl
            clear hb hri hk hk5 h1 h2 hL hown hbel hck htl hk0 hkn
            go_quiet (fail)
            obtain ⟨hk, hk5, h1, h2⟩ := hid1.out
            have hL := hid2.out
            have hown := hid3.out
            have hbel := hid4.out
            have hck := hid5.out
            have htl := hid6.out
            have hk0 : (0 : Int) ≤ (0 : Int) := by omega
            have hkn : (0 : Int) < (n : Int) := by omega
            have hbq := b_drewN hbel nq
            have hownq := hown.keep (b_drewN (Below.refl _ _) nq)
            have hckq := cell_keep hck (b_drewN (Below.refl wr.heap.size wr) nq)
            generalize wr.drewN nq = V at hbq hownq hckq ⊢
            have hw8 : IntKind.u8.wrap (0 : Int) = (0 : Int) := by rw [IntKind.wrap_u8]; omega
            have hMb : Bs (V.alloc (.cells #[.int .u8 (0 : Nat)] 5)) (some ⟨V.heap.size, 0, none⟩) 1 1 [0] := Bs.made V 5 [0] 1 rfl (by decide) (by intro x hx; simp at hx; omega)
            have hba := b_alloc (Below.refl V.heap.size V) (.cells #[.int .u8 (0 : Nat)] 5)
            have hbb := b_alloc hba (.cells #[.int .u32 (tk : Nat), .slice (some ⟨V.heap.size, 0, none⟩) 1 1] 81)
            have hn0 : ((V.alloc (.cells #[.int .u8 (0 : Nat)] 5)).alloc (.cells #[.int .u32 (tk : Nat), .slice (some ⟨V.heap.size, 0, none⟩) 1 1] 81)).cell? ⟨(V.alloc (.cells #[.int .u8 (0 : Nat)] 5)).heap.size, 0, none⟩ = some (.int .u32 (tk : Nat)) := cell_new _ _ _ _ _ rfl
            have hn1 : ((V.alloc (.cells #[.int .u8 (0 : Nat)] 5)).alloc (.cells #[.int .u32 (tk : Nat), .slice (some ⟨V.heap.size, 0, none⟩) 1 1] 81)).cell? ⟨(V.alloc (.cells #[.int .u8 (0 : Nat)] 5)).heap.size, 1, none⟩ = some (.slice (some ⟨V.heap.size, 0, none⟩) 1 1) := cell_new _ _ _ _ _ rfl
            have hMb2 := hMb.keep (b_alloc (Below.refl _ _) (.cells #[.int .u32 (tk : Nat), .slice (some ⟨V.heap.size, 0, none⟩) 1 1] 81))
            have hLW := hownq.keep hbb
            have hsz1 : (V.alloc (.cells #[.int .u8 (0 : Nat)] 5)).heap.size = V.heap.size + 1 := by simp
            have hbz := (b_then hbq hbb).size
            have hVw := hbq.size
            have hfar : ∀ g, A1.map (·.block) = some g → (some (⟨V.heap.size, 0, none⟩ : Addr)).map (·.block) ≠ some g := fun g h3 h4 => by
              have h5 := (hownq.ge g h3).2
              have h6 : V.heap.size = g := Option.some.inj h4
              omega
            have hkm : 0 + 1 ≤ 4398046511104 := by omega
            have hsn := hL.snoc ⟨tk, some ⟨V.heap.size, 0, none⟩, 1, 1, [0]⟩ htk.out.symm rfl rfl
            rw [hsz1] at hn0 hn1
            have hrow : ∀ g, A1.map (·.block) = some g → w.heap.size ≤ g := fun g h => (hownq.ge g h).1
            clear hsz1 hba hMb
            go_wp2_with (at_builtin; refine wp_appendS rfl _ _ 39 81 rfl Tryd.underlying39 Tryd.info81 w.heap.size A1 0 c1 _ (V.heap.size + 1) ⟨tk, some ⟨V.heap.size, 0, none⟩, 1, 1, [0]⟩ (0 + 1) rfl rfl rfl hLW hn0 hn1 htl hMb2 (fun _ => hfar) hbz hkm ?_; intro A2 c2 w2 hown2 hg2 hat2)
            go_roundw
            case rel => exact ⟨0 + 1, by omega, by omega, by go_num, true, A2, c2, _, rfl, rfl, ⟨fun _ => hnew.out, fun _ => rfl⟩, hsn, hown2, b_grown (b_then hbq hbb) hg2 hrow⟩
            case measure => simp [intOf] <;> omega
          · obtain ⟨j, hj⟩ : ∃ j, k = j + 1 := ⟨k - 1, by omega⟩
            obtain ⟨ab', off', he', hcj⟩ := (hU.keep hbel).cells j (by omega)
            simp only [Option.some.injEq, Addr.mk.injEq, and_true] at he'
            obtain ⟨rfl, rfl⟩ := he'
            generalize htj : T.getD j 0 = tj at hcj
            replace htj := Lib.hid htj
            have hkq : ((k : Int) == 0) = false := by rw [beq_eq_false_iff_ne]; omega
            have ej : IntKind.i64.wrap ((k : Int) - 1) = (j : Int) := by rw [IntWalk.i64_in _ (by omega)]; omega
            have hk0' : ¬ (k : Int) = 0 := by omega
            have hj0 : (0 : Int) ≤ (j : Int) := by omega
            have hjn : (j : Int) < (n : Int) := by omega
            have hk1 : Hid (k - 1 = j) := Lib.hid (by omega)
            clear hj
            by_cases hlt : tj < tk
            · have hnew : Hid (RiseT T (k + 1)) := Lib.hid (riseT_succ.2 ⟨hri, fun _ => by rw [hk1.out, htj.out, htk.out]; exact hlt⟩)
              have hlti : (tj : Int) < (tk : Int) := by omega
              clear hlt
              go_wp2_with fail
              go_quiet (fail)
              have hbq := b_drewN hbel nq
              have hownq := hown.keep (b_drewN (Below.refl _ _) nq)
              have hckq := cell_keep hck (b_drewN (Below.refl wr.heap.size wr) nq)
              generalize wr.drewN nq = V at hbq hownq hckq ⊢
              have hw8 : IntKind.u8.wrap (k : Int) = (k : Int) := by rw [IntKind.wrap_u8]; omega
              have hMb : Bs (V.alloc (.cells #[.int .u8 (k : Nat)] 5)) (some ⟨V.heap.size, 0, none⟩) 1 1 [k] := Bs.made V 5 [k] 1 rfl (by decide) (by intro x hx; simp at hx; omega)
              have hba := b_alloc (Below.refl V.heap.size V) (.cells #[.int .u8 (k : Nat)] 5)
              have hbb := b_alloc hba (.cells #[.int .u32 (tk : Nat), .slice (some ⟨V.heap.size, 0, none⟩) 1 1] 81)
              have hn0 : ((V.alloc (.cells #[.int .u8 (k : Nat)] 5)).alloc (.cells #[.int .u32 (tk : Nat), .slice (some ⟨V.heap.size, 0, none⟩) 1 1] 81)).cell? ⟨(V.alloc (.cells #[.int .u8 (k : Nat)] 5)).heap.size, 0, none⟩ = some (.int .u32 (tk : Nat)) := cell_new _ _ _ _ _ rfl
              have hn1 : ((V.alloc (.cells #[.int .u8 (k : Nat)] 5)).alloc (.cells #[.int .u32 (tk : Nat), .slice (some ⟨V.heap.size, 0, none⟩) 1 1] 81)).cell? ⟨(V.alloc (.cells #[.int .u8 (k : Nat)] 5)).heap.size, 1, none⟩ = some (.slice (some ⟨V.heap.size, 0, none⟩) 1 1) := cell_new _ _ _ _ _ rfl
              have hMb2 := hMb.keep (b_alloc (Below.refl _ _) (.cells #[.int .u32 (tk : Nat), .slice (some ⟨V.heap.size, 0, none⟩) 1 1] 81))
              have hLW := hownq.keep hbb
              have hsz1 : (V.alloc (.cells #[.int .u8 (k : Nat)] 5)).heap.size = V.heap.size + 1 := by simp
              have hbz := (b_then hbq hbb).size
              have hVw := hbq.size
              have hfar : ∀ g, A1.map (·.block) = some g → (some (⟨V.heap.size, 0, none⟩ : Addr)).map (·.block) ≠ some g := fun g h3 h4 => by
                have h5 := (hownq.ge g h3).2
                have h6 : V.heap.size = g := Option.some.inj h4
                omega
              have hkm : k + 1 ≤ 4398046511104 := by omega
              have hsn := hL.snoc ⟨tk, some ⟨V.heap.size, 0, none⟩, 1, 1, [k]⟩ htk.out.symm rfl rfl
              rw [hsz1] at hn0 hn1
              have hrow : ∀ g, A1.map (·.block) = some g → w.heap.size ≤ g := fun g h => (hownq.ge g h).1
              clear hsz1 hba hMb
              go_wp2_with (at_builtin; refine wp_appendS rfl _ _ 39 81 rfl Tryd.underlying39 Tryd.info81 w.heap.size A1 k c1 _ (V.heap.size + 1) ⟨tk, some ⟨V.heap.size, 0, none⟩, 1, 1, [k]⟩ (k + 1) rfl rfl rfl hLW hn0 hn1 htl hMb2 (fun _ => hfar) hbz hkm ?_; intro A2 c2 w2 hown2 hg2 hat2)
              go_roundw
              case rel => exact ⟨k + 1, by omega, by omega, by go_num, true, A2, c2, _, rfl, rfl, ⟨fun _ => hnew.out, fun _ => rfl⟩, hsn, hown2, b_grown (b_then hbq hbb) hg2 hrow⟩
              case measure => simp [intOf] <;> omega
            · have hnew : Hid (¬ RiseT T (k + 1)) := Lib.hid (fun h => by have h9 := (riseT_succ.1 h).2 h0; rw [hk1.out, htj.out, htk.out] at h9; exact absurd h9 hlt)
              have hlti : ¬ (tj : Int) < (tk : Int) := by omega
              clear hlt
              go_wp2_with fail
              go_quiet (fail)
              have hbq := b_drewN hbel nq
              have hownq := hown.keep (b_drewN (Below.refl _ _) nq)
              have hckq := cell_keep hck (b_drewN (Below.refl wr.heap.size wr) nq)
              generalize wr.drewN nq = V at hbq hownq hckq ⊢
              have hw8 : IntKind.u8.wrap (k : Int) = (k : Int) := by rw [IntKind.wrap_u8]; omega
              have hMb : Bs (V.alloc (.cells #[.int .u8 (k : Nat)] 5)) (some ⟨V.heap.size, 0, none⟩) 1 1 [k] := Bs.made V 5 [k] 1 rfl (by decide) (by intro x hx; simp at hx; omega)
              have hba := b_alloc (Below.refl V.heap.size V) (.cells #[.int .u8 (k : Nat)] 5)
              have hbb := b_alloc hba (.cells #[.int .u32 (tk : Nat), .slice (some ⟨V.heap.size, 0, none⟩) 1 1] 81)
              have hn0 : ((V.alloc (.cells #[.int .u8 (k : Nat)] 5)).alloc (.cells #[.int .u32 (tk : Nat), .slice (some ⟨V.heap.size, 0, none⟩) 1 1] 81)).cell? ⟨(V.alloc (.cells #[.int .u8 (k : Nat)] 5)).heap.size, 0, none⟩ = some (.int .u32 (tk : Nat)) := cell_new _ _ _ _ _ rfl
              have hn1 : ((V.alloc (.cells #[.int .u8 (k : Nat)] 5)).alloc (.cells #[.int .u32 (tk : Nat), .slice (some ⟨V.heap.size, 0, none⟩) 1 1] 81)).cell? ⟨(V.alloc (.cells #[.int .u8 (k : Nat)] 5)).heap.size, 1, none⟩ = some (.slice (some ⟨V.heap.size, 0, none⟩) 1 1) := cell_new _ _ _ _ _ rfl
              have hMb2 := hMb.keep (b_alloc (Below.refl _ _) (.cells #[.int .u32 (tk : Nat), .slice (some ⟨V.heap.size, 0, none⟩) 1 1] 81))
              have hLW := hownq.keep hbb
              have hsz1 : (V.alloc (.cells #[.int .u8 (k : Nat)] 5)).heap.size = V.heap.size + 1 := by simp
              have hbz := (b_then hbq hbb).size
              have hVw := hbq.size
              have hfar : ∀ g, A1.map (·.block) = some g → (some (⟨V.heap.size, 0, none⟩ : Addr)).map (·.block) ≠ some g := fun g h3 h4 => by
                have h5 := (hownq.ge g h3).2
                have h6 : V.heap.size = g := Option.some.inj h4
                omega
              have hkm : k + 1 ≤ 4398046511104 := by omega
              have hsn := hL.snoc ⟨tk, some ⟨V.heap.size, 0, none⟩, 1, 1, [k]⟩ htk.out.symm rfl rfl
              rw [hsz1] at hn0 hn1
              have hrow : ∀ g, A1.map (·.block) = some g → w.heap.size ≤ g := fun g h => (hownq.ge g h).1
              clear hsz1 hba hMb
              go_wp2_with (at_builtin; refine wp_appendS rfl _ _ 39 81 rfl Tryd.underlying39 Tryd.info81 w.heap.size A1 k c1 _ (V.heap.size + 1) ⟨tk, some ⟨V.heap.size, 0, none⟩, 1, 1, [k]⟩ (k + 1) rfl rfl rfl hLW hn0 hn1 htl hMb2 (fun _ => hfar) hbz hkm ?_; intro A2 c2 w2 hown2 hg2 hat2)
              go_roundw
              case rel => exact ⟨k + 1, by omega, by omega, by go_num, false, A2, c2, _, rfl, rfl, ⟨(fun h => by cases h), fun h => absurd h hnew.out⟩, hsn, hown2, b_grown (b_then hbq hbb) hg2 hrow⟩
              case measure => simp [intOf] <;> omega
      · have hex : k = n ∨ (k < n ∧ k = 50) := by omega
        clear h12
        rcases hex with rfl | ⟨h1x, rfl⟩
        all_goals go_wp2_with fail
        all_goals go_meet
        all_goals exact ⟨_, b, A1, c1, L, hk5, rfl, rfl, hb, hL, hown, hbel⟩
  case rest =>
    obtain ⟨k, b, A1, c1, L, hk5, rfl, rfl, hb, hL, hown, hbel⟩ := hcut
    have hS := hown.secs
    have hTr := hT.keep hbel
    have hEr := hE.keep hbel
    have hsz : Tl.size (secL L) ≤ 1099511627776 := by rw [hL.size]; omega
    have henc := hL.enc hk5
    have hL' := Lib.hid hL
    have hcapS := hS.cap
    clear hown
    generalize wc = wr at hbel hS hTr hEr ⊢
    cases b with
    | true =>
      have he := Lib.hid (henc.1 (hb.1 rfl))
      clear hb henc
      go_wp2_with fail
      refine (encode_any 3 A1 k c1 L _ hS hTr (by decide) hsz).mono ?_
      intro e w1 hp
      obtain ⟨A2, c2, rfl, hown2, hb1⟩ := encP_ok hp he.out
      clear hp hown2
      have hSf := hS.keep hb1
      have hTf := hTr.keep hb1
      have hEf := hEr.keep hb1
      have hbf := b_then hbel hb1
      rcases found_or L tag with ⟨K, s, hF⟩ | hF
      · obtain ⟨hm1, hm2, hm3⟩ := hL.at_ K s hF.at_
        have hKk : K < k := by have := (List.getElem?_eq_some_iff.1 hF.at_).1; have := hL.len; omega
        go_wp2_with fail
        refine (find_ok A1 k c1 L tag K s _ hSf hF).mono ?_
        rintro e w5 ⟨A5, c5, rfl, hown5, hb5⟩
        rw [hm2, hm3] at hown5
        rw [hm2]
        have hbs5 := hown5.bs
        have hcp5 := hbs5.cap
        obtain ⟨b5, o5, rfl, hc5⟩ := hbs5.cells (by decide)
        have hc50 : w5.cell? ⟨b5, o5, none⟩ = some (.int .u8 (K : Nat)) := hc5 0 (by decide)
        have hw8 : IntKind.u8.wrap (K : Int) = (K : Int) := by rw [IntKind.wrap_u8]; omega
        have hS5 := hSf.keep hb5
        have hT5 := hTf.keep hb5
        clear hc5 hm1 hm2 hm3
        go_wp2_with fail
        go_loop [12] (fun i => ∃ j : Nat, j ≤ K ∧ i = .int .i64 j) (fun i => k - (intOf i).toNat)
        case atStart => exact ⟨0, Nat.zero_le _, rfl⟩
        case round =>
          obtain ⟨j, hj, rfl⟩ := hrel
          obtain ⟨t, bt, ot, hs, he5, hc0, hc1, htag, hbs⟩ := hS5.at_ j (by omega)
          subst he5
          have hj0 : (0 : Int) ≤ (j : Int) := by omega
          have hjk : (j : Int) < (k : Int) := by omega
          by_cases hlt : j < K
          · have hne : ¬ (t.tag : Int) = (tag : Int) := by have := hF.first j hlt t hs; omega
            go_wp2
            go_round
            case rel => exact ⟨j + 1, by omega, by go_num⟩
            case measure => simp [intOf] <;> omega
          · obtain rfl : j = K := by omega
            obtain rfl : t = s := Option.some.inj (hs.symm.trans hF.at_)
            have heq : (t.tag : Int) = (tag : Int) := by rw [hF.tag_]
            clear hlt
            go_wp2_with fail
            refine (sure19_any _ hT5).mono ?_
            rintro e w8 ⟨rfl, hb8⟩
            go_wp2_with fail
            go_ret
            exact ⟨rfl, b_then (b_then hbf hb5) hb8⟩
      · go_wp2_with fail
        refine (find_no A1 k c1 L tag _ hSf hF).mono ?_
        rintro e w5 ⟨rfl, hb5⟩
        have hS5 := hSf.keep hb5
        have hT5 := hTf.keep hb5
        have hE5 := hEf.keep hb5
        go_wp2_with fail
        go_loop [12] (fun i => ∃ j : Nat, j ≤ k ∧ i = .int .i64 j) (fun i => k - (intOf i).toNat)
        case atStart => exact ⟨0, Nat.zero_le _, rfl⟩
        case round =>
          obtain ⟨j, hj, rfl⟩ := hrel
          by_cases hlt : j < k
          · obtain ⟨t, bt, ot, hs, he5, hc0, hc1, htag, hbs⟩ := hS5.at_ j hlt
            subst he5
            have hj0 : (0 : Int) ≤ (j : Int) := by omega
            have hjk : (j : Int) < (k : Int) := by omega
            have hne : ¬ (t.tag : Int) = (tag : Int) := by have := hF j t hs; omega
            go_wp2
            go_round
            case rel => exact ⟨j + 1, by omega, by go_num⟩
            case measure => simp [intOf] <;> omega
          · obtain rfl : j = k := by omega
            clear hlt
            go_wp2_with fail
            refine (num45_any _ _ _ (ErrV.num 8) hE5).mono ?_
            rintro e w7 ⟨rfl, hb7⟩
            have hT7 := hT5.keep hb7
            go_wp2_with fail
            refine (sure19_any _ hT7).mono ?_
            rintro e w8 ⟨rfl, hb8⟩
            go_wp2_with fail
            go_ret
            exact ⟨rfl, b_then (b_then (b_then hbf hb5) hb7) hb8⟩
    | false =>
      have he := Lib.hid (henc.2 (fun h => by have := hb.2 h; cases this))
      have he0 : Tl.encE (secL L) ≠ 0 := by rw [he.out]; decide
      clear hb henc
      go_wp2_with fail
      refine (encode_any 3 A1 k c1 L _ hS hTr (by decide) hsz).mono ?_
      intro e w1 hp
      obtain ⟨rfl, hb0⟩ := encP_bad hp he0
      clear hp he0
      rw [he.out]
      have hE1 := hEr.keep hb0
      go_wp2_with fail
      refine (num45_any _ _ _ (ErrV.num 31) hE1).mono ?_
      rintro e w2 ⟨rfl, hb2⟩
      have hb1 := b_then hb0 hb2
      have hSf := hS.keep hb1
      have hTf := hTr.keep hb1
      have hEf := hEr.keep hb1
      have hbf := b_then hbel hb1
      rcases found_or L tag with ⟨K, s, hF⟩ | hF
      · obtain ⟨hm1, hm2, hm3⟩ := hL.at_ K s hF.at_
        have hKk : K < k := by have := (List.getElem?_eq_some_iff.1 hF.at_).1; have := hL.len; omega
        go_wp2_with fail
        refine (find_ok A1 k c1 L tag K s _ hSf hF).mono ?_
        rintro e w5 ⟨A5, c5, rfl, hown5, hb5⟩
        rw [hm2, hm3] at hown5
        rw [hm2]
        have hbs5 := hown5.bs
        have hcp5 := hbs5.cap
        obtain ⟨b5, o5, rfl, hc5⟩ := hbs5.cells (by decide)
        have hc50 : w5.cell? ⟨b5, o5, none⟩ = some (.int .u8 (K : Nat)) := hc5 0 (by decide)
        have hw8 : IntKind.u8.wrap (K : Int) = (K : Int) := by rw [IntKind.wrap_u8]; omega
        have hS5 := hSf.keep hb5
        have hT5 := hTf.keep hb5
        clear hc5 hm1 hm2 hm3
        go_wp2_with fail
        go_loop [12] (fun i => ∃ j : Nat, j ≤ K ∧ i = .int .i64 j) (fun i => k - (intOf i).toNat)
        case atStart => exact ⟨0, Nat.zero_le _, rfl⟩
        case round =>
          obtain ⟨j, hj, rfl⟩ := hrel
          obtain ⟨t, bt, ot, hs, he5, hc0, hc1, htag, hbs⟩ := hS5.at_ j (by omega)
          subst he5
          have hj0 : (0 : Int) ≤ (j : Int) := by omega
          have hjk : (j : Int) < (k : Int) := by omega
          by_cases hlt : j < K
          · have hne : ¬ (t.tag : Int) = (tag : Int) := by have := hF.first j hlt t hs; omega
            go_wp2
            go_round
            case rel => exact ⟨j + 1, by omega, by go_num⟩
            case measure => simp [intOf] <;> omega
          · obtain rfl : j = K := by omega
            obtain rfl : t = s := Option.some.inj (hs.symm.trans hF.at_)
            have heq : (t.tag : Int) = (tag : Int) := by rw [hF.tag_]
            clear hlt
            go_wp2_with fail
            refine (sure19_any _ hT5).mono ?_
            rintro e w8 ⟨rfl, hb8⟩
            go_wp2_with fail
            go_ret
            exact ⟨rfl, b_then (b_then hbf hb5) hb8⟩
      · go_wp2_with fail
        refine (find_no A1 k c1 L tag _ hSf hF).mono ?_
        rintro e w5 ⟨rfl, hb5⟩
        have hS5 := hSf.keep hb5
        have hT5 := hTf.keep hb5
        have hE5 := hEf.keep hb5
        go_wp2_with fail
        go_loop [12] (fun i => ∃ j : Nat, j ≤ k ∧ i = .int .i64 j) (fun i => k - (intOf i).toNat)
        case atStart => exact ⟨0, Nat.zero_le _, rfl⟩
        case round =>
          obtain ⟨j, hj, rfl⟩ := hrel
          by_cases hlt : j < k
          · obtain ⟨t, bt, ot, hs, he5, hc0, hc1, htag, hbs⟩ := hS5.at_ j hlt
            subst he5
            have hj0 : (0 : Int) ≤ (j : Int) := by omega
            have hjk : (j : Int) < (k : Int) := by omega
            have hne : ¬ (t.tag : Int) = (tag : Int) := by have := hF j t hs; omega
            go_wp2
            go_round
            case rel => exact ⟨j + 1, by omega, by go_num⟩
            case measure => simp [intOf] <;> omega
          · obtain rfl : j = k := by omega
            clear hlt
            go_wp2_with fail
            refine (num45_any _ _ _ (ErrV.num 8) hE5).mono ?_
            rintro e w7 ⟨rfl, hb7⟩
            have hT7 := hT5.keep hb7
            go_wp2_with fail
            refine (sure19_any _ hT7).mono ?_
            rintro e w8 ⟨rfl, hb8⟩
            go_wp2_with fail
            go_ret
            exact ⟨rfl, b_then (b_then (b_then hbf hb5) hb7) hb8⟩
end Go.Proofs.YtcoiaggedipapaaDoor
