/-
  A tag's section: tlv.Find and the document's, by contracts.
-/
import Derived.Test.YtcoiaggedipapaaDoorDecode
namespace Go.Proofs.YtcoiaggedipapaaDoor
open Go.RowKit
set_option linter.unusedVariables false
set_option linter.unusedSimpArgs false
set_option maxRecDepth 100000

/-- The first section under a tag; none is under it. -/
structure Found (L : List SecV) (tag K : Nat) (s : SecV) : Prop where
  at_ : L[K]? = some s
  tag_ : s.tag = tag
  first : ∀ j, j < K → ∀ t, L[j]? = some t → t.tag ≠ tag
def Lost (L : List SecV) (tag : Nat) : Prop := ∀ (j : Nat) (t : SecV), L[j]? = some t → t.tag ≠ tag
theorem found_or (L : List SecV) (tag : Nat) : (∃ K s, Found L tag K s) ∨ Lost L tag := by
  induction L with
  | nil => exact .inr (fun (j : Nat) (t : SecV) (h : ([] : List SecV)[j]? = some t) => by simp at h)
  | cons s L ih =>
    by_cases h : s.tag = tag
    · exact .inl ⟨0, s, ⟨rfl, h, fun j hj => by omega⟩⟩
    · rcases ih with ⟨K, t, h1, h2, h3⟩ | h1
      · refine .inl ⟨K + 1, t, ⟨by simpa using h1, h2, fun j hj u hu => ?_⟩⟩
        cases j with
        | zero => simp at hu; subst hu; exact h
        | succ j => exact h3 j (by omega) u (by simpa using hu)
      · refine .inr (fun (j : Nat) (u : SecV) (hu : (s :: L)[j]? = some u) => ?_)
        cases j with
        | zero => simp at hu; subst hu; exact h
        | succ j => exact h1 j u (by simpa using hu)

/-- The closure: is a section under the tag? -/
theorem tagged_any (g t tag : Nat) (A : Option Addr) (m c : Nat) (w : World) (hc : w.cell? ⟨g, 0, none⟩ = some (.int .u32 tag)) :
    Calls Tryd.prog 64 #[.agg #[.int .u32 t, .slice A m c], .pointer (some ⟨g, 0, none⟩)] w fun e w' => e = .returned (.bool (decide (t = tag))) ∧ Below w.heap.size w w' := by
  have hc' := fun o => cell_old hc o
  by_cases h : t = tag
  · subst h
    go_enter Tryd.func64, Tryd.ntmps64
    go_wp2
    go_ret
    refine ⟨by simp, ?_⟩
    repeat (first | exact Below.refl _ _ | refine b_alloc ?_ _ | refine b_drew ?_ | refine b_set ?_ (by simp) _)
  · have h' : ¬ (t : Int) = (tag : Int) := by omega
    go_enter Tryd.func64, Tryd.ntmps64
    go_wp2
    go_ret
    refine ⟨by rw [decide_eq_false h]; simp [h'], ?_⟩
    repeat (first | exact Below.refl _ _ | refine b_alloc ?_ _ | refine b_drew ?_ | refine b_set ?_ (by simp) _)
def IdxP (w : World) (i : Int) (e : Ending) (w' : World) : Prop := e = .returned (.int .i64 i) ∧ Below w.heap.size w w'
set_option maxHeartbeats 4000000 in
theorem idx_ok (A : Option Addr) (n c : Nat) (L : List SecV) (g tag : Nat) (K : Nat) (s : SecV) (w : World) (hS : Secs w A n c L) (hc : w.cell? ⟨g, 0, none⟩ = some (.int .u32 tag)) (hF : Found L tag K s) :
    Calls Tryd.prog 63 #[.slice A n c, .func (.func 64) #[] #[.pointer (some ⟨g, 0, none⟩)]] w (IdxP w K) := by
  have hmax := hS.max
  have hln := hS.len
  have hKn : K < n := by have := (List.getElem?_eq_some_iff.1 hF.at_).1; omega
  go_enter Tryd.func63, Tryd.ntmps63
  go_wp2_with fail
  go_loopw [5, 8] (fun x i wr => ∃ k : Nat, k ≤ K ∧ i = .int .i64 k ∧ Below w.heap.size w wr) (fun _ i _ => n - (intOf i).toNat)
  case atStart => exact ⟨0, Nat.zero_le _, rfl, Below.refl _ _⟩
  case round =>
    obtain ⟨k, hk, rfl, hbel⟩ := hrel
    have hcr := cell_keep hc hbel
    by_cases hlt : k < K
    · obtain ⟨t, b, off, hs, rfl, hc0, hc1, htag, hbs⟩ := (hS.keep hbel).at_ k (by omega)
      have hk0 : (0 : Int) ≤ (k : Int) := by omega
      have hkn : (k : Int) < (n : Int) := by omega
      have hne := hF.first k hlt t hs
      go_wp2_with (go_at_call 64; refine (tagged_any g t.tag tag t.A t.n t.c _ hcr).mono ?_; rw [decide_eq_false hne]; rintro e w1 ⟨rfl, hb1⟩)
      go_roundw
      case rel => exact ⟨k + 1, by omega, by go_num, b_then hbel hb1⟩
      case measure => simp [intOf] <;> omega
    · obtain rfl : k = K := by omega
      obtain ⟨t, b, off, hs, rfl, hc0, hc1, htag, hbs⟩ := (hS.keep hbel).at_ k (by omega)
      have hk0 : (0 : Int) ≤ (k : Int) := by omega
      have hkn : (k : Int) < (n : Int) := by omega
      have hts : t = s := Option.some.inj (hs.symm.trans hF.at_)
      have heq : Hid (t.tag = tag) := Lib.hid (by rw [hts]; exact hF.tag_)
      clear hts
      go_wp2_with (go_at_call 64; refine (tagged_any g t.tag tag t.A t.n t.c _ hcr).mono ?_; rw [decide_eq_true heq.out]; rintro e w1 ⟨rfl, hb1⟩)
      go_ret
      exact ⟨rfl, b_then hbel hb1⟩
set_option maxHeartbeats 4000000 in
theorem idx_no (A : Option Addr) (n c : Nat) (L : List SecV) (g tag : Nat)  (w : World) (hS : Secs w A n c L) (hc : w.cell? ⟨g, 0, none⟩ = some (.int .u32 tag)) (hF : Lost L tag) :
    Calls Tryd.prog 63 #[.slice A n c, .func (.func 64) #[] #[.pointer (some ⟨g, 0, none⟩)]] w (IdxP w (-1)) := by
  have hmax := hS.max
  have hln := hS.len
  go_enter Tryd.func63, Tryd.ntmps63
  go_wp2_with fail
  go_loopw [5, 8] (fun x i wr => ∃ k : Nat, k ≤ n ∧ i = .int .i64 k ∧ Below w.heap.size w wr) (fun _ i _ => n - (intOf i).toNat)
  case atStart => exact ⟨0, Nat.zero_le _, rfl, Below.refl _ _⟩
  case round =>
    obtain ⟨k, hk, rfl, hbel⟩ := hrel
    have hcr := cell_keep hc hbel
    by_cases hlt : k < n
    · obtain ⟨t, b, off, hs, rfl, hc0, hc1, htag, hbs⟩ := (hS.keep hbel).at_ k (by omega)
      have hk0 : (0 : Int) ≤ (k : Int) := by omega
      have hkn : (k : Int) < (n : Int) := by omega
      have hne := hF k t hs
      go_wp2_with (go_at_call 64; refine (tagged_any g t.tag tag t.A t.n t.c _ hcr).mono ?_; rw [decide_eq_false hne]; rintro e w1 ⟨rfl, hb1⟩)
      go_roundw
      case rel => exact ⟨k + 1, by omega, by go_num, b_then hbel hb1⟩
      case measure => simp [intOf] <;> omega
    · obtain rfl : k = n := by omega
      go_wp2_with fail
      go_ret
      exact ⟨rfl, hbel⟩
/-- A tag's section, or that there is none. -/
def FindOk (w : World) (s : SecV) (e : Ending) (w' : World) : Prop := ∃ A1 c1, e = .returned (.tuple #[.slice A1 s.n c1, .nilIface]) ∧ Own w' w.heap.size 5 A1 s.n c1 s.b ∧ Below w.heap.size w w'
def FindNo (w : World) (e : Ending) (w' : World) : Prop := e = .returned (.tuple #[.slice none 0 0, .iface 97 (.int .i64 8)]) ∧ Below w.heap.size w w'
set_option maxHeartbeats 4000000 in
theorem find_ok (A : Option Addr) (n c : Nat) (L : List SecV) (tag K : Nat) (s : SecV) (w : World) (hS : Secs w A n c L) (hF : Found L tag K s) :
    Calls Tryd.prog 47 #[.slice A n c, .int .u32 tag] w (FindOk w s) := by
  have hba := b_alloc (Below.refl w.heap.size w) (.cells #[.int .u32 tag] 22)
  have hBt := Blk.new w #[.int .u32 tag] 22
  have hS0 := hS.keep hba
  have hct := hBt.cell 0 rfl
  have hln := hS.len
  have hKn : K < n := by have := (List.getElem?_eq_some_iff.1 hF.at_).1; omega
  have hK0 : (0 : Int) ≤ (K : Int) := by omega
  have hKi : (K : Int) < (n : Int) := by omega
  go_enter Tryd.func47, Tryd.ntmps47
  go_wp2_with fail
  refine (idx_ok A n c L _ tag K s _ hS0 hct hF).mono ?_
  rintro e w1 ⟨rfl, hb1⟩
  have hbw1 := b_then hba hb1
  obtain ⟨t, b, off, hs, rfl, hc0, hc1, htag, hbs⟩ := (hS.keep hbw1).at_ K hKn
  obtain rfl : t = s := Option.some.inj (hs.symm.trans hF.at_)
  go_wp2_with fail
  refine (clone_any t.A t.n t.c t.b _ hbs).mono ?_
  rintro e w2 ⟨A2, c2, rfl, hown2, hb2⟩
  go_wp2_with fail
  go_ret2
  exact ⟨A2, c2, rfl, hown2.lower hbw1.size, b_then hbw1 hb2⟩
theorem find_no (A : Option Addr) (n c : Nat) (L : List SecV) (tag : Nat) (w : World) (hS : Secs w A n c L) (hF : Lost L tag) :
    Calls Tryd.prog 47 #[.slice A n c, .int .u32 tag] w (FindNo w) := by
  have hba := b_alloc (Below.refl w.heap.size w) (.cells #[.int .u32 tag] 22)
  have hBt := Blk.new w #[.int .u32 tag] 22
  have hS0 := hS.keep hba
  have hct := hBt.cell 0 rfl
  go_enter Tryd.func47, Tryd.ntmps47
  go_wp2_with fail
  refine (idx_no A n c L _ tag _ hS0 hct hF).mono ?_
  rintro e w1 ⟨rfl, hb1⟩
  go_wp2_with fail
  go_ret2
  exact ⟨rfl, b_then hba hb1⟩

def RFindOk (w : World) (s : SecV) (e : Ending) (w' : World) : Prop := e = .returned (.tuple #[.slice s.A s.n s.c, .int .i64 0]) ∧ w = w'
def RFindNo (w : World) (e : Ending) (w' : World) : Prop := e = .returned (.tuple #[.slice none 0 0, .int .i64 8]) ∧ w = w'
set_option maxHeartbeats 4000000 in
theorem rFind_ok (A : Option Addr) (n c : Nat) (L : List SecV) (tag K : Nat) (s : SecV) (w : World) (hS : Secs w A n c L) (hF : Found L tag K s) :
    Calls Tryd.prog 48 #[.slice A n c, .int .u32 tag] w (RFindOk w s) := by
  have hmax := hS.max
  have hln := hS.len
  have hKn : K < n := by have := (List.getElem?_eq_some_iff.1 hF.at_).1; omega
  go_enter Tryd.func48, Tryd.ntmps48
  go_wp2_with fail
  go_loop [6] (fun i => ∃ k : Nat, k ≤ K ∧ i = .int .i64 k) (fun i => n - (intOf i).toNat)
  case atStart => exact ⟨0, Nat.zero_le _, rfl⟩
  case round =>
    obtain ⟨k, hk, rfl⟩ := hrel
    obtain ⟨t, b, off, hs, rfl, hc0, hc1, htag, hbs⟩ := hS.at_ k (by omega)
    have hk0 : (0 : Int) ≤ (k : Int) := by omega
    have hkn : (k : Int) < (n : Int) := by omega
    by_cases hlt : k < K
    · have hne : ¬ (t.tag : Int) = (tag : Int) := by have := hF.first k hlt t hs; omega
      go_wp2
      go_round
      case rel => exact ⟨k + 1, by omega, by go_num⟩
      case measure => simp [intOf] <;> omega
    · obtain rfl : k = K := by omega
      obtain rfl : t = s := Option.some.inj (hs.symm.trans hF.at_)
      have heq : (t.tag : Int) = (tag : Int) := by rw [hF.tag_]
      go_wp2
      go_ret2
      exact ⟨rfl, rfl⟩
set_option maxHeartbeats 4000000 in
theorem rFind_no (A : Option Addr) (n c : Nat) (L : List SecV) (tag : Nat) (w : World) (hS : Secs w A n c L) (hF : Lost L tag) :
    Calls Tryd.prog 48 #[.slice A n c, .int .u32 tag] w (RFindNo w) := by
  have hmax := hS.max
  have hln := hS.len
  go_enter Tryd.func48, Tryd.ntmps48
  go_wp2_with fail
  go_loop [6] (fun i => ∃ k : Nat, k ≤ n ∧ i = .int .i64 k) (fun i => n - (intOf i).toNat)
  case atStart => exact ⟨0, Nat.zero_le _, rfl⟩
  case round =>
    obtain ⟨k, hk, rfl⟩ := hrel
    by_cases hlt : k < n
    · obtain ⟨t, b, off, hs, rfl, hc0, hc1, htag, hbs⟩ := hS.at_ k hlt
      have hk0 : (0 : Int) ≤ (k : Int) := by omega
      have hkn : (k : Int) < (n : Int) := by omega
      have hne : ¬ (t.tag : Int) = (tag : Int) := by have := hF k t hs; omega
      go_wp2
      go_round
      case rel => exact ⟨k + 1, by omega, by go_num⟩
      case measure => simp [intOf] <;> omega
    · obtain rfl : k = n := by omega
      go_wp2
      go_ret2
      exact ⟨rfl, rfl⟩
end Go.Proofs.YtcoiaggedipapaaDoor
