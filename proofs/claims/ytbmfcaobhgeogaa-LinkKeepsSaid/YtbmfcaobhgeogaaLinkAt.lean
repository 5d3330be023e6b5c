/-
  The places of a link: link.at, and the document's check, by their contracts.
-/
import Derived.Test.YtbmfcaobhgeogaaLinkOwn
namespace Go.Proofs.Ytbmfcaobhgeogaa
open Go.RowKit
set_option linter.unusedVariables false
set_option linter.unusedSimpArgs false
set_option maxRecDepth 100000

/-- A link as it is told. -/
structure Lk where
  s0 : List (List Nat × Bool)
  s1 : List (List Nat × Bool)
  d : Bool
def Lk.zero : Lk := ⟨[], [], false⟩
/-- The error's number at a place. -/
def atE (k : Lk) (side at_ : Int) : Int :=
  if side ≠ 0 ∧ side ≠ 1 then 1 else if at_ < 0 ∨ ((if side = 0 then k.s0 else k.s1).length : Int) ≤ at_ then 8 else 0
/-- A number as an error. -/
def errOf (x : Int) : Value := if x = 0 then .nilIface else .iface 64 (.int .i64 x)
/-- A link that can be read. -/
def LinkOut (w : World) (v : Value) (k : Lk) : Prop := ∃ A0 n0 c0 L0 A1 n1 c1 L1, v = .agg #[.slice A0 n0 c0, .slice A1 n1 c1, .bool k.d] ∧ Items w A0 n0 c0 L0 ∧ Items w A1 n1 c1 L1 ∧ says L0 = k.s0 ∧ says L1 = k.s1
theorem says_len (L : List ItemV) : (says L).length = L.length := by simp [says]
theorem LinkOut.zero (w : World) : LinkOut w (.agg #[.slice none 0 0, .slice none 0 0, .bool false]) Lk.zero := ⟨none, 0, 0, [], none, 0, 0, [], rfl, Items.nil w, Items.nil w, rfl, rfl⟩
theorem LinkOut.keep {w w1 : World} {v : Value} {k : Lk} (h : LinkOut w v k) (hb : Below w.heap.size w w1) : LinkOut w1 v k := by
  obtain ⟨A0, n0, c0, L0, A1, n1, c1, L1, e, h0, h1, r⟩ := h
  exact ⟨A0, n0, c0, L0, A1, n1, c1, L1, e, h0.keep hb, h1.keep hb, r⟩
/-- The items' bytes lie in blocks from 'base' on. -/
def Bytes (base : Nat) (L : List ItemV) : Prop := ∀ s ∈ L, 0 < s.n → ∀ q, s.A.map (·.block) = some q → base ≤ q
theorem Bytes.nil (base : Nat) : Bytes base [] := fun s h => by cases h
theorem Bytes.low {base b : Nat} {L : List ItemV} (h : Bytes base L) (hb : b ≤ base) : Bytes b L := fun s hs hn q hq => Nat.le_trans hb (h s hs hn q hq)
/-- The same, its rows in blocks from 'base' on. -/
def LinkB (w : World) (base : Nat) (v : Value) (k : Lk) : Prop := ∃ A0 n0 c0 L0 A1 n1 c1 L1, v = .agg #[.slice A0 n0 c0, .slice A1 n1 c1, .bool k.d] ∧ Items w A0 n0 c0 L0 ∧ Items w A1 n1 c1 L1 ∧ says L0 = k.s0 ∧ says L1 = k.s1 ∧ (∀ q, A0.map (·.block) = some q → base ≤ q) ∧ (∀ q, A1.map (·.block) = some q → base ≤ q) ∧ Bytes base L0 ∧ Bytes base L1
theorem LinkB.zero (w : World) (base : Nat) : LinkB w base (.agg #[.slice none 0 0, .slice none 0 0, .bool false]) Lk.zero := ⟨none, 0, 0, [], none, 0, 0, [], rfl, Items.nil w, Items.nil w, rfl, rfl, (fun q h => by simp at h), (fun q h => by simp at h), Bytes.nil _, Bytes.nil _⟩
theorem LinkB.out {w : World} {base : Nat} {v : Value} {k : Lk} (h : LinkB w base v k) : LinkOut w v k := by
  obtain ⟨A0, n0, c0, L0, A1, n1, c1, L1, e, h0, h1, e0, e1, _⟩ := h
  exact ⟨A0, n0, c0, L0, A1, n1, c1, L1, e, h0, h1, e0, e1⟩
theorem LinkB.keep {w w1 : World} {base : Nat} {v : Value} {k : Lk} (h : LinkB w base v k) (hb : Below w.heap.size w w1) : LinkB w1 base v k := by
  obtain ⟨A0, n0, c0, L0, A1, n1, c1, L1, e, h0, h1, r⟩ := h
  exact ⟨A0, n0, c0, L0, A1, n1, c1, L1, e, h0.keep hb, h1.keep hb, r⟩

set_option maxHeartbeats 4000000 in
theorem at_any (A0 : Option Addr) (n0 c0 : Nat) (A1 : Option Addr) (n1 c1 : Nat) (k : Lk) (side at_ : Int) (w : World) (h0 : k.s0.length = n0) (h1 : k.s1.length = n1) :
    Calls Try.prog 22 #[.agg #[.slice A0 n0 c0, .slice A1 n1 c1, .bool k.d], .int .i64 side, .int .i64 at_] w (fun e w' => e = .returned (errOf (atE k side at_)) ∧ Below w.heap.size w w') := by
  by_cases hs : side ≠ 0 ∧ side ≠ 1
  · rw [show atE k side at_ = 1 by rw [atE, if_pos hs]]
    obtain ⟨hs0, hs1⟩ := hs
    have b0 : (side != 0) = true := by simp [hs0]
    have b1 : (side != 1) = true := by simp [hs1]
    go_enter Try.func22, Try.ntmps22
    go_wp2
    go_ret
    exact ⟨rfl, b_alloc (Below.refl _ _) _⟩
  · have hs' : side = 0 ∨ side = 1 := by omega
    have q : ∀ b : Prop, atE k side at_ = if at_ < 0 ∨ ((if side = 0 then k.s0 else k.s1).length : Int) ≤ at_ then 8 else 0 := fun _ => by rw [atE, if_neg hs]
    by_cases ha : at_ < 0
    · rw [q True, if_pos (.inl ha)]
      rcases hs' with rfl | rfl
      all_goals
        clear q hs
        go_enter Try.func22, Try.ntmps22
        go_wp2
        go_ret
        exact ⟨rfl, b_alloc (Below.refl _ _) _⟩
    · rcases hs' with rfl | rfl
      · rw [if_pos rfl, h0] at q
        by_cases hl : (n0 : Int) ≤ at_
        · rw [q True, if_pos (.inr hl)]
          clear q hs
          go_enter Try.func22, Try.ntmps22
          go_wp2
          go_ret
          exact ⟨rfl, b_alloc (Below.refl _ _) _⟩
        · rw [q True, if_neg (by omega)]
          clear q hs
          go_enter Try.func22, Try.ntmps22
          go_wp2
          go_ret
          exact ⟨rfl, b_alloc (Below.refl _ _) _⟩
      · have q : ∀ b : Prop, atE k 1 at_ = if at_ < 0 ∨ (k.s1.length : Int) ≤ at_ then 8 else 0 := fun b => q b
        rw [h1] at q
        by_cases hl : (n1 : Int) ≤ at_
        · rw [q True, if_pos (.inr hl)]
          clear q hs
          go_enter Try.func22, Try.ntmps22
          go_wp2
          go_ret
          exact ⟨rfl, b_alloc (Below.refl _ _) _⟩
        · rw [q True, if_neg (by omega)]
          clear q hs
          go_enter Try.func22, Try.ntmps22
          go_wp2
          go_ret
          exact ⟨rfl, b_alloc (Below.refl _ _) _⟩
end Go.Proofs.Ytbmfcaobhgeogaa
