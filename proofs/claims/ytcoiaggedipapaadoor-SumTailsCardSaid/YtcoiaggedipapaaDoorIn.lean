/-
  tlv.In: what is taken off, by its contracts.
-/
import Derived.Test.YtcoiaggedipapaaDoorNum
import Derived.Test.YtcoiaggedipapaaDoorAs
namespace Go.Proofs.YtcoiaggedipapaaDoor
open Go.RowKit
set_option linter.unusedVariables false
set_option linter.unusedSimpArgs false
set_option maxRecDepth 100000

/-- An error by its number; nought is nil. -/
inductive ErrN : Value → Nat → Prop
  | none : ErrN .nilIface 0
  | num (x : Nat) (h : x ≠ 0) : ErrN (.iface 97 (.int .i64 (x : Int))) x
theorem ErrN.v {V : Value} {x : Nat} (h : ErrN V x) : ErrV V (x : Int) := by
  cases h with
  | none => exact ErrV.none
  | num y hy => exact ErrV.num _

structure InAt (w : World) (g : Nat) (s : Tl.In) : Prop where
  at_ : ∃ A n c V, Blk w g #[.slice A n c, V] 109 ∧ Bs w A n c s.b ∧ ErrN V s.e
theorem InAt.lt {w : World} {g : Nat} {s : Tl.In} (h : InAt w g s) : g < w.heap.size := by
  obtain ⟨A, n, c, V, hB, _⟩ := h.at_
  exact hB.lt
theorem InAt.keep {w w1 : World} {g : Nat} {s : Tl.In} (h : InAt w g s) (hb : Below w.heap.size w w1) : InAt w1 g s := by
  obtain ⟨A, n, c, V, hB, hs, hV⟩ := h.at_
  exact ⟨A, n, c, V, hB.keep hb, hs.keep hb, hV⟩
theorem InAt.small {w : World} {g : Nat} {s : Tl.In} (h : InAt w g s) : ∀ x ∈ s.b, x < 256 := by
  obtain ⟨A, n, c, V, hB, hs, hV⟩ := h.at_
  exact hs.small
theorem in_apart {w : World} {g : Nat} {A B : Option Addr} {n c m d : Nat} {V : Value} {l : List Nat} {e : Nat} (hB : Blk w g #[.slice B m d, V] 109) (hs : Bs w A n c l) (hV : ErrN V e) : 0 < n → A.map (·.block) ≠ some g := fun h => by
  refine hs.apart hB ?_ h
  intro i v hv x hx
  subst hx
  match i, hv with
  | 0, hv => simp at hv
  | 1, hv => cases hV <;> simp at hv
  | i + 2, hv => simp at hv
/-- Only the In is written. -/
abbrev inIn (g : Nat) : Nat → Prop := fun k => k = g
theorem bs_store {w : World} {g : Nat} {A : Option Addr} {n c : Nat} {l : List Nat} (hs : Bs w A n c l) (hf : 0 < n → A.map (·.block) ≠ some g) (j : Nat) (u : Value) : Bs (w.setCell ⟨g, j, none⟩ u) A n c l :=
  hs.far ((Kept.refl (inIn g) w).set (fun _ => rfl) u) (fun h b hb e => hf h (by rw [hb, e]))
theorem kept_in (w : World) (g j : Nat) (u : Value) : Kept (inIn g) w (w.setCell ⟨g, j, none⟩ u) := (Kept.refl (inIn g) w).set (fun _ => rfl) u
/-- The error is written. -/
theorem in_err {w : World} {g : Nat} {A : Option Addr} {n c : Nat} {V V' : Value} {l : List Nat} {e e' : Nat} (hB : Blk w g #[.slice A n c, V] 109) (hs : Bs w A n c l) (hV : ErrN V e) (hV' : ErrN V' e') :
    InAt (w.setCell ⟨g, 1, none⟩ V') g ⟨l, e'⟩ ∧ Kept (inIn g) w (w.setCell ⟨g, 1, none⟩ V') :=
  ⟨⟨A, n, c, V', by simpa using hB.set 1 V', bs_store hs (in_apart hB hs hV) 1 V', hV'⟩, kept_in _ _ _ _⟩
/-- The bytes are written. -/
theorem in_cut {w : World} {g : Nat} {A A' : Option Addr} {n c n' c' : Nat} {V : Value} {l' : List Nat} {e : Nat} (hB : Blk w g #[.slice A n c, V] 109) (hV : ErrN V e) (hs' : Bs w A' n' c' l') :
    InAt (w.setCell ⟨g, 0, none⟩ (.slice A' n' c')) g ⟨l', e⟩ ∧ Kept (inIn g) w (w.setCell ⟨g, 0, none⟩ (.slice A' n' c')) :=
  ⟨⟨A', n', c', V, by simpa using hB.set 0 (.slice A' n' c'), bs_store hs' (in_apart hB hs' hV) 0 _, hV⟩, kept_in _ _ _ _⟩

def peekE (s : Tl.In) (n : Int) (top ab : Nat) : Nat :=
  if s.e ≠ 0 then s.e else if n < 1 ∨ 8 < n then 1 else if (s.b.length : Int) < n then 12 else if top < Tl.num (s.b.take n.toNat) then ab else 0
/-- There is an error; it is written. -/
def PeekBad (w : World) (g : Nat) (s : Tl.In) (x : Nat) (e : Ending) (w' : World) : Prop :=
  e = .returned (.tuple #[.int .u64 0, .bool false]) ∧ InAt w' g ⟨s.b, x⟩ ∧ Kept (inIn g) w w'
set_option maxHeartbeats 2000000 in
theorem peek_bad (g : Nat) (s : Tl.In) (n : Int) (top ab : Nat) (w : World) (hI : InAt w g s) (ht : top < 18446744073709551616) (hab : ab ≠ 0) (hx : peekE s n top ab ≠ 0) :
    Calls Tryd.prog 61 #[.pointer (some ⟨g, 0, none⟩), .int .i64 n, .int .u64 top, .iface 97 (.int .i64 ab)] w (PeekBad w g s (peekE s n top ab)) := by
  obtain ⟨A, m, c, V, hB, hs, hV⟩ := hI.at_
  have hcap := hs.cap
  have hln := hs.len
  have hc0 := hB.cell 0 rfl
  have hc1 := hB.cell 1 rfl
  have hf := hB.free 1
  rcases s with ⟨l, e⟩
  simp only at hs hV hln ⊢
  subst hln
  cases hV with
  | num x h0 =>
    have he : Hid (peekE ⟨l, e⟩ n top ab = e) := Lib.hid (by unfold peekE; simp [h0])
    clear hx
    go_enter Tryd.func61, Tryd.ntmps61
    go_wp2
    go_ret2
    exact ⟨rfl, by rw [he.out]; exact hI, Kept.refl _ _⟩
  | none =>
    by_cases h1 : n < 1
    · have he : Hid (peekE ⟨l, 0⟩ n top ab = 1) := Lib.hid (by unfold peekE; simp [h1])
      clear hx
      go_enter Tryd.func61, Tryd.ntmps61
      go_wp2
      go_ret2
      have hi := in_err hB hs ErrN.none (ErrN.num 1 (by decide))
      exact ⟨rfl, by rw [he.out]; exact hi.1, hi.2⟩
    · by_cases h8 : 8 < n
      · have he : Hid (peekE ⟨l, 0⟩ n top ab = 1) := Lib.hid (by unfold peekE; simp [h8])
        clear hx
        go_enter Tryd.func61, Tryd.ntmps61
        go_wp2
        go_ret2
        have hi := in_err hB hs ErrN.none (ErrN.num 1 (by decide))
        exact ⟨rfl, by rw [he.out]; exact hi.1, hi.2⟩
      · obtain ⟨k, rfl⟩ : ∃ k : Nat, n = (k : Int) := ⟨n.toNat, by omega⟩
        have h18 : ¬ ((k : Int) < 1 ∨ 8 < (k : Int)) := by omega
        by_cases hl : l.length < k
        · have he : Hid (peekE ⟨l, 0⟩ k top ab = 12) := Lib.hid (by unfold peekE; simp only [ne_eq, not_true_eq_false, if_false, h18]; rw [if_pos (by omega)])
          clear hx h18
          have hl' : (l.length : Int) < (k : Int) := by omega
          go_enter Tryd.func61, Tryd.ntmps61
          go_wp2
          go_ret2
          have hi := in_err hB hs ErrN.none (ErrN.num 12 (by decide))
          exact ⟨rfl, by rw [he.out]; exact hi.1, hi.2⟩
        · have he0 : peekE ⟨l, 0⟩ k top ab = if top < Tl.num (l.take k) then ab else 0 := by unfold peekE; simp only [ne_eq, not_true_eq_false, if_false, h18]; rw [if_neg (by omega)]; rfl
          have htop : top < Tl.num (l.take k) := by
            by_cases h : top < Tl.num (l.take k)
            · exact h
            · rw [he0, if_neg h] at hx; exact absurd rfl hx
          have he : Hid (peekE ⟨l, 0⟩ k top ab = ab) := Lib.hid (by rw [he0, if_pos htop])
          clear hx h18 he0
          have hl' : ¬ (l.length : Int) < (k : Int) := by omega
          have hbt := hs.take k (by omega)
          have hk8 : k ≤ 8 := by omega
          have hkc : (k : Int) ≤ (c : Int) := by omega
          have hkc' : k ≤ c := by omega
          have htop' : (top : Int) < (Tl.num (l.take k) : Int) := by omega
          clear htop
          go_enter Tryd.func61, Tryd.ntmps61
          go_wp2_with (go_at_call 57; refine (number_any A k c _ _ hbt hk8).mono ?_; rintro e w1 ⟨rfl, rfl⟩)
          go_ret2
          have hi := in_err hB hs ErrN.none (ErrN.num ab hab)
          exact ⟨rfl, by rw [he.out]; exact hi.1, hi.2⟩
set_option maxHeartbeats 2000000 in
theorem peek_ok (g : Nat) (l : List Nat) (k top ab : Nat) (w : World) (hI : InAt w g ⟨l, 0⟩) (ht : top < 18446744073709551616) (h1 : 1 ≤ k) (h8 : k ≤ 8) (hl : k ≤ l.length) (htop : Tl.num (l.take k) ≤ top) :
    Calls Tryd.prog 61 #[.pointer (some ⟨g, 0, none⟩), .int .i64 (k : Int), .int .u64 top, .iface 97 (.int .i64 ab)] w fun e w' => e = .returned (.tuple #[.int .u64 (Tl.num (l.take k) : Nat), .bool true]) ∧ w = w' := by
  obtain ⟨A, m, c, V, hB, hs, hV⟩ := hI.at_
  have hcap := hs.cap
  have hln := hs.len
  have hc0 := hB.cell 0 rfl
  have hc1 := hB.cell 1 rfl
  simp only at hs hV hln
  subst hln
  obtain rfl : V = .nilIface := by cases hV with | none => rfl | num x h => exact absurd rfl h
  have h1' : ¬ (k : Int) < 1 := by omega
  have h8' : ¬ 8 < (k : Int) := by omega
  have hl' : ¬ (l.length : Int) < (k : Int) := by omega
  have hbt := hs.take k hl
  have hkc : (k : Int) ≤ (c : Int) := by omega
  have hkc' : k ≤ c := by omega
  have htop' : ¬ (top : Int) < (Tl.num (l.take k) : Int) := by omega
  clear htop
  go_enter Tryd.func61, Tryd.ntmps61
  go_wp2_with (go_at_call 57; refine (number_any A k c _ _ hbt h8).mono ?_; rintro e w1 ⟨rfl, rfl⟩)
  go_ret2
  exact ⟨rfl, rfl⟩

/-- A number is taken off. -/
def TakesN (w : World) (g : Nat) (s : Tl.In) (n : Int) (top : Nat) (e : Ending) (w' : World) : Prop :=
  e = .returned (.int .u64 ((Tl.takeN s n top).2 : Nat)) ∧ InAt w' g (Tl.takeN s n top).1 ∧ Kept (inIn g) w w'
theorem takeN_bad {s : Tl.In} {n : Int} {top : Nat} (h : peekE s n top 4 ≠ 0) : Tl.takeN s n top = (⟨s.b, peekE s n top 4⟩, 0) := by
  rcases s with ⟨l, e⟩
  revert h
  unfold Tl.takeN peekE
  by_cases h0 : e = 0 <;> by_cases h1 : n < 1 ∨ 8 < n <;> by_cases h2 : (l.length : Int) < n <;> by_cases h3 : top < Tl.num (l.take n.toNat) <;> simp [h0, h1, h2, h3]
theorem takeN_ok {s : Tl.In} {n : Int} {top : Nat} (h : peekE s n top 4 = 0) : s.e = 0 ∧ 1 ≤ n ∧ n ≤ 8 ∧ n ≤ (s.b.length : Int) ∧ Tl.num (s.b.take n.toNat) ≤ top ∧ Tl.takeN s n top = (⟨s.b.drop n.toNat, 0⟩, Tl.num (s.b.take n.toNat)) := by
  rcases s with ⟨l, e⟩
  revert h
  unfold Tl.takeN peekE
  by_cases h0 : e = 0 <;> by_cases h1 : n < 1 ∨ 8 < n <;> by_cases h2 : (l.length : Int) < n <;> by_cases h3 : top < Tl.num (l.take n.toNat) <;> simp [h0, h1, h2, h3]
  omega
set_option maxHeartbeats 2000000 in
theorem inN_any (g : Nat) (s : Tl.In) (n : Int) (top : Nat) (w : World) (hI : InAt w g s) (ht : top < 18446744073709551616) :
    Calls Tryd.prog 42 #[.pointer (some ⟨g, 0, none⟩), .int .i64 n, .int .u64 top] w (TakesN w g s n top) := by
  by_cases hx : peekE s n top 4 = 0
  · obtain ⟨h0, h1, h8, hl, htop, he⟩ := takeN_ok hx
    have he' := Lib.hid he
    rcases s with ⟨l, e⟩
    obtain ⟨k, rfl⟩ : ∃ k : Nat, n = (k : Int) := ⟨n.toNat, by omega⟩
    simp only [Int.toNat_natCast] at h0 h1 h8 hl htop he'
    subst h0
    clear hx he
    obtain ⟨A, m, c, V, hB, hs, hV⟩ := hI.at_
    have hcap := hs.cap
    have hln := hs.len
    have hc0 := hB.cell 0 rfl
    have hf := hB.free 0
    simp only at hs hV hln
    subst hln
    obtain ⟨A', hA', hB'⟩ := cut_from (P := Tryd.prog) 23 5 .i64 Tryd.underlying23 Tryd.info5 A l.length c k (by omega)
    have hs' := hB' w l hs
    have k1 : 1 ≤ k := by omega
    have k8 : k ≤ 8 := by omega
    have kl : k ≤ l.length := by omega
    go_enter Tryd.func42, Tryd.ntmps42
    go_wp2_with (go_at_call 61; refine (peek_ok g l k top 4 _ hI ht k1 k8 kl htop).mono ?_; rintro e w1 ⟨rfl, rfl⟩)
    go_ret
    have hi := in_cut hB hV hs'
    unfold TakesN
    rw [he'.out]
    exact ⟨rfl, hi.1, hi.2⟩
  · have he' := Lib.hid (takeN_bad hx)
    go_enter Tryd.func42, Tryd.ntmps42
    go_wp2_with (go_at_call 61; refine (peek_bad g s n top 4 _ hI ht (by decide) hx).mono ?_; rintro e w1 ⟨rfl, hi, hk⟩)
    go_ret
    unfold TakesN
    rw [he'.out]
    exact ⟨rfl, hi, hk⟩
theorem inN_nil (n top : Int) (w : World) : Calls Tryd.prog 42 #[.pointer none, .int .i64 n, .int .u64 top] w fun e w' => e = .returned (.int .u64 0) ∧ w = w' := by
  have hp : ∀ V, Calls Tryd.prog 61 #[.pointer none, .int .i64 n, .int .u64 top, V] w fun e w' => e = .returned (.tuple #[.int .u64 0, .bool false]) ∧ w = w' := by
    intro V
    go_enter Tryd.func61, Tryd.ntmps61
    go_wp2
    go_ret2
    exact ⟨rfl, rfl⟩
  have Hp := Lib.hid hp
  clear hp
  go_enter Tryd.func42, Tryd.ntmps42
  go_wp2_with (go_at_call 61; refine (Hp.out _).mono ?_; rintro e w1 ⟨rfl, rfl⟩)
  go_ret
  exact ⟨rfl, rfl⟩

/-- The first error, or that something is left. -/
def DoneE (w : World) (s : Tl.In) (e : Ending) (w' : World) : Prop := ∃ V, e = .returned V ∧ ErrN V (Tl.done s) ∧ w = w'
theorem inDone_any (g : Nat) (s : Tl.In) (w : World) (hI : InAt w g s) :
    Calls Tryd.prog 43 #[.pointer (some ⟨g, 0, none⟩)] w (DoneE w s) := by
  obtain ⟨A, m, c, V, hB, hs, hV⟩ := hI.at_
  have hln := hs.len
  have hc0 := hB.cell 0 rfl
  have hc1 := hB.cell 1 rfl
  rcases s with ⟨l, e⟩
  simp only at hs hV hln
  subst hln
  cases hV with
  | num x h0 =>
    go_enter Tryd.func43, Tryd.ntmps43
    go_wp2
    go_ret
    exact ⟨_, rfl, by unfold Tl.done; simp only [h0, false_and, if_false]; exact ErrN.num _ h0, rfl⟩
  | none =>
    by_cases h : 0 < l.length
    · have h' : (0 : Int) < (l.length : Int) := by omega
      have hd : Hid (Tl.done ⟨l, 0⟩ = 3) := Lib.hid (by unfold Tl.done; rw [if_pos ⟨rfl, h⟩])
      clear h
      go_enter Tryd.func43, Tryd.ntmps43
      go_wp2
      go_ret
      exact ⟨_, rfl, by rw [hd.out]; exact ErrN.num 3 (by decide), rfl⟩
    · have h' : ¬ (0 : Int) < (l.length : Int) := by omega
      have hd : Hid (Tl.done ⟨l, 0⟩ = 0) := Lib.hid (by unfold Tl.done; rw [if_neg (fun q => h q.2)])
      clear h
      go_enter Tryd.func43, Tryd.ntmps43
      go_wp2
      go_ret
      exact ⟨_, rfl, by rw [hd.out]; exact ErrN.none, rfl⟩
theorem inDone_nil (w : World) : Calls Tryd.prog 43 #[.pointer none] w fun e w' => e = .returned (.iface 97 (.int .i64 1)) ∧ w = w' := by
  go_enter Tryd.func43, Tryd.ntmps43
  go_wp2
  go_ret
  exact ⟨rfl, rfl⟩
end Go.Proofs.YtcoiaggedipapaaDoor
