/-
  tlv.Out: what is laid, by its contracts.
-/
import Derived.Test.YtcoiaggedipapaaDoorNum
namespace Go.Proofs.YtcoiaggedipapaaDoor
open Go.RowKit
set_option linter.unusedVariables false
set_option linter.unusedSimpArgs false
set_option maxRecDepth 100000

/-- What an Out holds: its block g, its slice's block r. -/
structure OutAt (w : World) (base g : Nat) (r : Option Nat) (l : List Nat) : Prop where
  at_ : ∃ A n c, Blk w g #[.slice A n c] 107 ∧ Own w base 5 A n c l ∧ A.map (·.block) = r
  ge : base ≤ g
  ne : r ≠ some g
/-- Only an Out is written. -/
abbrev inOut (g : Nat) (r : Option Nat) : Nat → Prop := fun k => k = g ∨ r = some k
theorem OutAt.lt {w : World} {base g : Nat} {r : Option Nat} {l : List Nat} (h : OutAt w base g r l) : g < w.heap.size := by
  obtain ⟨A, n, c, hB, _⟩ := h.at_
  exact hB.lt
theorem OutAt.rlt {w : World} {base g : Nat} {r : Option Nat} {l : List Nat} (h : OutAt w base g r l) : ∀ k, r = some k → base ≤ k ∧ k < w.heap.size := by
  obtain ⟨A, n, c, _, hO, rfl⟩ := h.at_
  exact hO.ge
theorem OutAt.keep {w w1 : World} {base g : Nat} {r : Option Nat} {l : List Nat} (h : OutAt w base g r l) (hb : Below w.heap.size w w1) : OutAt w1 base g r l := by
  obtain ⟨A, n, c, hB, hO, hA⟩ := h.at_
  exact ⟨⟨A, n, c, hB.keep hb, hO.keep hb, hA⟩, h.ge, h.ne⟩
theorem OutAt.kept {S : Nat → Prop} {w w1 : World} {base g : Nat} {r : Option Nat} {l : List Nat} (h : OutAt w base g r l) (k : Kept S w w1) (hg : ¬ S g) (hr : ∀ b, r = some b → ¬ S b) : OutAt w1 base g r l := by
  obtain ⟨A, n, c, hB, hO, rfl⟩ := h.at_
  exact ⟨⟨A, n, c, hB.kept k hg, hO.kept k hr, rfl⟩, h.ge, h.ne⟩
theorem OutAt.small {w : World} {base g : Nat} {r : Option Nat} {l : List Nat} (h : OutAt w base g r l) : ∀ x ∈ l, x < 256 := by
  obtain ⟨A, n, c, _, hO, _⟩ := h.at_
  exact hO.small
/-- The Out is laid behind: it is where it was, its slice's block may be a new one. -/
def Laid (w : World) (base g : Nat) (r : Option Nat) (l : List Nat) (e : Ending) (w' : World) : Prop :=
  ∃ r', e = .returned (.pointer (some ⟨g, 0, none⟩)) ∧ OutAt w' base g r' l ∧ Kept (inOut g r) w w' ∧ (r' = r ∨ ∀ k, r' = some k → w.heap.size ≤ k)

theorem newOut_any (w : World) : Calls Tryd.prog 34 #[] w fun e w' => e = .returned (.pointer (some ⟨w.heap.size, 0, none⟩)) ∧ w' = w.alloc (.cells #[.slice none 0 0] 107) := by
  go_enter Tryd.func34, Tryd.ntmps34
  go_wp2
  go_ret
  exact ⟨rfl, rfl⟩
theorem OutAt.new (w : World) (base : Nat) (hb : base ≤ w.heap.size) : OutAt (w.alloc (.cells #[.slice none 0 0] 107)) base w.heap.size none [] :=
  ⟨⟨none, 0, 0, Blk.new _ _ _, Own.nil _ _ _, rfl⟩, hb, by simp⟩
/-- A new Out. -/
def NewO (w : World) (e : Ending) (w' : World) : Prop := e = .returned (.pointer (some ⟨w.heap.size, 0, none⟩)) ∧ OutAt w' w.heap.size w.heap.size none [] ∧ Below w.heap.size w w'
theorem newOut_new (w : World) : Calls Tryd.prog 34 #[] w (NewO w) :=
  (newOut_any w).mono fun e w' ⟨h1, h2⟩ => ⟨h1, by rw [h2]; exact OutAt.new w _ (Nat.le_refl _), by rw [h2]; exact b_alloc (Below.refl _ _) _⟩

/-- What an Out holds is written anew: its slice is another one. -/
theorem OutAt.store {w w1 : World} {base g : Nat} {A A1 : Option Addr} {n c n1 c1 : Nat} {l1 : List Nat} (hB : Blk w g #[.slice A n c] 107) (hge : base ≤ g) (hne : A.map (·.block) ≠ some g)
    (hO1 : Own w1 base 5 A1 n1 c1 l1) (hk : Kept (inRow A) w w1) (hat : AtB w A A1) :
    OutAt (w1.setCell ⟨g, 0, none⟩ (.slice A1 n1 c1)) base g (A1.map (·.block)) l1 ∧ Kept (inOut g (A.map (·.block))) w (w1.setCell ⟨g, 0, none⟩ (.slice A1 n1 c1)) := by
  have hlt := hB.lt
  have h1 : A1.map (·.block) ≠ some g := by
    rcases hat with e | e
    · rw [e]; exact hne
    · intro h; have := e g h; omega
  have hB1 := hB.kept hk hne
  refine ⟨⟨⟨A1, n1, c1, by simpa using hB1.set 0 (.slice A1 n1 c1), ?_, rfl⟩, hge, h1⟩, ?_⟩
  · exact hO1.kept ((Kept.refl (fun k => k = g) w1).set (fun _ => rfl) _) (fun b hb e => h1 (by rw [hb, e]))
  · exact (hk.mono (fun i _ h => .inr h)).set (fun _ => .inl rfl) _

set_option maxHeartbeats 2000000 in
theorem outN_any (base g : Nat) (r : Option Nat) (l : List Nat) (v m : Nat) (w : World) (hO : OutAt w base g r l) (hv : v < 18446744073709551616) (hm1 : 1 ≤ m) (hm : m ≤ 8) (hn : l.length + m ≤ 140737488355328) :
    Calls Tryd.prog 37 #[.pointer (some ⟨g, 0, none⟩), .int .u64 v, .int .i64 m] w (Laid w base g r (l ++ Tl.le m v)) := by
  obtain ⟨⟨A, n, c, hB, hown, rfl⟩, hge, hne⟩ := hO
  have hln := hown.len
  subst hln
  have hm1' : (1 : Int) ≤ (m : Int) := by omega
  have hm' : (m : Int) ≤ 8 := by omega
  have hc := hB.cell 0 rfl
  have hbase : base ≤ w.heap.size := Nat.le_trans hge (Nat.le_of_lt hB.lt)
  go_enter Tryd.func37, Tryd.ntmps37
  go_wp2_with fail
  refine (add_any base A _ c l v m w hown hbase hv hm1 hm hn).mono ?_
  rintro e w1 ⟨A1, c1, rfl, hown1, hk1, hat⟩
  have hB1 := hB.kept hk1 hne
  have hc1 := hB1.cell 0 rfl
  have hf1 := hB1.free 0
  go_wp2
  go_ret
  have hs := OutAt.store hB hge hne hown1 hk1 hat
  exact ⟨_, rfl, hs.1, hs.2, hat⟩
set_option maxHeartbeats 2000000 in
theorem outN_none (base g : Nat) (r : Option Nat) (l : List Nat) (v m : Int) (w : World) (hO : OutAt w base g r l) (hm : m < 1 ∨ 8 < m) :
    Calls Tryd.prog 37 #[.pointer (some ⟨g, 0, none⟩), .int .u64 v, .int .i64 m] w (Laid w base g r l) := by
  rcases hm with hm | hm
  · have h1 : ¬ 1 ≤ m := by omega
    go_enter Tryd.func37, Tryd.ntmps37
    go_wp2
    go_ret
    exact ⟨r, rfl, hO, Kept.refl _ _, .inl rfl⟩
  · have h1 : 1 ≤ m := by omega
    have h2 : ¬ m ≤ 8 := by omega
    go_enter Tryd.func37, Tryd.ntmps37
    go_wp2
    go_ret
    exact ⟨r, rfl, hO, Kept.refl _ _, .inl rfl⟩
theorem outN_nil (v m : Int) (w : World) : Calls Tryd.prog 37 #[.pointer none, .int .u64 v, .int .i64 m] w fun e w' => e = .returned (.pointer none) ∧ w = w' := by
  go_enter Tryd.func37, Tryd.ntmps37
  go_wp2
  go_ret
  exact ⟨rfl, rfl⟩

set_option maxHeartbeats 2000000 in
theorem outRun_any (base g : Nat) (r : Option Nat) (l : List Nat) (A' : Option Addr) (n' c' : Nat) (l' : List Nat) (w : World) (hO : OutAt w base g r l) (hb' : Bs w A' n' c' l') (hfar : 0 < n' → A'.map (·.block) ≠ r ∧ A'.map (·.block) ≠ some g) (hn : l.length + 4 + n' ≤ 140737488355328) :
    Calls Tryd.prog 35 #[.pointer (some ⟨g, 0, none⟩), .slice A' n' c'] w (Laid w base g r (l ++ Tl.le 4 n' ++ l')) := by
  obtain ⟨⟨A, n, c, hB, hown, rfl⟩, hge, hne⟩ := hO
  have hln := hown.len
  subst hln
  have hc := hB.cell 0 rfl
  have hbase : base ≤ w.heap.size := Nat.le_trans hge (Nat.le_of_lt hB.lt)
  have hn4 : l.length + 4 ≤ 140737488355328 := by omega
  have hn' : n' < 18446744073709551616 := by omega
  go_enter Tryd.func35, Tryd.ntmps35
  go_wp2_with fail
  refine (add_any base A _ c l n' 4 w hown hbase hn' (by omega) (by omega) hn4).mono ?_
  rintro e w1 ⟨A1, c1, rfl, hown1, hk1, hat⟩
  have hb1 := hb'.far hk1 (fun h b e1 e2 => (hfar h).1 (by rw [e1]; exact e2.symm))
  have hB1 := hB.kept hk1 hne
  have hsz := hk1.size
  have hlt := hB.lt
  go_wp2_with (at_builtin; refine wp_append rfl _ _ 23 5 rfl Tryd.underlying23 Tryd.info5 base A1 (l.length + 4) c1 _ A' n' c' l' (l.length + 4 + n') rfl rfl rfl hown1 hb1 (by omega) hn ?_; intro A2 c2 w2 hown2 hg2 hat2; have hk2 := hk1.grown_ hg2 hat.lt; have hB2 := hB.kept hk2 hne; have hc2 := hB2.cell 0 rfl; have hf2 := hB2.free 0)
  go_ret
  have hat3 := hat.step hsz hat2
  have hs := OutAt.store hB hge hne hown2 hk2 hat3
  exact ⟨_, rfl, by rw [← List.append_assoc]; exact hs.1, hs.2, hat3⟩
theorem outRun_nil (A' : Option Addr) (n' c' : Nat) (w : World) : Calls Tryd.prog 35 #[.pointer none, .slice A' n' c'] w fun e w' => e = .returned (.pointer none) ∧ w = w' := by
  go_enter Tryd.func35, Tryd.ntmps35
  go_wp2
  go_ret
  exact ⟨rfl, rfl⟩

set_option maxHeartbeats 2000000 in
theorem outDone_any (base g : Nat) (r : Option Nat) (l : List Nat) (w : World) (hO : OutAt w base g r l) :
    Calls Tryd.prog 39 #[.pointer (some ⟨g, 0, none⟩)] w (Makes w l.length l) := by
  obtain ⟨⟨A, n, c, hB, hown, rfl⟩, hge, hne⟩ := hO
  have hln := hown.len
  subst hln
  have hc := hB.cell 0 rfl
  go_enter Tryd.func39, Tryd.ntmps39
  go_wp2_with fail
  refine (clone_any A _ c l w hown.bs).mono ?_
  rintro e w1 ⟨A1, c1, rfl, hown1, hb1⟩
  go_wp2
  go_ret
  exact ⟨A1, c1, rfl, hown1, hb1⟩
theorem outDone_nil (w : World) : Calls Tryd.prog 39 #[.pointer none] w fun e w' => e = .returned (.slice none 0 0) ∧ w = w' := by
  go_enter Tryd.func39, Tryd.ntmps39
  go_wp2
  go_ret
  exact ⟨rfl, rfl⟩
end Go.Proofs.YtcoiaggedipapaaDoor
