/-
  tlv.add, tlv.number, the reference's number and N, by their contracts.
-/
import Derived.Test.YtcoiaggedipapaaDoorSum
import Derived.Test.YtcoiaggedipapaaDoorTlm
import Derived.Test.YtcoiaggedipapaaDoorKit3
namespace Go.Proofs.YtcoiaggedipapaaDoor
open Go.RowKit
set_option linter.unusedVariables false
set_option linter.unusedSimpArgs false

theorem mul_pow_lt (c k : Nat) (hc : c < 256) (hk : k < 8) : c * 2 ^ (8 * k) < 18446744073709551616 := by
  have h1 : c * 2 ^ (8 * k) < 256 * 2 ^ (8 * k) := Nat.mul_lt_mul_of_pos_right hc (Nat.two_pow_pos _)
  have h2 : 256 * 2 ^ (8 * k) ≤ 2 ^ 64 := by
    rw [show (256 : Nat) = 2 ^ 8 from rfl, ← Nat.pow_add]
    exact Nat.pow_le_pow_right (by decide) (by omega)
  exact Nat.lt_of_lt_of_le h1 h2
theorem u64_or_add (a c k : Nat) (ha : a < 2 ^ (8 * k)) (hc : c < 256) (hk : k < 8) : bits .or .u64 (a : Int) (IntKind.u64.wrap ((c : Int) * 2 ^ (8 * k))) = ((a ||| c * 2 ^ (8 * k) : Nat) : Int) := by
  have h3 := mul_pow_lt c k hc hk
  have e : ((c : Int) * 2 ^ (8 * k)) = ((c * 2 ^ (8 * k) : Nat) : Int) := by simp
  rw [e, IntKind.wrap_u64, Int.emod_eq_of_lt (by omega) (by omega)]
  exact u64_or_nat a _ (Nat.lt_of_lt_of_le ha (Nat.pow_le_pow_right (n := 2) (by decide) (show 8 * k ≤ 64 by omega))) h3
theorem byte_at (v k : Nat) : IntKind.u8.wrap ((v : Int) / 2 ^ (8 * k)) = ((v / 256 ^ k % 256 : Nat) : Int) := by
  rw [IntKind.wrap_u8, Tl.pow8]
  simp
theorem ret_slice {A : Option Addr} {n m c : Nat} (h : n = m) : Ending.returned (.slice A n c) = .returned (.slice A m c) := by rw [h]
theorem small8 (k : Nat) (h : k < 8) : k = 0 ∨ k = 1 ∨ k = 2 ∨ k = 3 ∨ k = 4 ∨ k = 5 ∨ k = 6 ∨ k = 7 := by omega

set_option maxHeartbeats 2000000 in
theorem number_any (A : Option Addr) (n c : Nat) (l : List Nat) (w : World) (hb : Bs w A n c l) (hn : n ≤ 8) :
    Calls Tryd.prog 57 #[.slice A n c] w fun e w' => e = .returned (.int .u64 (Tl.num l : Nat)) ∧ w = w' := by
  go_enter Tryd.func57, Tryd.ntmps57
  go_wp2
  go_loop [3, 8] (fun v i => ∃ k : Nat, k ≤ n ∧ i = .int .i64 k ∧ v = .int .u64 (Tl.num (l.take k) : Nat)) (fun _ i => n - (intOf i).toNat)
  case atStart => exact ⟨0, Nat.zero_le _, rfl, rfl⟩
  case round =>
    obtain ⟨k, hk, rfl, rfl⟩ := hrel
    by_cases hlt : k < n
    · obtain ⟨b, off, rfl, hc⟩ := hb.cells (by omega)
      have hck := hc k hlt
      clear hc
      have hx := getD_small hb.small k
      have hst := Lib.hid (Tl.num_or l hb.small k (by rw [hb.len]; exact hlt))
      have ha := Tl.num_take_lt l hb.small k
      rw [Tl.pow8] at ha
      generalize Tl.num (l.take k) = a at ha hst ⊢
      generalize l.getD k 0 = x at hck hx hst
      have hor := u64_or_add a x k ha hx (by omega)
      have hk8 : k < 8 := by omega
      clear ha
      go_wp2
      go_round
      case rel => exact ⟨k + 1, by omega, by go_num, by rw [hst.out]⟩
      case measure => simp [intOf]; omega
    · have : k = n := by omega
      subst this
      go_wp2
      go_ret
      exact ⟨ret_int (by rw [List.take_of_length_le (by rw [hb.len]; exact Nat.le_refl _)]), rfl⟩

/-- One's own slice is handed on: it is this block, or a new one. -/
def AtB (w : World) (A A1 : Option Addr) : Prop := A1.map (·.block) = A.map (·.block) ∨ ∀ k, A1.map (·.block) = some k → w.heap.size ≤ k
theorem AtB.refl (w : World) (A : Option Addr) : AtB w A A := .inl rfl
theorem AtB.step {w W : World} {A A1 A2 : Option Addr} (h : AtB w A A1) (hs : w.heap.size ≤ W.heap.size) (hat : A2.map (·.block) = A1.map (·.block) ∨ A2.map (·.block) = some W.heap.size) : AtB w A A2 := by
  rcases hat with e | e
  · unfold AtB; rw [e]; exact h
  · exact .inr fun k hk => by rw [e] at hk; cases hk; exact hs
theorem AtB.trans {w W : World} {A A1 A2 : Option Addr} (h : AtB w A A1) (hs : w.heap.size ≤ W.heap.size) (k : AtB W A1 A2) : AtB w A A2 := by
  rcases k with e | e
  · unfold AtB; rw [e]; exact h
  · exact .inr fun i hi => Nat.le_trans hs (e i hi)
/-- What is written is one's own slice alone. -/
abbrev inRow (A : Option Addr) : Nat → Prop := fun k => A.map (·.block) = some k
theorem AtB.lt {w : World} {A A1 : Option Addr} (h : AtB w A A1) : ∀ k, k < w.heap.size → A1.map (·.block) = some k → inRow A k := by
  intro k hk e
  rcases h with h | h
  · exact h.symm.trans e
  · have := h k e; omega

/-- One's own slice lies from its base on. -/
theorem Own.row_ge {w : World} {base B : Nat} {e : TypeId} {A : Option Addr} {n c : Nat} {l : List Nat} (h : Own w base e A n c l) (hB : B ≤ base) : ∀ i, i < B → ¬ inRow A i := fun i hi hr => by
  have := (h.ge i hr).1
  omega
/-- The call laid these bytes behind one's own slice. -/
def Adds (w : World) (base : Nat) (A : Option Addr) (n : Nat) (l : List Nat) (e : Ending) (w' : World) : Prop :=
  ∃ A1 c1, e = .returned (.slice A1 n c1) ∧ Own w' base 5 A1 n c1 l ∧ Kept (inRow A) w w' ∧ AtB w A A1

set_option maxHeartbeats 2000000 in
theorem add_ap (base : Nat) (A : Option Addr) (n c : Nat) (l : List Nat) (v m : Nat) (w : World) (hO : Ap w base 5 A n c l) (hbase : base ≤ w.heap.size) (hv : v < 18446744073709551616) (hm1 : 1 ≤ m) (hm : m ≤ 8) (hn : n + m ≤ 140737488355328) :
    Calls Tryd.prog 55 #[.slice A n c, .int .u64 v, .int .i64 m] w (Adds w base A (n + m) (l ++ Tl.le m v)) := by
  go_enter Tryd.func55, Tryd.ntmps55
  go_wp2
  go_loopw [0, 9] (fun x i wr => ∃ k : Nat, k ≤ m ∧ i = .int .i64 k ∧ ∃ A1 c1, x = .slice A1 (n + k : Nat) c1 ∧ Ap wr base 5 A1 (n + k) c1 (l ++ Tl.le k v) ∧ Hid (0 < k → Own wr base 5 A1 (n + k) c1 (l ++ Tl.le k v)) ∧ Kept (inRow A) w wr ∧ AtB w A A1) (fun _ i _ => m - (intOf i).toNat)
  case atStart => exact ⟨0, Nat.zero_le _, rfl, A, c, rfl, by simpa [Tl.le] using hO, Lib.hid (fun h => by omega), Kept.refl _ _, AtB.refl _ _⟩
  case round =>
    obtain ⟨k, hk, rfl, A1, c1, rfl, hown, hpos, hkept, hat⟩ := hrel
    by_cases hlt : k < m
    · have hst := Lib.hid (Tl.le_last k v)
      have hq := byte_at v k
      obtain ⟨q, hq256, hqe⟩ : ∃ q : Nat, q < 256 ∧ v / 256 ^ k % 256 = q := ⟨_, by omega, rfl⟩
      rw [hqe] at hq hst
      clear hqe
      have hk8 : k < 8 := by omega
      have hbig : n + k + 1 ≤ 140737488355328 := by omega
      have hsz := hkept.size
      go_wp2_with (at_builtin; refine wp_append_ap rfl _ _ 23 5 rfl Tryd.underlying23 Tryd.info5 base A1 (n + k) c1 _ (some ⟨wr.heap.size, 0, none⟩) 1 1 [q] (n + k + 1) rfl (by decide) rfl rfl (hown.keep (b_alloc (Below.refl _ _) _)) (Bs.made wr 5 [q] 1 rfl (by omega) (by simp; omega)) (by simp; omega) hbig ?_; intro A2 c2 w2 hown2 hg2 hat2)
      go_roundw
      case rel => exact ⟨k + 1, by omega, by go_num, A2, c2, rfl, by rw [hst.out, ← List.append_assoc]; exact hown2.ap, Lib.hid (fun _ => by rw [hst.out, ← List.append_assoc]; exact hown2), (hkept.alloc _).grown_ hg2 hat.lt, hat.step (W := wr.alloc _) (by simp; omega) hat2⟩
      case measure => simp [intOf]; omega
    · have : k = m := by omega
      subst this
      go_wp2
      go_ret
      exact ⟨A1, c1, rfl, hpos.out (by omega), hkept, hat⟩
theorem add_any (base : Nat) (A : Option Addr) (n c : Nat) (l : List Nat) (v m : Nat) (w : World) (hO : Own w base 5 A n c l) (hbase : base ≤ w.heap.size) (hv : v < 18446744073709551616) (hm1 : 1 ≤ m) (hm : m ≤ 8) (hn : n + m ≤ 140737488355328) :
    Calls Tryd.prog 55 #[.slice A n c, .int .u64 v, .int .i64 m] w (Adds w base A (n + m) (l ++ Tl.le m v)) := add_ap base A n c l v m w hO.ap hbase hv hm1 hm hn

theorem num_drop (l : List Nat) (k : Nat) (h : k < l.length) : Tl.num (l.drop k) = l.getD k 0 + 256 * Tl.num (l.drop (k + 1)) := by
  rw [List.drop_eq_getElem_cons h, Tl.num]
  simp [List.getD_eq_getElem?_getD, h]
theorem num_drop_lt (l : List Nat) (hl : ∀ x ∈ l, x < 256) (k n : Nat) (h : l.length = n) (hn : n ≤ 8) (hk : k < n) : 256 * Tl.num (l.drop (k + 1)) + 255 < 18446744073709551616 := by
  have h1 := Tl.num_lt (l.drop (k + 1)) (fun x hx => hl x (List.mem_of_mem_drop hx))
  have h2 : 256 ^ (l.drop (k + 1)).length ≤ 256 ^ 7 := Nat.pow_le_pow_right (by decide) (by rw [List.length_drop]; omega)
  have h3 : (256 : Nat) ^ 7 = 72057594037927936 := by decide
  omega

set_option maxHeartbeats 2000000 in
theorem rnumber_any (A : Option Addr) (n c : Nat) (l : List Nat) (w : World) (hb : Bs w A n c l) (hn : n ≤ 8) :
    Calls Tryd.prog 62 #[.slice A n c] w fun e w' => e = .returned (.int .u64 (Tl.num l : Nat)) ∧ w = w' := by
  go_enter Tryd.func62, Tryd.ntmps62
  go_wp2
  go_loop [3, 4] (fun v i => ∃ k : Nat, k ≤ n ∧ i = .int .i64 ((k : Int) - 1) ∧ v = .int .u64 (Tl.num (l.drop k) : Nat)) (fun _ i => (intOf i + 1).toNat)
  case atStart => exact ⟨n, Nat.le_refl _, rfl, by rw [List.drop_of_length_le (by rw [hb.len]; exact Nat.le_refl _)]; rfl⟩
  case round =>
    obtain ⟨k, hk, rfl, rfl⟩ := hrel
    rcases Nat.eq_zero_or_pos k with h0 | h0
    · subst h0
      go_wp2
      go_ret
      exact ⟨rfl, rfl⟩
    · obtain ⟨j, rfl⟩ : ∃ j, k = j + 1 := ⟨k - 1, by omega⟩
      have e1 : ((j + 1 : Nat) : Int) - 1 = (j : Int) := by omega
      rw [e1]
      clear e1
      obtain ⟨b, off, rfl, hc⟩ := hb.cells (by omega)
      have hck := hc j (by omega)
      clear hc
      have hx := getD_small hb.small j
      have hst := Lib.hid (num_drop l j (by rw [hb.len]; omega))
      have ha := num_drop_lt l hb.small j n hb.len hn (by omega)
      generalize Tl.num (l.drop (j + 1)) = a at ha hst ⊢
      generalize l.getD j 0 = x at hck hx hst
      have hj0 : (0 : Int) ≤ (j : Int) := by omega
      have hjn : (j : Int) < (n : Int) := by omega
      go_wp2
      go_round
      case rel => exact ⟨j, by omega, rfl, by rw [hst.out]; go_num⟩
      case measure => simp [intOf]

set_option maxHeartbeats 2000000 in
theorem rN_any (A : Option Addr) (n c : Nat) (l : List Nat) (v m : Nat) (w : World) (hb : Bs w A n c l) (hv : v < 18446744073709551616) (hm1 : 1 ≤ m) (hm : m ≤ 8) (hn : n + m ≤ 140737488355328) :
    Calls Tryd.prog 38 #[.slice A n c, .int .u64 v, .int .i64 m] w (Makes w (n + m) (l ++ Tl.le m v)) := by
  have hm1' : (1 : Int) ≤ (m : Int) := by omega
  have hm' : (m : Int) ≤ 8 := by omega
  have hn0 : n ≤ 140737488355328 := by omega
  go_enter Tryd.func38, Tryd.ntmps38
  go_wp2_with (at_builtin; refine wp_append rfl _ _ 23 5 rfl Tryd.underlying23 Tryd.info5 w.heap.size none 0 0 [] A n c l n (by omega) rfl rfl (Own.nil _ _ _) hb (Nat.le_refl _) (by omega) ?_; intro A0 c0 w0 hown0 hg0 hat0)
  have hb0 := below_of_none hg0
  simp only [List.nil_append] at hown0
  go_loopw [1, 7, 8] (fun y x i wr => ∃ k : Nat, k ≤ m ∧ i = .int .i64 k ∧ y = .int .u64 (v / 256 ^ k : Nat) ∧ ∃ A1 c1, x = .slice A1 (n + k : Nat) c1 ∧ Own wr w.heap.size 5 A1 (n + k) c1 (l ++ Tl.le k v) ∧ Below w.heap.size w wr) (fun _ _ i _ => m - (intOf i).toNat)
  case atStart => exact ⟨0, Nat.zero_le _, rfl, by simp, A0, c0, rfl, by simpa [Tl.le] using hown0, hb0⟩
  case round =>
    obtain ⟨k, hk, rfl, rfl, A1, c1, rfl, hown, hbel⟩ := hrel
    by_cases hlt : k < m
    · have hst := Lib.hid (Tl.le_last k v)
      have hdd := Lib.hid (Nat.div_div_eq_div_mul v (256 ^ k) 256)
      have hps := Lib.hid (Nat.pow_succ (n := 256) (m := k))
      have hle : v / 256 ^ k < 18446744073709551616 := Nat.lt_of_le_of_lt (Nat.div_le_self _ _) hv
      generalize hq0 : v / 256 ^ k = q at hst hdd hle ⊢
      have hQ := Lib.hid hq0
      clear hq0
      have hq : IntKind.u8.wrap ((q : Int) % 256) = ((q % 256 : Nat) : Int) := by rw [IntKind.wrap_u8]; omega
      obtain ⟨r, hr256, hre⟩ : ∃ r : Nat, r < 256 ∧ q % 256 = r := ⟨_, by omega, rfl⟩
      rw [hre] at hq hst
      have hre' := Lib.hid hre
      clear hre
      have hbig : n + k + 1 ≤ 140737488355328 := by omega
      have hsz := hbel.size
      go_wp2_with (at_builtin; refine wp_append rfl _ _ 23 5 rfl Tryd.underlying23 Tryd.info5 w.heap.size A1 (n + k) c1 _ (some ⟨wr.heap.size, 0, none⟩) 1 1 [r] (n + k + 1) rfl rfl rfl (hown.keep (b_alloc (Below.refl _ _) _)) (Bs.made wr 5 [r] 1 rfl (by omega) (by simp; omega)) (by simp; omega) hbig ?_; intro A2 c2 w2 hown2 hg2 hat2)
      go_roundw
      case rel => exact ⟨k + 1, by omega, by go_num, by rw [hps.out, ← hdd.out]; go_num, A2, c2, rfl, by rw [hst.out, ← List.append_assoc]; exact hown2, b_grown (b_alloc hbel _) hg2 (fun k hk => (hown.ge k hk).1)⟩
      case measure => simp [intOf]; omega
    · have : k = m := by omega
      subst this
      go_wp2
      go_ret
      exact ⟨A1, c1, rfl, hown, hbel⟩
set_option maxHeartbeats 2000000 in
theorem rN_none (A : Option Addr) (n c : Nat) (l : List Nat) (v m : Int) (w : World) (hb : Bs w A n c l) (hm : m < 1 ∨ 8 < m) (hn : n ≤ 140737488355328) :
    Calls Tryd.prog 38 #[.slice A n c, .int .u64 v, .int .i64 m] w (Makes w n l) := by
  rcases hm with hm | hm
  · go_enter Tryd.func38, Tryd.ntmps38
    go_wp2_with (at_builtin; refine wp_append rfl _ _ 23 5 rfl Tryd.underlying23 Tryd.info5 w.heap.size none 0 0 [] A n c l n (by omega) rfl rfl (Own.nil _ _ _) hb (Nat.le_refl _) (by omega) ?_; intro A0 c0 w0 hown0 hg0 hat0)
    go_ret
    exact ⟨A0, c0, rfl, by simpa using hown0, below_of_none hg0⟩
  · have hm2 : ¬ m < 1 := by omega
    go_enter Tryd.func38, Tryd.ntmps38
    go_wp2_with (at_builtin; refine wp_append rfl _ _ 23 5 rfl Tryd.underlying23 Tryd.info5 w.heap.size none 0 0 [] A n c l n (by omega) rfl rfl (Own.nil _ _ _) hb (Nat.le_refl _) (by omega) ?_; intro A0 c0 w0 hown0 hg0 hat0)
    go_ret
    exact ⟨A0, c0, rfl, by simpa using hown0, below_of_none hg0⟩
set_option maxHeartbeats 2000000 in
theorem rRun_any (A A' : Option Addr) (n c n' c' : Nat) (l l' : List Nat) (w : World) (hb : Bs w A n c l) (hb' : Bs w A' n' c' l') (hn : n + 4 + n' ≤ 140737488355328) :
    Calls Tryd.prog 36 #[.slice A n c, .slice A' n' c'] w (Makes w (n + 4 + n') (l ++ Tl.le 4 n' ++ l')) := by
  have hn4 : n + 4 ≤ 140737488355328 := by omega
  have hn' : n' < 18446744073709551616 := by omega
  go_enter Tryd.func36, Tryd.ntmps36
  go_wp2_with (first | (go_at_call 38; refine (rN_any A n c l n' 4 _ hb hn' (by omega) (by omega) hn4).mono ?_; rintro e w1 ⟨A1, c1, rfl, hown, hbel⟩) | (at_builtin; refine wp_append rfl _ _ 23 5 rfl Tryd.underlying23 Tryd.info5 w.heap.size A1 (n + 4) c1 _ A' n' c' l' (n + 4 + n') rfl rfl rfl hown (hb'.keep hbel) hbel.size hn ?_; intro A2 c2 w2 hown2 hg2 hat2))
  go_ret
  exact ⟨A2, c2, rfl, by rw [← List.append_assoc]; exact hown2, b_grown hbel hg2 (fun k hk => (hown.ge k hk).1)⟩
end Go.Proofs.YtcoiaggedipapaaDoor
