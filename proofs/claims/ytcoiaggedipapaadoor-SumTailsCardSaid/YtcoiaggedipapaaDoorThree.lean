import Derived.Test.YtcoiaggedipapaaDoorTail
namespace Go.Proofs.YtcoiaggedipapaaDoor
open Go.RowKit
set_option linter.unusedVariables false
set_option linter.unusedSimpArgs false
set_option maxRecDepth 100000

theorem min4 (n n' n'' m : Nat) (hm : m = min (min (min n n') n'') 5000) (ts : Array TypeId) (t : TypeId) (W : World) :
    (Builtin.min_ ts t #[.int .i64 (n : Int), .int .i64 (n' : Int), .int .i64 (n'' : Int), .int .i64 5000]).run Tryd.prog W = .ok (.int .i64 (m : Int)) W := by
  have two := fun (x y : Int) => (show Builtin.min2 (.int .i64 x) (.int .i64 y) = pure (.int .i64 (if y < x then y else x)) by simp only [Builtin.min2])
  simp only [Builtin.min_, List.foldlM_cons, List.foldlM_nil, two, pure_bind, Sem.run_pure]
  congr 2
  split <;> split <;> split <;> omega

/-- Three texts, xored, as far as k. -/
def xor3 (l l' l'' : List Nat) (k : Nat) : List Nat := (List.range k).map fun j => l.getD j 0 ^^^ l'.getD j 0 ^^^ l''.getD j 0
theorem xor3_succ (l l' l'' : List Nat) (k : Nat) : xor3 l l' l'' (k + 1) = xor3 l l' l'' k ++ [l.getD k 0 ^^^ l'.getD k 0 ^^^ l''.getD k 0] := by
  simp [xor3, List.range_succ]
theorem xor_u8 (a b : Nat) (ha : a < 256) (hb : b < 256) : bits .xor .u8 (a : Int) (b : Int) = ((a ^^^ b : Nat) : Int) := u8_xor_nat a b ha hb
theorem xor3_eq (l l' l'' : List Nat) (k : Nat) (h : k ≤ l.length) (h' : k ≤ l'.length) (h'' : k ≤ l''.length) :
    xor3 l l' l'' k = List.zipWith (· ^^^ ·) (List.zipWith (· ^^^ ·) (l.take k) (l'.take k)) (l''.take k) := by
  apply List.ext_getElem
  · simp [xor3]; omega
  · intro i h1 h2
    simp [xor3] at h1
    simp [xor3, List.getD_eq_getElem?_getD, List.getElem?_eq_getElem (show i < l.length by omega), List.getElem?_eq_getElem (show i < l'.length by omega), List.getElem?_eq_getElem (show i < l''.length by omega)]
/-- The plain law: of three texts of one length, xored, the sum is the three sums, xored. -/
theorem three_sums (l l' l'' : List Nat) (k : Nat) (h : k ≤ l.length) (h' : k ≤ l'.length) (h'' : k ≤ l''.length) (s : ∀ x ∈ l, x < 256) (s' : ∀ x ∈ l', x < 256) (s'' : ∀ x ∈ l'', x < 256) :
    ofN (xor3 l l' l'' k) = ofN (l.take k) ^^^ ofN (l'.take k) ^^^ ofN (l''.take k) := by
  have small : ∀ x ∈ xor3 l l' l'' k, x < 256 := by
    intro x hx
    simp only [xor3, List.mem_map] at hx
    obtain ⟨j, _, rfl⟩ := hx
    exact Nat.xor_lt_two_pow (n := 8) (Nat.xor_lt_two_pow (n := 8) (getD_small s j) (getD_small s' j)) (getD_small s'' j)
  have ts : ∀ (q : List Nat), (∀ x ∈ q, x < 256) → ∀ x ∈ q.take k, x < 256 := fun q hq x hx => hq x (List.mem_of_mem_take hx)
  have o3 : BitVec.ofNat 32 4294967295 = BitVec.ofNat 32 4294967295 ^^^ BitVec.ofNat 32 4294967295 ^^^ BitVec.ofNat 32 4294967295 := by decide
  apply Crc.ofNat_inj (ofN_lt _) (Nat.xor_lt_two_pow (n := 32) (Nat.xor_lt_two_pow (n := 32) (ofN_lt _) (ofN_lt _)) (ofN_lt _))
  have hx : ∀ a b : Nat, BitVec.ofNat 32 (a ^^^ b) = BitVec.ofNat 32 a ^^^ BitVec.ofNat 32 b := by
    intro a b
    apply BitVec.eq_of_toNat_eq
    simp only [BitVec.toNat_xor, BitVec.toNat_ofNat]
    rw [Nat.xor_mod_two_pow]
  rw [hx, hx]
  unfold ofN
  rw [Crc.sum_eq _ _ (by decide) small, Crc.sum_eq _ _ (by decide) (ts l s), Crc.sum_eq _ _ (by decide) (ts l' s'), Crc.sum_eq _ _ (by decide) (ts l'' s''), xor3_eq l l' l'' k h h' h'', o3]
  rw [Crc.more_xor _ _ _ _ (by simp; omega), Crc.more_xor _ _ _ _ (by simp; omega), ← o3]

theorem keep3 {w W : World} {a a' a'' : Addr} {v v' v'' : Value} (h : w.cell? a = some v) (h' : w.cell? a' = some v') (h'' : w.cell? a'' = some v'') (hb : Below w.heap.size w W) : W.cell? a = some v ∧ W.cell? a' = some v' ∧ W.cell? a'' = some v'' :=
  ⟨cell_keep h hb, cell_keep h' hb, cell_keep h'' hb⟩

set_option maxHeartbeats 4000000 in
theorem law_three (A : Option Addr) (n c : Nat) (l : List Nat) (A' : Option Addr) (n' c' : Nat) (l' : List Nat) (A'' : Option Addr) (n'' c'' : Nat) (l'' : List Nat) (w : World) (ha : Bs w A n c l) (hb : Bs w A' n' c' l') (hc : Bs w A'' n'' c'' l'') (hT : TabW w) :
    Calls Tryd.prog 4 #[.slice A n c, .slice A' n' c', .slice A'' n'' c''] w fun e w' => e = .returned (.bool true) ∧ Below w.heap.size w w' := by
  obtain ⟨m, hm⟩ : ∃ m : Nat, m = min (min (min n n') n'') 5000 := ⟨_, rfl⟩
  have hm0 : m ≤ n ∧ m ≤ n' ∧ m ≤ n'' ∧ m ≤ 5000 := by omega
  have hmin := min4 n n' n'' m hm
  have hsum := Lib.hid (three_sums l l' l'' m (by rw [ha.len]; omega) (by rw [hb.len]; omega) (by rw [hc.len]; omega) ha.small hb.small hc.small)
  clear hm
  obtain ⟨hm1, hm2, hm3, hm4⟩ := hm0
  go_enter Tryd.func4, Tryd.ntmps4
  go_wp2_with fail
  go_loopw [8, 9] (fun x i wr => ∃ k : Nat, k ≤ m ∧ i = .int .i64 k ∧ ∃ A1 c1, x = .slice A1 k c1 ∧ Own wr w.heap.size 5 A1 k c1 (xor3 l l' l'' k) ∧ Below w.heap.size w wr) (fun _ i _ => m - (intOf i).toNat)
  case atStart => exact ⟨0, Nat.zero_le _, rfl, none, 0, rfl, Own.nil _ _ _, Below.refl _ _⟩
  case round =>
    obtain ⟨k, hk, rfl, A1, c1, rfl, hown, hbel⟩ := hrel
    by_cases hlt : k < m
    · obtain ⟨b, off, rfl, hc1⟩ := ha.cells (by omega)
      obtain ⟨b', off', rfl, hc2⟩ := hb.cells (by omega)
      obtain ⟨b'', off'', rfl, hc3⟩ := hc.cells (by omega)
      have q1 := hc1 k (by omega)
      have q2 := hc2 k (by omega)
      have q3 := hc3 k (by omega)
      clear hc1 hc2 hc3
      have y1 := getD_small ha.small k
      have y2 := getD_small hb.small k
      have y3 := getD_small hc.small k
      have hst := Lib.hid (xor3_succ l l' l'' k)
      generalize l.getD k 0 = x1 at q1 y1 hst
      generalize l'.getD k 0 = x2 at q2 y2 hst
      generalize l''.getD k 0 = x3 at q3 y3 hst
      have e1 := xor_u8 x1 x2 y1 y2
      have y12 : x1 ^^^ x2 < 256 := Nat.xor_lt_two_pow (n := 8) y1 y2
      have e2 := xor_u8 (x1 ^^^ x2) x3 y12 y3
      have y123 : x1 ^^^ x2 ^^^ x3 < 256 := Nat.xor_lt_two_pow (n := 8) y12 y3
      generalize x1 ^^^ x2 ^^^ x3 = x at e2 y123 hst
      generalize x1 ^^^ x2 = x12 at e1 e2
      have hk0 : (0 : Int) ≤ (k : Int) := by omega
      have hk1 : (k : Int) < (n : Int) := by omega
      have hk2 : (k : Int) < (n' : Int) := by omega
      have hk3 : (k : Int) < (n'' : Int) := by omega
      have hbig : k + 1 ≤ 140737488355328 := by omega
      go_wp2_with fail
      go_region_held3 (fun w' => w'.cell? ⟨b, off + k, none⟩ = some (.int .u8 (x1 : Int)) ∧ w'.cell? ⟨b', off' + k, none⟩ = some (.int .u8 (x2 : Int)) ∧ w'.cell? ⟨b'', off'' + k, none⟩ = some (.int .u8 (x3 : Int))) ((first | exact keep3 q1 q2 q3 (b_drew hbel) | exact keep3 q1 q2 q3 (b_alloc (b_drew hbel) _) | exact keep3 q1 q2 q3 (b_grown (b_alloc (b_drew hbel) _) hg2 (fun k hk => (hown.ge k hk).1)))) (first | (refine step_append rfl _ _ 23 5 rfl Tryd.underlying23 Tryd.info5 _ A1 k c1 _ (some ⟨wr.heap.size, 0, none⟩) 1 1 [x] (k + 1) rfl rfl rfl (hown.drew.keep (b_alloc (Below.refl _ _) _)) (Bs.made wr.drew 5 [x] 1 rfl (by omega) (by simp; omega)) (by have := hbel.size; simp; omega) hbig ?_; intro A2 c2 w2 hown2 hg2 hat2) | fail)
      go_wp2
      go_roundw
      case rel => exact ⟨k + 1, by omega, by go_num, A2, c2, rfl, by rw [hst.out]; exact hown2, b_grown (b_alloc (b_drew hbel) _) hg2 (fun k hk => (hown.ge k hk).1)⟩
      case measure => simp [intOf]; omega
    · have : k = m := by omega
      subst this
      have t1 := (ha.take k hm1).keep hbel
      have t2 := (hb.take k hm2).keep hbel
      have t3 := (hc.take k hm3).keep hbel
      have tx := hown.bs
      have hTr := hT.keep hbel
      have p1 : ofN (l.take k) < 4294967296 := ofN_lt _
      have p2 : ofN (l'.take k) < 4294967296 := ofN_lt _
      have p3 : ofN (l''.take k) < 4294967296 := ofN_lt _
      have e1 := xor_u32 _ _ p1 p2
      have e2 := xor_u32 _ _ (Nat.xor_lt_two_pow (n := 32) p1 p2) p3
      rw [← hsum.out] at e2
      have hk0 : (0 : Int) ≤ (k : Int) := by omega
      have hk1 : (k : Int) ≤ (c : Int) := by have := ha.cap; omega
      have hk2 : (k : Int) ≤ (c' : Int) := by have := hb.cap; omega
      have hk3 : (k : Int) ≤ (c'' : Int) := by have := hc.cap; omega
      have hk1' : k ≤ c := by omega
      have hk2' : k ≤ c' := by omega
      have hk3' : k ≤ c'' := by omega
      clear p1 p2 p3
      go_wp2_with fail
      go_region_held3 (fun w' => Below wr.heap.size wr w') ((first | exact b_drew (Below.refl _ _) | exact b_then (by assumption) hb20 | exact b_then (by assumption) hb15 | assumption)) (first | (go_at_call_of 16 (Value.slice A1 k c1); refine (of_any' A1 k c1 _ _ (tx.keep (by assumption)) (hTr.keep (by assumption))).mono ?_; rintro e w' ⟨rfl, rfl⟩) | (go_at_call_of 16 (Value.slice A' k c'); refine (of_any' A' k c' _ _ (t2.keep (by assumption)) (hTr.keep (by assumption))).mono ?_; rintro e w' ⟨rfl, rfl⟩) | (go_at_call_of 16 (Value.slice A'' k c''); refine (of_any' A'' k c'' _ _ (t3.keep (by assumption)) (hTr.keep (by assumption))).mono ?_; rintro e w' ⟨rfl, rfl⟩) | (go_at_call 20; refine (own_any A k c _ _ (t1.keep (by assumption))).mono ?_; rintro e w' ⟨A3, c3, rfl, hown3, hb20⟩; have t4 := hown3.bs) | (go_at_call 16; refine (of_any' A3 k c3 _ _ t4 (hTr.keep (by assumption))).mono ?_; rintro e w' ⟨rfl, rfl⟩) | (go_at_call 15; refine (sure_any _ (hTr.keep (by assumption))).mono ?_; rintro e w' ⟨rfl, hb15⟩) | fail)
      go_wp2
      go_ret
      refine ⟨rfl, b_then hbel (by assumption)⟩
end Go.Proofs.YtcoiaggedipapaaDoor
