/-
  The laws of layer 19: what they share.
-/
import Derived.Test.YtcoiaggedipapaaDoorDecode
namespace Go.Proofs.YtcoiaggedipapaaDoor
open Go.RowKit
set_option linter.unusedVariables false
set_option linter.unusedSimpArgs false
set_option maxRecDepth 100000

theorem encE_nil : Tl.encE (secL []) = 0 := by decide
theorem encP_ok {w w' : World} {v : Nat} {l : List Tl.Sec} {e : Ending} (h : EncP w v l e w') (h0 : Tl.encE l = 0) : ∃ A1 c1, e = .returned (.tuple #[.slice A1 (Tl.size l) c1, .nilIface]) ∧ Own w' w.heap.size 5 A1 (Tl.size l) c1 (Tl.file v l) ∧ Below w.heap.size w w' := by
  rcases h with ⟨_, h⟩ | ⟨h, _⟩
  · exact h
  · exact absurd h0 h
theorem encP_bad {w w' : World} {v : Nat} {l : List Tl.Sec} {e : Ending} (h : EncP w v l e w') (h0 : Tl.encE l ≠ 0) : e = .returned (.tuple #[.slice none 0 0, .iface 97 (.int .i64 (Tl.encE l : Nat))]) ∧ Below w.heap.size w w' := by
  rcases h with ⟨h, _⟩ | ⟨_, h⟩
  · exact absurd h h0
  · exact h
theorem decP_ok {w w' : World} {b : List Nat} {e : Ending} (h : DecP w b e w') (h0 : Tl.decE b = 0) : ∃ A1 c1 L, e = .returned (.tuple #[.int .u32 (Tl.decV b : Nat), .slice A1 (List.length L) c1, .nilIface]) ∧ OwnS w' w.heap.size 81 A1 L.length c1 L ∧ secL L = Tl.decL b ∧ Below w.heap.size w w' := by
  rcases h with ⟨_, h⟩ | ⟨h, _⟩
  · exact h
  · exact absurd h0 h
theorem decP_bad {w w' : World} {b : List Nat} {e : Ending} (h : DecP w b e w') (h0 : Tl.decE b ≠ 0) : e = .returned (.tuple #[.int .u32 0, .slice none 0 0, .iface 97 (.int .i64 (Tl.decE b : Nat))]) ∧ Below w.heap.size w w' := by
  rcases h with ⟨h, _⟩ | ⟨_, h⟩
  · exact absurd h h0
  · exact h
set_option maxHeartbeats 2000000 in
theorem sure19_any (w : World) (hT : TabW w) : Calls Tryd.prog 24 #[] w fun e w' => e = .returned (.bool true) ∧ Below w.heap.size w w' := by
  obtain ⟨hd1, hd2, hd3⟩ := Tl.dec_file 3 (secL []) (by decide) (fun s h => by cases h) encE_nil
  have hd1' := Lib.hid hd1
  have hd2' := Lib.hid hd2
  have hd3' := Lib.hid hd3
  clear hd1 hd2 hd3
  go_enter Tryd.func24, Tryd.ntmps24
  go_wp2_with (first
    | (go_at_call 25; refine (encode_any 3 none 0 0 [] _ (Secs.nil _) hT (by decide) (by decide)).mono ?_; intro e w1 hp; obtain ⟨A1, c1, rfl, hown1, hb1⟩ := encP_ok hp encE_nil; have hbs1 := hown1.bs; have hT1 := hT.keep hb1)
    | (go_at_call 27; refine (decode_any A1 _ c1 _ _ hbs1 hT1).mono ?_; intro e w2 hp2; obtain ⟨A2, c2, L, rfl, hown2, hL, hb2⟩ := decP_ok hp2 hd1'.out; rw [hd2'.out] at hL; obtain rfl : L = [] := List.map_eq_nil_iff.1 hL; rw [hd3'.out]))
  go_ret
  exact ⟨rfl, b_then hb1 hb2⟩

set_option maxHeartbeats 2000000 in
theorem give_any (A : Option Addr) (n c : Nat) (L : List SecV) (w : World) (hS : Secs w A n c L) (hbl : ∀ s ∈ L, 0 < s.n → ∀ k, s.A.map (·.block) = some k → k < w.heap.size) :
    Calls Tryd.prog 26 #[.slice A n c] w fun e w' => ∃ A1 c1, e = .returned (.slice A1 n c1) ∧ OwnS w' w.heap.size 81 A1 n c1 L ∧ Below w.heap.size w w' := by
  have hmax := hS.max
  have hln := hS.len
  go_enter Tryd.func26, Tryd.ntmps26
  go_wp2_with fail
  go_loopw [3, 4] (fun x i wr => ∃ k : Nat, k ≤ n ∧ i = .int .i64 k ∧ ∃ A1 c1, x = .slice A1 k c1 ∧ OwnS wr w.heap.size 81 A1 k c1 (L.take k) ∧ Below w.heap.size w wr) (fun _ i _ => n - (intOf i).toNat)
  case atStart => exact ⟨0, Nat.zero_le _, rfl, none, 0, rfl, OwnS.nil _ _ _, Below.refl _ _⟩
  case round =>
    obtain ⟨k, hk, rfl, A1, c1, rfl, hown, hbel⟩ := hrel
    by_cases hlt : k < n
    · obtain ⟨s, b, off, hs, rfl, hc0, hc1, htag, hbs⟩ := (hS.keep hbel).at_ k hlt
      have hst := Lib.hid (show L.take (k + 1) = L.take k ++ [s] by
        obtain ⟨hk', e⟩ := List.getElem?_eq_some_iff.1 hs
        rw [List.take_succ_eq_append_getElem hk', e])
      have hmem : s ∈ L := List.mem_of_getElem? hs
      have hfar : 0 < s.n → ∀ g, A1.map (·.block) = some g → s.A.map (·.block) ≠ some g := fun h0 g h1 h2 => by
        have h3 := (hown.ge g h1).1
        have h4 := hbl s hmem h0 g h2
        omega
      have hba := b_alloc (Below.refl wr.heap.size wr) (Obj.cells #[.int .u32 s.tag, .slice s.A s.n s.c] 81)
      have hLW := hown.keep hba
      have hbW := hbs.keep hba
      have hbWW := b_then hbel hba
      have hbz := hbWW.size
      have hn0 : (wr.alloc (Obj.cells #[.int .u32 s.tag, .slice s.A s.n s.c] 81)).cell? ⟨wr.heap.size, 0, none⟩ = some (.int .u32 s.tag) := cell_new _ _ _ _ _ rfl
      have hn1 : (wr.alloc (Obj.cells #[.int .u32 s.tag, .slice s.A s.n s.c] 81)).cell? ⟨wr.heap.size, 1, none⟩ = some (.slice s.A s.n s.c) := cell_new _ _ _ _ _ rfl
      have hkm : k + 1 ≤ 4398046511104 := by omega
      clear hmem
      go_wp2_with (at_builtin; refine wp_appendS rfl _ _ 39 81 rfl Tryd.underlying39 Tryd.info81 w.heap.size A1 k c1 _ wr.heap.size s (k + 1) rfl rfl rfl hLW hn0 hn1 htag hbW hfar hbz hkm ?_; intro A2 c2 w2 hown2 hg2 hat2)
      go_roundw
      case rel => exact ⟨k + 1, by omega, by go_num, A2, c2, rfl, by rw [hst.out]; exact hown2, b_grown hbWW hg2 (fun g hg => (hown.ge g hg).1)⟩
      case measure => simp [intOf] <;> omega
    · have : k = n := by omega
      subst this
      go_wp2_with fail
      go_ret
      rw [List.take_of_length_le (by omega)] at hown
      exact ⟨A1, c1, rfl, hown, hbel⟩

/-- How many bytes the first k sections have. -/
def lenTo (L : List SecV) (k : Nat) : Nat := ((L.take k).map (·.n)).sum
theorem lenTo_succ {L : List SecV} {k : Nat} {s : SecV} (h : L[k]? = some s) : lenTo L (k + 1) = lenTo L k + s.n := by
  obtain ⟨hk, e⟩ := List.getElem?_eq_some_iff.1 h
  subst e
  unfold lenTo
  rw [List.take_succ_eq_append_getElem hk]
  simp only [List.map_append, List.map_cons, List.map_nil, List.sum_append, List.sum_cons, List.sum_nil, Nat.add_zero]
theorem ret_bool {a b : Bool} (h : a = b) : Ending.returned (.bool a) = .returned (.bool b) := by rw [h]
theorem size_len : ∀ (L : List SecV), (∀ s ∈ L, s.b.length = s.n) → Tl.size (secL L) = 16 + 12 * L.length + (L.map (·.n)).sum
  | [], _ => rfl
  | s :: L, h => by
    have ih := size_len L (fun s hs => h s (by simp [hs]))
    have h1 := h s (by simp)
    simp only [secL, List.map_cons, Tl.size, SecV.sec, List.length_cons, List.sum_cons] at ih ⊢
    omega
theorem lenTo_all (L : List SecV) (k : Nat) (h : L.length ≤ k) : lenTo L k = (L.map (·.n)).sum := by unfold lenTo; rw [List.take_of_length_le h]
/-- Is there more than is gone through? -/
def longB (L : List SecV) : Bool := decide (200 < L.length) || decide (20000 < lenTo L (min L.length 5000))
set_option maxHeartbeats 2000000 in
theorem long_any (A : Option Addr) (n c : Nat) (L : List SecV) (w : World) (hS : Secs w A n c L) :
    Calls Tryd.prog 23 #[.slice A n c] w fun e w' => e = .returned (.bool (longB L)) ∧ w = w' := by
  have hmax := hS.max
  have hln := hS.len
  go_enter Tryd.func23, Tryd.ntmps23
  go_wp2_with fail
  go_loop [3, 4] (fun x i => ∃ k : Nat, k ≤ n ∧ k ≤ 5000 ∧ i = .int .i64 k ∧ x = .int .i64 (lenTo L k : Nat) ∧ lenTo L k ≤ k * 140737488355328) (fun _ i => n - (intOf i).toNat)
  case atStart => exact ⟨0, Nat.zero_le _, Nat.zero_le _, rfl, rfl, by simp [lenTo]⟩
  case round =>
    obtain ⟨k, hk, hk5, rfl, rfl, hle⟩ := hrel
    by_cases hlt : k < n
    · by_cases h5 : k < 5000
      · obtain ⟨s, b, off, hs, rfl, hc0, hc1, htag, hbs⟩ := hS.at_ k hlt
        have hst := Lib.hid (lenTo_succ hs)
        have hsm := hbs.max
        have hle2 : lenTo L k + s.n ≤ (k + 1) * 140737488355328 := by omega
        have hle3 : lenTo L k ≤ 703687441776640000 := by omega
        generalize lenTo L k = z at hst hle hle2 hle3 ⊢
        go_wp2
        go_round
        case rel => exact ⟨k + 1, by omega, by omega, by go_num, by rw [hst.out]; go_num, by rw [hst.out]; omega⟩
        case measure => simp [intOf] <;> omega
      · have hmin : min L.length 5000 = k := by omega
        have hB : longB L = true := by
          unfold longB
          rw [decide_eq_true (show 200 < L.length by omega)]
          rfl
        have hB' := Lib.hid hB
        clear hB
        have hk' : (200 : Int) < (n : Int) := by omega
        go_wp2
        go_ret
        exact ⟨by rw [hB'.out]; rfl, rfl⟩
    · have hmin : min L.length 5000 = k := by omega
      have hB : longB L = (decide (200 < k) || decide (20000 < lenTo L k)) := by
        unfold longB
        rw [hmin, show L.length = k by omega]
      have hB' := Lib.hid hB
      clear hB hmin
      by_cases h2 : 200 < k
      · have h2' : (200 : Int) < (n : Int) := by omega
        go_wp2
        go_ret
        exact ⟨by rw [hB'.out, decide_eq_true h2]; rfl, rfl⟩
      · have h2' : ¬ (200 : Int) < (n : Int) := by omega
        have hkn : k = n := by omega
        subst hkn
        generalize lenTo L k = z at hB' hle ⊢
        go_wp2
        go_ret
        have hz : decide (20000 < (z : Int)) = longB L := by
          rw [hB'.out, decide_eq_false h2, Bool.false_or, Bool.eq_iff_iff]
          simp
          omega
        exact ⟨ret_bool hz, rfl⟩
end Go.Proofs.YtcoiaggedipapaaDoor
