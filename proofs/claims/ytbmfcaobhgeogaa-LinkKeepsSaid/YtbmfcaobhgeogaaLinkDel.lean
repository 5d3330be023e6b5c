/-
  slices.Delete of one item, by its contract.
-/
import Derived.Test.YtbmfcaobhgeogaaLinkAt
import Derived.BigQuiet
import Derived.Deep.RegionHeld3
import Derived.Deep.CutRange
import Derived.Deep.CutBlock
namespace Go.Proofs.Ytbmfcaobhgeogaa
open Go.RowKit
set_option linter.unusedVariables false
set_option linter.unusedSimpArgs false
set_option maxRecDepth 100000

/-- A row of cells that may be written. -/
structure RowD (w : World) (g : Nat) (e : TypeId) (cur : Array Value) : Prop where
  at_ : w.heap[g]? = some (.cells cur e (0, 0))
theorem RowD.free {w : World} {g : Nat} {e : TypeId} {cur : Array Value} (h : RowD w g e cur) (j : Nat) : w.frozen? ⟨g, j, none⟩ = false := by simp [World.frozen?, h.at_]
theorem kept_row {w : World} (g : Nat) (cs : Array Value) : Kept (fun b => b = g) w (w.setRow g cs) := ⟨rfl, rfl, rfl, by simp, fun k _ hk => setRow_other w g k cs hk⟩
theorem itemCells_take (L : List ItemV) (k : Nat) : (itemCells L).take (k * 2) = itemCells (L.take k) := by
  rcases Nat.le_total k L.length with h | h
  · have e : itemCells L = itemCells (L.take k) ++ itemCells (L.drop k) := by rw [← itemCells_append, List.take_append_drop]
    have hl : (itemCells (L.take k)).length = k * 2 := by rw [itemCells_length, List.length_take]; omega
    rw [e, ← hl, List.take_left]
  · rw [List.take_of_length_le h, List.take_of_length_le (by rw [itemCells_length]; omega)]
theorem OwnI.row {w : World} {base : Nat} {e : TypeId} {g n c : Nat} {L : List ItemV} (h : OwnI w base e (some ⟨g, 0, none⟩) n c L) : ∃ cur, RowD w g e cur ∧ base ≤ g ∧ n ≤ c ∧ c ≤ maxLen ∧ cur.size = c * 2 ∧ cur.toList.take (n * 2) = itemCells L := by
  have hL := itemCells_length L
  rw [h.len] at hL
  rcases h.own.2 with ⟨he, _⟩ | ⟨g', cap, cur, he, hb, hg, hnc, hcm, hcs, htake⟩
  · cases he
  · simp only [Value.slice.injEq, Option.some.injEq, Addr.mk.injEq, and_true, true_and] at he
    obtain ⟨rfl, rfl⟩ := he
    exact ⟨cur, ⟨hg⟩, hb, hnc, hcm, hcs, htake⟩
/-- What lies in the row behind the append, and behind the clear. -/
def rowA (cur : Array Value) (i : Nat) (news : List Value) : Array Value := (cur.toList.take (i * 2) ++ news ++ cur.toList.drop (i * 2 + news.length)).toArray
theorem rowA_size {cur : Array Value} {i c : Nat} {news : List Value} (hc : cur.size = c * 2) (h : i * 2 + news.length ≤ c * 2) : (rowA cur i news).size = c * 2 := by
  simp [rowA, hc]
  omega
theorem rowA_take {cur : Array Value} {i k c : Nat} {news : List Value} (hc : cur.size = c * 2) (h : i * 2 + news.length ≤ c * 2) (hk : k * 2 = i * 2 + news.length) : (rowA cur i news).toList.take (k * 2) = cur.toList.take (i * 2) ++ news := by
  have hl : (cur.toList.take (i * 2) ++ news).length = k * 2 := by simp [hc]; omega
  rw [rowA, List.toList_toArray, ← hl, List.take_left]
theorem rowA_low {cur : Array Value} {i k c : Nat} {news : List Value} (hc : cur.size = c * 2) (h : i * 2 + news.length ≤ c * 2) (hk : k ≤ i) : (rowA cur i news).toList.take (k * 2) = cur.toList.take (k * 2) := by
  have hl : (cur.toList.take (i * 2)).length = i * 2 := by simp [hc]; omega
  rw [rowA, List.toList_toArray, List.append_assoc, List.take_append_of_le_length (by omega), List.take_take, Nat.min_eq_left (by omega)]
section
variable {P : Program} {ops : Array Oper} {rest : List Oper} {o : Oper} {a : Act} {Q : Exit → Act → World → Prop} {w : World}
theorem step_del {K : Act → World → Prop} {E : Prop} (hgd : o.guard = none) (s x : Operand) (t e : TypeId)
    (ho : o.op = .call { callee := .builtin .append, args := #[s, x], argTypes := #[t, t] })
    (ht : P.underlying t = some (.slice e)) (hinfo : (P.info? e).map (fun i => (i.zero, i.size, i.bytes)) = some (some (.agg #[.slice none 0 0, .bool false]), 2, 32))
    (g i m c : Nat) (cur : Array Value) (hg : RowD w g e cur) (hcs : cur.size = c * 2) (A : Addr) (c2 : Nat) (news : List Value) (hl : news.length = m * 2)
    (hnews : ∀ j u, news[j]? = some u → w.cell? (A.add j) = some u) (h1 : ∀ u ∈ news, u.oneCell' = true) (hroom : i + m ≤ c) (n1 : Nat) (hn1 : n1 = i + m)
    (hs : a.eval s = .slice (some ⟨g, 0, none⟩) i c) (hx : a.eval x = .slice (some A) m c2)
    (h : ∀ w1, RowD w1 g e (rowA cur i news) → Kept (fun b => b = g) w w1 → K (a.put o.dst (.slice (some ⟨g, 0, none⟩) n1 c)) w1) :
    if Region.wanted o (yielded ops a.tmps) = true then Oper.wp P o a w K Q else E := by
  have hw : Region.wanted o (yielded ops a.tmps) = true := by simp [Region.wanted, hgd]
  rw [if_pos hw]
  obtain ⟨i0, hi, hzz⟩ := Option.map_eq_some_iff.1 hinfo
  simp only [Prod.mk.injEq] at hzz
  obtain ⟨hz0, hz1, hz2⟩ := hzz
  have hr := run_append_room (P := P) w t o.type e i0 ht hi g i c cur hg.at_ A m c2 news (by rw [hz1]; exact hl) hnews h1 hroom (by rw [hz1, hl, hcs]; omega)
  rw [hz1] at hr
  unfold Oper.wp execOp
  simp only [ho, resolve, invoke, builtin, Sem.run_bind, Sem.run_pure, Result.andThen_ok, List.map_toArray, List.map_cons, List.map_nil, hs, hx, hr]
  rw [← hn1]
  exact h _ ⟨setRow_heap w g cur _ e _ hg.at_⟩ (kept_row g _)
theorem run_clear1 (t ty e : TypeId) (ht : P.underlying t = some (.slice e)) (hz : ∀ w, (zeroValue e).run P w = .ok (.agg #[.slice none 0 0, .bool false]) w)
    (g k c c2 : Nat) (cur : Array Value) (hg : RowD w g e cur) (hcs : cur.size = c * 2) (hk : k < c) :
    ∃ w1, (Builtin.clear_ #[t] ty #[.slice (some ⟨g, k * 2, none⟩) 1 c2]).run P w = .ok (.tuple #[]) w1 ∧ RowD w1 g e (rowA cur k [.slice none 0 0, .bool false]) ∧ Kept (fun b => b = g) w w1 := by
  have hst := run_storeCells_at (P := P) g (k * 2) e [.slice none 0 0, .bool false] 0 cur w hg.at_ (by simp [hcs]; omega) (by intro v hv; simp at hv; rcases hv with rfl | rfl <;> rfl)
  simp only [Nat.add_zero] at hst
  refine ⟨w.setRow g (rowA cur k [.slice none 0 0, .bool false]), ?_, ⟨setRow_heap w g cur _ e _ hg.at_⟩, kept_row g _⟩
  have hzc : (Builtin.zeroCells (Value.agg #[.slice none 0 0, .bool false]).cells 1).toList = [.slice none 0 0, .bool false] := by kernel_rfl
  simp [Builtin.clear_, run_underlying ht, hz, hzc, hst, rowA]
end
theorem Try.zero68 (w : World) : (zeroValue 68).run Try.prog w = .ok (.agg #[.slice none 0 0, .bool false]) w := by kernel_rfl
theorem eraseIdx_parts {α : Type} (L : List α) (i : Nat) : L.eraseIdx i = L.take i ++ L.drop (i + 1) := List.eraseIdx_eq_take_drop_succ L i
/-- What delete leaves. -/
def DelP (w : World) (base : Nat) (A : Option Addr) (n c : Nat) (L : List ItemV) (i : Nat) (e : Ending) (w' : World) : Prop :=
  e = .returned (.slice A (n - 1) c) ∧ OwnI w' base 68 A (n - 1) c (L.eraseIdx i) ∧ Kept (fun b => A.map (·.block) = some b) w w'
set_option maxHeartbeats 4000000 in
theorem delete_any (base : Nat) (A : Option Addr) (n c : Nat) (L : List ItemV) (i : Nat) (w : World) (h : OwnI w base 68 A n c L) (hi : i < n) :
    Calls Try.prog 24 #[.slice A n c, .int .i64 (i : Int), .int .i64 ((i + 1 : Nat) : Int)] w (DelP w base A n c L i) := by
  obtain ⟨n', rfl⟩ : ∃ n', n = n' + 1 := ⟨n - 1, by omega⟩
  obtain ⟨g, rfl, hbg, hg, hfz⟩ := h.form (by omega)
  obtain ⟨cur, hrow, _, hcap, hcm, hcs, htake⟩ := h.row
  have hmax := h.max
  have hlen := Lib.hid h.len
  have hrd : RowD w.drew g 68 cur := ⟨hrow.at_⟩
  have hnl : (itemCells (L.drop (i + 1))).length = (n' + 1 - (i + 1)) * 2 := by rw [itemCells_length, List.length_drop, hlen.out]
  have hnews : ∀ q : Addr, (n' + 1 - (i + 1) = 0 ∨ q = ⟨g, (i + 1) * 2, none⟩) → ∀ j u, (itemCells (L.drop (i + 1)))[j]? = some u → w.drew.cell? (q.add j) = some u := by
    intro q hq j u hu
    have hj := (List.getElem?_eq_some_iff.1 hu).1
    rcases hq with hq | rfl
    · omega
    · show w.cell? _ = _
      rw [add_plain, cell_of_row w g _ cur 68 (0, 0) hrow.at_]
      have e : itemCells L = itemCells (L.take (i + 1)) ++ itemCells (L.drop (i + 1)) := by rw [← itemCells_append, List.take_append_drop]
      have hl : (itemCells (L.take (i + 1))).length = (i + 1) * 2 := by rw [itemCells_length, List.length_take, hlen.out]; omega
      have : (itemCells L)[(i + 1) * 2 + j]? = some u := by rw [e, ← hl, List.getElem?_append_right (by omega), Nat.add_sub_cancel_left]; exact hu
      rw [← htake, List.getElem?_take] at this
      split at this
      · simpa using this
      · cases this
  have hone := itemCells_one (L.drop (i + 1))
  have hfin : ∀ w1 w2, Kept (fun b => b = g) w.drew w1 → RowD w2 g 68 (rowA (rowA cur i (itemCells (L.drop (i + 1)))) n' [.slice none 0 0, .bool false]) → Kept (fun b => b = g) w1 w2 → DelP w base (some ⟨g, 0, none⟩) (n' + 1) c L i (.returned (.slice (some ⟨g, 0, none⟩) n' c)) w2 := by
    intro w1 w2 hk1 hr2 hk2
    have hk : Kept (fun b => b = g) w w2 := ((Kept.refl _ w).drew.trans hk1).trans hk2
    have hs1 := rowA_size (i := i) (news := itemCells (L.drop (i + 1))) hcs (by omega)
    have ht1 := rowA_take (k := n') (news := itemCells (L.drop (i + 1))) (i := i) hcs (by omega) (by omega)
    have ht0 : cur.toList.take (i * 2) = itemCells (L.take i) := by
      rw [← itemCells_take, ← htake, List.take_take, Nat.min_eq_left (by omega)]
    refine ⟨rfl, ⟨⟨by rw [itemCells_length, List.length_eraseIdx, hlen.out, if_pos hi], .inr ⟨g, c, _, rfl, hbg, hr2.at_, by omega, hcm, rowA_size hs1 (by simp; omega), ?_⟩⟩, fun s hs => ?_, fun s hs hn q hq => ?_, by omega⟩, hk.mono (fun b _ e => by rw [e]; rfl)⟩
    · show (rowA _ n' _).toList.take (n' * 2) = _
      rw [rowA_low hs1 (by simp; omega) (Nat.le_refl _), ht1, ht0, ← itemCells_append, ← eraseIdx_parts]
    · exact (h.ok s (List.mem_of_mem_eraseIdx hs)).far hk (fun hn b hb e => h.far s (List.mem_of_mem_eraseIdx hs) hn g rfl (by rw [hb, e]))
    · exact h.far s (List.mem_of_mem_eraseIdx hs) hn q hq
  have hfin' := Lib.hid hfin
  have hs1 := rowA_size (i := i) (news := itemCells (L.drop (i + 1))) hcs (by omega)
  clear hfin htake
  have i0 : (0 : Int) ≤ (i : Int) := by omega
  have i1 : (0 : Int) ≤ ((i + 1 : Nat) : Int) := by omega
  have i2 : (i : Int) ≤ ((i + 1 : Nat) : Int) := by omega
  have i3 : ((i + 1 : Nat) : Int) ≤ ((n' + 1 : Nat) : Int) := by omega
  have i4 : ((n' + 1 : Nat) : Int) ≤ (c : Int) := by omega
  have i5 : ((i : Int) == ((i + 1 : Nat) : Int)) = false := by simp <;> omega
  have i6 : (i : Int) ≤ (c : Int) := by omega
  have i7 : (0 : Int) ≤ (i : Int) + 1 := by omega
  have i8 : (i : Int) + 1 ≤ (n' : Int) + 1 := by omega
  by_cases hc : c = i + 1
  · obtain rfl : n' = i := by omega
    subst hc
    have hnl' : (itemCells (L.drop (n' + 1))).length = 0 * 2 := by rw [hnl]; omega
    have j0 : (0 : Int) ≤ (n' : Int) := by omega
    have j1 : (n' : Int) ≤ (n' : Int) + 1 := by omega
    have j2 : (n' : Int) + 1 ≤ (n' : Int) + 1 := by omega
    have j3 : n' + 1 ≤ n' + 1 := by omega
    go_enter Try.func24, Try.ntmps24
    go_upto_region 5 with (fail)
    go_region_held3 (fun W => True) (trivial) ((refine step_del rfl _ _ 46 68 rfl Try.underlying46 Try.info68 g n' 0 (n' + 1) cur hrd hcs ⟨g, 0, none⟩ 0 (itemCells (L.drop (n' + 1))) hnl' (hnews _ (.inl (by omega))) hone (by omega) n' (by omega) rfl rfl ?_; intro w1 hr1 hk1))
    obtain ⟨w2, hcl, hr2, hk2⟩ := run_clear1 (P := Try.prog) 46 0 68 Try.underlying46 Try.zero68 g n' (n' + 1) 1 _ hr1 hs1 (by omega)
    go_wp2
    go_ret
    exact hfin'.out _ _ hk1 hr2 hk2
  · have hc' : ¬ ((c : Int) = ((i + 1 : Nat) : Int)) := by omega
    have j0 : (0 : Int) ≤ (n' : Int) := by omega
    have j1 : (n' : Int) ≤ (n' : Int) + 1 := by omega
    have j2 : (n' : Int) + 1 ≤ (c : Int) := by omega
    have j3 : n' + 1 ≤ c := by omega
    have hnl' : (itemCells (L.drop (i + 1))).length = (n' - i) * 2 := by rw [hnl]; omega
    go_enter Try.func24, Try.ntmps24
    go_upto_region 5 with (fail)
    go_region_held3 (fun W => True) (trivial) ((refine step_del rfl _ _ 46 68 rfl Try.underlying46 Try.info68 g i (n' - i) c cur hrd hcs ⟨g, (i + 1) * 2, none⟩ (c - (i + 1)) (itemCells (L.drop (i + 1))) hnl' (hnews _ (.inr rfl)) hone (by omega) n' (by omega) rfl rfl ?_; intro w1 hr1 hk1))
    obtain ⟨w2, hcl, hr2, hk2⟩ := run_clear1 (P := Try.prog) 46 0 68 Try.underlying46 Try.zero68 g n' c (c - n') _ hr1 hs1 (by omega)
    go_wp2
    go_ret
    exact hfin'.out _ _ hk1 hr2 hk2

end Go.Proofs.Ytbmfcaobhgeogaa
