/-
  A link that shares nothing: link.own, by its contract.
-/
import Derived.Test.YtbmfcaobhgeogaaClone
namespace Go.Proofs.Ytbmfcaobhgeogaa
open Go.RowKit
set_option linter.unusedVariables false
set_option linter.unusedSimpArgs false
set_option maxRecDepth 100000

/-- slices.Clone of items: a row of its own, the same items. -/
def MakesI (w : World) (n : Nat) (L : List ItemV) (e : Ending) (w' : World) : Prop := ∃ A1 c1, e = .returned (.slice A1 n c1) ∧ OwnI w' w.heap.size 68 A1 n c1 L ∧ Below w.heap.size w w'
set_option maxHeartbeats 1000000 in
theorem cloneI_any (A : Option Addr) (n c : Nat) (L : List ItemV) (w : World) (hI : Items w A n c L) :
    Calls Try.prog 26 #[.slice A n c] w (MakesI w n L) := by
  have hm := hI.max
  have q48 : ∀ (w : World) (a : Option Addr) (n c n' c' : Nat), (binOp .eql 46 (.slice a n c) (.slice none n' c')).run Try.prog w = .ok (.bool a.isNone) w := fun w a n c n' c' => Lib.run_eql_slice_nil w _ _ a n c n' c' Try.underlying46
  cases A with
  | none =>
    have h0 : n = 0 := by
      rcases Nat.eq_zero_or_pos n with h | h
      · exact h
      · obtain ⟨s, b, off, _, e, _⟩ := hI.at_ 0 h
        cases e
    subst h0
    obtain rfl : L = [] := List.eq_nil_of_length_eq_zero hI.len
    go_enter Try.func26, Try.ntmps26
    go_wp2
    go_ret
    exact ⟨none, 0, rfl, OwnI.nil _ _ _, Below.refl _ _⟩
  | some a =>
    have hE := OwnI.empty w w.heap.size 68 (Nat.le_refl _)
    have hba := b_alloc (Below.refl w.heap.size w) (.cells #[] 68)
    have hI1 := hI.keep hba
    have hfar : ∀ s ∈ L, 0 < s.n → ∀ k, (some (⟨w.heap.size, 0, none⟩ : Addr)).map (·.block) = some k → s.A.map (·.block) ≠ some k := fun s hs h0 k hk e => by
      obtain ⟨b, off, e1, hlt⟩ := (hI.ok s hs).lt h0
      rw [e1] at e
      have h1 : w.heap.size = k := Option.some.inj hk
      have h2 : b = k := Option.some.inj e
      omega
    have hz := hba.size
    go_enter Try.func26, Try.ntmps26
    go_wp2_with (at_builtin; refine wp_appendI rfl _ _ 46 68 rfl Try.underlying46 Try.info68 w.heap.size (some ⟨w.heap.size, 0, none⟩) 0 0 [] (some a) n c L n (by omega) rfl rfl hE hI1 hfar hz (by omega) ?_; intro A1 c1 w1 hown hg hat)
    go_ret
    refine ⟨A1, c1, rfl, by simpa using hown, ?_⟩
    exact b_grown hba hg (by intro k hk; simp at hk; omega)

/-- Items that say the same, one by one. -/
theorem says_set {L : List ItemV} {k : Nat} {s s' : ItemV} (hs : L[k]? = some s) (hb : s'.b = s.b) (ht : s'.t = s.t) : says (L.set k s') = says L := by
  unfold says
  rw [List.map_set]
  apply List.ext_getElem?
  intro i
  rw [List.getElem?_set]
  by_cases h : k = i
  · subst h
    have hk := (List.getElem?_eq_some_iff.1 hs).1
    rw [if_pos rfl, if_pos (by simpa using hk), List.getElem?_map, hs]
    simp [ItemV.say, hb, ht]
  · rw [if_neg h]
theorem ix2_0 (a b : Value) (w : World) : (Instr.index 47 (.agg #[a, b]) (.int .i64 0)).run Try.prog w = .ok a w := by kernel_rfl
theorem ix2_1 (a b : Value) (w : World) : (Instr.index 47 (.agg #[a, b]) (.int .i64 1)).run Try.prog w = .ok b w := by kernel_rfl

/-- Items of which the first k have bytes of their own, in blocks of [lo, hi). -/
structure Fr (w : World) (lo hi k : Nat) (L : List ItemV) : Prop where
  own : ∀ i s, i < k → L[i]? = some s → Own w lo 5 s.A s.n s.c s.b
  hi : ∀ i s, i < k → L[i]? = some s → ∀ q, s.A.map (·.block) = some q → q < hi
  sep : ∀ i j s t, i < j → j < k → L[i]? = some s → L[j]? = some t → ∀ q, s.A.map (·.block) = some q → t.A.map (·.block) ≠ some q
theorem Fr.zero (w : World) (lo : Nat) (L : List ItemV) : Fr w lo lo 0 L := ⟨fun _ _ h => absurd h (Nat.not_lt_zero _), fun _ _ h => absurd h (Nat.not_lt_zero _), fun _ _ _ _ _ h => absurd h (Nat.not_lt_zero _)⟩
theorem Fr.keep {w w1 : World} {lo hi k : Nat} {L : List ItemV} (h : Fr w lo hi k L) (hb : Below w.heap.size w w1) : Fr w1 lo hi k L := ⟨fun i s hi hs => (h.own i s hi hs).keep hb, h.hi, h.sep⟩
theorem Fr.up {w : World} {lo hi hi' k : Nat} {L : List ItemV} (h : Fr w lo hi k L) (hb : hi ≤ hi') : Fr w lo hi' k L := ⟨h.own, fun i s hk hs q hq => Nat.lt_of_lt_of_le (h.hi i s hk hs q hq) hb, h.sep⟩
theorem Fr.push {w : World} {lo m k n : Nat} {L : List ItemV} {s s' : ItemV} (h : Fr w lo m k L) (hs : L[k]? = some s) (ho : Own w lo 5 s'.A s'.n s'.c s'.b) (hg : ∀ q, s'.A.map (·.block) = some q → m ≤ q ∧ q < n) (hmn : m ≤ n) : Fr w lo n (k + 1) (L.set k s') := by
  have hlt := (List.getElem?_eq_some_iff.1 hs).1
  have hget : ∀ i x, i < k + 1 → (L.set k s')[i]? = some x → (i < k ∧ L[i]? = some x) ∨ (i = k ∧ x = s') := by
    intro i x hi hx
    rw [List.getElem?_set] at hx
    by_cases e : k = i
    · rw [if_pos e, if_pos (by omega)] at hx
      exact .inr ⟨e.symm, (Option.some.inj hx).symm⟩
    · rw [if_neg e] at hx
      exact .inl ⟨by omega, hx⟩
  refine ⟨fun i x hi hx => ?_, fun i x hi hx q hq => ?_, fun i j x y hij hj hx hy q hq hq' => ?_⟩
  · rcases hget i x hi hx with ⟨a, b⟩ | ⟨a, rfl⟩
    · exact h.own i x a b
    · exact ho
  · rcases hget i x hi hx with ⟨a, b⟩ | ⟨a, rfl⟩
    · exact Nat.lt_of_lt_of_le (h.hi i x a b q hq) hmn
    · exact (hg q hq).2
  · rcases hget i x (by omega) hx with ⟨a, b⟩ | ⟨a, rfl⟩
    · rcases hget j y hj hy with ⟨a', b'⟩ | ⟨a', rfl⟩
      · exact h.sep i j x y hij a' b b' q hq hq'
      · have := h.hi i x a b q hq
        have := (hg q hq').1
        omega
    · omega
theorem Fr.write {w : World} {lo hi k : Nat} {L : List ItemV} (h : Fr w lo hi k L) {p : Addr} (hp : p.block < lo ∨ hi ≤ p.block) (u : Value) : Fr (w.setCell p u) lo hi k L := by
  refine ⟨fun i s hk hs => ?_, h.hi, h.sep⟩
  have hK : Kept (fun i => i = p.block) w (w.setCell p u) := (Kept.refl (fun i => i = p.block) w).set (fun _ => rfl) _
  refine (h.own i s hk hs).kept hK (fun b hb e => ?_)
  have h1 := h.hi i s hk hs b hb
  have h2 := ((h.own i s hk hs).ge b hb).1
  omega

/-- A link of one's own. -/
structure OwnK (w : World) (base : Nat) (A0 : Option Addr) (n0 c0 : Nat) (L0 : List ItemV) (A1 : Option Addr) (n1 c1 : Nat) (L1 : List ItemV) : Prop where
  r0 : OwnI w base 68 A0 n0 c0 L0
  r1 : OwnI w base 68 A1 n1 c1 L1
  ne : ∀ g, A0.map (·.block) = some g → A1.map (·.block) ≠ some g
  x0 : ∀ s ∈ L0, 0 < s.n → ∀ g, A1.map (·.block) = some g → s.A.map (·.block) ≠ some g
  x1 : ∀ s ∈ L1, 0 < s.n → ∀ g, A0.map (·.block) = some g → s.A.map (·.block) ≠ some g
  f : ∃ lo0 hi0 lo1 hi1, Fr w lo0 hi0 n0 L0 ∧ Fr w lo1 hi1 n1 L1 ∧ hi0 ≤ lo1 ∧ base + 1 < lo0 ∧ lo0 ≤ hi0
  b0 : ∀ q, A0.map (·.block) = some q → base + 1 < q
  b1 : ∀ q, A1.map (·.block) = some q → base + 1 < q
/-- What own hands back. -/
def OwnP (w : World) (n0 n1 : Nat) (L0 L1 : List ItemV) (d : Bool) (e : Ending) (w' : World) : Prop :=
  ∃ A0 c0 M0 A1 c1 M1, e = .returned (.agg #[.slice A0 n0 c0, .slice A1 n1 c1, .bool d]) ∧ OwnK w' w.heap.size A0 n0 c0 M0 A1 n1 c1 M1 ∧ says M0 = says L0 ∧ says M1 = says L1 ∧ Below w.heap.size w w'
/-- A cell of another block is written. -/
theorem OwnI.other_set {w : World} {base : Nat} {e : TypeId} {A : Option Addr} {n c : Nat} {L : List ItemV} (h : OwnI w base e A n c L) {p : Addr} (hr : ∀ q, A.map (·.block) = some q → q ≠ p.block) (hi : ∀ s ∈ L, 0 < s.n → s.A.map (·.block) ≠ some p.block) (u : Value) : OwnI (w.setCell p u) base e A n c L := by
  have hk : Kept (fun i => i = p.block) w (w.setCell p u) := (Kept.refl (fun i => i = p.block) w).set (fun _ => rfl) _
  refine ⟨?_, fun s hs => (h.ok s hs).far hk (fun hn b hb e => hi s hs hn (by rw [hb, e])), h.far, h.max⟩
  refine ⟨h.own.1, ?_⟩
  rcases h.own.2 with h2 | ⟨g, cap, cur, he, hbg, hg, h3⟩
  · exact .inl h2
  · refine .inr ⟨g, cap, cur, he, hbg, ?_, h3⟩
    have : g ≠ p.block := hr g (by simp only [Value.slice.injEq, true_and] at he; rw [he.1]; rfl)
    exact (Below.heap_setCell w p u g this).trans hg
/-- A cell of the link's block is written. -/
theorem OwnI.link_set {w : World} {base r : Nat} {e : TypeId} {A : Option Addr} {n c : Nat} {L : List ItemV} {cs : Array Value} {t : TypeId} (h : OwnI w base e A n c L) (hB : Blk w r cs t) (hcs : ∀ (i : Nat) (v : Value), cs[i]? = some v → ∀ x : Int, v ≠ Value.int .u8 x) (hr : ∀ q, A.map (·.block) = some q → r ≠ q) (j : Nat) (u : Value) : OwnI (w.setCell ⟨r, j, none⟩ u) base e A n c L :=
  h.other_set (p := ⟨r, j, none⟩) (fun q hq => (hr q hq).symm) (fun s hs hn => (h.ok s hs).apart hB hcs hn) u
theorem link_no8 (A0 : Option Addr) (n0 c0 : Nat) (A1 : Option Addr) (n1 c1 : Nat) (d : Bool) : ∀ (i : Nat) (v : Value), (#[.slice A0 n0 c0, .slice A1 n1 c1, .bool d] : Array Value)[i]? = some v → ∀ x : Int, v ≠ Value.int .u8 x := by
  intro i v h x q
  subst q
  match i, h with
  | 0, h => simp at h
  | 1, h => simp at h
  | 2, h => simp at h
  | i + 3, h => simp at h
theorem OwnK.set {w : World} {base g : Nat} {A0 : Option Addr} {n0 c0 : Nat} {L0 : List ItemV} {A1 : Option Addr} {n1 c1 : Nat} {L1 : List ItemV} {cs : Array Value} {t : TypeId} (h : OwnK w base A0 n0 c0 L0 A1 n1 c1 L1) (hB : Blk w g cs t) (hcs : ∀ (i : Nat) (v : Value), cs[i]? = some v → ∀ x : Int, v ≠ Value.int .u8 x) (hg : g ≤ base + 1) (j : Nat) (u : Value) : OwnK (w.setCell ⟨g, j, none⟩ u) base A0 n0 c0 L0 A1 n1 c1 L1 := by
  obtain ⟨lo0, hi0, lo1, hi1, f0, f1, h01, hb, hh⟩ := h.f
  exact ⟨h.r0.link_set hB hcs (fun q hq => by have := h.b0 q hq; omega) j u, h.r1.link_set hB hcs (fun q hq => by have := h.b1 q hq; omega) j u, h.ne, h.x0, h.x1, ⟨lo0, hi0, lo1, hi1, f0.write (p := ⟨g, j, none⟩) (.inl (by show g < lo0; omega)) u, f1.write (p := ⟨g, j, none⟩) (.inl (by show g < lo1; omega)) u, h01, hb, hh⟩, h.b0, h.b1⟩
set_option maxHeartbeats 16000000 in
theorem own_link (A0 : Option Addr) (n0 c0 : Nat) (L0 : List ItemV) (A1 : Option Addr) (n1 c1 : Nat) (L1 : List ItemV) (d : Bool) (w : World) (h0 : Items w A0 n0 c0 L0) (h1 : Items w A1 n1 c1 L1) :
    Calls Try.prog 23 #[.agg #[.slice A0 n0 c0, .slice A1 n1 c1, .bool d]] w (OwnP w n0 n1 L0 L1 d) := by
  have hm0 := h0.max
  have hm1 := h1.max
  have hst : ∀ W, W = (w.alloc (.cells #[.slice A0 n0 c0, .slice A1 n1 c1, .bool d] 49)).alloc (.cells #[.slice none 0 0, .slice none 0 0, .bool false] 49) → Blk W w.heap.size #[.slice A0 n0 c0, .slice A1 n1 c1, .bool d] 49 ∧ Blk W (w.heap.size + 1) #[.slice none 0 0, .slice none 0 0, .bool false] 49 ∧ Below w.heap.size w W := by
    rintro W rfl
    have h := Blk.new (w.alloc (.cells #[.slice A0 n0 c0, .slice A1 n1 c1, .bool d] 49)) #[.slice none 0 0, .slice none 0 0, .bool false] 49
    have hs : (w.alloc (.cells #[.slice A0 n0 c0, .slice A1 n1 c1, .bool d] 49)).heap.size = w.heap.size + 1 := by simp
    rw [hs] at h
    exact ⟨(Blk.new w _ _).alloc _, h, b_alloc (b_alloc (Below.refl _ _) _) _⟩
  have hst' := Lib.hid hst
  clear hst
  go_enter Try.func23, Try.ntmps23
  go_wp2_with fail
  go_loopw [3, 4, 5, 8] (fun sv iv kv jv wr => ∃ j : Nat, j ≤ 2 ∧ jv = .int .i64 j ∧
    ((j = 0 ∧ Blk wr w.heap.size #[.slice A0 n0 c0, .slice A1 n1 c1, .bool d] 49 ∧ Blk wr (w.heap.size + 1) #[.slice none 0 0, .slice none 0 0, .bool false] 49 ∧ Below w.heap.size w wr) ∨
     (j = 1 ∧ ∃ B0 d0 M0 lo0 hi0, OwnI wr w.heap.size 68 B0 n0 d0 M0 ∧ says M0 = says L0 ∧ (∀ q, B0.map (·.block) = some q → w.heap.size + 1 < q) ∧ Fr wr lo0 hi0 n0 M0 ∧ hi0 ≤ wr.heap.size ∧ w.heap.size + 1 < lo0 ∧ lo0 ≤ hi0 ∧ Blk wr w.heap.size #[.slice B0 n0 d0, .slice A1 n1 c1, .bool d] 49 ∧ Blk wr (w.heap.size + 1) #[.slice none 0 0, .slice none 0 0, .bool false] 49 ∧ Below w.heap.size w wr) ∨
     (j = 2 ∧ ∃ B0 d0 M0 B1 d1 M1 lo0 hi0 lo1 hi1, OwnI wr w.heap.size 68 B0 n0 d0 M0 ∧ says M0 = says L0 ∧ OwnI wr w.heap.size 68 B1 n1 d1 M1 ∧ says M1 = says L1 ∧ (∀ q, B0.map (·.block) = some q → B1.map (·.block) ≠ some q) ∧ (∀ s ∈ M0, 0 < s.n → ∀ q, B1.map (·.block) = some q → s.A.map (·.block) ≠ some q) ∧ (∀ s ∈ M1, 0 < s.n → ∀ q, B0.map (·.block) = some q → s.A.map (·.block) ≠ some q) ∧ Fr wr lo0 hi0 n0 M0 ∧ Fr wr lo1 hi1 n1 M1 ∧ hi0 ≤ lo1 ∧ w.heap.size + 1 < lo0 ∧ lo0 ≤ hi0 ∧ (∀ q, B0.map (·.block) = some q → w.heap.size + 1 < q) ∧ (∀ q, B1.map (·.block) = some q → w.heap.size + 1 < q) ∧ Blk wr w.heap.size #[.slice B0 n0 d0, .slice B1 n1 d1, .bool d] 49 ∧ Blk wr (w.heap.size + 1) #[.slice none 0 0, .slice none 0 0, .bool false] 49 ∧ Below w.heap.size w wr))) (fun _ _ _ jv _ => 2 - (intOf jv).toNat)
  case atStart => exact ⟨0, by omega, rfl, .inl ⟨rfl, hst'.out _ rfl⟩⟩
  case round =>
    obtain ⟨j, hj, rfl, ⟨rfl, hBl, hBr, hbel⟩ | ⟨rfl, B0, d0, M0, lo0, hi0, hr0, hsay0, hB0n, hfr0, hhi0, hlow0, hlohi0, hBl, hBr, hbel⟩ | ⟨rfl, B0, d0, M0, B1, d1, M1, lo0, hi0, lo1, hi1, hr0, hsay0, hr1, hsay1, hne, hx0, hx1, hfr0, hfr1, h01, hlow0, hlohi0, hB0n, hB1n, hBl, hBr, hbel⟩⟩ := hrel
    · skip
      have hix := ix2_0 (.slice A0 n0 c0) (.slice A1 n1 c1)
      have hIr := h0.keep hbel
      go_wp2_with fail
      refine (cloneI_any A0 n0 c0 L0 _ hIr).mono ?_
      rintro e x1 ⟨B0, d0, rfl, hown0, hb1⟩
      have hown := hown0.lower hbel.size
      have hbx1 := b_then hbel hb1
      have hBl1 := hBl.keep hb1
      have hBr1 := hBr.keep hb1
      have hrow := Lib.hid (fun q (hq : B0.map (·.block) = some q) => (hown0.ge q hq))
      obtain ⟨lo0, hlo⟩ : ∃ lo, lo = x1.heap.size := ⟨_, rfl⟩
      have hfr : Fr x1 lo0 lo0 0 L0 := Fr.zero _ _ _
      have hnwb : Hid (∀ q, B0.map (·.block) = some q → w.heap.size + 1 < q) := Lib.hid (fun q hq => by have := (hrow.out q hq).1; have := hBr.lt; omega)
      have hlow0 : w.heap.size + 1 < lo0 := by have := hBr1.lt; omega
      clear hown0
      go_wp2_with fail
      go_loopw [5, 16] (fun iv idx wr => ∃ k : Nat, k ≤ n0 ∧ idx = .int .i64 k ∧ ∃ M0 hi, OwnI wr w.heap.size 68 B0 n0 d0 M0 ∧ says M0 = says L0 ∧ Fr wr lo0 hi k M0 ∧ lo0 ≤ hi ∧ hi ≤ wr.heap.size ∧ Blk wr w.heap.size #[.slice A0 n0 c0, .slice A1 n1 c1, .bool d] 49 ∧ Blk wr (w.heap.size + 1) #[.slice none 0 0, .slice none 0 0, .bool false] 49 ∧ Below w.heap.size w wr) (fun _ idx _ => n0 - (intOf idx).toNat)
      case atStart => exact ⟨0, Nat.zero_le _, rfl, L0, lo0, hown, rfl, hfr, Nat.le_refl _, Nat.le_of_eq hlo, hBl1, hBr1, hbx1⟩
      case round =>
        obtain ⟨k, hk, rfl, M0, hi, hown, hsay, hfr, hlohi, hhi, hBl, hBr, hbel⟩ := hrel
        by_cases hlt : k < n0
        · obtain ⟨s, b, off, hs, rfl, hc0, hc1, hbs⟩ := hown.items.at_ k hlt
          obtain ⟨gB, he, hgB, hgs, hgf⟩ := hown.form (by omega)
          simp only [Option.some.injEq, Addr.mk.injEq, and_true] at he
          obtain ⟨rfl, rfl⟩ := he
          simp only [Nat.zero_add] at hc0 hc1
          have hk0 : (0 : Int) ≤ (k : Int) := by omega
          have hkn : (k : Int) < (n0 : Int) := by omega
          go_wp2_with fail
          refine (clone_any s.A s.n s.c s.b _ hbs).mono ?_
          rintro e x2 ⟨A3, c3, rfl, hown3, hb3⟩
          have hc0' := cell_keep hc0 hb3
          have hf0 : x2.frozen? ⟨b, k * 2, none⟩ = false := by
            obtain ⟨g9, e9, _, _, h9⟩ := (hown.keep hb3).form (by omega)
            obtain rfl : b = g9 := by simpa using e9
            exact h9 _
          have hfar3 : 0 < s.n → A3.map (·.block) ≠ some b := fun _ e => by have := (hown3.ge b e).1; omega
          have hset := (hown.keep hb3).set0 k s ⟨A3, s.n, c3, s.b, s.t⟩ hs rfl hown3.bs hfar3
          have hsay' := (says_set hs (s' := ⟨A3, s.n, c3, s.b, s.t⟩) rfl rfl).trans hsay
          have hwb1' := hnwb.out b rfl
          have hwb : w.heap.size ≠ b := by omega
          have hwb1 : w.heap.size + 1 ≠ b := by omega
          have hblo := (hrow.out b rfl).2
          have hfr' := (((hfr.keep hb3).up hhi).push (s' := ⟨A3, s.n, c3, s.b, s.t⟩) hs (hown3.lower (by omega)) (fun q hq => ⟨(hown3.ge q hq).1, (hown3.ge q hq).2⟩) hb3.size).write (p := ⟨b, k * 2, none⟩) (.inl (by rw [hlo]; exact hblo)) (.slice A3 s.n c3)
          go_wp2_with fail
          go_roundw
          case rel => exact ⟨k + 1, by omega, by go_num, _, x2.heap.size, hset, hsay', hfr', Nat.le_trans hlohi (Nat.le_trans hhi hb3.size), by simp, (hBl.keep hb3).far (p := ⟨b, k * 2, none⟩) hwb _, (hBr.keep hb3).far (p := ⟨b, k * 2, none⟩) hwb1 _, b_set (b_then hbel hb3) hgB _⟩
          case measure => simp [intOf] <;> omega
        · have hk' : k = n0 := by omega
          subst hk'
          have hcl := hBl.cell 0 rfl
          have hfl := hBl.free 0
          go_wp2_with fail
          go_roundw
          case rel => exact ⟨1, by omega, rfl, .inr (.inl ⟨rfl, B0, d0, M0, lo0, hi, (hown.link_set hBl (link_no8 _ _ _ _ _ _ _) (fun q hq => by have := hnwb.out q hq; omega) 0 _), hsay, hnwb.out, hfr.write (p := ⟨w.heap.size, 0, none⟩) (.inl (by show w.heap.size < lo0; omega)) _, (by simpa using hhi), hlow0, hlohi, hBl.set 0 _, hBr.far (p := ⟨w.heap.size, 0, none⟩) (by show w.heap.size + 1 ≠ w.heap.size; omega) _, b_set hbel (Nat.le_refl _) _⟩)⟩
          case measure => simp [intOf] <;> omega
    · skip
      have hix := ix2_1 (.slice A0 n0 c0) (.slice A1 n1 c1)
      have hIr := h1.keep hbel
      go_wp2_with fail
      refine (cloneI_any A1 n1 c1 L1 _ hIr).mono ?_
      rintro e x1 ⟨B1, d1, rfl, hown0, hb1⟩
      have hown := hown0.lower hbel.size
      have hbx1 := b_then hbel hb1
      have hBl1 := hBl.keep hb1
      have hBr1 := hBr.keep hb1
      have hrow := Lib.hid (fun q (hq : B1.map (·.block) = some q) => (hown0.ge q hq))
      obtain ⟨lo1, hlo⟩ : ∃ lo, lo = x1.heap.size := ⟨_, rfl⟩
      have hfr : Fr x1 lo1 lo1 0 L1 := Fr.zero _ _ _
      have hnwb : Hid (∀ q, B1.map (·.block) = some q → w.heap.size + 1 < q) := Lib.hid (fun q hq => by have := (hrow.out q hq).1; have := hBr.lt; omega)
      have hr0k := hr0.keep hb1
      have hfr0k := hfr0.keep hb1
      have hne : Hid (∀ q, B0.map (·.block) = some q → B1.map (·.block) ≠ some q) := Lib.hid (fun q h2 h3 => by have := (hr0.ge q h2).2; have := (hrow.out q h3).1; omega)
      have hx0 : Hid (∀ s ∈ M0, 0 < s.n → ∀ q, B1.map (·.block) = some q → s.A.map (·.block) ≠ some q) := Lib.hid (fun s hs hn q h2 h3 => by
        obtain ⟨b, off, e1, hlt⟩ := (hr0.ok s hs).lt hn
        rw [e1] at h3
        have : b = q := Option.some.inj h3
        have := (hrow.out q h2).1
        omega)
      have hx1s : ∀ s ∈ L1, 0 < s.n → ∀ q, B0.map (·.block) = some q → s.A.map (·.block) ≠ some q := fun s hs hn q h2 h3 => by
        obtain ⟨b, off, e1, hlt⟩ := (h1.ok s hs).lt hn
        rw [e1] at h3
        have : b = q := Option.some.inj h3
        have := (hr0.ge q h2).1
        omega
      have hlow1 : hi0 ≤ lo1 := by have := hb1.size; omega
      have hrhi := Lib.hid (fun q (hq : B1.map (·.block) = some q) => (show hi0 ≤ q by have := (hrow.out q hq).1; omega))
      clear hown0
      go_wp2_with fail
      go_loopw [5, 16] (fun iv idx wr => ∃ k : Nat, k ≤ n1 ∧ idx = .int .i64 k ∧ ∃ M1 hi, OwnI wr w.heap.size 68 B1 n1 d1 M1 ∧ says M1 = says L1 ∧ Fr wr lo1 hi k M1 ∧ lo1 ≤ hi ∧ hi ≤ wr.heap.size ∧ Blk wr w.heap.size #[.slice B0 n0 d0, .slice A1 n1 c1, .bool d] 49 ∧ Blk wr (w.heap.size + 1) #[.slice none 0 0, .slice none 0 0, .bool false] 49 ∧ Below w.heap.size w wr ∧ OwnI wr w.heap.size 68 B0 n0 d0 M0 ∧ (∀ s ∈ M1, 0 < s.n → ∀ q, B0.map (·.block) = some q → s.A.map (·.block) ≠ some q) ∧ Fr wr lo0 hi0 n0 M0) (fun _ idx _ => n1 - (intOf idx).toNat)
      case atStart => exact ⟨0, Nat.zero_le _, rfl, L1, lo1, hown, rfl, hfr, Nat.le_refl _, Nat.le_of_eq hlo, hBl1, hBr1, hbx1, hr0k, hx1s, hfr0k⟩
      case round =>
        obtain ⟨k, hk, rfl, M1, hi, hown, hsay, hfr, hlohi, hhi, hBl, hBr, hbel, hr0, hx1, hfr0⟩ := hrel
        by_cases hlt : k < n1
        · obtain ⟨s, b, off, hs, rfl, hc0, hc1, hbs⟩ := hown.items.at_ k hlt
          obtain ⟨gB, he, hgB, hgs, hgf⟩ := hown.form (by omega)
          simp only [Option.some.injEq, Addr.mk.injEq, and_true] at he
          obtain ⟨rfl, rfl⟩ := he
          simp only [Nat.zero_add] at hc0 hc1
          have hk0 : (0 : Int) ≤ (k : Int) := by omega
          have hkn : (k : Int) < (n1 : Int) := by omega
          go_wp2_with fail
          refine (clone_any s.A s.n s.c s.b _ hbs).mono ?_
          rintro e x2 ⟨A3, c3, rfl, hown3, hb3⟩
          have hc0' := cell_keep hc0 hb3
          have hf0 : x2.frozen? ⟨b, k * 2, none⟩ = false := by
            obtain ⟨g9, e9, _, _, h9⟩ := (hown.keep hb3).form (by omega)
            obtain rfl : b = g9 := by simpa using e9
            exact h9 _
          have hfar3 : 0 < s.n → A3.map (·.block) ≠ some b := fun _ e => by have := (hown3.ge b e).1; omega
          have hset := (hown.keep hb3).set0 k s ⟨A3, s.n, c3, s.b, s.t⟩ hs rfl hown3.bs hfar3
          have hsay' := (says_set hs (s' := ⟨A3, s.n, c3, s.b, s.t⟩) rfl rfl).trans hsay
          have hwb1' := hnwb.out b rfl
          have hwb : w.heap.size ≠ b := by omega
          have hwb1 : w.heap.size + 1 ≠ b := by omega
          have hblo := (hrow.out b rfl).2
          have hfr' := (((hfr.keep hb3).up hhi).push (s' := ⟨A3, s.n, c3, s.b, s.t⟩) hs (hown3.lower (by omega)) (fun q hq => ⟨(hown3.ge q hq).1, (hown3.ge q hq).2⟩) hb3.size).write (p := ⟨b, k * 2, none⟩) (.inl (by rw [hlo]; exact hblo)) (.slice A3 s.n c3)
          go_wp2_with fail
          go_roundw
          case rel => exact ⟨k + 1, by omega, by go_num, _, x2.heap.size, hset, hsay', hfr', Nat.le_trans hlohi (Nat.le_trans hhi hb3.size), by simp, (hBl.keep hb3).far (p := ⟨b, k * 2, none⟩) hwb _, (hBr.keep hb3).far (p := ⟨b, k * 2, none⟩) hwb1 _, b_set (b_then hbel hb3) hgB _, (hr0.keep hb3).other_set (p := ⟨b, k * 2, none⟩) (fun q h2 e => hne.out q h2 (by rw [e]; rfl)) (fun s hs hn e => hx0.out s hs hn b rfl e) _, (fun x hx hn q h2 => by
            rcases List.mem_or_eq_of_mem_set hx with hx | rfl
            · exact hx1 x hx hn q h2
            · exact fun e => by have := (hown3.ge q e).1; have := (hr0.ge q h2).2; omega), (hfr0.keep hb3).write (p := ⟨b, k * 2, none⟩) (.inr (hrhi.out b rfl)) _⟩
          case measure => simp [intOf] <;> omega
        · have hk' : k = n1 := by omega
          subst hk'
          have hcl := hBl.cell 1 rfl
          have hfl := hBl.free 1
          go_wp2_with fail
          go_roundw
          case rel => exact ⟨2, by omega, rfl, .inr (.inr ⟨rfl, B0, d0, M0, B1, d1, M1, lo0, hi0, lo1, hi, hr0.link_set hBl (link_no8 _ _ _ _ _ _ _) (fun q hq => by have := hB0n q hq; omega) 1 _, hsay0, hown.link_set hBl (link_no8 _ _ _ _ _ _ _) (fun q hq => by have := hnwb.out q hq; omega) 1 _, hsay, hne.out, hx0.out, hx1, hfr0.write (p := ⟨w.heap.size, 1, none⟩) (.inl (by show w.heap.size < lo0; omega)) _, hfr.write (p := ⟨w.heap.size, 1, none⟩) (.inl (by show w.heap.size < lo1; omega)) _, hlow1, hlow0, hlohi0, hB0n, hnwb.out, hBl.set 1 _, hBr.far (p := ⟨w.heap.size, 1, none⟩) (by show w.heap.size + 1 ≠ w.heap.size; omega) _, b_set hbel (Nat.le_refl _) _⟩)⟩
          case measure => simp [intOf] <;> omega
    · have k0 := hBl.cell 0 rfl
      have k1 := hBl.cell 1 rfl
      have k2 := hBl.cell 2 rfl
      have g0 := hBr.free 0
      have g1 := hBr.free 1
      have g2 := hBr.free 2
      have z0 := hBr.cell 0 rfl
      have z1 := hBr.cell 1 rfl
      have z2 := hBr.cell 2 rfl
      go_wp2_with fail
      refine bodyPost_ret (v := .agg #[.slice B0 n0 d0, .slice B1 n1 d1, .bool d]) (by simp [results, Try.results23, z0, z1, z2, g0, g1, g2, go_sem]) rfl ?_
      refine ⟨B0, d0, M0, B1, d1, M1, rfl, ?_, hsay0, hsay1, b_set (b_set (b_set hbel (Nat.le_succ _) _) (Nat.le_succ _) _) (Nat.le_succ _) _⟩
      exact (((OwnK.mk hr0 hr1 hne hx0 hx1 ⟨lo0, hi0, lo1, hi1, hfr0, hfr1, h01, hlow0, hlohi0⟩ hB0n hB1n).set hBr (link_no8 _ _ _ _ _ _ _) (Nat.le_refl _) 0 _).set (cs := #[.slice B0 n0 d0, .slice none 0 0, .bool false]) (hBr.set 0 _) (link_no8 _ _ _ _ _ _ _) (Nat.le_refl _) 1 _).set (cs := #[.slice B0 n0 d0, .slice B1 n1 d1, .bool false]) ((hBr.set 0 _).set 1 _) (link_no8 _ _ _ _ _ _ _) (Nat.le_refl _) 2 _
end Go.Proofs.Ytbmfcaobhgeogaa
