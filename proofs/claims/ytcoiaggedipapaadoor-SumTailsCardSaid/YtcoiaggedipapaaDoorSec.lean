/-
  Slices of sections; tlv.Encode, by its contract.
-/
import Derived.Test.YtcoiaggedipapaaDoorTlf
import Derived.Test.YtcoiaggedipapaaDoorNum
import Derived.Test.YtcoiaggedipapaaDoorIn
import Derived.BigQuiet
import Derived.Lib.SlBytesConst
namespace Go.Proofs.YtcoiaggedipapaaDoor
open Go.RowKit
set_option linter.unusedVariables false
set_option linter.unusedSimpArgs false
set_option maxRecDepth 100000

/-- A section as it lies: its tag, its slice, its bytes. -/
structure SecV where
  tag : Nat
  A : Option Addr
  n : Nat
  c : Nat
  b : List Nat
def SecV.sec (s : SecV) : Tl.Sec := ⟨s.tag, s.b⟩
def secL (L : List SecV) : List Tl.Sec := L.map SecV.sec
/-- A slice of sections that is read. -/
structure Secs (w : World) (A : Option Addr) (n c : Nat) (L : List SecV) : Prop where
  len : L.length = n
  cap : n ≤ c
  max : n ≤ 4398046511104
  ok : ∀ s ∈ L, s.tag < 4294967296 ∧ Bs w s.A s.n s.c s.b
  cells : ∀ (j : Nat) (s : SecV), L[j]? = some s → ∃ b off, A = some ⟨b, off, none⟩ ∧ w.cell? ⟨b, off + j * 2, none⟩ = some (.int .u32 s.tag) ∧ w.cell? ⟨b, off + j * 2 + 1, none⟩ = some (.slice s.A s.n s.c)
theorem Secs.keep {w w1 : World} {A : Option Addr} {n c : Nat} {L : List SecV} (h : Secs w A n c L) (hb : Below w.heap.size w w1) : Secs w1 A n c L :=
  ⟨h.len, h.cap, h.max, fun s hs => ⟨(h.ok s hs).1, (h.ok s hs).2.keep hb⟩, fun j s hj => by
    obtain ⟨b, off, e, h1, h2⟩ := h.cells j s hj
    exact ⟨b, off, e, cell_keep h1 hb, cell_keep h2 hb⟩⟩
theorem Secs.nil (w : World) : Secs w none 0 0 [] := ⟨rfl, Nat.le_refl _, by omega, (fun s h => by cases h), (fun j s h => by simp at h)⟩
theorem Secs.at_ {w : World} {A : Option Addr} {n c : Nat} {L : List SecV} (h : Secs w A n c L) (k : Nat) (hk : k < n) : ∃ s b off, L[k]? = some s ∧ A = some ⟨b, off, none⟩ ∧ w.cell? ⟨b, off + k * 2, none⟩ = some (.int .u32 s.tag) ∧ w.cell? ⟨b, off + k * 2 + 1, none⟩ = some (.slice s.A s.n s.c) ∧ s.tag < 4294967296 ∧ Bs w s.A s.n s.c s.b := by
  have hlt : k < L.length := by rw [h.len]; exact hk
  obtain ⟨b, off, e, h1, h2⟩ := h.cells k _ (List.getElem?_eq_getElem hlt)
  have := h.ok _ (List.getElem_mem hlt)
  exact ⟨_, b, off, List.getElem?_eq_getElem hlt, e, h1, h2, this.1, this.2⟩
theorem tagAt_get {L : List SecV} {k : Nat} {s : SecV} (h : L[k]? = some s) : Tl.tagAt (secL L) k = s.tag := by
  simp [Tl.tagAt, secL, List.getD_eq_getElem?_getD, List.getElem?_map, h]
  rfl
theorem secL_length (L : List SecV) : (secL L).length = L.length := by simp [secL]
/-- The size of a file of so many sections. -/
def sizeTo (L : List SecV) (k : Nat) : Nat := Tl.size (secL (L.take k))
theorem size_snoc : ∀ (l : List Tl.Sec) (s : Tl.Sec), Tl.size (l ++ [s]) = Tl.size l + 12 + s.b.length
  | [], s => by simp [Tl.size]; omega
  | t :: l, s => by simp only [List.cons_append, Tl.size, size_snoc l s]; omega
theorem sizeTo_succ {L : List SecV} {k : Nat} {s : SecV} (h : L[k]? = some s) : sizeTo L (k + 1) = sizeTo L k + 12 + s.b.length := by
  obtain ⟨hk, e⟩ := List.getElem?_eq_some_iff.1 h
  subst e
  unfold sizeTo
  rw [List.take_succ_eq_append_getElem hk]
  simp only [secL, List.map_append, List.map_cons, List.map_nil, size_snoc, SecV.sec]
theorem size_mono : ∀ (l m : List Tl.Sec), Tl.size l ≤ Tl.size (l ++ m)
  | [], m => by have := Tl.body_length m; simp [Tl.size]; omega
  | t :: l, m => by have := size_mono l m; simp only [List.cons_append, Tl.size]; omega
theorem sizeTo_le (L : List SecV) (k : Nat) : sizeTo L k ≤ Tl.size (secL L) := by
  unfold sizeTo
  have h := size_mono (secL (L.take k)) (secL (L.drop k))
  rwa [show secL (L.take k) ++ secL (L.drop k) = secL L by simp [secL, ← List.map_append]] at h
theorem sizeTo_all (L : List SecV) (k : Nat) (h : L.length ≤ k) : sizeTo L k = Tl.size (secL L) := by unfold sizeTo; rw [List.take_of_length_le h]
theorem sizeTo_zero (L : List SecV) : sizeTo L 0 = 16 := rfl
theorem rises_succ {l : List Tl.Sec} {k : Nat} (h : Tl.Rises l k) (hk : 0 < k → Tl.tagAt l (k - 1) < Tl.tagAt l k) : Tl.Rises l (k + 1) := by
  intro j h0 hj
  by_cases e : j = k
  · subst e; exact hk h0
  · exact h j h0 (by omega)

theorem body_snoc : ∀ (l : List Tl.Sec) (s : Tl.Sec), Tl.body (l ++ [s]) = Tl.body l ++ Tl.secBytes s
  | [], s => by simp [Tl.body]
  | t :: l, s => by simp only [List.cons_append, Tl.body, body_snoc l s, List.append_assoc]
theorem body_succ {L : List SecV} {k : Nat} {s : SecV} (h : L[k]? = some s) : Tl.body (secL (L.take (k + 1))) = Tl.body (secL (L.take k)) ++ Tl.secBytes s.sec := by
  obtain ⟨hk, e⟩ := List.getElem?_eq_some_iff.1 h
  subst e
  rw [List.take_succ_eq_append_getElem hk]
  simp only [secL, List.map_append, List.map_cons, List.map_nil, body_snoc]
theorem size_16 (l : List Tl.Sec) : 16 ≤ Tl.size l := by have := Tl.body_length l; omega
theorem keepB {w W : World} {g : Nat} {a b : Value} (h : w.cell? ⟨g, 0, none⟩ = some a ∧ w.cell? ⟨g, 1, none⟩ = some b) {S : Nat → Prop} (k : Kept S w W) (hn : ¬ S g) : W.cell? ⟨g, 0, none⟩ = some a ∧ W.cell? ⟨g, 1, none⟩ = some b :=
  ⟨k.cell h.1 hn, k.cell h.2 hn⟩
theorem Kept.none_below {w w1 : World} (k : Kept (inRow none) w w1) : Below w.heap.size w w1 := k.below (Nat.le_refl _) (fun i hi h => by cases h)

/-- What Encode hands back. -/
def EncP (w : World) (v : Nat) (l : List Tl.Sec) (e : Ending) (w' : World) : Prop :=
  (Tl.encE l = 0 ∧ ∃ A1 c1, e = .returned (.tuple #[.slice A1 (Tl.size l) c1, .nilIface]) ∧ Own w' w.heap.size 5 A1 (Tl.size l) c1 (Tl.file v l) ∧ Below w.heap.size w w') ∨
  (Tl.encE l ≠ 0 ∧ e = .returned (.tuple #[.slice none 0 0, .iface 97 (.int .i64 (Tl.encE l : Nat))]) ∧ Below w.heap.size w w')
theorem EncP.bad {w w' : World} {v : Nat} {l : List Tl.Sec} {x : Nat} (h : Tl.encE l = x) (hx : x ≠ 0) (hb : Below w.heap.size w w') : EncP w v l (.returned (.tuple #[.slice none 0 0, .iface 97 (.int .i64 (x : Nat))])) w' :=
  .inr ⟨by rw [h]; exact hx, by rw [h], hb⟩

set_option maxHeartbeats 4000000 in
theorem encode_any (v : Nat) (A : Option Addr) (n c : Nat) (L : List SecV) (w : World) (hS : Secs w A n c L) (hT : TabW w) (hv : v < 4294967296) (hsz : Tl.size (secL L) ≤ 1099511627776) :
    Calls Tryd.prog 25 #[.int .u32 v, .slice A n c] w (EncP w v (secL L)) := by
  have hmax := hS.max
  have hln := hS.len
  have kc := fun (w : World) (C : Array Value) (n c : Nat) => Lib.run_convert_bytes_const (P := Tryd.prog) w 23 5 C n c Tryd.underlying23 Tryd.underlying5
  go_enter Tryd.func25, Tryd.ntmps25
  go_wp2_with fail
  go_loopw [6, 15] (fun x i wr => ∃ k : Nat, k ≤ n ∧ i = .int .i64 k ∧ x = .int .i64 (sizeTo L k : Nat) ∧ Tl.Rises (secL L) k ∧ Below w.heap.size w wr) (fun _ i _ => n - (intOf i).toNat)
  case atStart => exact ⟨0, Nat.zero_le _, rfl, rfl, (fun j h0 hj => by omega), Below.refl _ _⟩
  case round =>
    obtain ⟨k, hk, rfl, rfl, hri, hbel⟩ := hrel
    by_cases hlt : k < n
    · obtain ⟨s, b, off, hs, rfl, hc0, hc1, htag, hbs⟩ := (hS.keep hbel).at_ k hlt
      have hst := Lib.hid (sizeTo_succ hs)
      have hle := sizeTo_le L (k + 1)
      rw [hst.out] at hle
      have htk := Lib.hid (tagAt_get hs)
      have hbl := hbs.len
      generalize sizeTo L k = z at hst hle ⊢
      rcases Nat.eq_zero_or_pos k with h0 | h0
      · subst h0
        simp only [Nat.zero_mul, Nat.add_zero] at hc0 hc1
        go_wp2_with fail
        go_quiet (fail)
        go_wp2_with fail
        go_roundw
        case rel => exact ⟨1, by omega, rfl, by rw [hst.out, hbl]; go_num, rises_succ hri (fun h => by omega), b_drewN (b_alloc hbel _) _⟩
        case measure => simp [intOf] <;> omega
      · obtain ⟨j, hj⟩ : ∃ j, k = j + 1 := ⟨k - 1, by omega⟩
        obtain ⟨s', b', off', hs', e', hc0', hc1', htag', hbs'⟩ := (hS.keep hbel).at_ j (by omega)
        simp only [Option.some.injEq, Addr.mk.injEq, and_true] at e'
        obtain ⟨rfl, rfl⟩ := e'
        have htk' := Lib.hid (tagAt_get hs')
        have ej : IntKind.i64.wrap ((k : Int) - 1) = (j : Int) := by rw [IntWalk.i64_in _ (by omega)]; omega
        have hk0 : (0 : Int) < (k : Int) := by omega
        have hj0 : (0 : Int) ≤ (j : Int) := by omega
        have hjn : (j : Int) < (n : Int) := by omega
        have hk1 : (k - 1 : Nat) = j := by omega
        have hk1' := Lib.hid hk1
        clear hj hk1
        have hc0a := fun o => cell_old hc0' o
        clear hc0' hc1'
        by_cases hle' : s.tag ≤ s'.tag
        · have hleb : (s.tag : Int) ≤ (s'.tag : Int) := by omega
          have hno : Hid (Tl.encE (secL L) = 31) := Lib.hid (by
            unfold Tl.encE
            rw [if_neg]
            intro h
            have := h k h0 (by rw [secL_length]; omega)
            rw [hk1'.out, htk.out, htk'.out] at this
            omega)
          go_wp2_with fail
          go_quiet (fail)
          go_wp2_with fail
          go_ret2
          exact EncP.bad hno.out (by decide) (b_drewN (b_alloc hbel _) _)
        · have hleb : ¬ (s.tag : Int) ≤ (s'.tag : Int) := by omega
          have hri' := rises_succ hri (fun h => by rw [hk1'.out, htk.out, htk'.out]; omega)
          go_wp2_with fail
          go_quiet (fail)
          go_wp2_with fail
          go_roundw
          case rel => exact ⟨k + 1, by omega, by go_num, by rw [hst.out, hbl]; go_num, hri', b_drewN (b_alloc hbel _) _⟩
          case measure => simp [intOf] <;> omega
    · have : k = n := by omega
      subst this
      have hri' : Tl.Rises (secL L) (secL L).length := by rw [secL_length, hln]; exact hri
      have hse := sizeTo_all L k (by omega)
      rw [hse]
      clear hse hri
      by_cases hbad : 4096 < k ∨ 134217728 < Tl.size (secL L)
      · have hno : Hid (Tl.encE (secL L) = 2) := Lib.hid (by unfold Tl.encE; rw [if_pos hri', secL_length, hln, if_pos hbad])
        generalize Tl.size (secL L) = z at hbad hsz ⊢
        by_cases h1 : 4096 < k
        · have h1' : (4096 : Int) < (k : Int) := by omega
          go_wp2_with fail
          go_ret2
          exact EncP.bad hno.out (by decide) hbel
        · have h1' : ¬ (4096 : Int) < (k : Int) := by omega
          have h2' : (134217728 : Int) < (z : Int) := by omega
          go_wp2_with fail
          go_ret2
          exact EncP.bad hno.out (by decide) hbel
      · have hyes : Hid (Tl.encE (secL L) = 0) := Lib.hid (by unfold Tl.encE; rw [if_pos hri', secL_length, hln, if_neg hbad])
        have hz := Lib.hid (show Tl.size (secL L) ≤ 134217728 by omega)
        have hz' := hz.out
        have hk4 : ¬ (4096 : Int) < (k : Int) := by omega
        have hz4 : ¬ (134217728 : Int) < (Tl.size (secL L) : Int) := by omega
        have hlist := Lib.hid (show ∀ x ∈ Tl.magic, x < 256 by decide)
        clear hbad
        have hB0 := Bs.lit wr 5 (4, 5) Tl.magic 4 rfl (by decide) hlist.out
        have hb0 := b_alloc hbel (.cells (bytesV Tl.magic).toArray 5 (4, 5))
        go_wp2_with fail
        refine (add_ap w.heap.size _ 4 4 Tl.magic v 4 _ (.inr ⟨hB0, rfl, by decide⟩) hb0.size (by omega) (by decide) (by decide) (by decide)).mono ?_
        rintro e w1 ⟨A1, c1, rfl, hown1, hk1, hat1⟩
        have hb1 := b_kept hb0 hk1 (fun i hi hr => by have h3 := hbel.size; have h4 : wr.heap.size = i := Option.some.inj hr; omega)
        clear hB0 hb0 hk1 hat1 hlist
        go_wp2_with fail
        refine (add_any w.heap.size A1 (4 + 4) c1 _ k 4 _ hown1 hb1.size (by omega) (by decide) (by decide) (by decide)).mono ?_
        rintro e w2 ⟨A2, c2, rfl, hown2, hk2, hat2⟩
        have hb2 := b_kept hb1 hk2 (hown1.row_ge (Nat.le_refl _))
        clear hown1 hk2 hat2 hb1
        go_wp2_with fail
        go_loopw [9, 60] (fun x i wr => ∃ j : Nat, j ≤ k ∧ i = .int .i64 j ∧ ∃ A1 c1, x = .slice A1 (sizeTo L j - 4 : Nat) c1 ∧ Own wr w.heap.size 5 A1 (sizeTo L j - 4) c1 (Tl.head v k ++ Tl.body (secL (L.take j))) ∧ Below w.heap.size w wr) (fun _ i _ => k - (intOf i).toNat)
        case atStart => exact ⟨0, Nat.zero_le _, rfl, A2, c2, rfl, by simpa [Tl.head, Tl.body, secL, sizeTo, Tl.size] using hown2, hb2⟩
        case round =>
          obtain ⟨j, hj, rfl, A1, c1, rfl, hown, hbel1⟩ := hrel
          by_cases hlt1 : j < k
          · obtain ⟨s, b, off, hs, rfl, hc0, hc1, htag, hbs⟩ := (hS.keep hbel1).at_ j hlt1
            have hbl := hbs.len
            have hst := Lib.hid (sizeTo_succ hs)
            have hle := sizeTo_le L (j + 1)
            rw [hst.out] at hle
            have hbd := Lib.hid (body_succ hs)
            have h16 : 16 ≤ sizeTo L j := size_16 _
            generalize sizeTo L j = z at hst hle hown h16 ⊢
            have hTr := hT.keep hbel1
            have hn4 : s.n < 18446744073709551616 := by omega
            have ht4 : s.tag < 18446744073709551616 := by omega
            have hw1 : IntKind.u64.wrap (s.tag : Int) = (s.tag : Int) := by rw [IntKind.wrap_u64]; omega
            have hw2 : IntKind.u64.wrap (s.n : Int) = (s.n : Int) := by rw [IntKind.wrap_u64]; omega
            have hba := b_alloc (Below.refl wr.heap.size wr) (Obj.cells #[.int .u32 s.tag, .slice s.A s.n s.c] 81)
            have hcell0 : (wr.alloc (Obj.cells #[.int .u32 s.tag, .slice s.A s.n s.c] 81)).cell? ⟨wr.heap.size, 0, none⟩ = some (.int .u32 s.tag) := cell_new _ _ _ _ _ rfl
            have hcell1 : (wr.alloc (Obj.cells #[.int .u32 s.tag, .slice s.A s.n s.c] 81)).cell? ⟨wr.heap.size, 1, none⟩ = some (.slice s.A s.n s.c) := cell_new _ _ _ _ _ rfl
            have hsz : (wr.alloc (Obj.cells #[.int .u32 s.tag, .slice s.A s.n s.c] 81)).heap.size = wr.heap.size + 1 := by simp
            go_wp2_with fail
            generalize wr.alloc (Obj.cells #[.int .u32 s.tag, .slice s.A s.n s.c] 81) = W at hba hcell0 hcell1 hsz ⊢
            have hB0 := b_drew hba
            go_region_held3 (fun w' => w'.cell? ⟨wr.heap.size, 0, none⟩ = some (.int .u32 s.tag) ∧ w'.cell? ⟨wr.heap.size, 1, none⟩ = some (.slice s.A s.n s.c)) ((first | exact ⟨hcell0, hcell1⟩ | exact hq2 | exact hq1)) (first | (go_at_call_of 55 (Value.slice none 0 0); refine (add_any (wr.heap.size + 1) none 0 0 [] s.tag 4 W.drew (Own.nil _ _ _) (by show _ ≤ W.heap.size; omega) ht4 (by decide) (by decide) (by decide)).mono ?_; rintro e x1 ⟨A3, c3, rfl, hown3, hk3, hat3⟩; have hq1 := keepB ⟨cell_drew hcell0, cell_drew hcell1⟩ hk3 (fun h => by cases h); have hB1 := b_then hB0 hk3.none_below) | (go_at_call 55; refine (add_any (wr.heap.size + 1) A3 4 c3 _ s.n 4 x1 hown3 (by have := hk3.size; have h9 : W.drew.heap.size = W.heap.size := rfl; omega) hn4 (by decide) (by decide) (by decide)).mono ?_; rintro e x2 ⟨A4, c4, rfl, hown4, hk4, hat4⟩; have hq2 := keepB hq1 hk4 (hown3.row_ge (Nat.le_refl _) _ (Nat.lt_succ_self _)); have hB2 := b_kept hB1 hk4 (fun i hi => hown3.row_ge (Nat.le_refl _) i (by omega))) | fail)
            clear hw1 hw2
            have hb4 := hbs.keep hB2
            have hq21 := hq2.2
            have hn8 : 4 + 4 + s.n ≤ 140737488355328 := by omega
            simp only [List.nil_append] at hown4
            have hsx : wr.heap.size + 1 ≤ x2.heap.size := by have h1 := hba.size; have h2 := hk3.size; have h3 := hk4.size; have h9 : W.drew.heap.size = W.heap.size := rfl; omega
            have hown4' : Own x2 (wr.heap.size + 1) 5 A4 8 c4 (Tl.secHead s.sec) := by unfold Tl.secHead; rw [show s.sec.b.length = s.n from hbl]; exact hown4
            clear hown4
            have hn8' : 8 + s.n ≤ 140737488355328 := by omega
            have hout : ∀ x : World, Below wr.heap.size wr x → Own x w.heap.size 5 A1 (z - 4) c1 (Tl.head v k ++ Tl.body (secL (L.take j))) := fun x h => hown.keep h
            have hout' := Lib.hid hout
            clear hout
            have hz12 : 8 + s.n + 4 ≤ 140737488355328 := by omega
            have hz13 : (z - 4) + (8 + s.n + 4) ≤ 140737488355328 := by omega
            have hws := hbel1.size
            go_wp2_with (first
              | (at_builtin; refine wp_append rfl _ _ 23 5 rfl Tryd.underlying23 Tryd.info5 (wr.heap.size + 1) A4 8 c4 _ s.A s.n s.c s.b (8 + s.n) rfl rfl rfl hown4' hb4 hsx hn8' ?_; intro A5 c5 x3 hown5 hg5 hat5; have hB3 := b_grown hB2 hg5 (fun q hq => Nat.le_of_succ_le (hown4'.ge q hq).1); have hT3 := hTr.keep hB3; have hb5 := hown5.bs)
              | (go_at_call 21; refine (tail_any A5 (8 + s.n) c5 _ _ hb5 hT3 hz12).mono ?_; rintro e x4 ⟨A6, c6, rfl, hown6, hbt⟩; have hB4 := b_then hB3 hbt; have hO4 := hout'.out x4 hB4; have hb6 := hown6.bs; have hs4 := Nat.le_trans hws hB4.size)
              | (at_builtin; refine wp_append rfl _ _ 23 5 rfl Tryd.underlying23 Tryd.info5 w.heap.size A1 (z - 4) c1 _ A6 (8 + s.n + 4) c6 _ (z - 4 + (8 + s.n + 4)) rfl rfl rfl hO4 hb6 hs4 hz13 ?_; intro A7 c7 x5 hown7 hg7 hat7))
            go_roundw
            case rel =>
              have hzz : z - 4 + (8 + s.n + 4) = sizeTo L (j + 1) - 4 := by rw [hst.out, hbl]; omega
              refine ⟨j + 1, by omega, by go_num, A7, c7, by rw [hzz], ?_, (hbel1.trans (hB4.mono hws)).grown hg7 hs4 (fun q hq => (hO4.ge q hq).1)⟩
              rw [← hzz, hbd.out, ← List.append_assoc]
              exact hown7
            case measure => simp [intOf] <;> omega
          · have : j = k := by omega
            subst this
            have hz4' : sizeTo L j - 4 + 4 ≤ 140737488355328 := by have := sizeTo_le L j; omega
            have hse := Lib.hid (sizeTo_all L j (by omega))
            have hfl : Hid (tailed (Tl.head v j ++ Tl.body (secL (L.take j))) = Tl.file v (secL L)) := Lib.hid (by
              unfold Tl.file
              rw [secL_length, hln, List.take_of_length_le (by omega)])
            have hTr := hT.keep hbel1
            have hbs1 := hown.bs
            have h16 : 16 ≤ sizeTo L j := size_16 _
            go_wp2_with (go_at_call 21; refine (tail_any A1 (sizeTo L j - 4) c1 _ _ hbs1 hTr hz4').mono ?_; rintro e x4 ⟨A6, c6, rfl, hown6, hbt⟩)
            go_ret2
            refine .inl ⟨hyes.out, A6, c6, ?_, ?_, b_then hbel1 hbt⟩
            · rw [← hse.out, show sizeTo L j - 4 + 4 = sizeTo L j by omega]
              rfl
            · rw [← hse.out, ← hfl.out]
              have := hown6.lower hbel1.size
              rwa [show sizeTo L j - 4 + 4 = sizeTo L j by omega] at this
end Go.Proofs.YtcoiaggedipapaaDoor
