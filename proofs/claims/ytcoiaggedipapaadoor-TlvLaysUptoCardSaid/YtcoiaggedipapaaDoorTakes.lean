/-
  TlvTakes: the walk.
-/
import Derived.Test.YtcoiaggedipapaaDoorREncode
import Derived.Test.YtcoiaggedipapaaDoorOut
import Derived.Test.YtcoiaggedipapaaDoorInRun
import Derived.Test.YtcoiaggedipapaaDoorRIn
import Derived.Test.YtcoiaggedipapaaDoorAs
namespace Go.Proofs.YtcoiaggedipapaaDoor
open Go.RowKit
set_option linter.unusedVariables false
set_option linter.unusedSimpArgs false
set_option maxRecDepth 100000

/-- What is asked for, as it lies. -/
structure AskV where
  run : Bool
  n : Int
  most : Int
/-- A slice of such that is read. -/
structure Asks (w : World) (A : Option Addr) (n c : Nat) (L : List AskV) : Prop where
  len : L.length = n
  cap : n ≤ c
  max : n ≤ 140737488355328
  ok : ∀ s ∈ L, -9223372036854775808 ≤ s.n ∧ s.n ≤ 9223372036854775807 ∧ -9223372036854775808 ≤ s.most ∧ s.most ≤ 9223372036854775807
  cells : ∀ (j : Nat) (s : AskV), L[j]? = some s → ∃ b off, A = some ⟨b, off, none⟩ ∧ w.cell? ⟨b, off + j * 3, none⟩ = some (.bool s.run) ∧ w.cell? ⟨b, off + j * 3 + 1, none⟩ = some (.int .i64 s.n) ∧ w.cell? ⟨b, off + j * 3 + 2, none⟩ = some (.int .i64 s.most)
theorem Asks.keep {w w1 : World} {A : Option Addr} {n c : Nat} {L : List AskV} (h : Asks w A n c L) (hb : Below w.heap.size w w1) : Asks w1 A n c L :=
  ⟨h.len, h.cap, h.max, h.ok, fun j s hj => by
    obtain ⟨b, off, e, h1, h2, h3⟩ := h.cells j s hj
    exact ⟨b, off, e, cell_keep h1 hb, cell_keep h2 hb, cell_keep h3 hb⟩⟩
theorem Asks.at_ {w : World} {A : Option Addr} {n c : Nat} {L : List AskV} (h : Asks w A n c L) (k : Nat) (hk : k < n) : ∃ (s : AskV) (b off : Nat), A = some ⟨b, off, none⟩ ∧ w.cell? ⟨b, off + k * 3, none⟩ = some (.bool s.run) ∧ w.cell? ⟨b, off + k * 3 + 1, none⟩ = some (.int .i64 s.n) ∧ w.cell? ⟨b, off + k * 3 + 2, none⟩ = some (.int .i64 s.most) ∧ -9223372036854775808 ≤ s.n ∧ s.n ≤ 9223372036854775807 ∧ -9223372036854775808 ≤ s.most ∧ s.most ≤ 9223372036854775807 := by
  have hlt : k < L.length := by rw [h.len]; exact hk
  obtain ⟨b, off, e, h1, h2, h3⟩ := h.cells k _ (List.getElem?_eq_getElem hlt)
  have := h.ok _ (List.getElem_mem hlt)
  exact ⟨_, b, off, e, h1, h2, h3, this⟩
theorem takeN_e {s : Tl.In} {n : Int} {top : Nat} (h : s.e < 1000) : (Tl.takeN s n top).1.e < 1000 := by
  unfold Tl.takeN
  split
  · exact h
  · split
    · show 1 < 1000; decide
    · split
      · show 12 < 1000; decide
      · split
        · show 4 < 1000; decide
        · show 0 < 1000; decide
theorem takeRun_e {s : Tl.In} {top : Int} (h : s.e < 1000) : (Tl.takeRun s top).1.e < 1000 := by
  unfold Tl.takeRun
  split
  · exact h
  · split
    · show 1 < 1000; decide
    · split
      · show 12 < 1000; decide
      · split
        · show 2 < 1000; decide
        · split
          · show 12 < 1000; decide
          · show 0 < 1000; decide
theorem in_no8 (A : Option Addr) (m c : Nat) (e : Int) : ∀ (i : Nat) (v : Value), (#[.slice A m c, .int .i64 e] : Array Value)[i]? = some v → ∀ x : Int, v ≠ Value.int .u8 x := by
  intro i v h x q
  subst q
  match i, h with
  | 0, h => simp at h
  | 1, h => simp at h
  | i + 2, h => simp at h
/-- A block of two cells is written whole. -/
theorem bs_set2 {y : World} {r : Nat} {cs : Array Value} {t : TypeId} {A : Option Addr} {n c : Nat} {l : List Nat} (hs : Bs y A n c l) (hB : Blk y r cs t) (hcs : ∀ (i : Nat) (v : Value), cs[i]? = some v → ∀ x : Int, v ≠ Value.int .u8 x) (v0 v1 : Value) :
    Bs ((y.setCell ⟨r, 0, none⟩ v0).setCell ⟨r, 1, none⟩ v1) A n c l :=
  hs.far (((Kept.refl (fun k => k = r) y).set (p := ⟨r, 0, none⟩) (fun _ => rfl) v0).set (p := ⟨r, 1, none⟩) (fun _ => rfl) v1) (fun hn b hb e => hs.apart hB hcs hn (by rw [hb, e]))
theorem b_set2 {w y : World} (hb : Below w.heap.size w y) {r : Nat} (hr : w.heap.size ≤ r) (v0 v1 : Value) :
    Below w.heap.size w ((y.setCell ⟨r, 0, none⟩ v0).setCell ⟨r, 1, none⟩ v1) := b_set (b_set hb hr _) hr _
theorem blk_set2 {y : World} {r : Nat} {a b : Value} {t : TypeId} (hB : Blk y r #[a, b] t) (v0 v1 : Value) : Blk ((y.setCell ⟨r, 0, none⟩ v0).setCell ⟨r, 1, none⟩ v1) r #[v0, v1] t := (hB.set 0 v0).set 1 v1
/-- Two cells of another block are written. -/
theorem InAt.set2 {w : World} {g h : Nat} {s : Tl.In} {cs : Array Value} {t : TypeId} (hI : InAt w g s) (hB : Blk w h cs t) (hcs : ∀ (i : Nat) (v : Value), cs[i]? = some v → ∀ x : Int, v ≠ Value.int .u8 x) (hne : h ≠ g) (v0 v1 : Value) : InAt ((w.setCell ⟨h, 0, none⟩ v0).setCell ⟨h, 1, none⟩ v1) g s := by
  obtain ⟨A, n, c, V, hBg, hs, hV⟩ := hI.at_
  exact ⟨A, n, c, V, (hBg.far (p := ⟨h, 0, none⟩) (Ne.symm hne) v0).far (p := ⟨h, 1, none⟩) (Ne.symm hne) v1, bs_set2 hs hB hcs v0 v1, hV⟩
theorem newIn_any (A : Option Addr) (n c : Nat) (l : List Nat) (w : World) (hs : Bs w A n c l) :
    Calls Tryd.prog 40 #[.slice A n c] w (fun e w' => e = .returned (.pointer (some ⟨w.heap.size, 0, none⟩)) ∧ InAt w' w.heap.size ⟨l, 0⟩ ∧ Below w.heap.size w w') := by
  go_enter Tryd.func40, Tryd.ntmps40
  go_wp2
  go_ret
  exact ⟨rfl, ⟨A, n, c, .nilIface, Blk.new _ _ _, hs.keep (b_alloc (Below.refl _ _) _), ErrN.none⟩, b_alloc (Below.refl _ _) _⟩
/-- What lies beside an In stays. -/
theorem bs_in {w w1 : World} {g : Nat} {s : Tl.In} {A : Option Addr} {n c : Nat} {l : List Nat} (hI : InAt w g s) (hs : Bs w A n c l) (hk : Kept (inIn g) w w1) : Bs w1 A n c l := by
  obtain ⟨A0, n0, c0, V, hB, _, hV⟩ := hI.at_
  exact hs.far hk (fun hn b hb e => in_apart hB hs hV hn (by rw [hb]; exact congrArg some e))
theorem held6 {a b c : Prop} (h : a ∧ b ∧ c) : c := h.2.2
theorem held3 {a b c : Prop} (h : a ∧ b ∧ c) : c := h.2.2
theorem inRun_nil (top : Int) (w : World) (h0 : 0 ≤ top) (h1 : top < 9223372036854775808) : Calls Tryd.prog 41 #[.pointer none, .int .i64 top] w fun e w' => e = .returned (.slice none 0 0) ∧ w = w' := by
  have hp : ∀ (n top : Int) V, Calls Tryd.prog 61 #[.pointer none, .int .i64 n, .int .u64 top, V] w fun e w' => e = .returned (.tuple #[.int .u64 0, .bool false]) ∧ w = w' := by
    intro n top V
    go_enter Tryd.func61, Tryd.ntmps61
    go_wp2
    go_ret2
    exact ⟨rfl, rfl⟩
  have Hp := Lib.hid hp
  clear hp
  have hmx := fun (ts : Array TypeId) (t : TypeId) (V : World) => max2 top 0 ts t V
  have hmn : (if top < 0 then (0 : Int) else top) = top := if_neg (by omega)
  rw [hmn] at hmx
  clear hmn
  go_enter Tryd.func41, Tryd.ntmps41
  go_wp2_with (go_at_call 61; refine (Hp.out _ _ _).mono ?_; rintro e w1 ⟨rfl, rfl⟩)
  go_ret
  exact ⟨rfl, rfl⟩

set_option maxHeartbeats 16000000 in
theorem law_tlvtakes (A : Option Addr) (n c : Nat) (l : List Nat) (A' : Option Addr) (n' c' : Nat) (L : List AskV) (w : World) (hb : Bs w A n c l) (hL : Asks w A' n' c' L) (hT : TabW w) (hE : ErrW w) :
    Calls Tryd.prog 14 #[.slice A n c, .slice A' n' c'] w (fun e w' => e = .returned (.bool true) ∧ Below w.heap.size w w') := by
  have hmax := hL.max
  have hcap := hL.cap
  go_enter Tryd.func14, Tryd.ntmps14
  go_wp2_with fail
  refine (newIn_any A n c l _ hb).mono ?_
  rintro e w1 ⟨rfl, hI1, hb1⟩
  have hlt1 := hI1.lt
  have hba := b_alloc (Below.refl w1.heap.size w1) (.cells #[.slice A n c, .int .i64 0] 85)
  have hst : ∀ W, W = w1.alloc (.cells #[.slice A n c, .int .i64 ((0 : Nat) : Int)] 85) → InAt W w.heap.size ⟨l, 0⟩ ∧ Blk W w1.heap.size #[.slice A n c, .int .i64 ((0 : Nat) : Int)] 85 ∧ Bs W A n c l ∧ Below w.heap.size w W := by
    rintro W rfl
    exact ⟨hI1.keep hba, Blk.new _ _ _, (hb.keep hb1).keep hba, b_then hb1 hba⟩
  have hst' := Lib.hid hst
  have hgh : w1.heap.size ≠ w.heap.size := by omega
  have hwh := hb1.size
  clear hst hba hI1
  generalize hh : w1.heap.size = h at hgh hwh hst' hlt1
  go_upto_block 0 with (fail)
  go_cut [] (fun wx => Below w.heap.size w wx)
  case first =>
    go_wp2_with fail
    go_loopw [7, 8, 9, 10, 11] (fun i z1 z2 z3 z4 wr => ∃ k : Nat, k ≤ n' ∧ k ≤ 60 ∧ i = .int .i64 k ∧ ∃ (s : Tl.In) (Ay : Option Addr) (ny cy : Nat), InAt wr w.heap.size s ∧ Blk wr h #[.slice Ay ny cy, .int .i64 (s.e : Nat)] 85 ∧ Bs wr Ay ny cy s.b ∧ s.e < 1000 ∧ Below w.heap.size w wr) (fun i _ _ _ _ _ => n' - (intOf i).toNat)
    case atStart => exact ⟨0, by omega, by omega, rfl, ⟨l, 0⟩, A, n, c, (hst'.out _ rfl).1, (hst'.out _ rfl).2.1, (hst'.out _ rfl).2.2.1, by show 0 < 1000; decide, (hst'.out _ rfl).2.2.2⟩
    case round =>
      obtain ⟨k, hk, hk6, rfl, ⟨sb, se⟩, Ay, ny, cy, hI, hB, hsy, hse, hbel⟩ := hrel
      simp only at hB hsy hse
      by_cases h12 : k < n' ∧ k < 60
      · obtain ⟨h1, h2⟩ := h12
        obtain ⟨⟨ar, an, am⟩, ab, off, rfl, ha0, ha1, ha2, hn1, hn2, hm1, hm2⟩ := hL.at_ k h1
        simp only at ha0 ha1 ha2 hn1 hn2 hm1 hm2
        have ht : am ≤ 9223372036854775807 := hm2
        obtain ⟨top, htw, htop⟩ : ∃ top : Nat, IntKind.u64.wrap am = (top : Int) ∧ top < 18446744073709551616 := by
          have h := wrap_u64_nonneg am
          have h3 : IntKind.u64.wrap am < 18446744073709551616 := by rw [IntKind.wrap_u64]; omega
          exact ⟨(IntKind.u64.wrap am).toNat, by omega, by omega⟩
        have hk0 : (0 : Int) ≤ (k : Int) := by omega
        have hkn : (k : Int) < (n' : Int) := by omega
        cases ar with
        | true =>
          rcases htk : Tl.takeRun ⟨sb, se⟩ am with ⟨⟨b1, e1⟩, r1⟩
          have he1 : e1 < 1000 := by have := takeRun_e (s := ⟨sb, se⟩) (top := am) hse; rw [htk] at this; exact this
          replace htk := Lib.hid htk
          have hcs : ∀ W, Below w.heap.size w W → W.cell? ⟨ab, off + k * 3, none⟩ = some (.bool true) ∧ W.cell? ⟨ab, off + k * 3 + 1, none⟩ = some (.int .i64 an) ∧ W.cell? ⟨ab, off + k * 3 + 2, none⟩ = some (.int .i64 am) := fun W hW => ⟨cell_keep ha0 hW, cell_keep ha1 hW, cell_keep ha2 hW⟩
          have hcs' := Lib.hid hcs
          have hst : ∀ W, Below wr.heap.size wr W → (W.cell? ⟨h, 0, none⟩ = some (.slice Ay ny cy) ∧ W.cell? ⟨h, 1, none⟩ = some (.int .i64 (se : Nat))) ∧ (W.cell? ⟨ab, off + k * 3, none⟩ = some (.bool true) ∧ W.cell? ⟨ab, off + k * 3 + 1, none⟩ = some (.int .i64 an) ∧ W.cell? ⟨ab, off + k * 3 + 2, none⟩ = some (.int .i64 am)) ∧ Below wr.heap.size wr W := fun W hW => ⟨⟨(hB.keep hW).cell 0 rfl, (hB.keep hW).cell 1 rfl⟩, hcs _ (b_then hbel hW), hW⟩
          have hst3 := Lib.hid hst
          have hq0 := hst _ (b_drew (Below.refl _ _))
          have hx0 := hcs _ hbel
          clear hcs hst
          go_upto_region 6 with (fail)
          go_cut [8, 9] from 18 to 92 (fun z cc wx => ∃ (p : Nat) (A1 : Option Addr) (n1 c1 : Nat) (A2 : Option Addr) (n2 c2 : Nat), z = .pointer (some ⟨p, 0, none⟩) ∧ cc = .slice A2 n2 c2 ∧ wx.cell? ⟨p, 0, none⟩ = some (.slice A1 n1 c1) ∧ wx.cell? ⟨p, 1, none⟩ = some (.int .i64 (e1 : Nat)) ∧ Bs wx A1 n1 c1 b1 ∧ Bs wx A2 n2 c2 r1 ∧ Below wr.heap.size wr wx)
          case first =>
            go_region_held3 (fun W => (W.cell? ⟨h, 0, none⟩ = some (.slice Ay ny cy) ∧ W.cell? ⟨h, 1, none⟩ = some (.int .i64 (se : Nat))) ∧ (W.cell? ⟨ab, off + k * 3, none⟩ = some (.bool true) ∧ W.cell? ⟨ab, off + k * 3 + 1, none⟩ = some (.int .i64 an) ∧ W.cell? ⟨ab, off + k * 3 + 2, none⟩ = some (.int .i64 am)) ∧ Below wr.heap.size wr W) ((first | exact hq0 | exact hst3.out _ (b_then (held6 (by assumption)) hbn) | exact hst3.out _ (b_alloc (held6 (by assumption)) _) | exact hst3.out _ (b_alloc hbx1 _) | exact hst3.out _ (b_set2 hbx1 (Nat.le_refl _) _ _))) (first
              | (go_at_call 49; refine (rTakeRun_any Ay ny cy sb se am _ (hsy.keep (held6 (by assumption))) ht).mono ?_; rintro e x1 ⟨A1, n1, c1, A2, n2, c2, he, hr1, hr2, hbn⟩; rw [htk.out] at he hr1 hr2; subst he; have hbx1 := b_then (held6 (by assumption)) hbn; try have hBz : Blk x1 wr.heap.size #[.slice none 0 0, .int .i64 0] 85 := (Blk.new wr.drew _ _).keep hbn; try have hz0 := hBz.cell 0 rfl; try have hz1 := hBz.cell 1 rfl; try have hzf := hBz.free)
              | fail)
            all_goals go_wp2_with fail
            all_goals go_meet
            all_goals first
              | exact ⟨_, A1, n1, c1, A2, n2, c2, rfl, rfl, (blk_set2 hBz _ _).cell 0 rfl, (blk_set2 hBz _ _).cell 1 rfl, bs_set2 (hr1.keep hbn) hBz (in_no8 _ _ _ _) _ _, bs_set2 (hr2.keep hbn) hBz (in_no8 _ _ _ _) _ _, (held6 (by assumption))⟩
              | exact ⟨x1.heap.size, A1, n1, c1, A2, n2, c2, rfl, rfl, cell_new _ _ _ _ _ rfl, cell_new _ _ _ _ _ rfl, hr1.keep (b_alloc hbn _), hr2.keep (b_alloc hbn _), (held6 (by assumption))⟩
          case rest =>
            obtain ⟨p, A1, n1, c1, A2, n2, c2, rfl, rfl, hp0, hp1, hr1, hr2, hy2⟩ := hcut
            generalize wc = W2 at hp0 hp1 hr1 hr2 hy2 ⊢
            clear hq0 hx0
            have hBh2 := hB.keep hy2
            have hu0 := hBh2.cell 0 rfl
            have hu1 := hBh2.cell 1 rfl
            have huf := hBh2.free
            have hI2 := (hI.keep hy2).set2 hBh2 (in_no8 _ _ _ _) hgh (.slice A1 n1 c1) (.int .i64 (e1 : Nat))
            have hB2 := blk_set2 hBh2 (.slice A1 n1 c1) (.int .i64 (e1 : Nat))
            have hs2 := bs_set2 hr1 hBh2 (in_no8 _ _ _ _) (.slice A1 n1 c1) (.int .i64 (e1 : Nat))
            have hd2 := bs_set2 hr2 hBh2 (in_no8 _ _ _ _) (.slice A1 n1 c1) (.int .i64 (e1 : Nat))
            have hb2 := b_set2 (b_then hbel hy2) hwh (.slice A1 n1 c1) (.int .i64 (e1 : Nat))
            go_wp2_with fail
            generalize (W2.setCell ⟨h, 0, none⟩ (.slice A1 n1 c1)).setCell ⟨h, 1, none⟩ (.int .i64 (e1 : Nat)) = y at hI2 hB2 hs2 hd2 hb2 ⊢
            clear hu0 hu1 huf hBh2
            have hI2d := hI2.keep (b_drew (Below.refl y.heap.size y))
            obtain ⟨st, hstr⟩ : ∃ st, strOf r1 = st := ⟨_, rfl⟩
            have hcc := fun (W : World) (hW : Bs W A2 n2 c2 r1) => run_str (P := Tryd.prog) 23 5 9 Tryd.underlying23 Tryd.underlying5 Tryd.underlying9 hW
            rw [hstr] at hcc
            replace hstr := Lib.hid hstr
            obtain ⟨hq0, hq1, hq2⟩ := hcs'.out _ (b_drew hb2)
            have hq3 := hcc _ hd2.drew
            go_upto_region 8 with (fail)
            go_cut [54] from 18 to 92 (fun bb wx => bb = .bool false ∧ InAt wx w.heap.size ⟨b1, e1⟩ ∧ Blk wx h #[.slice A1 n1 c1, .int .i64 (e1 : Nat)] 85 ∧ Bs wx A1 n1 c1 b1 ∧ Below w.heap.size w wx)
            case first =>
             go_region_with (go_at_call 41; refine (inRun_any w.heap.size ⟨sb, se⟩ am _ hI2d ht).mono ?_; rintro e x2 ⟨A3, n3, c3, rfl, hown3, hI3, hk3⟩; rw [htk.out] at hown3 hI3; have hb3 := b_kept (b_drew hb2) hk3 (fun i hi e => by have : i = w.heap.size := e; omega); have hq6 := hcc _ (bs_in hI2d hd2.drew hk3); have hcx := run_str (P := Tryd.prog) 23 5 9 Tryd.underlying23 Tryd.underlying5 Tryd.underlying9 hown3.bs; rw [hstr.out] at hcx)
             all_goals go_wp2_with fail
             all_goals go_meet
             all_goals exact ⟨rfl, hI3, hB2.drew.kept hk3 hgh, bs_in hI2d hs2.drew hk3, hb3⟩
            case rest =>
              obtain ⟨rfl, hI3, hB3, hs3, hb3⟩ := hcut
              generalize wc = x2 at hI3 hB3 hs3 hb3 ⊢
              have hE3 := hE.keep hb3
              have hh3 := Lib.hid (fun (W : World) (hW : Below x2.heap.size x2 W) => (⟨(hB3.keep hW).cell 0 rfl, (hB3.keep hW).cell 1 rfl, hW⟩ : W.cell? ⟨h, 0, none⟩ = some (.slice A1 n1 c1) ∧ W.cell? ⟨h, 1, none⟩ = some (.int .i64 (e1 : Nat)) ∧ Below x2.heap.size x2 W))
              have hv0 := hh3.out _ (b_drew (Below.refl _ _))
              go_wp2_with fail
              go_region_held3 (fun W => W.cell? ⟨h, 0, none⟩ = some (.slice A1 n1 c1) ∧ W.cell? ⟨h, 1, none⟩ = some (.int .i64 (e1 : Nat)) ∧ Below x2.heap.size x2 W) ((first | exact hv0 | exact hh3.out _ (b_then (held3 (by assumption)) hbn) | assumption)) (first
                | (go_at_call 43; refine (inDone_any w.heap.size ⟨b1, e1⟩ _ (hI3.keep (held3 (by assumption)))).mono ?_; rintro e x5 ⟨V, rfl, hV, rfl⟩)
                | (go_at_call 45; refine (num45_any V _ _ hV.v (hE3.keep (held3 (by assumption)))).mono ?_; rintro e x6 ⟨rfl, hbn⟩)
                | (go_at_call 51; refine (rDone_any A1 n1 c1 b1 e1 _ (hs3.keep (held3 (by assumption)))).mono ?_; rintro e x7 ⟨rfl, hbn⟩)
                | fail)
              all_goals (
                go_wp2_with fail
                go_roundw
                case rel => exact ⟨k + 1, by omega, by omega, by go_num, ⟨b1, e1⟩, A1, n1, c1, hI3.keep (held3 (by assumption)), hB3.keep (held3 (by assumption)), hs3.keep (held3 (by assumption)), he1, b_then hb3 (held3 (by assumption))⟩
                case measure => simp [intOf] <;> omega)
        | false =>
          rcases htk : Tl.takeN ⟨sb, se⟩ an top with ⟨⟨b1, e1⟩, v1⟩
          have he1 : e1 < 1000 := by have := takeN_e (s := ⟨sb, se⟩) (n := an) (top := top) hse; rw [htk] at this; exact this
          replace htk := Lib.hid htk
          have hcs : ∀ W, Below w.heap.size w W → W.cell? ⟨ab, off + k * 3, none⟩ = some (.bool false) ∧ W.cell? ⟨ab, off + k * 3 + 1, none⟩ = some (.int .i64 an) ∧ W.cell? ⟨ab, off + k * 3 + 2, none⟩ = some (.int .i64 am) := fun W hW => ⟨cell_keep ha0 hW, cell_keep ha1 hW, cell_keep ha2 hW⟩
          have hcs' := Lib.hid hcs
          have hst : ∀ W, Below wr.heap.size wr W → (W.cell? ⟨h, 0, none⟩ = some (.slice Ay ny cy) ∧ W.cell? ⟨h, 1, none⟩ = some (.int .i64 (se : Nat))) ∧ (W.cell? ⟨ab, off + k * 3, none⟩ = some (.bool false) ∧ W.cell? ⟨ab, off + k * 3 + 1, none⟩ = some (.int .i64 an) ∧ W.cell? ⟨ab, off + k * 3 + 2, none⟩ = some (.int .i64 am)) ∧ Below wr.heap.size wr W := fun W hW => ⟨⟨(hB.keep hW).cell 0 rfl, (hB.keep hW).cell 1 rfl⟩, hcs _ (b_then hbel hW), hW⟩
          have hst3 := Lib.hid hst
          have hq0 := hst _ (b_drew (Below.refl _ _))
          have hx0 := hcs _ hbel
          clear hcs hst
          go_upto_region 10 with (fail)
          go_cut [10, 11] from 18 to 92 (fun z cc wx => ∃ (p : Nat) (A1 : Option Addr) (n1 c1 : Nat), z = .pointer (some ⟨p, 0, none⟩) ∧ cc = .int .u64 (v1 : Nat) ∧ wx.cell? ⟨p, 0, none⟩ = some (.slice A1 n1 c1) ∧ wx.cell? ⟨p, 1, none⟩ = some (.int .i64 (e1 : Nat)) ∧ Bs wx A1 n1 c1 b1 ∧ Below wr.heap.size wr wx)
          case first =>
            go_region_held3 (fun W => (W.cell? ⟨h, 0, none⟩ = some (.slice Ay ny cy) ∧ W.cell? ⟨h, 1, none⟩ = some (.int .i64 (se : Nat))) ∧ (W.cell? ⟨ab, off + k * 3, none⟩ = some (.bool false) ∧ W.cell? ⟨ab, off + k * 3 + 1, none⟩ = some (.int .i64 an) ∧ W.cell? ⟨ab, off + k * 3 + 2, none⟩ = some (.int .i64 am)) ∧ Below wr.heap.size wr W) ((first | exact hq0 | exact hst3.out _ (b_then (held6 (by assumption)) hbn) | exact hst3.out _ (b_alloc (held6 (by assumption)) _) | exact hst3.out _ (b_alloc hbx1 _) | exact hst3.out _ (b_set2 hbx1 (Nat.le_refl _) _ _))) (first
              | (go_at_call 50; refine (rTakeN_any Ay ny cy sb se an top _ (hsy.keep (held6 (by assumption))) htop hse).mono ?_; rintro e x1 ⟨A1, n1, c1, he, hr1, hbn⟩; rw [htk.out] at he hr1; subst he; have hbx1 := b_then (held6 (by assumption)) hbn; try have hBz : Blk x1 wr.heap.size #[.slice none 0 0, .int .i64 0] 85 := (Blk.new wr.drew _ _).keep hbn; try have hz0 := hBz.cell 0 rfl; try have hz1 := hBz.cell 1 rfl; try have hzf := hBz.free)
              | fail)
            all_goals go_wp2_with fail
            all_goals go_meet
            all_goals first
              | exact ⟨_, A1, n1, c1, rfl, rfl, (blk_set2 hBz _ _).cell 0 rfl, (blk_set2 hBz _ _).cell 1 rfl, bs_set2 (hr1.keep hbn) hBz (in_no8 _ _ _ _) _ _, (held6 (by assumption))⟩
              | exact ⟨x1.heap.size, A1, n1, c1, rfl, rfl, cell_new _ _ _ _ _ rfl, cell_new _ _ _ _ _ rfl, hr1.keep (b_alloc hbn _), (held6 (by assumption))⟩
          case rest =>
            obtain ⟨p, A1, n1, c1, rfl, rfl, hp0, hp1, hr1, hy2⟩ := hcut
            generalize wc = W2 at hp0 hp1 hr1 hy2 ⊢
            clear hq0 hx0
            have hBh2 := hB.keep hy2
            have hu0 := hBh2.cell 0 rfl
            have hu1 := hBh2.cell 1 rfl
            have huf := hBh2.free
            have hI2 := (hI.keep hy2).set2 hBh2 (in_no8 _ _ _ _) hgh (.slice A1 n1 c1) (.int .i64 (e1 : Nat))
            have hB2 := blk_set2 hBh2 (.slice A1 n1 c1) (.int .i64 (e1 : Nat))
            have hs2 := bs_set2 hr1 hBh2 (in_no8 _ _ _ _) (.slice A1 n1 c1) (.int .i64 (e1 : Nat))
            have hb2 := b_set2 (b_then hbel hy2) hwh (.slice A1 n1 c1) (.int .i64 (e1 : Nat))
            go_wp2_with fail
            generalize (W2.setCell ⟨h, 0, none⟩ (.slice A1 n1 c1)).setCell ⟨h, 1, none⟩ (.int .i64 (e1 : Nat)) = y at hI2 hB2 hs2 hb2 ⊢
            clear hu0 hu1 huf hBh2
            have hI2d := hI2.keep (b_drew (Below.refl y.heap.size y))
            have hq0 := hcs'.out _ (b_drew hb2)
            go_upto_region 12 with (fail)
            go_cut [86] from 18 to 92 (fun bb wx => bb = .bool false ∧ InAt wx w.heap.size ⟨b1, e1⟩ ∧ Blk wx h #[.slice A1 n1 c1, .int .i64 (e1 : Nat)] 85 ∧ Bs wx A1 n1 c1 b1 ∧ Below w.heap.size w wx)
            case first =>
             go_region_held3 (fun W => W.cell? ⟨ab, off + k * 3, none⟩ = some (.bool false) ∧ W.cell? ⟨ab, off + k * 3 + 1, none⟩ = some (.int .i64 an) ∧ W.cell? ⟨ab, off + k * 3 + 2, none⟩ = some (.int .i64 am)) ((first | exact hq0 | exact hq1)) (first
               | (go_at_call 42; refine (inN_any w.heap.size ⟨sb, se⟩ an top _ hI2d htop).mono ?_; rintro e x2 ⟨he, hI3, hk3⟩; rw [htk.out] at he hI3; subst he; have hb3 := b_kept (b_drew hb2) hk3 (fun i hi e => by have : i = w.heap.size := e; omega); have hq1 := hcs'.out _ hb3)
               | fail)
             all_goals go_wp2_with fail
             all_goals go_meet
             all_goals exact ⟨rfl, hI3, hB2.drew.kept hk3 hgh, bs_in hI2d hs2.drew hk3, hb3⟩
            case rest =>
              obtain ⟨rfl, hI3, hB3, hs3, hb3⟩ := hcut
              generalize wc = x2 at hI3 hB3 hs3 hb3 ⊢
              have hE3 := hE.keep hb3
              have hh3 := Lib.hid (fun (W : World) (hW : Below x2.heap.size x2 W) => (⟨(hB3.keep hW).cell 0 rfl, (hB3.keep hW).cell 1 rfl, hW⟩ : W.cell? ⟨h, 0, none⟩ = some (.slice A1 n1 c1) ∧ W.cell? ⟨h, 1, none⟩ = some (.int .i64 (e1 : Nat)) ∧ Below x2.heap.size x2 W))
              have hv0 := hh3.out _ (b_drew (Below.refl _ _))
              go_wp2_with fail
              go_region_held3 (fun W => W.cell? ⟨h, 0, none⟩ = some (.slice A1 n1 c1) ∧ W.cell? ⟨h, 1, none⟩ = some (.int .i64 (e1 : Nat)) ∧ Below x2.heap.size x2 W) ((first | exact hv0 | exact hh3.out _ (b_then (held3 (by assumption)) hbn) | assumption)) (first
                | (go_at_call 43; refine (inDone_any w.heap.size ⟨b1, e1⟩ _ (hI3.keep (held3 (by assumption)))).mono ?_; rintro e x5 ⟨V, rfl, hV, rfl⟩)
                | (go_at_call 45; refine (num45_any V _ _ hV.v (hE3.keep (held3 (by assumption)))).mono ?_; rintro e x6 ⟨rfl, hbn⟩)
                | (go_at_call 51; refine (rDone_any A1 n1 c1 b1 e1 _ (hs3.keep (held3 (by assumption)))).mono ?_; rintro e x7 ⟨rfl, hbn⟩)
                | fail)
              all_goals (
                go_wp2_with fail
                go_roundw
                case rel => exact ⟨k + 1, by omega, by omega, by go_num, ⟨b1, e1⟩, A1, n1, c1, hI3.keep (held3 (by assumption)), hB3.keep (held3 (by assumption)), hs3.keep (held3 (by assumption)), he1, b_then hb3 (held3 (by assumption))⟩
                case measure => simp [intOf] <;> omega)
      · have hex : k = n' ∨ (k < n' ∧ k = 60) := by omega
        clear h12
        rcases hex with rfl | ⟨h1x, rfl⟩
        all_goals go_wp2_with fail
        all_goals go_meet
        all_goals exact hbel
  case rest =>
    have hbel := hcut
    generalize wc = wr at hbel ⊢
    have hTr := hT.keep hbel
    have hEr := hE.keep hbel
    have hne1 : (1 : Nat) ≠ 0 := by decide
    have qP : ∀ (W : World), (binOp .eql 57 (.pointer none) (.pointer none)).run Tryd.prog W = .ok (.bool true) W := fun _ => by kernel_rfl
    go_wp2_with (first
      | (go_at_call 42; refine (inN_nil _ _ _).mono ?_; rintro e x1 ⟨rfl, rfl⟩)
      | (go_at_call 41; refine (inRun_nil 9 _ (by decide) (by decide)).mono ?_; rintro e x2 ⟨rfl, rfl⟩)
      | (go_at_call 43; refine (inDone_nil _).mono ?_; rintro e x3 ⟨rfl, rfl⟩)
      | (go_at_call 45; refine (num45_any _ _ _ (ErrV.num 1) hEr).mono ?_; rintro e x4 ⟨rfl, hb4⟩; have hT4 := hTr.keep hb4)
      | (go_at_call 37; refine (outN_nil _ _ _).mono ?_; rintro e x5 ⟨rfl, rfl⟩)
      | (go_at_call 35; refine (outRun_nil _ _ _ _).mono ?_; rintro e x6 ⟨rfl, rfl⟩)
      | (go_at_call 39; refine (outDone_nil _).mono ?_; rintro e x7 ⟨rfl, rfl⟩)
      | (go_at_call 24; refine (sure19_any _ hT4).mono ?_; rintro e x8 ⟨rfl, hb8⟩))
    go_ret
    exact ⟨rfl, b_then hbel (b_then hb4 hb8)⟩
end Go.Proofs.YtcoiaggedipapaaDoor
