/-
  wire.Decode and the document's, by contracts.
-/
import Derived.Test.YtifkfcjapomlbaaDoorWREnc
namespace Go.Proofs.YtifkfcjapomlbaaDoor
open Go.RowKit
set_option linter.unusedVariables false
set_option linter.unusedSimpArgs false
set_option maxRecDepth 100000

/-- The frame of these bytes, and no error. -/
def DecOk (w : World) (c : List Nat) (e : Ending) (w' : World) : Prop :=
  ∃ A1 c1, e = .returned (.tuple #[.agg #[.int .i64 (fk c : Nat), .int .u32 (fs c : Nat), .int .u32 (fq c : Nat), .int .u32 (fn c : Nat), .slice A1 (fm c) c1], .nilIface]) ∧ Bs w' A1 (fm c) c1 (fd c) ∧ Below w.heap.size w w'
def DecBad (w : World) (x : Nat) (e : Ending) (w' : World) : Prop :=
  e = .returned (.tuple #[.agg #[.int .i64 0, .int .u32 0, .int .u32 0, .int .u32 0, .slice none 0 0], .iface 50 (.int .i64 (x : Nat))]) ∧ Below w.heap.size w w'
def DecF (w : World) (b : List Nat) (e : Ending) (w' : World) : Prop := (wdE b = 0 ∧ DecOk w (b.take (b.length - 4)) e w') ∨ (wdE b ≠ 0 ∧ DecBad w (wdE b) e w')
theorem newIn_any (A : Option Addr) (n c : Nat) (l : List Nat) (w : World) (hs : Bs w A n c l) :
    Calls Tryd.prog 25 #[.slice A n c] w (fun e w' => e = .returned (.pointer (some ⟨w.heap.size, 0, none⟩)) ∧ InAt w' w.heap.size ⟨l, 0⟩ ∧ Below w.heap.size w w') := by
  go_enter Tryd.func25, Tryd.ntmps25
  go_wp2
  go_ret
  exact ⟨rfl, ⟨A, n, c, .nilIface, Blk.new _ _ _, hs.keep (b_alloc (Below.refl _ _) _), ErrN.none⟩, b_alloc (Below.refl _ _) _⟩
theorem ErrN.ne {V : Value} {x : Nat} (h : ErrN V x) (hx : x ≠ 0) : V = .iface 50 (.int .i64 (x : Int)) := by
  cases h with
  | none => exact absurd rfl hx
  | num y hy => rfl
theorem ErrN.eq {V : Value} (h : ErrN V 0) : V = .nilIface := by
  cases h with
  | none => rfl
  | num y hy => exact absurd rfl hy
theorem takeN_lt {s : Tl.In} {n : Int} : (Tl.takeN s n 4294967295).2 < 4294967296 := by
  by_cases h : peekE s n 4294967295 4 = 0
  · obtain ⟨_, _, _, _, h5, h6⟩ := takeN_ok h
    rw [h6]
    simp only
    omega
  · rw [takeN_bad h]
    show 0 < 4294967296
    decide
theorem takeN_6 {s : Tl.In} {n : Int} {top : Nat} : (Tl.takeN s n top).2 ≤ top := by
  by_cases h : peekE s n top 4 = 0
  · obtain ⟨_, _, _, _, h5, h6⟩ := takeN_ok h
    rw [h6]
    simp only
    omega
  · rw [takeN_bad h]
    exact Nat.zero_le _
/-- The In, and the frame, behind so many takings. -/
def inT (top : Nat) (c : List Nat) : Nat → Tl.In
  | 0 => (t1 top c).1
  | 1 => (t2 top c).1
  | 2 => (t3 top c).1
  | _ => (t4 top c).1
def frT (k s q n : Int) : Nat → Array Value
  | 0 => #[.int .i64 k, .int .u32 0, .int .u32 0, .int .u32 0, .slice none 0 0]
  | 1 => #[.int .i64 k, .int .u32 s, .int .u32 0, .int .u32 0, .slice none 0 0]
  | 2 => #[.int .i64 k, .int .u32 s, .int .u32 q, .int .u32 0, .slice none 0 0]
  | _ => #[.int .i64 k, .int .u32 s, .int .u32 q, .int .u32 n, .slice none 0 0]
theorem frame_no8 (k s q n : Int) (A : Option Addr) (m c : Nat) : ∀ (i : Nat) (v : Value), (#[.int .i64 k, .int .u32 s, .int .u32 q, .int .u32 n, .slice A m c] : Array Value)[i]? = some v → ∀ x : Int, v ≠ Value.int .u8 x := by
  intro i v h x e
  subst e
  match i, h with
  | 0, h => simp at h
  | 1, h => simp at h
  | 2, h => simp at h
  | 3, h => simp at h
  | 4, h => simp at h
  | i + 5, h => simp at h
theorem frT_no8 (k s q n : Int) (j : Nat) : ∀ (i : Nat) (v : Value), (frT k s q n j)[i]? = some v → ∀ x : Int, v ≠ Value.int .u8 x := by
  match j with
  | 0 => exact frame_no8 k 0 0 0 none 0 0
  | 1 => exact frame_no8 k s 0 0 none 0 0
  | 2 => exact frame_no8 k s q 0 none 0 0
  | j + 3 => exact frame_no8 k s q n none 0 0
/-- A cell of another block is written. -/
theorem InAt.set_far {w : World} {g h : Nat} {s : Tl.In} {cs : Array Value} {t : TypeId} (hI : InAt w g s) (hB : Blk w h cs t) (hcs : ∀ (i : Nat) (v : Value), cs[i]? = some v → ∀ x : Int, v ≠ Value.int .u8 x) (hne : h ≠ g) (j : Nat) (v : Value) : InAt (w.setCell ⟨h, j, none⟩ v) g s := by
  obtain ⟨A, n, c, V, hBg, hs, hV⟩ := hI.at_
  exact ⟨A, n, c, V, hBg.far (p := ⟨h, j, none⟩) (Ne.symm hne) v, hs.far ((Kept.refl (fun k => k = h) w).set (fun _ => rfl) v) (fun hn b hb e => hs.apart hB hcs hn (by rw [hb, e])), hV⟩
theorem ixP0 (a b c : Value) (w : World) : (Instr.index 64 (.agg #[a, b, c]) (.int .i64 0)).run Tryd.prog w = .ok a w := by kernel_rfl
theorem ixP1 (a b c : Value) (w : World) : (Instr.index 64 (.agg #[a, b, c]) (.int .i64 1)).run Tryd.prog w = .ok b w := by kernel_rfl
theorem ixP2 (a b c : Value) (w : World) : (Instr.index 64 (.agg #[a, b, c]) (.int .i64 2)).run Tryd.prog w = .ok c w := by kernel_rfl

/-- A block of five cells is written whole. -/
theorem bs_set5 {y : World} {r : Nat} {cs : Array Value} {t : TypeId} {A : Option Addr} {n c : Nat} {l : List Nat} (hs : Bs y A n c l) (hB : Blk y r cs t) (hcs : ∀ (i : Nat) (v : Value), cs[i]? = some v → ∀ x : Int, v ≠ Value.int .u8 x) (v0 v1 v2 v3 v4 : Value) :
    Bs (((((y.setCell ⟨r, 0, none⟩ v0).setCell ⟨r, 1, none⟩ v1).setCell ⟨r, 2, none⟩ v2).setCell ⟨r, 3, none⟩ v3).setCell ⟨r, 4, none⟩ v4) A n c l :=
  hs.far ((((((Kept.refl (fun k => k = r) y).set (p := ⟨r, 0, none⟩) (fun _ => rfl) v0).set (p := ⟨r, 1, none⟩) (fun _ => rfl) v1).set (p := ⟨r, 2, none⟩) (fun _ => rfl) v2).set (p := ⟨r, 3, none⟩) (fun _ => rfl) v3).set (p := ⟨r, 4, none⟩) (fun _ => rfl) v4) (fun hn b hb e => hs.apart hB hcs hn (by rw [hb, e]))
theorem b_set5 {w y : World} (hb : Below w.heap.size w y) {r : Nat} (hr : w.heap.size ≤ r) (v0 v1 v2 v3 v4 : Value) :
    Below w.heap.size w (((((y.setCell ⟨r, 0, none⟩ v0).setCell ⟨r, 1, none⟩ v1).setCell ⟨r, 2, none⟩ v2).setCell ⟨r, 3, none⟩ v3).setCell ⟨r, 4, none⟩ v4) :=
  b_set (b_set (b_set (b_set (b_set hb hr _) hr _) hr _) hr _) hr _
set_option maxHeartbeats 8000000 in
theorem dec_any (A : Option Addr) (n c : Nat) (l : List Nat) (w : World) (hb : Bs w A n c l) (hT : TabW w) :
    Calls Tryd.prog 11 #[.slice A n c] w (DecF w l) := by
  have hln := hb.len
  have hZ := b_alloc (Below.refl w.heap.size w) (.cells #[.int .i64 0, .int .u32 0, .int .u32 0, .int .u32 0, .slice none 0 0] 31)
  have hBz := Blk.new w #[.int .i64 0, .int .u32 0, .int .u32 0, .int .u32 0, .slice none 0 0] 31
  have hb0 := hb.keep hZ
  have hT0 := hT.keep hZ
  have hwlt := hBz.lt
  by_cases hC : cutE l = 0
  · have hC' := Lib.hid hC
    have hE : wdE l = if okW (l.take (n - 4)) = true then 0 else 3 := by unfold wdE; rw [if_neg (by simp [hC]), hln]
    have hcc : l.take (l.length - 4) = l.take (n - 4) := by rw [hln]
    go_enter Tryd.func11, Tryd.ntmps11
    go_wp2_with fail
    refine (cut_ok A n c l _ hb0 hT0 hC'.out).mono ?_
    rintro e w1 ⟨A1, c1, rfl, hown1, hb1⟩
    have hs1 := hown1.bs
    have hBz1 := hBz.keep hb1
    have hbw1 := b_then hZ hb1
    have hDF : ∀ e w', ((okW (l.take (n - 4)) = true ∧ DecOk w (l.take (n - 4)) e w') ∨ (okW (l.take (n - 4)) = false ∧ DecBad w 3 e w')) → DecF w l e w' := by
      rintro e w' (⟨h1, h2⟩ | ⟨h1, h2⟩)
      · exact .inl ⟨by rw [hE, if_pos h1], by rw [hcc]; exact h2⟩
      · exact .inr ⟨by rw [hE, if_neg (by simp [h1])]; decide, by rw [hE, if_neg (by simp [h1])]; exact h2⟩
    have hDF' := Lib.hid hDF
    clear hDF hE hcc hown1
    have hccs := hs1.small
    generalize l.take (n - 4) = cc at hs1 hDF' hccs
    go_wp2_with fail
    refine (newIn_any A1 (n - 4) c1 cc _ hs1).mono ?_
    rintro e w2 ⟨rfl, hI2, hb2⟩
    have hBz2 := hBz1.keep hb2
    have hbw2 := b_then hbw1 hb2
    have hgw := hbw1.size
    have hgz : w.heap.size ≠ w1.heap.size := Nat.ne_of_lt hBz1.lt
    generalize w1.heap.size = g at hI2 hgw hgz
    go_wp2_with fail
    refine (inN_any g ⟨cc, 0⟩ 1 6 _ hI2 (by decide)).mono ?_
    rintro e w3 ⟨rfl, hI3, hk3⟩
    have ht1 : Tl.takeN ⟨cc, 0⟩ 1 6 = t1 6 cc := rfl
    rw [ht1] at hI3 ⊢
    have hk6 : (t1 6 cc).2 ≤ 6 := takeN_6
    have hs32 : (t2 6 cc).2 < 4294967296 := takeN_lt
    have hq32 : (t3 6 cc).2 < 4294967296 := takeN_lt
    have hn32 : (t4 6 cc).2 < 4294967296 := takeN_lt
    have hBz3 := hBz2.kept hk3 hgz
    have hbw3 := b_kept hbw2 hk3 (fun i hi e => by have : i = g := e; omega)
    have hg3 := hI3.lt
    have hw64 : IntKind.i64.wrap (((t1 6 cc).2 : Nat) : Int) = (((t1 6 cc).2 : Nat) : Int) := by rw [IntWalk.i64_in _ (by omega)]
    go_wp2_with fail
    have hgh : w3.heap.size ≠ g := by omega
    have hwh := hbw3.size
    have hba3 := b_alloc (Below.refl w3.heap.size w3) (.cells (frT (t1 6 cc).2 (t2 6 cc).2 (t3 6 cc).2 (t4 6 cc).2 0) 31)
    have hst : ∀ W, W = w3.alloc (.cells (frT (t1 6 cc).2 (t2 6 cc).2 (t3 6 cc).2 (t4 6 cc).2 0) 31) → InAt W g (inT 6 cc 0) ∧ Blk W w3.heap.size (frT (t1 6 cc).2 (t2 6 cc).2 (t3 6 cc).2 (t4 6 cc).2 0) 31 ∧ Blk W w.heap.size #[.int .i64 0, .int .u32 0, .int .u32 0, .int .u32 0, .slice none 0 0] 31 ∧ Below w.heap.size w W := by
      rintro W rfl
      exact ⟨hI3.keep hba3, Blk.new _ _ _, hBz3.keep hba3, b_alloc hbw3 _⟩
    have hst' := Lib.hid hst
    have hzh := hBz3.lt
    clear hst hba3 hBz3 hI3 hI2 hBz2 hBz1 hBz hs1 hk3
    generalize hh : w3.heap.size = h at hgh hwh hst' hzh
    go_loopw [8, 28] (fun p i wr => ∃ j : Nat, j ≤ 3 ∧ i = .int .i64 j ∧ InAt wr g (inT 6 cc j) ∧ Blk wr h (frT (t1 6 cc).2 (t2 6 cc).2 (t3 6 cc).2 (t4 6 cc).2 j) 31 ∧ Blk wr w.heap.size #[.int .i64 0, .int .u32 0, .int .u32 0, .int .u32 0, .slice none 0 0] 31 ∧ Below w.heap.size w wr) (fun _ i _ => 3 - (intOf i).toNat)
    case atStart => exact ⟨0, by omega, rfl, hst'.out _ rfl⟩
    case round =>
      obtain ⟨j, hj, rfl, hI, hB, hBz, hbel⟩ := hrel
      have hzh' : w.heap.size ≠ h := Nat.ne_of_lt hzh
      by_cases hlt : j < 3
      · rcases (show j = 0 ∨ j = 1 ∨ j = 2 by omega) with rfl | rfl | rfl
        · have pa := ixP0
          have hwr : IntKind.u32.wrap (((t2 6 cc).2 : Nat) : Int) = (((t2 6 cc).2 : Nat) : Int) := by rw [IntKind.wrap_u32]; omega
          have ht : Tl.takeN (inT 6 cc 0) 4 4294967295 = t2 6 cc := rfl
          have ht' := Lib.hid ht
          clear ht
          go_wp2_with (go_at_call 26; refine (inN_any g (inT 6 cc 0) 4 4294967295 _ hI (by decide)).mono ?_; rintro e x ⟨he, hIx, hkx⟩; rw [ht'.out] at he hIx; subst he; have hBx := hB.kept hkx hgh; have hc1 := hBx.cell 1 rfl; have hf1 := hBx.free 1)
          go_roundw
          case rel => exact ⟨1, by omega, rfl, hIx.set_far hBx (frT_no8 _ _ _ _ 0) hgh _ _, hBx.set 1 _, (hBz.kept hkx hgz).far (p := ⟨h, 1, none⟩) hzh' _, b_set (b_kept hbel hkx (fun i hi e => by have : i = g := e; omega)) hwh _⟩
          case measure => simp [intOf]
        · have pa := ixP1
          have hwr : IntKind.u32.wrap (((t3 6 cc).2 : Nat) : Int) = (((t3 6 cc).2 : Nat) : Int) := by rw [IntKind.wrap_u32]; omega
          have ht : Tl.takeN (inT 6 cc 1) 4 4294967295 = t3 6 cc := rfl
          have ht' := Lib.hid ht
          clear ht
          go_wp2_with (go_at_call 26; refine (inN_any g (inT 6 cc 1) 4 4294967295 _ hI (by decide)).mono ?_; rintro e x ⟨he, hIx, hkx⟩; rw [ht'.out] at he hIx; subst he; have hBx := hB.kept hkx hgh; have hc1 := hBx.cell 2 rfl; have hf1 := hBx.free 2)
          go_roundw
          case rel => exact ⟨2, by omega, rfl, hIx.set_far hBx (frT_no8 _ _ _ _ 1) hgh _ _, hBx.set 2 _, (hBz.kept hkx hgz).far (p := ⟨h, 2, none⟩) hzh' _, b_set (b_kept hbel hkx (fun i hi e => by have : i = g := e; omega)) hwh _⟩
          case measure => simp [intOf]
        · have pa := ixP2
          have hwr : IntKind.u32.wrap (((t4 6 cc).2 : Nat) : Int) = (((t4 6 cc).2 : Nat) : Int) := by rw [IntKind.wrap_u32]; omega
          have ht : Tl.takeN (inT 6 cc 2) 4 4294967295 = t4 6 cc := rfl
          have ht' := Lib.hid ht
          clear ht
          go_wp2_with (go_at_call 26; refine (inN_any g (inT 6 cc 2) 4 4294967295 _ hI (by decide)).mono ?_; rintro e x ⟨he, hIx, hkx⟩; rw [ht'.out] at he hIx; subst he; have hBx := hB.kept hkx hgh; have hc1 := hBx.cell 3 rfl; have hf1 := hBx.free 3)
          go_roundw
          case rel => exact ⟨3, by omega, rfl, hIx.set_far hBx (frT_no8 _ _ _ _ 2) hgh _ _, hBx.set 3 _, (hBz.kept hkx hgz).far (p := ⟨h, 3, none⟩) hzh' _, b_set (b_kept hbel hkx (fun i hi e => by have : i = g := e; omega)) hwh _⟩
          case measure => simp [intOf]
      · obtain rfl : j = 3 := by omega
        have ht5 : Tl.takeRun (inT 6 cc 3) 65536 = t5 6 cc := rfl
        go_wp2_with fail
        refine (inRun_any g (inT 6 cc 3) 65536 _ hI (by decide)).mono ?_
        rintro e x ⟨A5, n5, c5, rfl, hown5, hI5, hk5⟩
        rw [ht5] at hown5 hI5
        have hB5 := hB.kept hk5 hgh
        have hc4 := hB5.cell 4 rfl
        have hf4 := hB5.free 4
        have hbs5 := hown5.bs
        have hl5 := hown5.len
        have hbx := b_kept hbel hk5 (fun i hi e => by have : i = g := e; omega)
        have hBz5 := hBz.kept hk5 hgz
        have hI6 := hI5.set_far hB5 (frT_no8 _ _ _ _ 3) hgh 4 (.slice A5 n5 c5)
        have hB6 := hB5.set 4 (.slice A5 n5 c5)
        have hBz6 := hBz5.far (p := ⟨h, 4, none⟩) hzh' (.slice A5 n5 c5)
        have hbx6 := b_set hbx (p := ⟨h, 4, none⟩) hwh (.slice A5 n5 c5)
        have hbs6 := hbs5.far ((Kept.refl (fun k => k = h) x).set (p := ⟨h, 4, none⟩) (fun _ => rfl) (.slice A5 n5 c5)) (fun hn b hb e => hbs5.apart hB5 (frT_no8 _ _ _ _ 3) hn (by rw [hb, e]))
        go_wp2_with fail
        generalize x.setCell ⟨h, 4, none⟩ (.slice A5 n5 c5) = y at hI6 hB6 hBz6 hbx6 hbs6 ⊢
        have hB7 : Blk y h #[.int .i64 (t1 6 cc).2, .int .u32 (t2 6 cc).2, .int .u32 (t3 6 cc).2, .int .u32 (t4 6 cc).2, .slice A5 n5 c5] 31 := hB6
        clear hB6 hI5 hB5 hc4 hf4 hbs5 hBz5 hbx hown5 hB hBz hI
        cases hok : okW cc with
        | true =>
          have hok' := Lib.hid hok
          obtain ⟨q1, q2, q3, q4, q5, q6⟩ := takes_ok (top := 6) (by decide) hccs hok
          have hm : mayB (fk cc : Nat) (fn cc : Nat) (fm cc) = true := ((okW_iff cc).1 hok).2
          have v1 : (t1 6 cc).2 = fk cc := by rw [q1]
          have v2 : (t2 6 cc).2 = fs cc := by rw [q2]
          have v3 : (t3 6 cc).2 = fq cc := by rw [q3]
          have v4 : (t4 6 cc).2 = fn cc := by rw [q4]
          have v5 : (t5 6 cc).2 = fd cc := by rw [q5]
          have v6 : Tl.done (t5 6 cc).1 = 0 := by rw [q5]; rfl
          rw [v1, v2, v3, v4] at hB7
          rw [v5] at hbs6 hl5
          obtain rfl : n5 = fm cc := by rw [← hl5]; exact q6
          rw [v1]
          refine (inDone_any g (t5 6 cc).1 _ hI6).mono ?_
          rintro e z ⟨V, rfl, hV, rfl⟩
          rw [v6] at hV
          obtain rfl := hV.eq
          have hm' := Lib.hid hm
          have c0' := hB7.cell 0 rfl
          have c1' := hB7.cell 1 rfl
          have c2' := hB7.cell 2 rfl
          have c3' := hB7.cell 3 rfl
          have c4' := hB7.cell 4 rfl
          clear q1 q2 q3 q4 q5 q6 v1 v2 v3 v4 v5 v6 hm hok hk6 hs32 hq32 hn32 hw64 ht5 hV
          go_wp2_with fail
          refine (may_any (fk cc) (fs cc) (fq cc) (fn cc) A5 (fm cc) c5 _).mono ?_
          rw [hm'.out]
          rintro e z ⟨rfl, hbz⟩
          have hB8 := hB7.keep hbz
          have hBz8 := hBz6.keep hbz
          have d0 := hB8.cell 0 rfl
          have d1 := hB8.cell 1 rfl
          have d2 := hB8.cell 2 rfl
          have d3 := hB8.cell 3 rfl
          have d4 := hB8.cell 4 rfl
          have k0 := hBz8.cell 0 rfl
          have k1 := hBz8.cell 1 rfl
          have k2 := hBz8.cell 2 rfl
          have k3 := hBz8.cell 3 rfl
          have k4 := hBz8.cell 4 rfl
          have kf := hBz8.free
          clear c0' c1' c2' c3' c4'
          go_wp2_with fail
          refine bodyPost_ret (v := .tuple #[.agg #[.int .i64 (fk cc : Nat), .int .u32 (fs cc : Nat), .int .u32 (fq cc : Nat), .int .u32 (fn cc : Nat), .slice A5 (fm cc) c5], .nilIface]) (by simp [results, Tryd.results11, go_sem, k0, k1, k2, k3, k4]) rfl ?_
          exact hDF'.out _ _ (.inl ⟨hok'.out, A5, c5, rfl, bs_set5 (hbs6.keep hbz) hBz8 (frame_no8 _ _ _ _ _ _ _) _ _ _ _ _, b_set5 (b_then hbx6 hbz) (Nat.le_refl _) _ _ _ _ _⟩)
        | false =>
          have hok' := Lib.hid hok
          have hno := takes_no (top := 6) hok
          have c0' := hB7.cell 0 rfl
          have c1' := hB7.cell 1 rfl
          have c2' := hB7.cell 2 rfl
          have c3' := hB7.cell 3 rfl
          have c4' := hB7.cell 4 rfl
          refine (inDone_any g (t5 6 cc).1 _ hI6).mono ?_
          rintro e z ⟨V, rfl, hV, rfl⟩
          by_cases hd : Tl.done (t5 6 cc).1 = 0
          · have hm : mayB ((t1 6 cc).2 : Nat) ((t4 6 cc).2 : Nat) n5 = false := by
              cases hx : mayB ((t1 6 cc).2 : Nat) ((t4 6 cc).2 : Nat) n5 with
              | false => rfl
              | true => exact absurd ⟨hd, by rw [hl5]; exact hx⟩ hno
            rw [hd] at hV
            obtain rfl := hV.eq
            have hm' := Lib.hid hm
            clear hno hd hm hok hV
            go_wp2_with fail
            refine (may_any (t1 6 cc).2 (t2 6 cc).2 (t3 6 cc).2 (t4 6 cc).2 A5 n5 c5 _).mono ?_
            rw [hm'.out]
            rintro e z ⟨rfl, hbz⟩
            have hBz8 := hBz6.keep hbz
            have k0 := hBz8.cell 0 rfl
            have k1 := hBz8.cell 1 rfl
            have k2 := hBz8.cell 2 rfl
            have k3 := hBz8.cell 3 rfl
            have k4 := hBz8.cell 4 rfl
            have kf := hBz8.free
            clear c0' c1' c2' c3' c4'
            go_wp2_with fail
            refine bodyPost_ret (v := .tuple #[.agg #[.int .i64 0, .int .u32 0, .int .u32 0, .int .u32 0, .slice none 0 0], .iface 50 (.int .i64 ((3 : Nat) : Int))]) (by simp [results, Tryd.results11, go_sem, k0, k1, k2, k3, k4]) rfl ?_
            exact hDF'.out _ _ (.inr ⟨hok'.out, rfl, b_set5 (b_then hbx6 hbz) (Nat.le_refl _) _ _ _ _ _⟩)
          · obtain rfl := hV.ne hd
            have k0 := hBz6.cell 0 rfl
            have k1 := hBz6.cell 1 rfl
            have k2 := hBz6.cell 2 rfl
            have k3 := hBz6.cell 3 rfl
            have k4 := hBz6.cell 4 rfl
            have kf := hBz6.free
            clear hno hok c0' c1' c2' c3' c4'
            go_wp2_with fail
            refine bodyPost_ret (v := .tuple #[.agg #[.int .i64 0, .int .u32 0, .int .u32 0, .int .u32 0, .slice none 0 0], .iface 50 (.int .i64 ((3 : Nat) : Int))]) (by simp [results, Tryd.results11, go_sem, k0, k1, k2, k3, k4]) rfl ?_
            exact hDF'.out _ _ (.inr ⟨hok'.out, rfl, b_set5 hbx6 (Nat.le_refl _) _ _ _ _ _⟩)
  · have hC' := Lib.hid hC
    have hE : wdE l = cutE l := by unfold wdE; rw [if_pos hC]
    go_enter Tryd.func11, Tryd.ntmps11
    go_wp2_with fail
    refine (cut_err A n c l _ hb0 hT0 hC'.out).mono ?_
    rintro e w1 ⟨rfl, hb1⟩
    have hBz1 := hBz.keep hb1
    have k0 := hBz1.cell 0 rfl
    have k1 := hBz1.cell 1 rfl
    have k2 := hBz1.cell 2 rfl
    have k3 := hBz1.cell 3 rfl
    have k4 := hBz1.cell 4 rfl
    have kf := hBz1.free
    go_wp2_with fail
    refine bodyPost_ret (v := .tuple #[.agg #[.int .i64 0, .int .u32 0, .int .u32 0, .int .u32 0, .slice none 0 0], .iface 50 (.int .i64 (cutE l : Nat))]) (by simp [results, Tryd.results11, go_sem, k0, k1, k2, k3, k4]) rfl ?_
    refine .inr ⟨by rw [hE]; exact hC'.out, by rw [hE], ?_⟩
    exact b_set (b_set (b_set (b_set (b_set (b_then hZ hb1) (Nat.le_refl _) _) (Nat.le_refl _) _) (Nat.le_refl _) _) (Nat.le_refl _) _) (Nat.le_refl _) _
end Go.Proofs.YtifkfcjapomlbaaDoor
