/-
  WireBack: the walk.
-/
import Derived.Test.YtifkfcjapomlbaaDoorWLaw
namespace Go.Proofs.YtifkfcjapomlbaaDoor
open Go.RowKit
set_option linter.unusedVariables false
set_option linter.unusedSimpArgs false
set_option maxRecDepth 100000

set_option maxHeartbeats 8000000 in
theorem wback_long (k : Int) (s q n : Nat) (A : Option Addr) (m c : Nat) (A' : Option Addr) (m' c' : Nat) (w : World) (hT : TabW w) (hm1 : 100000 < m) :
    Calls Tryd.prog 5 #[.agg #[.int .i64 k, .int .u32 s, .int .u32 q, .int .u32 n, .slice A m c], .slice A' m' c'] w (fun e w' => e = .returned (.bool true) ∧ Below w.heap.size w w') := by
  have i1 : (100000 : Int) < (m : Int) := by omega
  have hbF := b_alloc (Below.refl w.heap.size w) (.cells #[.int .i64 k, .int .u32 s, .int .u32 q, .int .u32 n, .slice A m c] 25)
  have hTF := hT.keep hbF
  go_enter Tryd.func5, Tryd.ntmps5
  go_wp2_with fail
  refine (sure22_any _ hTF).mono ?_
  rintro e w9 ⟨rfl, hb9⟩
  go_wp2_with fail
  go_ret
  exact ⟨rfl, b_then hbF hb9⟩

set_option maxHeartbeats 8000000 in
theorem wback_big (k : Int) (s q n : Nat) (A : Option Addr) (m c : Nat) (A' : Option Addr) (m' c' : Nat) (w : World) (hT : TabW w) (hm1 : m ≤ 100000) (hm2 : 100000 < m') :
    Calls Tryd.prog 5 #[.agg #[.int .i64 k, .int .u32 s, .int .u32 q, .int .u32 n, .slice A m c], .slice A' m' c'] w (fun e w' => e = .returned (.bool true) ∧ Below w.heap.size w w') := by
  have i1 : ¬ (100000 : Int) < (m : Int) := by omega
  have i2 : (100000 : Int) < (m' : Int) := by omega
  have hbF := b_alloc (Below.refl w.heap.size w) (.cells #[.int .i64 k, .int .u32 s, .int .u32 q, .int .u32 n, .slice A m c] 25)
  have hTF := hT.keep hbF
  go_enter Tryd.func5, Tryd.ntmps5
  go_wp2_with fail
  refine (sure22_any _ hTF).mono ?_
  rintro e w9 ⟨rfl, hb9⟩
  go_wp2_with fail
  go_ret
  exact ⟨rfl, b_then hbF hb9⟩

set_option maxHeartbeats 8000000 in
theorem wback_ed (k : Nat) (s q n : Nat) (A : Option Addr) (m c : Nat) (dd : List Nat) (A' : Option Addr) (m' c' : Nat) (l : List Nat) (w : World) (hs : s < 4294967296) (hq : q < 4294967296) (hn : n < 4294967296) (hb : Bs w A m c dd) (hb' : Bs w A' m' c' l) (hT : TabW w) (hm1 : m ≤ 100000) (hm2 : m' ≤ 100000) (hE : Hid (mayB k n m = true)) (hD : Hid (wdE l = 0)) :
    Calls Tryd.prog 5 #[.agg #[.int .i64 k, .int .u32 s, .int .u32 q, .int .u32 n, .slice A m c], .slice A' m' c'] w (fun e w' => e = .returned (.bool true) ∧ Below w.heap.size w w') := by
  have i1 : ¬ (100000 : Int) < (m : Int) := by omega
  have i2 : ¬ (100000 : Int) < (m' : Int) := by omega
  have hbF := b_alloc (Below.refl w.heap.size w) (.cells #[.int .i64 k, .int .u32 s, .int .u32 q, .int .u32 n, .slice A m c] 25)
  have hBF := Blk.new w #[.int .i64 k, .int .u32 s, .int .u32 q, .int .u32 n, .slice A m c] 25
  have hb0 := hb.keep hbF
  have hb0' := hb'.keep hbF
  have hT0 := hT.keep hbF
  have hln := hb.len
  have hE2 : mayB k n dd.length = true := by rw [hln]; exact hE.out
  obtain ⟨hd1, hd2⟩ := wenc_dec (k := k) (s := s) (q := q) (n := n) (d := dd) hs hq hE2
  obtain ⟨k1, k6, m6, n6⟩ := mayB_kind hE2
  obtain ⟨e1, e2, e3, e4, e5, e6⟩ := wraw_tells (k := k) (s := s) (q := q) (n := n) (d := dd) (by omega) hs hq hn (by omega)
  have hd1' := Lib.hid hd1
  have hd2' := Lib.hid hd2
  have E1 := Lib.hid e1
  have E2 := Lib.hid e2
  have E3 := Lib.hid e3
  have E4 := Lib.hid e4
  have E5 := Lib.hid e5
  have E6 := Lib.hid e6
  clear hd1 hd2 e1 e2 e3 e4 e5 e6 hE2 k1 k6 m6 n6 hln
  have hln' := hb'.len
  obtain ⟨hc1, hc2⟩ := wdE_ok hD.out
  have hwe := wdec_enc hb'.small hD.out
  obtain ⟨⟨h17, hfm⟩, hmay⟩ := (okW_iff _).1 hc2
  obtain ⟨fs1, fq1, fn1⟩ := f_small (c := l.take (l.length - 4)) (fun x hx => hb'.small x (List.mem_of_mem_take hx))
  have hfd : (fd (l.take (l.length - 4))).length = fm (l.take (l.length - 4)) := by unfold fd; rw [List.length_drop]; omega
  have hmay2 : mayB (fk (l.take (l.length - 4)) : Nat) (fn (l.take (l.length - 4)) : Nat) (fm (l.take (l.length - 4))) = true := hmay
  have hlen7 : (fd (l.take (l.length - 4))).length + 21 = m' := by have := congrArg List.length hwe; rw [wenc_length] at this; omega
  generalize hcc : l.take (l.length - 4) = cc at hwe hmay hmay2 fs1 fq1 fn1 hfd hlen7
  clear hc1 hc2 h17 hfm hmay
  have hwe' := Lib.hid hwe
  have hcc' := Lib.hid hcc
  have hfd' := Lib.hid hfd
  have hlen7' := Lib.hid hlen7
  have hmay' := Lib.hid hmay2
  clear hwe hcc hfd hlen7 hmay2 hln'
  go_enter Tryd.func5, Tryd.ntmps5
  go_wp2_with fail
  generalize w.alloc (.cells #[.int .i64 k, .int .u32 s, .int .u32 q, .int .u32 n, .slice A m c] 25) = W at hbF hBF hb0 hb0' hT0 ⊢
  generalize w.heap.size = gp at hBF ⊢
  refine (wgive_any k s q n A m c _).mono ?_
  rintro e w1 ⟨rfl, hbw1⟩
  have hB1 := hb0.keep hbw1
  have hT1 := hT0.keep hbw1
  go_wp2_with fail
  refine (enc_ok k s q n A m c dd _ hB1 hT1 hs hq hE.out).mono ?_
  rintro e w2 ⟨A2, c2, rfl, hown2, hb2⟩
  have hbw2 := b_then hbw1 hb2
  have hT2 := hT0.keep hbw2
  have hbs2 := hown2.bs
  go_wp2_with fail
  refine (dec_any A2 _ c2 _ _ hbs2 hT2).mono ?_
  intro e w3 hp
  have hp2 := decF_ok hp hd1'.out
  clear hp
  rw [hd2'.out] at hp2
  obtain ⟨A3, c3, rfl, hbs3, hb3⟩ := hp2
  rw [E6.out, E5.out] at hbs3
  rw [E1.out, E2.out, E3.out, E4.out, E5.out]
  have hbw3 := b_then hbw2 hb3
  have hba3 := b_alloc (Below.refl w3.heap.size w3) (.cells #[.int .i64 (k : Nat), .int .u32 (s : Nat), .int .u32 (q : Nat), .int .u32 (n : Nat), .slice A3 dd.length c3] 31)
  have hBk3 := Blk.new w3 #[.int .i64 (k : Nat), .int .u32 (s : Nat), .int .u32 (q : Nat), .int .u32 (n : Nat), .slice A3 dd.length c3] 31
  have hbv3 := b_then hbw3 hba3
  have hBp := hBF.keep hbv3
  have p0 := hBp.cell 0 rfl
  have p1 := hBp.cell 1 rfl
  have p2 := hBp.cell 2 rfl
  have p3 := hBp.cell 3 rfl
  have p4 := hBp.cell 4 rfl
  go_wp2_with fail
  generalize w3.alloc (.cells #[.int .i64 (k : Nat), .int .u32 (s : Nat), .int .u32 (q : Nat), .int .u32 (n : Nat), .slice A3 dd.length c3] 31) = v3 at hba3 hBk3 hbv3 hBp p0 p1 p2 p3 p4 ⊢
  generalize w3.heap.size = g3 at hBk3 ⊢
  clear p0 p1 p2 p3 p4
  have hBd := hb0.keep hbv3
  have hbs3' := hbs3.keep hba3
  refine (wsame_yes k s q n A3 A _ c3 m c dd _ hbs3' hBd).mono ?_
  rintro e w4 ⟨rfl, hb4⟩
  have hbx := b_then hbv3 hb4
  have hTx := hT0.keep hbx
  have hbxb := hb0'.keep hbx
  go_wp2_with fail
  refine (dec_any A' m' c' l _ hbxb hTx).mono ?_
  intro e w6 hp
  have hp2 := decF_ok hp hD.out
  clear hp
  rw [hcc'.out] at hp2
  obtain ⟨A6, c6, rfl, hbs6, hb6⟩ := hp2
  have hbw6 := b_then hbx hb6
  have hba6 := b_alloc (Below.refl w6.heap.size w6) (.cells #[.int .i64 (fk cc : Nat), .int .u32 (fs cc : Nat), .int .u32 (fq cc : Nat), .int .u32 (fn cc : Nat), .slice A6 (fm cc) c6] 31)
  have hBk6 := Blk.new w6 #[.int .i64 (fk cc : Nat), .int .u32 (fs cc : Nat), .int .u32 (fq cc : Nat), .int .u32 (fn cc : Nat), .slice A6 (fm cc) c6] 31
  have hbv6 := b_then hbw6 hba6
  go_wp2_with fail
  generalize w6.alloc (.cells #[.int .i64 (fk cc : Nat), .int .u32 (fs cc : Nat), .int .u32 (fq cc : Nat), .int .u32 (fn cc : Nat), .slice A6 (fm cc) c6] 31) = v6 at hba6 hBk6 hbv6 ⊢
  generalize w6.heap.size = g6 at hBk6 ⊢
  have hbs6' := hbs6.keep hba6
  have hT6 := hT0.keep hbv6
  refine (enc_ok (fk cc) (fs cc) (fq cc) (fn cc) A6 _ c6 (fd cc) _ hbs6' hT6 fs1 fq1 hmay'.out).mono ?_
  rintro e w7 ⟨A7, c7, rfl, hown7, hb7⟩
  rw [hwe'.out, hlen7'.out] at hown7
  rw [hlen7'.out]
  have hbs7 := hown7.bs
  have hbw7 := b_then hbv6 hb7
  have hT7 := hT0.keep hbw7
  have hb7' := hb0'.keep hbw7
  have hBk7 := hBk6.keep hb7
  have r0 := hBk7.cell 0 rfl
  have r1 := hBk7.cell 1 rfl
  have r2 := hBk7.cell 2 rfl
  have r3 := hBk7.cell 3 rfl
  have r4 := hBk7.cell 4 rfl
  have hcv1 := run_str (P := Tryd.prog) 23 5 9 Tryd.underlying23 Tryd.underlying5 Tryd.underlying9 hbs7
  have hcv2 := run_str (P := Tryd.prog) 23 5 9 Tryd.underlying23 Tryd.underlying5 Tryd.underlying9 hb7'
  generalize strOf l = st at hcv1 hcv2
  go_wp2_with fail
  refine (check_ok (fk cc) (fs cc) (fq cc) (fn cc) A6 (fm cc) c6 _ hmay'.out).mono ?_
  rintro e w8 ⟨rfl, hb8⟩
  have hbw8 := b_then hbw7 hb8
  have hT8 := hT0.keep hbw8
  go_wp2_with fail
  refine (sure22_any _ hT8).mono ?_
  rintro e w9 ⟨rfl, hb9⟩
  go_wp2_with fail
  go_ret
  exact ⟨rfl, b_then hbF (b_then hbw8 hb9)⟩

set_option maxHeartbeats 8000000 in
theorem wback_en (k : Nat) (s q n : Nat) (A : Option Addr) (m c : Nat) (dd : List Nat) (A' : Option Addr) (m' c' : Nat) (l : List Nat) (w : World) (hs : s < 4294967296) (hq : q < 4294967296) (hn : n < 4294967296) (hb : Bs w A m c dd) (hb' : Bs w A' m' c' l) (hT : TabW w) (hm1 : m ≤ 100000) (hm2 : m' ≤ 100000) (hE : Hid (mayB k n m = true)) (hD : Hid (wdE l ≠ 0)) :
    Calls Tryd.prog 5 #[.agg #[.int .i64 k, .int .u32 s, .int .u32 q, .int .u32 n, .slice A m c], .slice A' m' c'] w (fun e w' => e = .returned (.bool true) ∧ Below w.heap.size w w') := by
  have i1 : ¬ (100000 : Int) < (m : Int) := by omega
  have i2 : ¬ (100000 : Int) < (m' : Int) := by omega
  have hbF := b_alloc (Below.refl w.heap.size w) (.cells #[.int .i64 k, .int .u32 s, .int .u32 q, .int .u32 n, .slice A m c] 25)
  have hBF := Blk.new w #[.int .i64 k, .int .u32 s, .int .u32 q, .int .u32 n, .slice A m c] 25
  have hb0 := hb.keep hbF
  have hb0' := hb'.keep hbF
  have hT0 := hT.keep hbF
  have hln := hb.len
  have hE2 : mayB k n dd.length = true := by rw [hln]; exact hE.out
  obtain ⟨hd1, hd2⟩ := wenc_dec (k := k) (s := s) (q := q) (n := n) (d := dd) hs hq hE2
  obtain ⟨k1, k6, m6, n6⟩ := mayB_kind hE2
  obtain ⟨e1, e2, e3, e4, e5, e6⟩ := wraw_tells (k := k) (s := s) (q := q) (n := n) (d := dd) (by omega) hs hq hn (by omega)
  have hd1' := Lib.hid hd1
  have hd2' := Lib.hid hd2
  have E1 := Lib.hid e1
  have E2 := Lib.hid e2
  have E3 := Lib.hid e3
  have E4 := Lib.hid e4
  have E5 := Lib.hid e5
  have E6 := Lib.hid e6
  clear hd1 hd2 e1 e2 e3 e4 e5 e6 hE2 k1 k6 m6 n6 hln
  go_enter Tryd.func5, Tryd.ntmps5
  go_wp2_with fail
  generalize w.alloc (.cells #[.int .i64 k, .int .u32 s, .int .u32 q, .int .u32 n, .slice A m c] 25) = W at hbF hBF hb0 hb0' hT0 ⊢
  generalize w.heap.size = gp at hBF ⊢
  refine (wgive_any k s q n A m c _).mono ?_
  rintro e w1 ⟨rfl, hbw1⟩
  have hB1 := hb0.keep hbw1
  have hT1 := hT0.keep hbw1
  go_wp2_with fail
  refine (enc_ok k s q n A m c dd _ hB1 hT1 hs hq hE.out).mono ?_
  rintro e w2 ⟨A2, c2, rfl, hown2, hb2⟩
  have hbw2 := b_then hbw1 hb2
  have hT2 := hT0.keep hbw2
  have hbs2 := hown2.bs
  go_wp2_with fail
  refine (dec_any A2 _ c2 _ _ hbs2 hT2).mono ?_
  intro e w3 hp
  have hp2 := decF_ok hp hd1'.out
  clear hp
  rw [hd2'.out] at hp2
  obtain ⟨A3, c3, rfl, hbs3, hb3⟩ := hp2
  rw [E6.out, E5.out] at hbs3
  rw [E1.out, E2.out, E3.out, E4.out, E5.out]
  have hbw3 := b_then hbw2 hb3
  have hba3 := b_alloc (Below.refl w3.heap.size w3) (.cells #[.int .i64 (k : Nat), .int .u32 (s : Nat), .int .u32 (q : Nat), .int .u32 (n : Nat), .slice A3 dd.length c3] 31)
  have hBk3 := Blk.new w3 #[.int .i64 (k : Nat), .int .u32 (s : Nat), .int .u32 (q : Nat), .int .u32 (n : Nat), .slice A3 dd.length c3] 31
  have hbv3 := b_then hbw3 hba3
  have hBp := hBF.keep hbv3
  have p0 := hBp.cell 0 rfl
  have p1 := hBp.cell 1 rfl
  have p2 := hBp.cell 2 rfl
  have p3 := hBp.cell 3 rfl
  have p4 := hBp.cell 4 rfl
  go_wp2_with fail
  generalize w3.alloc (.cells #[.int .i64 (k : Nat), .int .u32 (s : Nat), .int .u32 (q : Nat), .int .u32 (n : Nat), .slice A3 dd.length c3] 31) = v3 at hba3 hBk3 hbv3 hBp p0 p1 p2 p3 p4 ⊢
  generalize w3.heap.size = g3 at hBk3 ⊢
  clear p0 p1 p2 p3 p4
  have hBd := hb0.keep hbv3
  have hbs3' := hbs3.keep hba3
  refine (wsame_yes k s q n A3 A _ c3 m c dd _ hbs3' hBd).mono ?_
  rintro e w4 ⟨rfl, hb4⟩
  have hbx := b_then hbv3 hb4
  have hTx := hT0.keep hbx
  have hbxb := hb0'.keep hbx
  go_wp2_with fail
  refine (dec_any A' m' c' l _ hbxb hTx).mono ?_
  intro e w6 hp
  obtain ⟨rfl, hb6⟩ := decF_bad hp hD.out
  clear hp
  have hbw6 := b_then hbx hb6
  have hba6 := b_alloc (Below.refl w6.heap.size w6) (.cells #[.int .i64 0, .int .u32 0, .int .u32 0, .int .u32 0, .slice none 0 0] 31)
  have hBk6 := Blk.new w6 #[.int .i64 0, .int .u32 0, .int .u32 0, .int .u32 0, .slice none 0 0] 31
  have hbv6 := b_then hbw6 hba6
  go_wp2_with fail
  generalize w6.alloc (.cells #[.int .i64 0, .int .u32 0, .int .u32 0, .int .u32 0, .slice none 0 0] 31) = v6 at hba6 hBk6 hbv6 ⊢
  generalize w6.heap.size = g6 at hBk6 ⊢
  have hT6 := hT0.keep hbv6
  refine (sure22_any _ hT6).mono ?_
  rintro e w9 ⟨rfl, hb9⟩
  go_wp2_with fail
  go_ret
  exact ⟨rfl, b_then hbF (b_then hbv6 hb9)⟩

set_option maxHeartbeats 8000000 in
theorem wback_nd (k : Int) (s q n : Nat) (A : Option Addr) (m c : Nat) (dd : List Nat) (A' : Option Addr) (m' c' : Nat) (l : List Nat) (w : World) (hs : s < 4294967296) (hq : q < 4294967296) (hn : n < 4294967296) (hb : Bs w A m c dd) (hb' : Bs w A' m' c' l) (hT : TabW w) (hm1 : m ≤ 100000) (hm2 : m' ≤ 100000) (hE : Hid (mayB k n m = false)) (hD : Hid (wdE l = 0)) :
    Calls Tryd.prog 5 #[.agg #[.int .i64 k, .int .u32 s, .int .u32 q, .int .u32 n, .slice A m c], .slice A' m' c'] w (fun e w' => e = .returned (.bool true) ∧ Below w.heap.size w w') := by
  have i1 : ¬ (100000 : Int) < (m : Int) := by omega
  have i2 : ¬ (100000 : Int) < (m' : Int) := by omega
  have hbF := b_alloc (Below.refl w.heap.size w) (.cells #[.int .i64 k, .int .u32 s, .int .u32 q, .int .u32 n, .slice A m c] 25)
  have hBF := Blk.new w #[.int .i64 k, .int .u32 s, .int .u32 q, .int .u32 n, .slice A m c] 25
  have hb0 := hb.keep hbF
  have hb0' := hb'.keep hbF
  have hT0 := hT.keep hbF
  have hln' := hb'.len
  obtain ⟨hc1, hc2⟩ := wdE_ok hD.out
  have hwe := wdec_enc hb'.small hD.out
  obtain ⟨⟨h17, hfm⟩, hmay⟩ := (okW_iff _).1 hc2
  obtain ⟨fs1, fq1, fn1⟩ := f_small (c := l.take (l.length - 4)) (fun x hx => hb'.small x (List.mem_of_mem_take hx))
  have hfd : (fd (l.take (l.length - 4))).length = fm (l.take (l.length - 4)) := by unfold fd; rw [List.length_drop]; omega
  have hmay2 : mayB (fk (l.take (l.length - 4)) : Nat) (fn (l.take (l.length - 4)) : Nat) (fm (l.take (l.length - 4))) = true := hmay
  have hlen7 : (fd (l.take (l.length - 4))).length + 21 = m' := by have := congrArg List.length hwe; rw [wenc_length] at this; omega
  generalize hcc : l.take (l.length - 4) = cc at hwe hmay hmay2 fs1 fq1 fn1 hfd hlen7
  clear hc1 hc2 h17 hfm hmay
  have hwe' := Lib.hid hwe
  have hcc' := Lib.hid hcc
  have hfd' := Lib.hid hfd
  have hlen7' := Lib.hid hlen7
  have hmay' := Lib.hid hmay2
  clear hwe hcc hfd hlen7 hmay2 hln'
  go_enter Tryd.func5, Tryd.ntmps5
  go_wp2_with fail
  generalize w.alloc (.cells #[.int .i64 k, .int .u32 s, .int .u32 q, .int .u32 n, .slice A m c] 25) = W at hbF hBF hb0 hb0' hT0 ⊢
  generalize w.heap.size = gp at hBF ⊢
  refine (wgive_any k s q n A m c _).mono ?_
  rintro e w1 ⟨rfl, hbw1⟩
  have hB1 := hb0.keep hbw1
  have hT1 := hT0.keep hbw1
  go_wp2_with fail
  refine (enc_bad k s q n A m c _ hE.out).mono ?_
  rintro e w2 ⟨rfl, hb2⟩
  have hbx := b_then hbw1 hb2
  have hTx := hT0.keep hbx
  have hbxb := hb0'.keep hbx
  go_wp2_with fail
  refine (dec_any A' m' c' l _ hbxb hTx).mono ?_
  intro e w6 hp
  have hp2 := decF_ok hp hD.out
  clear hp
  rw [hcc'.out] at hp2
  obtain ⟨A6, c6, rfl, hbs6, hb6⟩ := hp2
  have hbw6 := b_then hbx hb6
  have hba6 := b_alloc (Below.refl w6.heap.size w6) (.cells #[.int .i64 (fk cc : Nat), .int .u32 (fs cc : Nat), .int .u32 (fq cc : Nat), .int .u32 (fn cc : Nat), .slice A6 (fm cc) c6] 31)
  have hBk6 := Blk.new w6 #[.int .i64 (fk cc : Nat), .int .u32 (fs cc : Nat), .int .u32 (fq cc : Nat), .int .u32 (fn cc : Nat), .slice A6 (fm cc) c6] 31
  have hbv6 := b_then hbw6 hba6
  go_wp2_with fail
  generalize w6.alloc (.cells #[.int .i64 (fk cc : Nat), .int .u32 (fs cc : Nat), .int .u32 (fq cc : Nat), .int .u32 (fn cc : Nat), .slice A6 (fm cc) c6] 31) = v6 at hba6 hBk6 hbv6 ⊢
  generalize w6.heap.size = g6 at hBk6 ⊢
  have hbs6' := hbs6.keep hba6
  have hT6 := hT0.keep hbv6
  refine (enc_ok (fk cc) (fs cc) (fq cc) (fn cc) A6 _ c6 (fd cc) _ hbs6' hT6 fs1 fq1 hmay'.out).mono ?_
  rintro e w7 ⟨A7, c7, rfl, hown7, hb7⟩
  rw [hwe'.out, hlen7'.out] at hown7
  rw [hlen7'.out]
  have hbs7 := hown7.bs
  have hbw7 := b_then hbv6 hb7
  have hT7 := hT0.keep hbw7
  have hb7' := hb0'.keep hbw7
  have hBk7 := hBk6.keep hb7
  have r0 := hBk7.cell 0 rfl
  have r1 := hBk7.cell 1 rfl
  have r2 := hBk7.cell 2 rfl
  have r3 := hBk7.cell 3 rfl
  have r4 := hBk7.cell 4 rfl
  have hcv1 := run_str (P := Tryd.prog) 23 5 9 Tryd.underlying23 Tryd.underlying5 Tryd.underlying9 hbs7
  have hcv2 := run_str (P := Tryd.prog) 23 5 9 Tryd.underlying23 Tryd.underlying5 Tryd.underlying9 hb7'
  generalize strOf l = st at hcv1 hcv2
  go_wp2_with fail
  refine (check_ok (fk cc) (fs cc) (fq cc) (fn cc) A6 (fm cc) c6 _ hmay'.out).mono ?_
  rintro e w8 ⟨rfl, hb8⟩
  have hbw8 := b_then hbw7 hb8
  have hT8 := hT0.keep hbw8
  go_wp2_with fail
  refine (sure22_any _ hT8).mono ?_
  rintro e w9 ⟨rfl, hb9⟩
  go_wp2_with fail
  go_ret
  exact ⟨rfl, b_then hbF (b_then hbw8 hb9)⟩

set_option maxHeartbeats 8000000 in
theorem wback_nn (k : Int) (s q n : Nat) (A : Option Addr) (m c : Nat) (dd : List Nat) (A' : Option Addr) (m' c' : Nat) (l : List Nat) (w : World) (hs : s < 4294967296) (hq : q < 4294967296) (hn : n < 4294967296) (hb : Bs w A m c dd) (hb' : Bs w A' m' c' l) (hT : TabW w) (hm1 : m ≤ 100000) (hm2 : m' ≤ 100000) (hE : Hid (mayB k n m = false)) (hD : Hid (wdE l ≠ 0)) :
    Calls Tryd.prog 5 #[.agg #[.int .i64 k, .int .u32 s, .int .u32 q, .int .u32 n, .slice A m c], .slice A' m' c'] w (fun e w' => e = .returned (.bool true) ∧ Below w.heap.size w w') := by
  have i1 : ¬ (100000 : Int) < (m : Int) := by omega
  have i2 : ¬ (100000 : Int) < (m' : Int) := by omega
  have hbF := b_alloc (Below.refl w.heap.size w) (.cells #[.int .i64 k, .int .u32 s, .int .u32 q, .int .u32 n, .slice A m c] 25)
  have hBF := Blk.new w #[.int .i64 k, .int .u32 s, .int .u32 q, .int .u32 n, .slice A m c] 25
  have hb0 := hb.keep hbF
  have hb0' := hb'.keep hbF
  have hT0 := hT.keep hbF
  go_enter Tryd.func5, Tryd.ntmps5
  go_wp2_with fail
  generalize w.alloc (.cells #[.int .i64 k, .int .u32 s, .int .u32 q, .int .u32 n, .slice A m c] 25) = W at hbF hBF hb0 hb0' hT0 ⊢
  generalize w.heap.size = gp at hBF ⊢
  refine (wgive_any k s q n A m c _).mono ?_
  rintro e w1 ⟨rfl, hbw1⟩
  have hB1 := hb0.keep hbw1
  have hT1 := hT0.keep hbw1
  go_wp2_with fail
  refine (enc_bad k s q n A m c _ hE.out).mono ?_
  rintro e w2 ⟨rfl, hb2⟩
  have hbx := b_then hbw1 hb2
  have hTx := hT0.keep hbx
  have hbxb := hb0'.keep hbx
  go_wp2_with fail
  refine (dec_any A' m' c' l _ hbxb hTx).mono ?_
  intro e w6 hp
  obtain ⟨rfl, hb6⟩ := decF_bad hp hD.out
  clear hp
  have hbw6 := b_then hbx hb6
  have hba6 := b_alloc (Below.refl w6.heap.size w6) (.cells #[.int .i64 0, .int .u32 0, .int .u32 0, .int .u32 0, .slice none 0 0] 31)
  have hBk6 := Blk.new w6 #[.int .i64 0, .int .u32 0, .int .u32 0, .int .u32 0, .slice none 0 0] 31
  have hbv6 := b_then hbw6 hba6
  go_wp2_with fail
  generalize w6.alloc (.cells #[.int .i64 0, .int .u32 0, .int .u32 0, .int .u32 0, .slice none 0 0] 31) = v6 at hba6 hBk6 hbv6 ⊢
  generalize w6.heap.size = g6 at hBk6 ⊢
  have hT6 := hT0.keep hbv6
  refine (sure22_any _ hT6).mono ?_
  rintro e w9 ⟨rfl, hb9⟩
  go_wp2_with fail
  go_ret
  exact ⟨rfl, b_then hbF (b_then hbv6 hb9)⟩

theorem law_wireback (k : Int) (s q n : Nat) (A : Option Addr) (m c : Nat) (dd : List Nat) (A' : Option Addr) (m' c' : Nat) (l : List Nat) (w : World) (hs : s < 4294967296) (hq : q < 4294967296) (hn : n < 4294967296) (hb : Bs w A m c dd) (hb' : Bs w A' m' c' l) (hT : TabW w) :
    Calls Tryd.prog 5 #[.agg #[.int .i64 k, .int .u32 s, .int .u32 q, .int .u32 n, .slice A m c], .slice A' m' c'] w (fun e w' => e = .returned (.bool true) ∧ Below w.heap.size w w') := by
  by_cases hm1 : 100000 < m
  · exact wback_long k s q n A m c A' m' c' w hT hm1
  · by_cases hm2 : 100000 < m'
    · exact wback_big k s q n A m c A' m' c' w hT (by omega) hm2
    · have i1 : m ≤ 100000 := by omega
      have i2 : m' ≤ 100000 := by omega
      cases hE : mayB k n m with
      | true =>
        obtain ⟨k1, k6, _, _⟩ := mayB_kind hE
        obtain ⟨kn, rfl⟩ : ∃ kn : Nat, k = (kn : Int) := ⟨k.toNat, by omega⟩
        by_cases hD : wdE l = 0
        · exact wback_ed kn s q n A m c dd A' m' c' l w hs hq hn hb hb' hT i1 i2 hE hD
        · exact wback_en kn s q n A m c dd A' m' c' l w hs hq hn hb hb' hT i1 i2 hE hD
      | false =>
        by_cases hD : wdE l = 0
        · exact wback_nd k s q n A m c dd A' m' c' l w hs hq hn hb hb' hT i1 i2 hE hD
        · exact wback_nn k s q n A m c dd A' m' c' l w hs hq hn hb hb' hT i1 i2 hE hD
end Go.Proofs.YtifkfcjapomlbaaDoor
