/-
  Frames as bytes: the math.
-/
import Derived.Test.YtifkfcjapomlbaaDoorFrame
namespace Go.Proofs.YtifkfcjapomlbaaDoor
open Go.RowKit
set_option linter.unusedVariables false
set_option linter.unusedSimpArgs false

/-- A frame's bytes, ahead of the tail. -/
def wpre (k s q n : Nat) : Nat → List Nat
  | 0 => Tl.le 1 k
  | 1 => Tl.le 1 k ++ Tl.le 4 s
  | 2 => Tl.le 1 k ++ Tl.le 4 s ++ Tl.le 4 q
  | _ => Tl.le 1 k ++ Tl.le 4 s ++ Tl.le 4 q ++ Tl.le 4 n
def wraw (k s q n : Nat) (d : List Nat) : List Nat := wpre k s q n 3 ++ Tl.le 4 d.length ++ d
def wenc (k s q n : Nat) (d : List Nat) : List Nat := tailed (wraw k s q n d)
theorem wpre_length (k s q n : Nat) : (wpre k s q n 3).length = 13 := by simp [wpre, Tl.le_length]
theorem wraw_length (k s q n : Nat) (d : List Nat) : (wraw k s q n d).length = d.length + 17 := by
  simp only [wraw, List.length_append, wpre_length, Tl.le_length]; omega
theorem mayB_kind {k n : Int} {m : Nat} (h : mayB k n m = true) : 1 ≤ k ∧ k ≤ 6 ∧ m ≤ 65536 ∧ n ≤ 16383 := by
  have := of_decide_eq_true h
  omega
theorem wenc_length (k s q n : Nat) (d : List Nat) : (wenc k s q n d).length = d.length + 21 := by
  unfold wenc; rw [tailed_len, wraw_length]
theorem wraw_small {k s q n : Nat} {d : List Nat} (h : ∀ x ∈ d, x < 256) : ∀ x ∈ wraw k s q n d, x < 256 := by
  intro x hx
  simp only [wraw, wpre, List.mem_append] at hx
  rcases hx with ((((h1 | h1) | h1) | h1) | h1) | h1
  · exact Tl.le_small _ _ x h1
  · exact Tl.le_small _ _ x h1
  · exact Tl.le_small _ _ x h1
  · exact Tl.le_small _ _ x h1
  · exact Tl.le_small _ _ x h1
  · exact h x h1

/-- What the bytes ahead of the tail tell. -/
def fk (c : List Nat) : Nat := Tl.num (c.take 1)
def fs (c : List Nat) : Nat := Tl.num ((c.drop 1).take 4)
def fq (c : List Nat) : Nat := Tl.num ((c.drop 5).take 4)
def fn (c : List Nat) : Nat := Tl.num ((c.drop 9).take 4)
def fm (c : List Nat) : Nat := Tl.num ((c.drop 13).take 4)
def fd (c : List Nat) : List Nat := c.drop 17
def okW (c : List Nat) : Bool := decide (17 ≤ c.length ∧ fm c = c.length - 17) && mayB (fk c : Nat) (fn c : Nat) (fm c)
theorem okW_iff (c : List Nat) : okW c = true ↔ (17 ≤ c.length ∧ fm c = c.length - 17) ∧ mayB (fk c : Nat) (fn c : Nat) (fm c) = true := by
  unfold okW
  rw [Bool.and_eq_true, decide_eq_true_iff]

/-- The five takings. -/
def t1 (top : Nat) (c : List Nat) := Tl.takeN ⟨c, 0⟩ 1 top
def t2 (top : Nat) (c : List Nat) := Tl.takeN (t1 top c).1 4 4294967295
def t3 (top : Nat) (c : List Nat) := Tl.takeN (t2 top c).1 4 4294967295
def t4 (top : Nat) (c : List Nat) := Tl.takeN (t3 top c).1 4 4294967295
def t5 (top : Nat) (c : List Nat) := Tl.takeRun (t4 top c).1 65536
theorem tN_ok {s : Tl.In} {n : Int} {top : Nat} (h : (Tl.takeN s n top).1.e = 0) : s.e = 0 ∧ n ≤ (s.b.length : Int) ∧ Tl.num (s.b.take n.toNat) ≤ top ∧ Tl.takeN s n top = (⟨s.b.drop n.toNat, 0⟩, Tl.num (s.b.take n.toNat)) := by
  by_cases hp : peekE s n top 4 = 0
  · obtain ⟨h0, h1, h8, hl, ht, he⟩ := takeN_ok hp
    exact ⟨h0, hl, ht, he⟩
  · rw [takeN_bad hp] at h
    exact absurd h hp
theorem tN_of {l : List Nat} {k : Nat} {top : Nat} (h1 : 1 ≤ k) (h8 : k ≤ 8) (hl : k ≤ l.length) (ht : Tl.num (l.take k) ≤ top) : Tl.takeN ⟨l, 0⟩ (k : Int) top = (⟨l.drop k, 0⟩, Tl.num (l.take k)) := by
  unfold Tl.takeN
  rw [if_neg (by simp), if_neg (by omega), if_neg (by simp only; omega), if_neg (by simp only [Int.toNat_natCast]; omega)]
  simp
theorem tR_ok {s : Tl.In} {top : Int} (h : (Tl.takeRun s top).1.e = 0) : s.e = 0 ∧ 4 ≤ s.b.length ∧ (Tl.num (s.b.take 4) : Int) ≤ top ∧ 4 + Tl.num (s.b.take 4) ≤ s.b.length ∧ Tl.takeRun s top = (⟨s.b.drop (4 + Tl.num (s.b.take 4)), 0⟩, (s.b.drop 4).take (Tl.num (s.b.take 4))) := by
  rcases s with ⟨l, e⟩
  revert h
  unfold Tl.takeRun
  by_cases h0 : e = 0 <;> by_cases h1 : top < 0 <;> by_cases h2 : l.length < 4 <;> by_cases h3 : top < (Tl.num (l.take 4) : Int) <;> by_cases h4 : l.length - 4 < Tl.num (l.take 4) <;> simp [h0, h1, h2, h3, h4]
  omega
theorem tR_of {l : List Nat} {top : Int} (h4 : 4 ≤ l.length) (ht : (Tl.num (l.take 4) : Int) ≤ top) (hl : 4 + Tl.num (l.take 4) ≤ l.length) : Tl.takeRun ⟨l, 0⟩ top = (⟨l.drop (4 + Tl.num (l.take 4)), 0⟩, (l.drop 4).take (Tl.num (l.take 4))) := by
  unfold Tl.takeRun
  rw [if_neg (by simp), if_neg (by omega), if_neg (by simp only; omega), if_neg (by simp only; omega), if_neg (by simp only; omega)]
theorem fn_lt {c : List Nat} (hs : ∀ x ∈ c, x < 256) (i : Nat) : Tl.num ((c.drop i).take 4) < 4294967296 := Tl.num_take_lt (c.drop i) (fun x hx => hs x (List.mem_of_mem_drop hx)) 4
/-- All is taken, if the bytes are a frame's. -/
theorem takes_ok {top : Nat} {c : List Nat} (ht : 6 ≤ top) (hs : ∀ x ∈ c, x < 256) (h : okW c = true) :
    t1 top c = (⟨c.drop 1, 0⟩, fk c) ∧ t2 top c = (⟨c.drop 5, 0⟩, fs c) ∧ t3 top c = (⟨c.drop 9, 0⟩, fq c) ∧ t4 top c = (⟨c.drop 13, 0⟩, fn c) ∧ t5 top c = (⟨[], 0⟩, fd c) ∧ (fd c).length = fm c := by
  obtain ⟨⟨h17, hm⟩, hmay⟩ := (okW_iff c).1 h
  obtain ⟨k1, k6, m6, n6⟩ := mayB_kind hmay
  have e1 : t1 top c = (⟨c.drop 1, 0⟩, fk c) := tN_of (k := 1) (by decide) (by decide) (by omega) (by unfold fk at k6; omega)
  have e2 : t2 top c = (⟨c.drop 5, 0⟩, fs c) := by
    unfold t2; rw [e1]
    have := tN_of (l := c.drop 1) (k := 4) (top := 4294967295) (by decide) (by decide) (by rw [List.length_drop]; omega) (by have := fn_lt hs 1; omega)
    rw [List.drop_drop] at this
    exact this
  have e3 : t3 top c = (⟨c.drop 9, 0⟩, fq c) := by
    unfold t3; rw [e2]
    have := tN_of (l := c.drop 5) (k := 4) (top := 4294967295) (by decide) (by decide) (by rw [List.length_drop]; omega) (by have := fn_lt hs 5; omega)
    rw [List.drop_drop] at this
    exact this
  have e4 : t4 top c = (⟨c.drop 13, 0⟩, fn c) := by
    unfold t4; rw [e3]
    have := tN_of (l := c.drop 9) (k := 4) (top := 4294967295) (by decide) (by decide) (by rw [List.length_drop]; omega) (by have := fn_lt hs 9; omega)
    rw [List.drop_drop] at this
    exact this
  have e5 : t5 top c = (⟨[], 0⟩, fd c) := by
    unfold t5; rw [e4]
    have hfm : Tl.num ((c.drop 13).take 4) = c.length - 17 := hm
    have := tR_of (l := c.drop 13) (top := 65536) (by rw [List.length_drop]; omega) (by rw [hfm]; omega) (by rw [hfm, List.length_drop]; omega)
    rw [this, hfm, List.drop_drop, List.drop_drop, List.drop_of_length_le (by omega)]
    simp only [fd]
    rw [List.take_of_length_le (by rw [List.length_drop]; omega)]
  exact ⟨e1, e2, e3, e4, e5, by unfold fd; rw [List.length_drop]; omega⟩
/-- And only then. -/
theorem takes_no {top : Nat} {c : List Nat} (h : okW c = false) : ¬ (Tl.done (t5 top c).1 = 0 ∧ mayB ((t1 top c).2 : Nat) ((t4 top c).2 : Nat) (t5 top c).2.length = true) := by
  rintro ⟨hd, hm⟩
  have h5 : (t5 top c).1.e = 0 := by
    unfold Tl.done at hd
    split at hd
    · omega
    · exact hd
  obtain ⟨e4, l5, m5, k5, r5⟩ := tR_ok h5
  obtain ⟨e3, l4, m4, r4⟩ := tN_ok e4
  obtain ⟨e2, l3, m3, r3⟩ := tN_ok e3
  obtain ⟨e1, l2, m2, r2⟩ := tN_ok e2
  obtain ⟨e0, l1, m1, r1⟩ := tN_ok e1
  have q1 : t1 top c = (⟨c.drop 1, 0⟩, fk c) := r1
  have q2 : t2 top c = (⟨c.drop 5, 0⟩, fs c) := by
    have : t2 top c = _ := r2
    rw [this]
    change ((⟨(t1 top c).1.b.drop 4, 0⟩, Tl.num ((t1 top c).1.b.take 4)) : Tl.In × Nat) = _
    rw [q1]
    simp only [List.drop_drop]
    rfl
  have q3 : t3 top c = (⟨c.drop 9, 0⟩, fq c) := by
    have : t3 top c = _ := r3
    rw [this]
    change ((⟨(t2 top c).1.b.drop 4, 0⟩, Tl.num ((t2 top c).1.b.take 4)) : Tl.In × Nat) = _
    rw [q2]
    simp only [List.drop_drop]
    rfl
  have q4 : t4 top c = (⟨c.drop 13, 0⟩, fn c) := by
    have : t4 top c = _ := r4
    rw [this]
    change ((⟨(t3 top c).1.b.drop 4, 0⟩, Tl.num ((t3 top c).1.b.take 4)) : Tl.In × Nat) = _
    rw [q3]
    simp only [List.drop_drop]
    rfl
  have q5 : t5 top c = _ := r5
  rw [q4] at q5 l5 k5
  simp only [List.drop_drop, List.length_drop] at q5 l5 k5
  rw [q5] at hd hm
  rw [q1, q4] at hm
  have hb : (c.drop (13 + (4 + Tl.num ((c.drop 13).take 4)))).length = 0 := by
    rcases Nat.eq_zero_or_pos (c.drop (13 + (4 + Tl.num ((c.drop 13).take 4)))).length with h0 | h0
    · exact h0
    · rw [Tl.done, if_pos ⟨rfl, h0⟩] at hd
      cases hd
  rw [List.length_drop] at hb
  have hfm : fm c = Tl.num ((c.drop 13).take 4) := rfl
  rw [← hfm] at hb k5 hm
  have hlen : (List.take (fm c) (List.drop (13 + 4) c)).length = fm c := by rw [List.length_take, List.length_drop]; omega
  simp only [hlen] at hm
  have : okW c = true := (okW_iff c).2 ⟨by omega, hm⟩
  rw [h] at this
  cases this

/-- A frame's bytes tell the frame. -/
theorem num_le' {n v : Nat} (h : v < 256 ^ n) : Tl.num (Tl.le n v) = v := by rw [Tl.num_le, Nat.mod_eq_of_lt h]
theorem wraw_split (k s q n : Nat) (d : List Nat) : wraw k s q n d = Tl.le 1 k ++ (Tl.le 4 s ++ (Tl.le 4 q ++ (Tl.le 4 n ++ (Tl.le 4 d.length ++ d)))) := by simp [wraw, wpre]
theorem drop_le (m v j : Nat) (r : List Nat) : (Tl.le m v ++ r).drop (m + j) = r.drop j := by
  rw [List.drop_append, Tl.le_length, List.drop_of_length_le (by rw [Tl.le_length]; omega), List.nil_append]
  congr 1
  omega
theorem take_le (m v : Nat) (r : List Nat) : (Tl.le m v ++ r).take m = Tl.le m v := by
  rw [List.take_append, Tl.le_length, Nat.sub_self, List.take_zero, List.append_nil, List.take_of_length_le (by rw [Tl.le_length]; omega)]
theorem wraw_tells {k s q n : Nat} {d : List Nat} (hk : k < 256) (hs : s < 4294967296) (hq : q < 4294967296) (hn : n < 4294967296) (hd : d.length < 4294967296) :
    fk (wraw k s q n d) = k ∧ fs (wraw k s q n d) = s ∧ fq (wraw k s q n d) = q ∧ fn (wraw k s q n d) = n ∧ fm (wraw k s q n d) = d.length ∧ fd (wraw k s q n d) = d := by
  have d1 : (wraw k s q n d).drop 1 = Tl.le 4 s ++ (Tl.le 4 q ++ (Tl.le 4 n ++ (Tl.le 4 d.length ++ d))) := by rw [wraw_split]; exact drop_le 1 k 0 _
  have d5 : (wraw k s q n d).drop 5 = Tl.le 4 q ++ (Tl.le 4 n ++ (Tl.le 4 d.length ++ d)) := by
    have := congrArg (List.drop 4) d1; rw [List.drop_drop] at this; rw [this]; exact drop_le 4 s 0 _
  have d9 : (wraw k s q n d).drop 9 = Tl.le 4 n ++ (Tl.le 4 d.length ++ d) := by
    have := congrArg (List.drop 4) d5; rw [List.drop_drop] at this; rw [this]; exact drop_le 4 q 0 _
  have d13 : (wraw k s q n d).drop 13 = Tl.le 4 d.length ++ d := by
    have := congrArg (List.drop 4) d9; rw [List.drop_drop] at this; rw [this]; exact drop_le 4 n 0 _
  have d17 : (wraw k s q n d).drop 17 = d := by
    have := congrArg (List.drop 4) d13; rw [List.drop_drop] at this; rw [this]; exact drop_le 4 d.length 0 _
  unfold fk fs fq fn fm fd
  rw [d1, d5, d9, d13, d17, take_le, take_le, take_le, take_le, wraw_split, take_le, num_le' hk, num_le' hs, num_le' hq, num_le' hn, num_le' hd]
  exact ⟨rfl, rfl, rfl, rfl, rfl, rfl⟩
theorem wraw_ok {k s q n : Nat} {d : List Nat} (hs : s < 4294967296) (hq : q < 4294967296) (h : mayB k n d.length = true) : okW (wraw k s q n d) = true := by
  obtain ⟨k1, k6, m6, n6⟩ := mayB_kind h
  obtain ⟨e1, e2, e3, e4, e5, e6⟩ := wraw_tells (k := k) (s := s) (q := q) (n := n) (d := d) (by omega) hs hq (by omega) (by omega)
  refine (okW_iff _).2 ⟨⟨by rw [wraw_length]; omega, by rw [e5, wraw_length]; omega⟩, by rw [e1, e4, e5]; exact h⟩
/-- What a frame's bytes tell makes these bytes. -/
theorem le_tell {c : List Nat} (hs : ∀ x ∈ c, x < 256) (i : Nat) (hl : i + 4 ≤ c.length) : Tl.le 4 (Tl.num ((c.drop i).take 4)) = (c.drop i).take 4 := by
  have h4 : ((c.drop i).take 4).length = 4 := by rw [List.length_take, List.length_drop]; omega
  have := Tl.le_num ((c.drop i).take 4) (fun x hx => hs x (List.mem_of_mem_drop (List.mem_of_mem_take hx)))
  rwa [h4] at this
theorem wraw_of {c : List Nat} (hs : ∀ x ∈ c, x < 256) (h : okW c = true) : wraw (fk c) (fs c) (fq c) (fn c) (fd c) = c := by
  obtain ⟨⟨h17, hm⟩, hmay⟩ := (okW_iff c).1 h
  have hd : (fd c).length = fm c := by unfold fd; rw [List.length_drop]; omega
  have hk : Tl.le 1 (fk c) = c.take 1 := by
    have h1 : (c.take 1).length = 1 := by rw [List.length_take]; omega
    have := Tl.le_num (c.take 1) (fun x hx => hs x (List.mem_of_mem_take hx))
    rwa [h1] at this
  rw [wraw_split, hd, hk]
  unfold fs fq fn fm fd
  rw [le_tell hs 1 (by omega), le_tell hs 5 (by omega), le_tell hs 9 (by omega), le_tell hs 13 (by omega)]
  have a (i : Nat) : (c.drop i).take 4 ++ c.drop (i + 4) = c.drop i := by rw [← List.drop_drop]; exact List.take_append_drop 4 _
  rw [a 13, a 9, a 5, a 1, List.take_append_drop]
theorem f_small {c : List Nat} (hs : ∀ x ∈ c, x < 256) : fs c < 4294967296 ∧ fq c < 4294967296 ∧ fn c < 4294967296 := ⟨fn_lt hs 1, fn_lt hs 5, fn_lt hs 9⟩

/-- The error of any bytes. -/
def wdE (b : List Nat) : Nat := if cutE b ≠ 0 then cutE b else if okW (b.take (b.length - 4)) = true then 0 else 3
theorem wdE_ok {b : List Nat} (h : wdE b = 0) : cutE b = 0 ∧ okW (b.take (b.length - 4)) = true := by
  unfold wdE at h
  by_cases h1 : cutE b ≠ 0
  · rw [if_pos h1] at h; exact absurd h h1
  · rw [if_neg h1] at h
    by_cases h2 : okW (b.take (b.length - 4)) = true
    · exact ⟨by omega, h2⟩
    · rw [if_neg h2] at h; cases h
theorem cutE_ok {b : List Nat} (h : cutE b = 0) : 4 ≤ b.length ∧ sealed b = true := by
  unfold cutE at h
  split at h
  · cases h
  · split at h
    · rename_i h1 h2; exact ⟨by omega, h2⟩
    · cases h
theorem tailed_cut {l : List Nat} : cutE (tailed l) = 0 ∧ (tailed l).take ((tailed l).length - 4) = l := by
  have hl : (tailed l).length = l.length + 4 := tailed_len l
  have ht : (tailed l).take l.length = l := by unfold tailed; rw [List.take_left']; rfl
  refine ⟨?_, by rw [hl, Nat.add_sub_cancel, ht]⟩
  unfold cutE
  rw [if_neg (by omega), if_pos]
  exact (tailed_take hl).1 (by rw [ht])
theorem wenc_dec {k s q n : Nat} {d : List Nat} (hs : s < 4294967296) (hq : q < 4294967296) (h : mayB k n d.length = true) :
    wdE (wenc k s q n d) = 0 ∧ (wenc k s q n d).take ((wenc k s q n d).length - 4) = wraw k s q n d := by
  obtain ⟨h1, h2⟩ := tailed_cut (l := wraw k s q n d)
  refine ⟨?_, h2⟩
  unfold wdE wenc
  rw [if_neg (by simp [h1]), h2, if_pos (wraw_ok hs hq h)]
theorem wdec_enc {b : List Nat} (hs : ∀ x ∈ b, x < 256) (h : wdE b = 0) :
    wenc (fk (b.take (b.length - 4))) (fs (b.take (b.length - 4))) (fq (b.take (b.length - 4))) (fn (b.take (b.length - 4))) (fd (b.take (b.length - 4))) = b := by
  obtain ⟨h1, h2⟩ := wdE_ok h
  obtain ⟨h4, hse⟩ := cutE_ok h1
  unfold wenc
  rw [wraw_of (fun x hx => hs x (List.mem_of_mem_take hx)) h2]
  exact (tailed_take (m := b.length - 4) (by omega)).2 hse
end Go.Proofs.YtifkfcjapomlbaaDoor
