/-
  Plain math: a file of sections, and what it tells.
-/
import Derived.Test.YtcoiaggedipapaaDoorNear
import Derived.Test.YtcoiaggedipapaaDoorTlm
namespace Go.Proofs.YtcoiaggedipapaaDoor
set_option linter.unusedVariables false
set_option linter.unusedSimpArgs false
namespace Tl
structure Sec where
  tag : Nat
  b : List Nat
def magic : List Nat := [80, 78, 67, 69]
def secHead (s : Sec) : List Nat := le 4 s.tag ++ le 4 s.b.length
def secBytes (s : Sec) : List Nat := tailed (secHead s ++ s.b)
def body : List Sec → List Nat
  | [] => []
  | s :: l => secBytes s ++ body l
def head (v n : Nat) : List Nat := magic ++ le 4 v ++ le 4 n
def file (v : Nat) (l : List Sec) : List Nat := tailed (head v l.length ++ body l)
def size : List Sec → Nat
  | [] => 16
  | s :: l => 12 + s.b.length + size l
def tagAt (l : List Sec) (j : Nat) : Nat := (l.map (·.tag)).getD j 0
/-- The tags ascend, as far as k. -/
def Rises (l : List Sec) (k : Nat) : Prop := ∀ j, 0 < j → j < k → tagAt l (j - 1) < tagAt l j
instance (l : List Sec) (k : Nat) : Decidable (Rises l k) := decidable_of_iff (∀ j : Fin k, 0 < j.1 → tagAt l (j.1 - 1) < tagAt l j.1) ⟨fun h j h0 hj => h ⟨j, hj⟩ h0, fun h j h0 => h j.1 h0 j.2⟩
def encE (l : List Sec) : Nat := if Rises l l.length then (if 4096 < l.length ∨ 134217728 < size l then 2 else 0) else 31
/-- What a section may be. -/
def SecOk (s : Sec) : Prop := s.tag < 4294967296 ∧ ∀ x ∈ s.b, x < 256

theorem secBytes_length (s : Sec) : (secBytes s).length = 12 + s.b.length := by
  rw [secBytes, tailed_len, secHead]; simp [le_length]; omega
theorem body_length : ∀ l : List Sec, (body l).length + 16 = size l
  | [] => rfl
  | s :: l => by
    have := body_length l
    simp only [body, size, List.length_append, secBytes_length]
    omega
theorem head_length (v n : Nat) : (head v n).length = 12 := by simp [head, magic, le_length]
theorem file_length (v : Nat) (l : List Sec) : (file v l).length = size l := by
  rw [file, tailed_len, List.length_append, head_length, ← body_length]; omega
theorem secHead_small (s : Sec) : ∀ x ∈ secHead s, x < 256 := by
  intro x hx
  rcases List.mem_append.1 hx with h | h <;> exact le_small _ _ x h
theorem secBytes_small (s : Sec) (h : SecOk s) : ∀ x ∈ secBytes s, x < 256 := tailed_small _ fun x hx => (List.mem_append.1 hx).elim (secHead_small s x) (h.2 x)
theorem body_small : ∀ l : List Sec, (∀ s ∈ l, SecOk s) → ∀ x ∈ body l, x < 256
  | [], _ => by intro x h; cases h
  | s :: l, h => by
    intro x hx
    rcases List.mem_append.1 hx with hx | hx
    · exact secBytes_small s (h s (by simp)) x hx
    · exact body_small l (fun s hs => h s (by simp [hs])) x hx
theorem head_small (v n : Nat) : ∀ x ∈ head v n, x < 256 := by
  intro x hx
  rcases List.mem_append.1 hx with hx | hx
  · rcases List.mem_append.1 hx with hx | hx
    · simp [magic] at hx; omega
    · exact le_small _ _ x hx
  · exact le_small _ _ x hx
theorem file_small (v : Nat) (l : List Sec) (h : ∀ s ∈ l, SecOk s) : ∀ x ∈ file v l, x < 256 := tailed_small _ fun x hx => (List.mem_append.1 hx).elim (head_small _ _ x) (body_small l h x)

/-! ### what bytes tell -/
def secN (r : List Nat) : Nat := num ((r.take 8).drop 4)
def secE (r : List Nat) : Nat :=
  if r.length < 12 then 12 else if r.length - 12 < secN r then 12 else if sealed (r.take (12 + secN r)) = true then 0 else 11
def secOf (r : List Nat) : Sec := ⟨num (r.take 4), (r.take (8 + secN r)).drop 8⟩
def notAbove (last : Option Nat) (t : Nat) : Bool := match last with | none => false | some u => decide (t ≤ u)
def secs : Nat → Option Nat → List Nat → Nat × List Sec
  | 0, _, r => (if r.length = 0 then 0 else 3, [])
  | k + 1, last, r =>
    if secE r ≠ 0 then (secE r, []) else if notAbove last (secOf r).tag = true then (31, []) else
      ((secs k (some (secOf r).tag) (r.drop (12 + secN r))).1, secOf r :: (secs k (some (secOf r).tag) (r.drop (12 + secN r))).2)
def many (b : List Nat) : Nat := num ((b.take 12).drop 8)
def wholeE (b : List Nat) : Nat :=
  if 134217728 < b.length then 2 else if b.length < 16 then 12 else if b.take 4 ≠ magic then 3 else if sealed b = true then (if 4096 < many b then 2 else 0) else 11
def inner (b : List Nat) : List Nat := (b.take (b.length - 4)).drop 12
def decE (b : List Nat) : Nat := if wholeE b ≠ 0 then wholeE b else (secs (many b) none (inner b)).1
def decL (b : List Nat) : List Sec := (secs (many b) none (inner b)).2
def decV (b : List Nat) : Nat := num ((b.take 8).drop 4)

theorem sealed_iff_tailed (l : List Nat) : sealed l = true ↔ ∃ x, l = tailed x := by
  unfold sealed
  constructor
  · intro h
    simp only [Bool.and_eq_true, decide_eq_true_eq] at h
    refine ⟨l.take (l.length - 4), ?_⟩
    unfold tailed
    rw [h.2, List.take_append_drop]
  · rintro ⟨x, rfl⟩
    simp only [Bool.and_eq_true, decide_eq_true_eq, tailed_len, Nat.add_sub_cancel]
    refine ⟨by omega, ?_⟩
    unfold tailed
    rw [List.take_left, List.drop_left]
theorem sealed_tailed (l : List Nat) : sealed (tailed l) = true := (sealed_iff_tailed _).2 ⟨l, rfl⟩
theorem sealed_eq {l : List Nat} (h : sealed l = true) : l = tailed (l.take (l.length - 4)) := by
  obtain ⟨x, rfl⟩ := (sealed_iff_tailed _).1 h
  rw [tailed_len, Nat.add_sub_cancel]
  congr 1
  unfold tailed
  rw [List.take_left]

/-! ### a file tells what it was made of -/
theorem secN_bytes (s : Sec) (m : List Nat) (h : s.b.length < 4294967296) : secN (secBytes s ++ m) = s.b.length := by
  unfold secN secBytes tailed secHead
  have e : (le 4 s.tag ++ le 4 s.b.length ++ s.b ++ Crc.tail4 (ofN (le 4 s.tag ++ le 4 s.b.length ++ s.b)) ++ m).take 8 = le 4 s.tag ++ le 4 s.b.length := by
    rw [List.append_assoc, List.append_assoc]
    exact List.take_left' (by simp [le_length])
  rw [e, List.drop_left' (le_length 4 _), num_le]
  exact Nat.mod_eq_of_lt h
theorem secOf_bytes (s : Sec) (m : List Nat) (h : s.b.length < 4294967296) (ht : s.tag < 4294967296) : secOf (secBytes s ++ m) = s := by
  have e1 : (secBytes s ++ m).take 4 = le 4 s.tag := by
    unfold secBytes tailed secHead
    rw [List.append_assoc, List.append_assoc, List.append_assoc, List.append_assoc]
    exact List.take_left' (le_length 4 _)
  have e2 : (secBytes s ++ m).take (8 + s.b.length) = secHead s ++ s.b := by
    unfold secBytes tailed
    rw [List.append_assoc]
    exact List.take_left' (by simp [secHead, le_length]; omega)
  unfold secOf
  rw [secN_bytes s m h, e1, e2, num_le, List.drop_left' (by simp [secHead, le_length])]
  rw [show s.tag % 256 ^ 4 = s.tag from Nat.mod_eq_of_lt ht]
theorem secE_bytes (s : Sec) (m : List Nat) (h : s.b.length < 4294967296) : secE (secBytes s ++ m) = 0 := by
  unfold secE
  rw [secN_bytes s m h]
  have hl := secBytes_length s
  rw [if_neg (by rw [List.length_append]; omega), if_neg (by rw [List.length_append]; omega)]
  rw [show (secBytes s ++ m).take (12 + s.b.length) = secBytes s from List.take_left' hl]
  rw [if_pos (by unfold secBytes; exact sealed_tailed _)]
def lastTag (last : Option Nat) (l : List Sec) : Option Nat := match l with | [] => last | s :: l => lastTag (some s.tag) l
/-- Ascending behind a tag. -/
def Above : Option Nat → List Sec → Prop
  | _, [] => True
  | last, s :: l => notAbove last s.tag = false ∧ Above (some s.tag) l
theorem secs_body : ∀ (l : List Sec) (last : Option Nat), (∀ s ∈ l, SecOk s ∧ s.b.length < 4294967296) → Above last l → secs l.length last (body l) = (0, l)
  | [], last, _, _ => rfl
  | s :: l, last, h, ha => by
    obtain ⟨h1, h2⟩ := h s (by simp)
    simp only [List.length_cons, secs, body]
    rw [secE_bytes s _ h2, secOf_bytes s _ h2 h1.1, secN_bytes s _ h2]
    rw [if_neg (by simp), if_neg (by rw [ha.1]; simp)]
    rw [List.drop_left' (secBytes_length s), secs_body l _ (fun s hs => h s (by simp [hs])) ha.2]
theorem rises_tail {s : Sec} {l : List Sec} {k : Nat} (h : Rises (s :: l) (k + 1)) : Rises l k := by
  intro j h0 hj
  have := h (j + 1) (by omega) (by omega)
  rw [show j + 1 - 1 = (j - 1) + 1 by omega] at this
  simpa [tagAt] using this
theorem above_of_rises : ∀ (l : List Sec) (s : Sec), Rises (s :: l) (l.length + 1) → Above (some s.tag) l
  | [], _, _ => trivial
  | t :: l, s, h => by
    have h1 := h 1 (by omega) (by simp)
    simp [tagAt] at h1
    exact ⟨by simp [notAbove]; omega, above_of_rises l t (rises_tail h)⟩
theorem above_none (l : List Sec) (h : Rises l l.length) : Above none l := by
  cases l with
  | nil => trivial
  | cons s l => exact ⟨rfl, above_of_rises l s h⟩
theorem rises_of_above : ∀ (l : List Sec) (last : Option Nat), Above last l → Rises l l.length
  | [], _, _ => by intro j h0 hj; simp at hj
  | s :: l, last, h => by
    intro j h0 hj
    cases l with
    | nil => simp at hj; omega
    | cons t l =>
      have ih := rises_of_above (t :: l) _ h.2
      by_cases h1 : j = 1
      · subst h1
        have := h.2.1
        simp [notAbove] at this
        simp [tagAt]
        exact this
      · have := ih (j - 1) (by omega) (by simp at hj ⊢; omega)
        rw [show j = (j - 1) + 1 by omega]
        rw [show j - 1 + 1 - 1 = (j - 1 - 1) + 1 by omega]
        simpa [tagAt] using this

theorem head_take4 (v n : Nat) (m : List Nat) : (head v n ++ m).take 4 = magic := by
  unfold head
  rw [List.append_assoc, List.append_assoc]
  exact List.take_left' rfl
theorem head_take8 (v n : Nat) (m : List Nat) : ((head v n ++ m).take 8).drop 4 = le 4 v := by
  unfold head
  rw [List.append_assoc, show ((magic ++ le 4 v) ++ (le 4 n ++ m)).take 8 = magic ++ le 4 v from List.take_left' (by simp [magic, le_length])]
  exact List.drop_left' rfl
theorem head_take12 (v n : Nat) (m : List Nat) : ((head v n ++ m).take 12).drop 8 = le 4 n := by
  rw [show (head v n ++ m).take 12 = head v n from List.take_left' (head_length v n)]
  unfold head
  exact List.drop_left' (by simp [magic, le_length])
theorem file_eq (v : Nat) (l : List Sec) : file v l = head v l.length ++ (body l ++ Crc.tail4 (ofN (head v l.length ++ body l))) := by
  unfold file tailed; rw [List.append_assoc]
theorem many_file (v : Nat) (l : List Sec) (h : l.length < 4294967296) : many (file v l) = l.length := by
  unfold many
  rw [file_eq, head_take12, num_le]
  exact Nat.mod_eq_of_lt h
theorem inner_file (v : Nat) (l : List Sec) : inner (file v l) = body l := by
  unfold inner
  have e : (file v l).take ((file v l).length - 4) = head v l.length ++ body l := by
    unfold file
    rw [tailed_len, Nat.add_sub_cancel]
    unfold tailed
    rw [List.take_left]
  rw [e, List.drop_left' (head_length _ _)]
theorem size_ge : ∀ (l : List Sec), ∀ s ∈ l, s.b.length + 28 ≤ size l
  | [], s, h => by cases h
  | t :: l, s, h => by
    have hs : 16 ≤ size l := by have := body_length l; omega
    rcases List.mem_cons.1 h with rfl | h
    · simp only [size]; omega
    · have := size_ge l s h
      simp only [size]; omega
/-- The sections of a file are those that it was made of. -/
theorem dec_file (v : Nat) (l : List Sec) (hv : v < 4294967296) (hl : ∀ s ∈ l, SecOk s) (h : encE l = 0) : decE (file v l) = 0 ∧ decL (file v l) = l ∧ decV (file v l) = v := by
  have h0 : Rises l l.length ∧ l.length ≤ 4096 ∧ size l ≤ 134217728 := by
    unfold encE at h
    split at h
    · rename_i hr
      split at h
      · omega
      · exact ⟨hr, by omega, by omega⟩
    · omega
  obtain ⟨hr, hn, hs⟩ := h0
  have hm := many_file v l (by omega)
  have hsl : 16 ≤ size l := by have := body_length l; omega
  have hw : wholeE (file v l) = 0 := by
    unfold wholeE
    rw [file_length, if_neg (by omega), if_neg (by omega), if_neg (by rw [file_eq, head_take4]; simp), if_pos (by unfold file; exact sealed_tailed _), hm, if_neg (by omega)]
  have hsec := secs_body l none (fun s h => ⟨hl s h, by have := size_ge l s h; omega⟩) (above_none l hr)
  refine ⟨?_, ?_, ?_⟩
  · unfold decE
    rw [hw, hm, inner_file, hsec]
    simp
  · unfold decL
    rw [hm, inner_file, hsec]
  · unfold decV
    rw [file_eq, head_take8, num_le]
    exact Nat.mod_eq_of_lt hv

/-! ### what a file tells makes that file again -/
theorem take_drop_all (r : List Nat) (a b : Nat) (h : a ≤ b) : r.take a ++ (r.take b).drop a = r.take b := by
  have := List.take_append_drop a (r.take b)
  rwa [List.take_take, Nat.min_eq_left h] at this
theorem secBytes_of (r : List Nat) (hr : ∀ x ∈ r, x < 256) (h : secE r = 0) : secBytes (secOf r) = r.take (12 + secN r) ∧ 12 + secN r ≤ r.length ∧ (secOf r).b.length = secN r ∧ SecOk (secOf r) := by
  unfold secE at h
  split at h
  · omega
  · rename_i h1
    split at h
    · omega
    · rename_i h2
      split at h
      · rename_i h3
        have hle : 12 + secN r ≤ r.length := by omega
        have hq := sealed_eq h3
        rw [List.length_take, Nat.min_eq_left hle, List.take_take, Nat.min_eq_left (by omega), show 12 + secN r - 4 = 8 + secN r by omega] at hq
        have hb : (secOf r).b.length = secN r := by
          simp only [secOf, List.length_drop, List.length_take]
          omega
        have ok : SecOk (secOf r) := by
          refine ⟨?_, fun x hx => hr x (List.mem_of_mem_take (List.mem_of_mem_drop hx))⟩
          have := num_take_lt r hr 4
          exact this
        refine ⟨?_, hle, hb, ok⟩
        rw [hq]
        unfold secBytes
        congr 1
        unfold secHead
        rw [hb]
        have e1 : le 4 (secOf r).tag = r.take 4 := by
          have := le_num (r.take 4) (fun x hx => hr x (List.mem_of_mem_take hx))
          rwa [List.length_take, Nat.min_eq_left (by omega)] at this
        have e2 : le 4 (secN r) = (r.take 8).drop 4 := by
          have := le_num ((r.take 8).drop 4) (fun x hx => hr x (List.mem_of_mem_take (List.mem_of_mem_drop hx)))
          rwa [List.length_drop, List.length_take, Nat.min_eq_left (by omega)] at this
        rw [e1, e2, take_drop_all r 4 8 (by omega)]
        exact take_drop_all r 8 (8 + secN r) (by omega)
      · omega
theorem secs_ok : ∀ (k : Nat) (last : Option Nat) (r : List Nat), (∀ x ∈ r, x < 256) → (secs k last r).1 = 0 →
    body (secs k last r).2 = r ∧ (secs k last r).2.length = k ∧ Above last (secs k last r).2 ∧ ∀ s ∈ (secs k last r).2, SecOk s
  | 0, last, r, _, h => by
    simp only [secs] at h ⊢
    split at h
    · rename_i h0
      rw [List.eq_nil_of_length_eq_zero h0]
      exact ⟨rfl, rfl, trivial, fun s hs => by cases hs⟩
    · omega
  | k + 1, last, r, hr, h => by
    by_cases he : secE r = 0
    · by_cases hn : notAbove last (secOf r).tag = true
      · simp only [secs, he, hn, ne_eq, not_true_eq_false, if_true, if_false] at h
        omega
      · simp only [secs, he, hn, ne_eq, not_true_eq_false, if_false] at h ⊢
        obtain ⟨h1, h2, h3, h4⟩ := secBytes_of r hr he
        obtain ⟨i1, i2, i3, i4⟩ := secs_ok k _ (r.drop (12 + secN r)) (fun x hx => hr x (List.mem_of_mem_drop hx)) h
        refine ⟨?_, by simp [i2], ⟨by simpa using hn, i3⟩, ?_⟩
        · show body (secOf r :: (secs k (some (secOf r).tag) (r.drop (12 + secN r))).2) = r
          rw [body, i1, h1, List.take_append_drop]
        · intro s hs
          rcases List.mem_cons.1 hs with rfl | hs
          · exact h4
          · exact i4 s hs
    · simp only [secs, he, ne_eq, not_false_eq_true, if_true] at h
theorem file_dec (b : List Nat) (hb : ∀ x ∈ b, x < 256) (h : decE b = 0) : file (decV b) (decL b) = b ∧ encE (decL b) = 0 ∧ (∀ s ∈ decL b, SecOk s) ∧ decV b < 4294967296 := by
  unfold decE at h
  by_cases hw : wholeE b = 0
  · rw [if_neg (by simp [hw])] at h
    have hi : ∀ x ∈ inner b, x < 256 := fun x hx => hb x (List.mem_of_mem_take (List.mem_of_mem_drop hx))
    obtain ⟨i1, i2, i3, i4⟩ := secs_ok _ none (inner b) hi h
    have hw' : b.length ≤ 134217728 ∧ 16 ≤ b.length ∧ b.take 4 = magic ∧ sealed b = true ∧ many b ≤ 4096 := by
      unfold wholeE at hw
      split at hw
      · omega
      · split at hw
        · omega
        · split at hw
          · omega
          · split at hw
            · split at hw
              · omega
              · rename_i a1 a2 a3 a4 a5
                exact ⟨by omega, by omega, by simpa using a3, a4, by omega⟩
            · omega
    obtain ⟨w1, w2, w3, w4, w5⟩ := hw'
    have e8 : magic ++ le 4 (decV b) = b.take 8 := by
      have := le_num ((b.take 8).drop 4) (fun x hx => hb x (List.mem_of_mem_take (List.mem_of_mem_drop hx)))
      rw [List.length_drop, List.length_take, Nat.min_eq_left (by omega)] at this
      unfold decV
      rw [this, ← w3]
      exact take_drop_all b 4 8 (by omega)
    have e12 : head (decV b) (many b) = b.take 12 := by
      have := le_num ((b.take 12).drop 8) (fun x hx => hb x (List.mem_of_mem_take (List.mem_of_mem_drop hx)))
      rw [List.length_drop, List.length_take, Nat.min_eq_left (by omega)] at this
      unfold head many
      rw [e8, this]
      exact take_drop_all b 8 12 (by omega)
    have ef : file (decV b) (decL b) = b := by
      unfold file
      have : (decL b).length = many b := i2
      rw [this, e12]
      have : body (decL b) = inner b := i1
      rw [this]
      have := sealed_eq w4
      rw [this]
      congr 1
      rw [← this]
      exact take_drop_all b 12 (b.length - 4) (by omega)
    refine ⟨ef, ?_, i4, ?_⟩
    · unfold encE
      have i3' : Rises (decL b) (decL b).length := rises_of_above _ none i3
      rw [if_pos i3']
      have h1 := file_length (decV b) (decL b)
      rw [ef] at h1
      have h2 : (decL b).length = many b := i2
      rw [if_neg (by omega)]
    · have := num_take_lt (b.drop 4) (fun x hx => hb x (List.mem_of_mem_drop hx)) 4
      unfold decV
      rw [List.drop_take]
      exact this
  · rw [if_pos (by simp [hw])] at h
    exact absurd h hw
end Tl
end Go.Proofs.YtcoiaggedipapaaDoor
