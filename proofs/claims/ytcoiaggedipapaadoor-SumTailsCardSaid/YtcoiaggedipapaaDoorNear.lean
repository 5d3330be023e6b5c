/-
  Plain math: bytes with their sum, changed within 32 bits that follow one another, are no bytes with their sum.
-/
import Derived.Test.YtcoiaggedipapaaDoorCut
namespace Go.Proofs.YtcoiaggedipapaaDoor
set_option linter.unusedVariables false
set_option linter.unusedSimpArgs false

namespace Crc
theorem allBits_get : ∀ (l : List Nat) (j : Nat), (allBits l)[j]? = (l[j / 8]?).bind fun c => (byteBits c)[j % 8]? := by
  intro l
  induction l with
  | nil => intro j; simp [allBits]
  | cons c l ih =>
    intro j
    have e : allBits (c :: l) = byteBits c ++ allBits l := rfl
    have h8 : (byteBits c).length = 8 := rfl
    rw [e]
    by_cases h : j < 8
    · rw [List.getElem?_append_left (by rw [h8]; exact h), show j / 8 = 0 from by omega, show j % 8 = j from by omega]
      rfl
    · rw [List.getElem?_append_right (by rw [h8]; omega), h8, ih (j - 8), show j / 8 = (j - 8) / 8 + 1 from by omega, show (j - 8) % 8 = j % 8 from by omega]
      rfl
theorem byteBits_inj {a b : Nat} (ha : a < 256) (hb : b < 256) (h : byteBits a = byteBits b) : a = b := by
  simp only [byteBits, List.cons.injEq, and_true] at h
  obtain ⟨h7, h6, h5, h4, h3, h2, h1, h0⟩ := h
  apply Nat.eq_of_testBit_eq
  intro i
  by_cases hi : i < 8
  · have : i = 0 ∨ i = 1 ∨ i = 2 ∨ i = 3 ∨ i = 4 ∨ i = 5 ∨ i = 6 ∨ i = 7 := by omega
    rcases this with rfl | rfl | rfl | rfl | rfl | rfl | rfl | rfl <;> assumption
  · have q : ∀ x : Nat, x < 256 → x.testBit i = false := fun x hx => Nat.testBit_lt_two_pow (Nat.lt_of_lt_of_le hx (Nat.pow_le_pow_right (n := 2) (i := 8) (by decide) (by omega)))
    rw [q a ha, q b hb]
theorem allBits_inj : ∀ (l m : List Nat), (∀ x ∈ l, x < 256) → (∀ x ∈ m, x < 256) → allBits l = allBits m → l = m := by
  intro l
  induction l with
  | nil => intro m _ _ h; cases m with
    | nil => rfl
    | cons c m => simp [allBits, byteBits] at h
  | cons c l ih =>
    intro m hl hm h
    cases m with
    | nil => simp [allBits, byteBits] at h
    | cons d m =>
      have e1 : allBits (c :: l) = byteBits c ++ allBits l := rfl
      have e2 : allBits (d :: m) = byteBits d ++ allBits m := rfl
      rw [e1, e2] at h
      have h' := List.append_inj h rfl
      rw [byteBits_inj (hl c (by simp)) (hm d (by simp)) h'.1, ih m (fun x hx => hl x (by simp [hx])) (fun x hx => hm x (by simp [hx])) h'.2]
end Crc

/-- Two texts of one length that are alike but for 32 bits from f on. -/
structure Alike (f : Nat) (x y : List Nat) : Prop where
  len : y.length = x.length
  small : ∀ c ∈ y, c < 256
  bits : ∀ j, (j < f ∨ f + 32 ≤ j) → (Crc.allBits y)[j]? = (Crc.allBits x)[j]?
theorem Alike.refl (f : Nat) (x : List Nat) (h : ∀ c ∈ x, c < 256) : Alike f x x := ⟨rfl, h, fun _ _ => rfl⟩
theorem mask_bits : ∀ (r : Fin 8) (j : Fin 8), j.1 ≠ r.1 → (Crc.byteBits (128 / 2 ^ r.1))[j.1]? = some false := by decide
/-- One bit more of the 32 is turned. -/
theorem Alike.flip {f : Nat} {x y : List Nat} (h : Alike f x y) (k : Nat) (hf : f ≤ k) (hk : k < f + 32) (hl : k / 8 < y.length) : Alike f x (y.set (k / 8) (y.getD (k / 8) 0 ^^^ (128 / 2 ^ (k % 8)))) := by
  have hs := getD_small h.small (k / 8)
  have h128 : 128 / 2 ^ (k % 8) < 256 := Nat.lt_of_le_of_lt (Nat.div_le_self _ _) (by decide)
  refine ⟨by simp [h.len], ?_, ?_⟩
  · intro c hc
    rcases List.mem_or_eq_of_mem_set hc with hc | hc
    · exact h.small c hc
    · rw [hc]; exact Nat.xor_lt_two_pow (n := 8) hs h128
  · intro j hj
    rw [← h.bits j hj, Crc.allBits_get, Crc.allBits_get, List.getElem?_set]
    by_cases hq : k / 8 = j / 8
    · have hne : j % 8 ≠ k % 8 := by omega
      rw [if_pos hq, if_pos (by simpa [hq] using hl)]
      rw [← hq]
      rw [List.getElem?_eq_getElem hl]
      simp only [Option.bind_some]
      have hg : y.getD (k / 8) 0 = y[k / 8] := by simp [List.getD_eq_getElem?_getD, List.getElem?_eq_getElem hl]
      rw [hg, Crc.byteBits_xor, List.getElem?_zipWith]
      have hm := mask_bits ⟨k % 8, by omega⟩ ⟨j % 8, by omega⟩ hne
      simp only at hm
      rw [hm]
      have : (Crc.byteBits y[k / 8]).length = 8 := rfl
      rw [List.getElem?_eq_getElem (show j % 8 < (Crc.byteBits y[k / 8]).length by rw [this]; omega)]
      simp
    · rw [if_neg hq]

theorem ofNat_sum (l : List Nat) (h : ∀ c ∈ l, c < 256) : BitVec.ofNat 32 (ofN l) = Crc.more (BitVec.ofNat 32 4294967295) l := Crc.sum_eq l _ (by decide) h
theorem tail4_inj {a b : Nat} (ha : a < 4294967296) (hb : b < 4294967296) (h : Crc.tail4 a = Crc.tail4 b) : a = b := by
  simp only [Crc.tail4, List.cons.injEq, and_true] at h
  omega
theorem tail4_of (l : List Nat) (h : l.length = 4) (hs : ∀ c ∈ l, c < 256) : ∃ t, t < 4294967296 ∧ l = Crc.tail4 t := by
  match l, h with
  | [a, b, c, d], _ =>
    have := hs a (by simp); have := hs b (by simp); have := hs c (by simp); have := hs d (by simp)
    refine ⟨a * 16777216 + b * 65536 + c * 256 + d, by omega, ?_⟩
    simp only [Crc.tail4, List.cons.injEq, and_true]
    omega
/-- The last four bytes are the sum of those ahead of them, just where the sum of all is nought. -/
theorem sealed_iff (l : List Nat) (m : Nat) (hl : l.length = m + 4) (hs : ∀ c ∈ l, c < 256) :
    Crc.tail4 (ofN (l.take m)) = l.drop m ↔ Crc.more (BitVec.ofNat 32 4294967295) l = 0#32 := by
  obtain ⟨t, ht, e⟩ := tail4_of (l.drop m) (by simp; omega) (fun c hc => hs c (List.mem_of_mem_drop hc))
  conv => rhs; rw [← List.take_append_drop m l]
  rw [Crc.more_append, ← ofNat_sum _ (fun c hc => hs c (List.mem_of_mem_take hc)), e, Crc.more_tail _ _ (ofN_lt _) ht]
  exact ⟨fun h => tail4_inj (ofN_lt _) ht h, fun h => by rw [h]⟩

/-- THE PLAIN LAW: two texts that bear their sums, alike but for 32 bits: they are one. -/
theorem alike_sealed {f : Nat} {x y : List Nat} (h : Alike f x y) (hx : ∀ c ∈ x, c < 256) (zx : Crc.more (BitVec.ofNat 32 4294967295) x = 0#32) (zy : Crc.more (BitVec.ofNat 32 4294967295) y = 0#32) : y = x := by
  have hz := Crc.more_xor x y (BitVec.ofNat 32 4294967295) (BitVec.ofNat 32 4294967295) h.len.symm
  rw [zx, zy, BitVec.xor_self, BitVec.xor_self] at hz
  unfold Crc.more at hz
  rw [Crc.allBits_xor x y h.len.symm] at hz
  generalize hD : List.zipWith Bool.xor (Crc.allBits x) (Crc.allBits y) = D at hz
  have hlen : (Crc.allBits y).length = (Crc.allBits x).length := by rw [Crc.allBits_length, Crc.allBits_length, h.len]
  have hDl : D.length = (Crc.allBits x).length := by rw [← hD]; simp [hlen]
  have hout : ∀ j (hj : j < D.length), (j < f ∨ f + 32 ≤ j) → D[j] = false := by
    intro j hj ho
    have hb := h.bits j ho
    rw [List.getElem?_eq_getElem (by omega), List.getElem?_eq_getElem (by omega)] at hb
    injection hb with hb
    subst hD
    rw [List.getElem_zipWith, hb, Bool.xor_self]
  have hsplit : D = List.replicate (D.take f).length false ++ (D.drop f).take 32 ++ List.replicate (D.drop (f + 32)).length false := by
    have e1 : D.take f = List.replicate (D.take f).length false := by
      apply List.eq_replicate_of_mem
      intro b hb
      obtain ⟨j, hj, rfl⟩ := List.getElem_of_mem hb
      rw [List.length_take] at hj
      rw [List.getElem_take]
      exact hout j (by omega) (.inl (by omega))
    have e2 : D.drop (f + 32) = List.replicate (D.drop (f + 32)).length false := by
      apply List.eq_replicate_of_mem
      intro b hb
      obtain ⟨j, hj, rfl⟩ := List.getElem_of_mem hb
      rw [List.length_drop] at hj
      rw [List.getElem_drop]
      exact hout (f + 32 + j) (by omega) (.inr (by omega))
    rw [← e1, ← e2, ← List.drop_drop, List.append_assoc, List.take_append_drop, List.take_append_drop]
  rw [hsplit] at hz
  have hmid := Crc.burst _ _ _ (by rw [List.length_take]; omega) hz
  have hall : ∀ j (hj : j < D.length), D[j] = false := by
    intro j hj
    by_cases ho : j < f ∨ f + 32 ≤ j
    · exact hout j hj ho
    · apply hmid
      have : D[j] = ((D.drop f).take 32)[j - f]'(by rw [List.length_take, List.length_drop]; omega) := by
        rw [List.getElem_take, List.getElem_drop]
        congr 1
        omega
      rw [this]
      exact List.getElem_mem _
  apply Crc.allBits_inj _ _ h.small hx
  apply List.ext_getElem hlen
  intro j h1 h2
  have := hall j (by omega)
  subst hD
  rw [List.getElem_zipWith] at this
  exact Eq.symm (by simpa using this)
theorem tailed_len (l : List Nat) : (tailed l).length = l.length + 4 := by simp [tailed, Crc.tail4]
theorem tailed_small (l : List Nat) (h : ∀ c ∈ l, c < 256) : ∀ c ∈ tailed l, c < 256 := by
  intro c hc
  rcases List.mem_append.1 hc with hc | hc
  · exact h c hc
  · simp [Crc.tail4] at hc; omega
theorem tailed_sealed (l : List Nat) (h : ∀ c ∈ l, c < 256) : Crc.more (BitVec.ofNat 32 4294967295) (tailed l) = 0#32 := by
  rw [← sealed_iff (tailed l) l.length (tailed_len l) (tailed_small l h)]
  unfold tailed
  rw [List.take_left, List.drop_left]
/-- What is changed within 32 bits bears its sum only where it is what it was. -/
theorem near_sealed {f : Nat} {l y : List Nat} (hl : ∀ c ∈ l, c < 256) (h : Alike f (tailed l) y) (hs : Crc.tail4 (ofN (y.take l.length)) = y.drop l.length) : y = tailed l :=
  alike_sealed h (tailed_small l hl) (tailed_sealed l hl) ((sealed_iff y l.length (by rw [h.len, tailed_len]) h.small).1 hs)
end Go.Proofs.YtcoiaggedipapaaDoor
