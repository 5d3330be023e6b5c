/-
  Plain math: what is turned bit by bit, or byte by byte, within 32 bits.
-/
import Derived.Test.YtcoiaggedipapaaDoorWhole
namespace Go.Proofs.YtcoiaggedipapaaDoor
set_option linter.unusedVariables false
set_option linter.unusedSimpArgs false

/-- Two texts that are alike but for t bits from f on. -/
structure AlikeT (f t : Nat) (x y : List Nat) : Prop where
  len : y.length = x.length
  small : ∀ c ∈ y, c < 256
  bits : ∀ j, (j < f ∨ f + t ≤ j) → (Crc.allBits y)[j]? = (Crc.allBits x)[j]?
theorem AlikeT.refl (f : Nat) (x : List Nat) (h : ∀ c ∈ x, c < 256) : AlikeT f 0 x x := ⟨rfl, h, fun _ _ => rfl⟩
theorem AlikeT.more {f t : Nat} {x y : List Nat} (h : AlikeT f t x y) : AlikeT f (t + 1) x y := ⟨h.len, h.small, fun j hj => h.bits j (by omega)⟩
theorem AlikeT.alike {f t : Nat} {x y : List Nat} (h : AlikeT f t x y) (ht : t ≤ 32) : Alike f x y := ⟨h.len, h.small, fun j hj => h.bits j (by omega)⟩
theorem mask_own : ∀ (r : Fin 8), (Crc.byteBits (128 / 2 ^ r.1))[r.1]? = some true := by decide
/-- The next bit is turned: then they are not one. -/
theorem AlikeT.flip {f t : Nat} {x y : List Nat} (h : AlikeT f t x y) (hl : (f + t) / 8 < y.length) : AlikeT f (t + 1) x (y.set ((f + t) / 8) (y.getD ((f + t) / 8) 0 ^^^ (128 / 2 ^ ((f + t) % 8)))) ∧ y.set ((f + t) / 8) (y.getD ((f + t) / 8) 0 ^^^ (128 / 2 ^ ((f + t) % 8))) ≠ x := by
  have hown := h.bits (f + t) (.inr (Nat.le_refl _))
  generalize hk : f + t = k at hl hown ⊢
  have hs := getD_small h.small (k / 8)
  have h128 : 128 / 2 ^ (k % 8) < 256 := Nat.lt_of_le_of_lt (Nat.div_le_self _ _) (by decide)
  have hg : y.getD (k / 8) 0 = y[k / 8] := by simp [List.getD_eq_getElem?_getD, List.getElem?_eq_getElem hl]
  refine ⟨⟨by simp [h.len], ?_, ?_⟩, ?_⟩
  · intro c hc
    rcases List.mem_or_eq_of_mem_set hc with hc | hc
    · exact h.small c hc
    · rw [hc]; exact Nat.xor_lt_two_pow (n := 8) hs h128
  · intro j hj
    rw [← h.bits j (by omega), Crc.allBits_get, Crc.allBits_get, List.getElem?_set]
    by_cases hq : k / 8 = j / 8
    · have hne : j % 8 ≠ k % 8 := by omega
      rw [if_pos hq, if_pos (by simpa [hq] using hl)]
      rw [← hq]
      rw [List.getElem?_eq_getElem hl]
      simp only [Option.bind_some]
      rw [hg, Crc.byteBits_xor, List.getElem?_zipWith]
      have hm := mask_bits ⟨k % 8, by omega⟩ ⟨j % 8, by omega⟩ hne
      simp only at hm
      rw [hm]
      have : (Crc.byteBits y[k / 8]).length = 8 := rfl
      rw [List.getElem?_eq_getElem (show j % 8 < (Crc.byteBits y[k / 8]).length by rw [this]; omega)]
      simp
    · rw [if_neg hq]
  · intro he
    have h1 : (Crc.allBits (y.set (k / 8) (y.getD (k / 8) 0 ^^^ (128 / 2 ^ (k % 8)))))[k]? = (Crc.allBits y)[k]? := by rw [he, hown]
    rw [Crc.allBits_get, Crc.allBits_get, List.getElem?_set, if_pos rfl, if_pos hl, List.getElem?_eq_getElem hl] at h1
    simp only [Option.bind_some] at h1
    have hm := mask_own ⟨k % 8, by omega⟩
    simp only at hm
    have h8 : (Crc.byteBits y[k / 8]).length = 8 := rfl
    rw [hg, Crc.byteBits_xor, List.getElem?_zipWith, hm, List.getElem?_eq_getElem (show k % 8 < (Crc.byteBits y[k / 8]).length by rw [h8]; omega)] at h1
    simp at h1

/-- Two texts whose bytes are alike but for four from i on. -/
structure AlikeB (i : Nat) (x y : List Nat) : Prop where
  len : y.length = x.length
  small : ∀ c ∈ y, c < 256
  bytes : ∀ j, (j < i ∨ i + 4 ≤ j) → y[j]? = x[j]?
theorem AlikeB.refl (i : Nat) (x : List Nat) (h : ∀ c ∈ x, c < 256) : AlikeB i x x := ⟨rfl, h, fun _ _ => rfl⟩
theorem AlikeB.set {i : Nat} {x y : List Nat} (h : AlikeB i x y) (k v : Nat) (hk : k < 4) (hv : v < 256) : AlikeB i x (y.set (i + k) v) := by
  refine ⟨by simp [h.len], ?_, ?_⟩
  · intro c hc
    rcases List.mem_or_eq_of_mem_set hc with hc | hc
    · exact h.small c hc
    · rw [hc]; exact hv
  · intro j hj
    rw [List.getElem?_set_ne (by omega), h.bytes j hj]
theorem AlikeB.alike {i : Nat} {x y : List Nat} (h : AlikeB i x y) : Alike (8 * i) x y := by
  refine ⟨h.len, h.small, fun j hj => ?_⟩
  rw [Crc.allBits_get, Crc.allBits_get, h.bytes (j / 8) (by omega)]
/-- What is changed so bears its sum only where it is what it was. -/
theorem near_cutE {f : Nat} {l y : List Nat} (hl : ∀ c ∈ l, c < 256) (h : Alike f (tailed l) y) (hne : y ≠ tailed l) : sealed y = false ∧ 4 ≤ y.length := by
  have hlen : y.length = l.length + 4 := by rw [h.len, tailed_len]
  refine ⟨?_, by omega⟩
  cases hs : sealed y with
  | false => rfl
  | true => exact absurd (near_sealed hl h ((sealed_take hlen).1 hs)) hne
end Go.Proofs.YtcoiaggedipapaaDoor
