/-
  A region that draws its order, walked operation by operation: each yields its fact where the operations ahead of it have yielded theirs; then all facts hold at the end, whatever the order.
-/
import Derived.Test.YtcoiaggedipapaaDoorKit3
import Derived.RegionTactic
namespace Go.Proofs.YtcoiaggedipapaaDoor
open Go.RowKit
set_option linter.unusedVariables false
set_option linter.unusedSimpArgs false

/-- A place of a row of values is another one. -/
def upd (X : Nat → Value) (i : Nat) (v : Value) : Nat → Value := fun j => if j = i then v else X j
theorem upd_same (X : Nat → Value) (i : Nat) (v : Value) : upd X i v i = v := if_pos rfl
theorem upd_other (X : Nat → Value) {i j : Nat} (v : Value) (h : j ≠ i) : upd X i v j = X j := if_neg h
/-- Each operation waits for earlier ones alone. -/
def acyc (ops : Array Oper) : Bool := (List.range ops.size).all fun i => ((ops[i]?).map fun o => o.after.all fun e => decide (e.on < i)).getD false
theorem acyc_at {ops : Array Oper} (h : acyc ops = true) {i : Nat} {o : Oper} (ho : ops[i]? = some o) : ∀ e ∈ o.after, e.on < i := by
  have hi : i < ops.size := (Array.getElem?_eq_some_iff.1 ho).1
  have := List.all_eq_true.1 h i (List.mem_range.2 hi)
  rw [ho] at this
  simp only [Option.map_some, Option.getD_some] at this
  intro e he
  have := (Array.all_eq_true_iff_forall_mem.1 this) e he
  simpa using this
theorem countP_less {p q : Nat → Bool} (hpq : ∀ j, q j = true → p j = true) {i : Nat} (hp : p i = true) (hq : q i = false) : ∀ {l : List Nat}, i ∈ l → l.countP q + 1 ≤ l.countP p
  | x :: l, h => by
    have hle : l.countP q ≤ l.countP p := List.countP_mono_left fun j _ hj => hpq j hj
    rw [List.countP_cons, List.countP_cons]
    by_cases hx : x = i
    · subst hx
      simp only [hp, hq, if_true]
      simp
      omega
    · have hi : i ∈ l := by
        rcases List.mem_cons.1 h with e | e
        · exact absurd e.symm hx
        · exact e
      have := countP_less hpq hp hq hi
      cases hqx : q x with
      | false => simp; split <;> omega
      | true => simp [hpq x hqx]; omega
section
variable {P : Program} {ops : Array Oper} {Q : Exit → Act → World → Prop}
/-- One operation, behind those that it waits for. -/
def FreeOne (P : Program) (ops : Array Oper) (Q : Exit → Act → World → Prop) (F : (Nat → Value) → Act) (R : World → World → Prop) (Φ : Nat → Value → World → Prop) (w0 : World) (i : Nat) (o : Oper) : Prop :=
  ∀ X w, R w0 w → (∀ e ∈ o.after, Region.binds .any e = true → Φ e.on (X e.on) w) → ∀ K : Act → World → Prop, (∀ v a' w', a' = (F X).put o.dst v → R w w' → Φ i v w' → K a' w') →
    if Region.wanted o (yielded ops (F X).tmps) = true then Oper.wp P o (F X) w K Q else K ((F X).put o.dst undef) w
/-- All of some operations. -/
def FreeAll (P : Program) (ops : Array Oper) (Q : Exit → Act → World → Prop) (F : (Nat → Value) → Act) (R : World → World → Prop) (Φ : Nat → Value → World → Prop) (w0 : World) (is : List Nat) : Prop :=
  ∀ i ∈ is, ∀ o, ops[i]? = some o → (∀ X v, (F X).put o.dst v = F (upd X i v)) ∧ FreeOne P ops Q F R Φ w0 i o
theorem FreeAll.nil {F : (Nat → Value) → Act} {R : World → World → Prop} {Φ : Nat → Value → World → Prop} {w0 : World} : FreeAll P ops Q F R Φ w0 [] := fun _ h => by cases h
theorem FreeAll.cons {F : (Nat → Value) → Act} {R : World → World → Prop} {Φ : Nat → Value → World → Prop} {w0 : World} {i : Nat} {o : Oper} {is : List Nat} (ho : ops[i]? = some o) (hp : ∀ X v, (F X).put o.dst v = F (upd X i v)) (h : FreeOne P ops Q F R Φ w0 i o) (hs : FreeAll P ops Q F R Φ w0 is) : FreeAll P ops Q F R Φ w0 (i :: is) := fun j hj o' ho' => by
  rcases List.mem_cons.1 hj with rfl | hj
  · obtain rfl : o = o' := Option.some.inj (ho.symm.trans ho')
    exact ⟨hp, h⟩
  · exact hs j hj o' ho'
theorem free_go {F : (Nat → Value) → Act} {R : World → World → Prop} {Φ : Nat → Value → World → Prop} {w0 : World} (htr : ∀ u v w, R u v → R v w → R u w) (hΦ : ∀ i v w w', Φ i v w → R w w' → Φ i v w') (hac : acyc ops = true)
    (hall : FreeAll P ops Q F R Φ w0 (List.range ops.size)) (hend : ∀ X w, R w0 w → (∀ i, i < ops.size → Φ i (X i) w) → Q .normal (F X) w) :
    ∀ (fuel : Nat) (listed : Array Bool) (X : Nat → Value) (w : World), listed.size = ops.size → (List.range ops.size).countP (fun i => !listed.getD i true) ≤ fuel → R w0 w → (∀ i, i < ops.size → listed.getD i true = true → Φ i (X i) w) → wpAny P .any ops Q fuel listed (F X) w
  | 0, listed, X, w, hsz, hc, hR, hf => by
    have hl : ∀ i, i < ops.size → listed.getD i true = true := fun i hi => by
      have h0 := List.countP_eq_zero.1 (Nat.le_zero.1 hc) i (List.mem_range.2 hi)
      cases h : listed.getD i true with
      | true => rfl
      | false => rw [h] at h0; simp at h0
    refine ⟨?_, hend X w hR fun i hi => hf i hi (hl i hi)⟩
    unfold Region.ready
    rw [List.filter_eq_nil_iff]
    intro i hi
    rw [hl i (List.mem_range.1 hi)]
    simp
  | fuel + 1, listed, X, w, hsz, hc, hR, hf => by
    have hgd : ∀ j, j < ops.size → listed.getD j true = listed.getD j false := fun j hj => by
      rw [Array.getD_eq_getD_getElem?, Array.getD_eq_getD_getElem?, Array.getElem?_eq_getElem (by omega)]
      rfl
    refine ⟨fun hr => hend X w hR fun i hi => hf i hi ?_, fun i hi => ?_⟩
    · have key : ∀ n i, i < n → i < ops.size → listed.getD i true = true := by
        intro n
        induction n with
        | zero => intro i h; omega
        | succ n ih =>
          intro i hin hi
          cases hlist : listed.getD i true with
          | true => rfl
          | false =>
            exfalso
            have hmem : i ∈ Region.ready .any ops listed := by
              unfold Region.ready
              rw [List.mem_filter]
              refine ⟨List.mem_range.2 hi, ?_⟩
              rw [hlist, Array.getElem?_eq_getElem hi]
              simp only [Bool.not_false, Bool.true_and, Option.map_some, Option.getD_some]
              rw [Array.all_eq_true_iff_forall_mem]
              intro e he
              have hlt := acyc_at hac (Array.getElem?_eq_getElem hi) e he
              have := ih e.on (by omega) (by omega)
              rw [hgd _ (by omega)] at this
              rw [this]
              simp
            rw [hr] at hmem
            cases hmem
      exact key (i + 1) i (by omega) hi
    · unfold Region.ready at hi
      rw [List.mem_filter] at hi
      obtain ⟨hi, hrd⟩ := hi
      have hi := List.mem_range.1 hi
      rw [Array.getElem?_eq_getElem hi] at hrd
      simp only [Option.map_some, Option.getD_some, Bool.and_eq_true, Bool.not_eq_true'] at hrd
      obtain ⟨hun, haft⟩ := hrd
      rw [Array.all_eq_true_iff_forall_mem] at haft
      have ho : ops[i]? = some ops[i] := Array.getElem?_eq_getElem hi
      obtain ⟨hput, hone⟩ := hall i (List.mem_range.2 hi) _ ho
      refine wpOp_step ho fun K hK => ?_
      refine hone X w hR (fun e he hb => ?_) K (fun v a' w' ha hRw hv => hK _ _ ?_)
      · have hlt := acyc_at hac ho e he
        have h1 := haft e he
        rw [hb] at h1
        simp only [Bool.not_true, Bool.false_or] at h1
        exact hf e.on (by omega) (by rw [hgd _ (by omega)]; exact h1)
      · rw [ha, hput]
        have hset : ∀ j, (listed.setIfInBounds i true).getD j true = if j = i then true else listed.getD j true := fun j => by
          rw [Array.getD_eq_getD_getElem?, Array.getElem?_setIfInBounds]
          by_cases hj : j = i
          · subst hj
            rw [if_pos rfl, if_pos (by omega), if_pos rfl]
            rfl
          · rw [if_neg (fun e => hj e.symm), if_neg hj, Array.getD_eq_getD_getElem?]
        refine free_go htr hΦ hac hall hend fuel _ _ _ (by simpa using hsz) ?_ (htr _ _ _ hR hRw) (fun j hj hl => ?_)
        · have := countP_less (p := fun j => !listed.getD j true) (q := fun j => !(listed.setIfInBounds i true).getD j true) (fun j hj => by
            simp only [hset] at hj
            by_cases hji : j = i
            · rw [if_pos hji] at hj; simp at hj
            · rw [if_neg hji] at hj; exact hj) (i := i) (by simp [hun]) (by simp [hset]) (List.mem_range.2 hi)
          omega
        · rw [hset] at hl
          by_cases hji : j = i
          · subst hji
            rw [upd_same]
            exact hv
          · rw [if_neg hji] at hl
            rw [upd_other _ _ hji]
            exact hΦ _ _ _ _ (hf j hj hl) hRw
/-- From an operation on, each. -/
def FreeFrom (P : Program) (ops : Array Oper) (Q : Exit → Act → World → Prop) (F : (Nat → Value) → Act) (R : World → World → Prop) (Φ : Nat → Value → World → Prop) (w0 : World) (k : Nat) : List Oper → Prop
  | [] => True
  | o :: l => (∀ X v, (F X).put o.dst v = F (upd X k v)) ∧ FreeOne P ops Q F R Φ w0 k o ∧ FreeFrom P ops Q F R Φ w0 (k + 1) l
theorem FreeFrom.nil {F : (Nat → Value) → Act} {R : World → World → Prop} {Φ : Nat → Value → World → Prop} {w0 : World} {k : Nat} : FreeFrom P ops Q F R Φ w0 k [] := trivial
theorem FreeFrom.cons {F : (Nat → Value) → Act} {R : World → World → Prop} {Φ : Nat → Value → World → Prop} {w0 : World} {k : Nat} {o : Oper} {l : List Oper} (hp : ∀ X v, (F X).put o.dst v = F (upd X k v)) (h : FreeOne P ops Q F R Φ w0 k o) (hs : FreeFrom P ops Q F R Φ w0 (k + 1) l) : FreeFrom P ops Q F R Φ w0 k (o :: l) := ⟨hp, h, hs⟩
theorem FreeFrom.at_ {F : (Nat → Value) → Act} {R : World → World → Prop} {Φ : Nat → Value → World → Prop} {w0 : World} : ∀ {l : List Oper} {k : Nat}, FreeFrom P ops Q F R Φ w0 k l → ∀ (j : Nat) (o : Oper), l[j]? = some o → (∀ X v, (F X).put o.dst v = F (upd X (k + j) v)) ∧ FreeOne P ops Q F R Φ w0 (k + j) o
  | [], k, h, j, o, hj => by simp at hj
  | x :: l, k, h, 0, o, hj => by
    obtain rfl : x = o := by simpa using hj
    exact ⟨h.1, h.2.1⟩
  | x :: l, k, h, j + 1, o, hj => by
    have := FreeFrom.at_ h.2.2 j o (by simpa using hj)
    rw [show k + (j + 1) = k + 1 + j by omega]
    exact this
theorem FreeFrom.all {F : (Nat → Value) → Act} {R : World → World → Prop} {Φ : Nat → Value → World → Prop} {w0 : World} (h : FreeFrom P ops Q F R Φ w0 0 ops.toList) : FreeAll P ops Q F R Φ w0 (List.range ops.size) := fun i hi o ho => by
  have := h.at_ i o (by rw [Array.getElem?_toList]; exact ho)
  rw [Nat.zero_add] at this
  exact this
/-- The region's law. -/
theorem wp_region_free {id : Nat} (hm : P.follows .mixedOrders = true) (F : (Nat → Value) → Act) (R : World → World → Prop) (Φ : Nat → Value → World → Prop) (w0 : World) (X0 : Nat → Value)
    (htr : ∀ u v w, R u v → R v w → R u w) (hΦ : ∀ i v w w', Φ i v w → R w w' → Φ i v w') (hac : acyc ops = true) (h0 : R w0 w0.drew)
    (hall : FreeFrom P ops Q F R Φ w0 0 ops.toList) (hend : ∀ X w, R w0 w → (∀ i, i < ops.size → Φ i (X i) w) → Q .normal (F X) w) : (Code.region id ops true).wp P Q (F X0) w0 :=
  wp_region_any hm (free_go htr hΦ hac hall.all hend ops.size _ X0 w0.drew (by simp) (Nat.le_trans List.countP_le_length (by simp)) h0 (fun i hi hl => by
    rw [Array.getD_eq_getD_getElem?, Array.getElem?_replicate, if_pos hi] at hl
    cases hl))
end
end Go.Proofs.YtcoiaggedipapaaDoor
