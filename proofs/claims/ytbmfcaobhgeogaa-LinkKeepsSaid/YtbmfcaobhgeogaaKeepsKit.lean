/-
  LinkKeeps: the state of its loop, and the plain math of what is sent.
-/
import Derived.Test.YtbmfcaobhgeogaaLinkSure
namespace Go.Proofs.Ytbmfcaobhgeogaa
open Go.RowKit
set_option linter.unusedVariables false
set_option linter.unusedSimpArgs false
set_option maxRecDepth 100000

/-! ### the plain math -/
/-- Each item is one byte: one that was sent, or, where it is marked, that with one bit turned. -/
def Fit (l : List Nat) (s : List (List Nat × Bool)) : Prop := ∀ it ∈ s, ∃ x v, it.1 = [x] ∧ x < 256 ∧ v ∈ l ∧ v < 256 ∧ (x = v ∨ (it.2 = true ∧ ∃ r, r < 8 ∧ x = v ^^^ (128 / 2 ^ r)))
theorem Fit.nil (l : List Nat) : Fit l [] := fun it h => by cases h
theorem Fit.more {l l' : List Nat} {s : List (List Nat × Bool)} (h : Fit l s) (hl : ∀ x ∈ l, x ∈ l') : Fit l' s := fun it hi => by
  obtain ⟨x, v, e, hx, hv, r⟩ := h it hi
  exact ⟨x, v, e, hx, hl v hv, r⟩
theorem Fit.sub {l : List Nat} {s s' : List (List Nat × Bool)} (h : Fit l s) (hs : ∀ x ∈ s', x ∈ s) : Fit l s' := fun it hi => h it (hs it hi)
theorem Fit.erase {l : List Nat} {s : List (List Nat × Bool)} (h : Fit l s) (i : Nat) : Fit l (s.eraseIdx i) := h.sub fun x hx => List.mem_of_mem_eraseIdx hx
theorem Fit.twice {l : List Nat} {s : List (List Nat × Bool)} (h : Fit l s) (i : Nat) : Fit l (s ++ (s[i]?).toList) := h.sub fun x hx => by
  rcases List.mem_append.1 hx with hx | hx
  · exact hx
  · cases hs : s[i]? with
    | none => rw [hs] at hx; cases hx
    | some y =>
      rw [hs] at hx
      obtain rfl : x = y := by simpa using hx
      exact List.mem_of_getElem? hs
theorem Fit.send {l : List Nat} {s : List (List Nat × Bool)} (h : Fit l s) (b : Nat) (hb : b < 256) : Fit (l ++ [b]) (s ++ [([b], false)]) := fun it hi => by
  rcases List.mem_append.1 hi with hi | hi
  · exact h.more (fun x hx => List.mem_append_left _ hx) it hi
  · obtain rfl : it = ([b], false) := by simpa using hi
    exact ⟨b, b, rfl, hb, by simp, hb, .inl rfl⟩
theorem Fit.turn {l : List Nat} {s : List (List Nat × Bool)} (h : Fit l s) {i m : Nat} {sb : List Nat} (hs : s[i]? = some (sb, false)) (hm : m < 8 * sb.length) : Fit l (s.set i (turned (sb, false) m)) := fun it hi => by
  rcases List.mem_or_eq_of_mem_set hi with hi | rfl
  · exact h it hi
  · obtain ⟨x, v, e, hx, hv, hv8, r⟩ := h _ (List.mem_of_getElem? hs)
    simp only at e
    subst e
    rcases r with rfl | ⟨e, _⟩
    · have h0 : m / 8 = 0 := by simp at hm; omega
      have hr : m % 8 < 8 := by omega
      have hq8 : 128 / 2 ^ (m % 8) < 256 := Nat.lt_of_le_of_lt (Nat.div_le_self _ _) (by decide)
      refine ⟨x ^^^ (128 / 2 ^ (m % 8)), x, ?_, Nat.xor_lt_two_pow (n := 8) hx hq8, hv, hv8, .inr ⟨rfl, m % 8, hr, rfl⟩⟩
      simp [turned, h0]
    · cases e
/-- The law's own test of two bytes. -/
def near1 (v x : Nat) : Prop := bits .and .u8 ((v ^^^ x : Nat) : Int) (IntKind.u8.wrap (((v ^^^ x : Nat) : Int) - 1)) = 0
theorem near1_same (x : Nat) : near1 x x := by unfold near1; rw [Nat.xor_self]; decide
theorem near1_turn (v r : Nat) (h : r < 8) : near1 v (v ^^^ (128 / 2 ^ r)) := by
  unfold near1
  rw [← Nat.xor_assoc, Nat.xor_self, Nat.zero_xor]
  exact (by decide : ∀ r : Fin 8, bits .and .u8 ((128 / 2 ^ r.1 : Nat) : Int) (IntKind.u8.wrap (((128 / 2 ^ r.1 : Nat) : Int) - 1)) = 0) ⟨r, h⟩
/-- What is taken is one byte, and near one that was sent. -/
theorem Fit.near {l : List Nat} {s : List (List Nat × Bool)} (h : Fit l s) {i : Nat} (hi : i < s.length) : ∃ x, (s[i]?.map (·.1)).getD [] = [x] ∧ x < 256 ∧ ∃ j, j < l.length ∧ near1 (l.getD j 0) x := by
  obtain ⟨x, v, e, hx, hv, hv8, r⟩ := h s[i] (List.getElem_mem hi)
  obtain ⟨j, hj⟩ := List.getElem?_of_mem hv
  have hjl := (List.getElem?_eq_some_iff.1 hj).1
  refine ⟨x, by rw [List.getElem?_eq_getElem hi]; exact e, hx, j, hjl, ?_⟩
  rw [List.getD_eq_getElem?_getD, hj]
  rcases r with rfl | ⟨_, r, hr, rfl⟩
  · exact near1_same x
  · exact near1_turn v r hr

/-! ### what the calls tell, case by case -/
theorem sideIs (X : Nat) (h : X < 2) : X = 0 ∨ X = 1 := by omega
theorem take_cases0 (s0 s1 : List (List Nat × Bool)) (at_ : Int) : (takeR ⟨s0, s1, false⟩ 0 at_).2.2 ≠ 0 ∨ ∃ i, i < s0.length ∧ takeR ⟨s0, s1, false⟩ 0 at_ = (⟨s0.eraseIdx i, s1, false⟩, (s0[i]?.map (·.1)).getD [], 0) := by
  rcases atE_cases ⟨s0, s1, false⟩ 0 at_ with h | h | ⟨h, hx⟩
  · left; simp [takeR, h]
  · left; simp [takeR, h]
  · right
    rcases hx with ⟨_, i, rfl, hi⟩ | ⟨h1, _⟩
    · exact ⟨i, hi, by simp [takeR, h]⟩
    · cases h1
theorem take_cases1 (s0 s1 : List (List Nat × Bool)) (at_ : Int) : (takeR ⟨s0, s1, false⟩ 1 at_).2.2 ≠ 0 ∨ ∃ i, i < s1.length ∧ takeR ⟨s0, s1, false⟩ 1 at_ = (⟨s0, s1.eraseIdx i, false⟩, (s1[i]?.map (·.1)).getD [], 0) := by
  rcases atE_cases ⟨s0, s1, false⟩ 1 at_ with h | h | ⟨h, hx⟩
  · left; simp [takeR, h]
  · left; simp [takeR, h]
  · right
    rcases hx with ⟨h1, _⟩ | ⟨_, i, rfl, hi⟩
    · cases h1
    · exact ⟨i, hi, by simp [takeR, h]⟩
theorem twice_cases0 (s0 s1 : List (List Nat × Bool)) (at_ : Int) : (twiceR ⟨s0, s1, false⟩ 0 at_).2 ≠ 0 ∨ ∃ i, i < s0.length ∧ twiceR ⟨s0, s1, false⟩ 0 at_ = (⟨s0 ++ (s0[i]?).toList, s1, false⟩, 0) := by
  rcases atE_cases ⟨s0, s1, false⟩ 0 at_ with h | h | ⟨h, hx⟩
  · left; simp [twiceR, h]
  · left; simp [twiceR, h]
  · rcases hx with ⟨_, i, rfl, hi⟩ | ⟨h1, _⟩
    · by_cases hf : 256 ≤ s0.length
      · left; simp [twiceR, h, hf]
      · right; exact ⟨i, hi, by simp [twiceR, h, hf]⟩
    · cases h1
theorem twice_cases1 (s0 s1 : List (List Nat × Bool)) (at_ : Int) : (twiceR ⟨s0, s1, false⟩ 1 at_).2 ≠ 0 ∨ ∃ i, i < s1.length ∧ twiceR ⟨s0, s1, false⟩ 1 at_ = (⟨s0, s1 ++ (s1[i]?).toList, false⟩, 0) := by
  rcases atE_cases ⟨s0, s1, false⟩ 1 at_ with h | h | ⟨h, hx⟩
  · left; simp [twiceR, h]
  · left; simp [twiceR, h]
  · rcases hx with ⟨h1, _⟩ | ⟨_, i, rfl, hi⟩
    · cases h1
    · by_cases hf : 256 ≤ s1.length
      · left; simp [twiceR, h, hf]
      · right; exact ⟨i, hi, by simp [twiceR, h, hf]⟩
theorem turn_cases0 (s0 s1 : List (List Nat × Bool)) (at_ bit : Int) : (turnR ⟨s0, s1, false⟩ 0 at_ bit).2 ≠ 0 ∨ ∃ i m sb, s0[i]? = some (sb, false) ∧ m < 8 * sb.length ∧ turnR ⟨s0, s1, false⟩ 0 at_ bit = (⟨s0.set i (turned (sb, false) m), s1, false⟩, 0) := by
  rcases atE_cases ⟨s0, s1, false⟩ 0 at_ with h | h | ⟨h, hx⟩
  · left; simp [turnR, h]
  · left; simp [turnR, h]
  · rcases hx with ⟨_, i, rfl, hi⟩ | ⟨h1, _⟩
    · obtain ⟨⟨sb, st⟩, hs⟩ : ∃ x, s0[i]? = some x := ⟨_, List.getElem?_eq_getElem hi⟩
      have hpl : placeOf ⟨s0, s1, false⟩ 0 (i : Int) = (sb, st) := by simp [placeOf, hs]
      by_cases hb : bit < 0 ∨ 8 * (sb.length : Int) ≤ bit
      · left; simp [turnR, h, hpl, hb]
      · cases st with
        | true => left; simp [turnR, h, hpl, hb]
        | false =>
          right
          exact ⟨i, bit.toNat, sb, hs, by omega, by simp [turnR, h, hpl, hb]⟩
    · cases h1
theorem turn_cases1 (s0 s1 : List (List Nat × Bool)) (at_ bit : Int) : (turnR ⟨s0, s1, false⟩ 1 at_ bit).2 ≠ 0 ∨ ∃ i m sb, s1[i]? = some (sb, false) ∧ m < 8 * sb.length ∧ turnR ⟨s0, s1, false⟩ 1 at_ bit = (⟨s0, s1.set i (turned (sb, false) m), false⟩, 0) := by
  rcases atE_cases ⟨s0, s1, false⟩ 1 at_ with h | h | ⟨h, hx⟩
  · left; simp [turnR, h]
  · left; simp [turnR, h]
  · rcases hx with ⟨h1, _⟩ | ⟨_, i, rfl, hi⟩
    · cases h1
    · obtain ⟨⟨sb, st⟩, hs⟩ : ∃ x, s1[i]? = some x := ⟨_, List.getElem?_eq_getElem hi⟩
      have hpl : placeOf ⟨s0, s1, false⟩ 1 (i : Int) = (sb, st) := by simp [placeOf, hs]
      by_cases hb : bit < 0 ∨ 8 * (sb.length : Int) ≤ bit
      · left; simp [turnR, h, hpl, hb]
      · cases st with
        | true => left; simp [turnR, h, hpl, hb]
        | false =>
          right
          exact ⟨i, bit.toNat, sb, hs, by omega, by simp [turnR, h, hpl, hb]⟩

/-! ### the loop's state -/
def RowNe (A B : Option Addr) : Prop := ∀ q, A.map (·.block) = some q → B.map (·.block) ≠ some q
theorem Items.kept0 {S : Nat → Prop} {w w1 : World} {A : Option Addr} {n c : Nat} {L : List ItemV} (h : Items w A n c L) (k : Kept S w w1) (hA : 0 < n → ∀ b, A.map (·.block) = some b → ¬ S b) (hx : ∀ s ∈ L, 0 < s.n → ∀ b, s.A.map (·.block) = some b → ¬ S b) : Items w1 A n c L :=
  ⟨h.len, h.cap, h.max, fun s hs => (h.ok s hs).far k (hx s hs), fun j s hj => by
    obtain ⟨b, off, e, h1, h2⟩ := h.cells j s hj
    have hl := (List.getElem?_eq_some_iff.1 hj).1
    rw [h.len] at hl
    have hn : ¬ S b := hA (by omega) b (by rw [e]; rfl)
    exact ⟨b, off, e, k.cell h1 hn, k.cell h2 hn⟩⟩
theorem Items.lt {w : World} {A : Option Addr} {n c : Nat} {L : List ItemV} (h : Items w A n c L) (hn : 0 < n) : ∀ q, A.map (·.block) = some q → q < w.heap.size := fun q hq => by
  obtain ⟨s, b, off, _, e, h1, _⟩ := h.at_ 0 hn
  rw [e] at hq
  have : b = q := Option.some.inj hq
  have := World.block_lt_of_cell? w _ h1
  simp only at this
  omega
/-- A link's side and a row of bytes do not meet. -/
structure Sep (m : Nat) (B : Option Addr) (M : List ItemV) (S : Option Addr) : Prop where
  row : 0 < m → ∀ q, S.map (·.block) = some q → B.map (·.block) ≠ some q
  bytes : ∀ q, S.map (·.block) = some q → ∀ s ∈ M, 0 < s.n → s.A.map (·.block) ≠ some q
theorem Sep.of_ge {m base : Nat} {B : Option Addr} {M : List ItemV} {S : Option Addr} (hb : ∀ q, B.map (·.block) = some q → base ≤ q) (hx : Bytes base M) (hs : ∀ q, S.map (·.block) = some q → q < base) : Sep m B M S :=
  ⟨fun _ q hq e => by have := hb q e; have := hs q hq; omega, fun q hq s hs' hn e => by have := hx s hs' hn q e; have := hs q hq; omega⟩
theorem Sep.grown {W : World} {m c : Nat} {B : Option Addr} {M : List ItemV} {S S' : Option Addr} (h : Sep m B M S) (hI : Items W B m c M) (hat : S'.map (·.block) = S.map (·.block) ∨ S'.map (·.block) = some W.heap.size) : Sep m B M S' := by
  rcases hat with e | e
  · exact ⟨fun hm q hq => h.row hm q (e ▸ hq), fun q hq => h.bytes q (e ▸ hq)⟩
  · refine ⟨fun hm q hq e2 => ?_, fun q hq s hs hn e2 => ?_⟩
    · have h1 : W.heap.size = q := Option.some.inj (e.symm.trans hq)
      have := hI.lt hm q e2
      omega
    · have h1 : W.heap.size = q := Option.some.inj (e.symm.trans hq)
      obtain ⟨b, off, e3, hlt⟩ := (hI.ok s hs).lt hn
      rw [e3] at e2
      have : b = q := Option.some.inj e2
      omega
/-- The three variables and what hangs on them. -/
structure KW (w : World) (p : Nat) (W : World) (B0 : Option Addr) (m0 d0 : Nat) (M0 : List ItemV) (B1 : Option Addr) (m1 d1 : Nat) (M1 : List ItemV) (S0 : Option Addr) (t0 u0 : Nat) (l0 : List Nat) (S1 : Option Addr) (t1 u1 : Nat) (l1 : List Nat) (c0 c1 : Int) : Prop where
  P : Blk W p #[.slice B0 m0 d0, .slice B1 m1 d1, .bool false] 49
  I0 : Items W B0 m0 d0 M0
  I1 : Items W B1 m1 d1 M1
  S : Blk W (p + 1) #[.slice S0 t0 u0, .slice S1 t1 u1] 51
  O0 : Own W (p + 3) 5 S0 t0 u0 l0
  O1 : Own W (p + 3) 5 S1 t1 u1 l1
  ne : RowNe S0 S1
  M : Blk W (p + 2) #[.int .i64 c0, .int .i64 c1] 36
  r0 : ∀ q, B0.map (·.block) = some q → p + 3 ≤ q
  r1 : ∀ q, B1.map (·.block) = some q → p + 3 ≤ q
  s00 : Sep m0 B0 M0 S0
  s01 : Sep m0 B0 M0 S1
  s10 : Sep m1 B1 M1 S0
  s11 : Sep m1 B1 M1 S1
  bel : Below w.heap.size w W
  wp : w.heap.size ≤ p
theorem KW.keep {w W W' : World} {p : Nat} {B0 : Option Addr} {m0 d0 : Nat} {M0 : List ItemV} {B1 : Option Addr} {m1 d1 : Nat} {M1 : List ItemV} {S0 : Option Addr} {t0 u0 : Nat} {l0 : List Nat} {S1 : Option Addr} {t1 u1 : Nat} {l1 : List Nat} {c0 c1 : Int} (h : KW w p W B0 m0 d0 M0 B1 m1 d1 M1 S0 t0 u0 l0 S1 t1 u1 l1 c0 c1) (hb : Below W.heap.size W W') : KW w p W' B0 m0 d0 M0 B1 m1 d1 M1 S0 t0 u0 l0 S1 t1 u1 l1 c0 c1 :=
  ⟨h.P.keep hb, h.I0.keep hb, h.I1.keep hb, h.S.keep hb, h.O0.keep hb, h.O1.keep hb, h.ne, h.M.keep hb, h.r0, h.r1, h.s00, h.s01, h.s10, h.s11, b_then h.bel hb, h.wp⟩
/-- Another link is laid into the first variable. -/
theorem KW.link {w W : World} {p base : Nat} {B0 : Option Addr} {m0 d0 : Nat} {M0 : List ItemV} {B1 : Option Addr} {m1 d1 : Nat} {M1 : List ItemV} {S0 : Option Addr} {t0 u0 : Nat} {l0 : List Nat} {S1 : Option Addr} {t1 u1 : Nat} {l1 : List Nat} {c0 c1 : Int} {C0 : Option Addr} {n0 e0 : Nat} {N0 : List ItemV} {C1 : Option Addr} {n1 e1 : Nat} {N1 : List ItemV} (h : KW w p W B0 m0 d0 M0 B1 m1 d1 M1 S0 t0 u0 l0 S1 t1 u1 l1 c0 c1) (hI0 : Items W C0 n0 e0 N0) (hI1 : Items W C1 n1 e1 N1)
    (hb0 : ∀ q, C0.map (·.block) = some q → base ≤ q) (hb1 : ∀ q, C1.map (·.block) = some q → base ≤ q) (hx0 : Bytes base N0) (hx1 : Bytes base N1) (hp : p + 3 ≤ base) (hS0 : ∀ q, S0.map (·.block) = some q → q < base) (hS1 : ∀ q, S1.map (·.block) = some q → q < base) :
    KW w p (((W.setCell ⟨p, 0, none⟩ (.slice C0 n0 e0)).setCell ⟨p, 1, none⟩ (.slice C1 n1 e1)).setCell ⟨p, 2, none⟩ (.bool false)) C0 n0 e0 N0 C1 n1 e1 N1 S0 t0 u0 l0 S1 t1 u1 l1 c0 c1 := by
  obtain ⟨h1, h2, h3, _, hk⟩ := laid_link (base := base) false rfl h.P (link_no8 _ _ _ _ _ _ _) hI0 hI1 hb0 hb1 (by omega) _ rfl
  refine ⟨h1, h2, h3, h.S.kept hk (by omega), h.O0.kept hk (fun b hb e => ?_), h.O1.kept hk (fun b hb e => ?_), h.ne, h.M.kept hk (by omega), fun q hq => Nat.le_trans hp (hb0 q hq), fun q hq => Nat.le_trans hp (hb1 q hq), Sep.of_ge hb0 hx0 hS0, Sep.of_ge hb0 hx0 hS1, Sep.of_ge hb1 hx1 hS0, Sep.of_ge hb1 hx1 hS1, below3 h.bel h.wp, h.wp⟩
  · have := (h.O0.ge b hb).1
    omega
  · have := (h.O1.ge b hb).1
    omega
theorem two_no8 (a b : Int) : ∀ (i : Nat) (v : Value), (#[.int .i64 a, .int .i64 b] : Array Value)[i]? = some v → ∀ x : Int, v ≠ Value.int .u8 x := by
  intro i v h x q
  subst q
  match i, h with
  | 0, h => simp at h
  | 1, h => simp at h
  | i + 2, h => simp at h
theorem pair_no8 (A : Option Addr) (n c : Nat) (B : Option Addr) (m d : Nat) : ∀ (i : Nat) (v : Value), (#[.slice A n c, .slice B m d] : Array Value)[i]? = some v → ∀ x : Int, v ≠ Value.int .u8 x := by
  intro i v h x q
  subst q
  match i, h with
  | 0, h => simp at h
  | 1, h => simp at h
  | i + 2, h => simp at h
/-- Side 0's number is another one. -/
theorem KW.count0 {w W : World} {p : Nat} {B0 : Option Addr} {m0 d0 : Nat} {M0 : List ItemV} {B1 : Option Addr} {m1 d1 : Nat} {M1 : List ItemV} {S0 : Option Addr} {t0 u0 : Nat} {l0 : List Nat} {S1 : Option Addr} {t1 u1 : Nat} {l1 : List Nat} {c0 c1 : Int} (h : KW w p W B0 m0 d0 M0 B1 m1 d1 M1 S0 t0 u0 l0 S1 t1 u1 l1 c0 c1) (c : Int) : KW w p (W.setCell ⟨p + 2, 0, none⟩ (.int .i64 c)) B0 m0 d0 M0 B1 m1 d1 M1 S0 t0 u0 l0 S1 t1 u1 l1 c c1 := by
  have hk := kept1 (W := W) (p := p + 2) (j := 0) (a := .int .i64 c)
  refine ⟨h.P.kept hk (by omega), h.I0.kept hk (fun b hb e => ?_) (fun s hs hn b hb e => (h.I0.ok s hs).apart h.M (two_no8 _ _) hn (by rw [hb, e])), h.I1.kept hk (fun b hb e => ?_) (fun s hs hn b hb e => (h.I1.ok s hs).apart h.M (two_no8 _ _) hn (by rw [hb, e])), h.S.kept hk (by omega), h.O0.kept hk (fun b hb e => ?_), h.O1.kept hk (fun b hb e => ?_), h.ne, h.M.set 0 _, h.r0, h.r1, h.s00, h.s01, h.s10, h.s11, b_set (p := ⟨p + 2, 0, none⟩) h.bel (by have := h.wp; show w.heap.size ≤ p + 2; omega) _, h.wp⟩
  · have := h.r0 b hb; omega
  · have := h.r1 b hb; omega
  · have := (h.O0.ge b hb).1; omega
  · have := (h.O1.ge b hb).1; omega
/-- Side 1's number is another one. -/
theorem KW.count1 {w W : World} {p : Nat} {B0 : Option Addr} {m0 d0 : Nat} {M0 : List ItemV} {B1 : Option Addr} {m1 d1 : Nat} {M1 : List ItemV} {S0 : Option Addr} {t0 u0 : Nat} {l0 : List Nat} {S1 : Option Addr} {t1 u1 : Nat} {l1 : List Nat} {c0 c1 : Int} (h : KW w p W B0 m0 d0 M0 B1 m1 d1 M1 S0 t0 u0 l0 S1 t1 u1 l1 c0 c1) (c : Int) : KW w p (W.setCell ⟨p + 2, 1, none⟩ (.int .i64 c)) B0 m0 d0 M0 B1 m1 d1 M1 S0 t0 u0 l0 S1 t1 u1 l1 c0 c := by
  have hk := kept1 (W := W) (p := p + 2) (j := 1) (a := .int .i64 c)
  refine ⟨h.P.kept hk (by omega), h.I0.kept hk (fun b hb e => ?_) (fun s hs hn b hb e => (h.I0.ok s hs).apart h.M (two_no8 _ _) hn (by rw [hb, e])), h.I1.kept hk (fun b hb e => ?_) (fun s hs hn b hb e => (h.I1.ok s hs).apart h.M (two_no8 _ _) hn (by rw [hb, e])), h.S.kept hk (by omega), h.O0.kept hk (fun b hb e => ?_), h.O1.kept hk (fun b hb e => ?_), h.ne, h.M.set 1 _, h.r0, h.r1, h.s00, h.s01, h.s10, h.s11, b_set (p := ⟨p + 2, 1, none⟩) h.bel (by have := h.wp; show w.heap.size ≤ p + 2; omega) _, h.wp⟩
  · have := h.r0 b hb; omega
  · have := h.r1 b hb; omega
  · have := (h.O0.ge b hb).1; omega
  · have := (h.O1.ge b hb).1; omega
/-- Bytes are laid behind those that were sent to side 0. -/
theorem KW.sent0 {w W W' : World} {p : Nat} {B0 : Option Addr} {m0 d0 : Nat} {M0 : List ItemV} {B1 : Option Addr} {m1 d1 : Nat} {M1 : List ItemV} {S0 : Option Addr} {t0 u0 : Nat} {l0 : List Nat} {S1 : Option Addr} {t1 u1 : Nat} {l1 : List Nat} {c0 c1 : Int} {T : Option Addr} {t' u' : Nat} {l' : List Nat} (h : KW w p W B0 m0 d0 M0 B1 m1 d1 M1 S0 t0 u0 l0 S1 t1 u1 l1 c0 c1) (hO : Own W' (p + 3) 5 T t' u' l') (hg : W.grownBy W' (S0.map (·.block))) (hat : T.map (·.block) = S0.map (·.block) ∨ T.map (·.block) = some W.heap.size) : KW w p (W'.setCell ⟨p + 1, 0, none⟩ (.slice T t' u')) B0 m0 d0 M0 B1 m1 d1 M1 T t' u' l' S1 t1 u1 l1 c0 c1 := by
  have hr : ∀ q, S0.map (·.block) = some q → p + 3 ≤ q := fun q hq => (h.O0.ge q hq).1
  have hk : Kept (fun i => S0.map (·.block) = some i) W W' := Kept.of_grown hg fun _ _ e => e
  have hS' : Blk W' (p + 1) #[.slice S0 t0 u0, .slice S1 t1 u1] 51 := h.S.kept hk (fun e => by have := hr _ e; omega)
  have hk2 := kept1 (W := W') (p := p + 1) (j := 0) (a := .slice T t' u')
  have hI0 : Items W' B0 m0 d0 M0 := h.I0.kept0 hk (fun hm b hb e => h.s00.row hm b e hb) (fun s hs hn b hb e => h.s00.bytes b e s hs hn hb)
  have hI1 : Items W' B1 m1 d1 M1 := h.I1.kept0 hk (fun hm b hb e => h.s10.row hm b e hb) (fun s hs hn b hb e => h.s10.bytes b e s hs hn hb)
  have hOy : Own W' (p + 3) 5 S1 t1 u1 l1 := h.O1.kept hk (fun b hb e => h.ne b e hb)
  have hT : ∀ q, T.map (·.block) = some q → p + 3 ≤ q := fun q hq => (hO.ge q hq).1
  have hTy : ∀ q, T.map (·.block) = some q → S1.map (·.block) ≠ some q := fun q hq e => by
    rcases hat with e2 | e2
    · have e3 : S0.map (·.block) = some q := e2 ▸ hq
      exact h.ne q e3 e
    · have h1 : W.heap.size = q := Option.some.inj (e2.symm.trans hq)
      have := (h.O1.ge q e).2
      omega
  refine ⟨(h.P.kept hk (fun e => by have := hr _ e; omega)).kept hk2 (by omega), hI0.kept hk2 (fun b hb e => ?_) (fun s hs hn b hb e => (hI0.ok s hs).apart hS' (pair_no8 _ _ _ _ _ _) hn (by rw [hb, e])), hI1.kept hk2 (fun b hb e => ?_) (fun s hs hn b hb e => (hI1.ok s hs).apart hS' (pair_no8 _ _ _ _ _ _) hn (by rw [hb, e])), hS'.set 0 _, hO.kept hk2 (fun b hb e => by have := hT b hb; omega), hOy.kept hk2 (fun b hb e => by have := (hOy.ge b hb).1; omega), (fun q hq e => hTy q hq e), (h.M.kept hk (fun e => by have := hr _ e; omega)).kept hk2 (by omega), h.r0, h.r1, h.s00.grown h.I0 hat, h.s01, h.s10.grown h.I1 hat, h.s11, b_set (p := ⟨p + 1, 0, none⟩) (b_kept h.bel hk (fun i hi e => by have := hr i e; have := h.wp; omega)) (by have := h.wp; show w.heap.size ≤ p + 1; omega) _, h.wp⟩
  · have := h.r0 b hb; omega
  · have := h.r1 b hb; omega
/-- Bytes are laid behind those that were sent to side 1. -/
theorem KW.sent1 {w W W' : World} {p : Nat} {B0 : Option Addr} {m0 d0 : Nat} {M0 : List ItemV} {B1 : Option Addr} {m1 d1 : Nat} {M1 : List ItemV} {S0 : Option Addr} {t0 u0 : Nat} {l0 : List Nat} {S1 : Option Addr} {t1 u1 : Nat} {l1 : List Nat} {c0 c1 : Int} {T : Option Addr} {t' u' : Nat} {l' : List Nat} (h : KW w p W B0 m0 d0 M0 B1 m1 d1 M1 S0 t0 u0 l0 S1 t1 u1 l1 c0 c1) (hO : Own W' (p + 3) 5 T t' u' l') (hg : W.grownBy W' (S1.map (·.block))) (hat : T.map (·.block) = S1.map (·.block) ∨ T.map (·.block) = some W.heap.size) : KW w p (W'.setCell ⟨p + 1, 1, none⟩ (.slice T t' u')) B0 m0 d0 M0 B1 m1 d1 M1 S0 t0 u0 l0 T t' u' l' c0 c1 := by
  have hr : ∀ q, S1.map (·.block) = some q → p + 3 ≤ q := fun q hq => (h.O1.ge q hq).1
  have hk : Kept (fun i => S1.map (·.block) = some i) W W' := Kept.of_grown hg fun _ _ e => e
  have hS' : Blk W' (p + 1) #[.slice S0 t0 u0, .slice S1 t1 u1] 51 := h.S.kept hk (fun e => by have := hr _ e; omega)
  have hk2 := kept1 (W := W') (p := p + 1) (j := 1) (a := .slice T t' u')
  have hI0 : Items W' B0 m0 d0 M0 := h.I0.kept0 hk (fun hm b hb e => h.s01.row hm b e hb) (fun s hs hn b hb e => h.s01.bytes b e s hs hn hb)
  have hI1 : Items W' B1 m1 d1 M1 := h.I1.kept0 hk (fun hm b hb e => h.s11.row hm b e hb) (fun s hs hn b hb e => h.s11.bytes b e s hs hn hb)
  have hOy : Own W' (p + 3) 5 S0 t0 u0 l0 := h.O0.kept hk (fun b hb e => h.ne b hb e)
  have hT : ∀ q, T.map (·.block) = some q → p + 3 ≤ q := fun q hq => (hO.ge q hq).1
  have hTy : ∀ q, T.map (·.block) = some q → S0.map (·.block) ≠ some q := fun q hq e => by
    rcases hat with e2 | e2
    · have e3 : S1.map (·.block) = some q := e2 ▸ hq
      exact h.ne q e e3
    · have h1 : W.heap.size = q := Option.some.inj (e2.symm.trans hq)
      have := (h.O0.ge q e).2
      omega
  refine ⟨(h.P.kept hk (fun e => by have := hr _ e; omega)).kept hk2 (by omega), hI0.kept hk2 (fun b hb e => ?_) (fun s hs hn b hb e => (hI0.ok s hs).apart hS' (pair_no8 _ _ _ _ _ _) hn (by rw [hb, e])), hI1.kept hk2 (fun b hb e => ?_) (fun s hs hn b hb e => (hI1.ok s hs).apart hS' (pair_no8 _ _ _ _ _ _) hn (by rw [hb, e])), hS'.set 1 _, hOy.kept hk2 (fun b hb e => by have := (hOy.ge b hb).1; omega), hO.kept hk2 (fun b hb e => by have := hT b hb; omega), (fun q hq e => hTy q e hq), (h.M.kept hk (fun e => by have := hr _ e; omega)).kept hk2 (by omega), h.r0, h.r1, h.s00, h.s01.grown h.I0 hat, h.s10, h.s11.grown h.I1 hat, b_set (p := ⟨p + 1, 1, none⟩) (b_kept h.bel hk (fun i hi e => by have := hr i e; have := h.wp; omega)) (by have := h.wp; show w.heap.size ≤ p + 1; omega) _, h.wp⟩
  · have := h.r0 b hb; omega
  · have := h.r1 b hb; omega
end Go.Proofs.Ytbmfcaobhgeogaa
