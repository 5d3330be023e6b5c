/-
  The law's own small functions of a link: sure, by its contract.
-/
import Derived.Test.YtbmfcaobhgeogaaLinkTurn
import Derived.Test.YtbmfcaobhgeogaaKit2
import Derived.Test.YtbmfcaobhgeogaaKit2
import Derived.Lib.SlBytesConst
namespace Go.Proofs.Ytbmfcaobhgeogaa
open Go.RowKit
set_option linter.unusedVariables false
set_option linter.unusedSimpArgs false
set_option maxRecDepth 100000

/-- A link is laid into a variable that is just made. -/
theorem fresh_link {x : World} {B0 : Option Addr} {m0 d0 : Nat} {M0 : List ItemV} {B1 : Option Addr} {m1 d1 : Nat} {M1 : List ItemV} (dd : Bool) {t : TypeId} (hI0 : Items x B0 m0 d0 M0) (hI1 : Items x B1 m1 d1 M1) :
    ∀ W, W = x.alloc (.cells #[.slice B0 m0 d0, .slice B1 m1 d1, .bool dd] t) →
      Blk W x.heap.size #[.slice B0 m0 d0, .slice B1 m1 d1, .bool dd] t ∧ Items W B0 m0 d0 M0 ∧ Items W B1 m1 d1 M1 ∧ Below x.heap.size x W ∧ x.heap.size < W.heap.size := by
  rintro W rfl
  have hB := Blk.new x #[.slice B0 m0 d0, .slice B1 m1 d1, .bool dd] t
  have hb := b_alloc (Below.refl x.heap.size x) (.cells #[.slice B0 m0 d0, .slice B1 m1 d1, .bool dd] t)
  exact ⟨hB, hI0.keep hb, hI1.keep hb, hb, hB.lt⟩
/-- A link is laid into an elder variable. -/
theorem laid_link {x : World} {p base : Nat} {cs : Array Value} {B0 : Option Addr} {m0 d0 : Nat} {M0 : List ItemV} {B1 : Option Addr} {m1 d1 : Nat} {M1 : List ItemV} (dd : Bool) {t : TypeId} {u0 u1 u2 : Value} (hcs : cs = #[u0, u1, u2]) (hB : Blk x p cs t) (hno : ∀ (i : Nat) (v : Value), cs[i]? = some v → ∀ x : Int, v ≠ Value.int .u8 x) (hI0 : Items x B0 m0 d0 M0) (hI1 : Items x B1 m1 d1 M1)
    (hb0 : ∀ q, B0.map (·.block) = some q → base ≤ q) (hb1 : ∀ q, B1.map (·.block) = some q → base ≤ q) (hp : p < base) :
    ∀ W, W = ((x.setCell ⟨p, 0, none⟩ (.slice B0 m0 d0)).setCell ⟨p, 1, none⟩ (.slice B1 m1 d1)).setCell ⟨p, 2, none⟩ (.bool dd) →
      Blk W p #[.slice B0 m0 d0, .slice B1 m1 d1, .bool dd] t ∧ Items W B0 m0 d0 M0 ∧ Items W B1 m1 d1 M1 ∧ W.heap.size = x.heap.size ∧ Kept (fun i => i = p) x W := by
  rintro W rfl
  subst hcs
  refine ⟨store3 hB, ?_, ?_, by simp, kept3⟩
  · exact hI0.kept kept3 (fun b hb e => by have := hb0 b hb; omega) (fun s hs hn b hb e => (hI0.ok s hs).apart hB hno hn (by rw [hb, e]))
  · exact hI1.kept kept3 (fun b hb e => by have := hb1 b hb; omega) (fun s hs hn b hb e => (hI1.ok s hs).apart hB hno hn (by rw [hb, e]))

set_option maxHeartbeats 8000000 in
theorem sure23_any (w : World) : Calls Try.prog 20 #[] w (fun e w' => e = .returned (.bool true) ∧ Below w.heap.size w w') := by
  have r1 : sendR ⟨[], [], false⟩ 1 [97] = (⟨[], [([97], false)], false⟩, 0) := by simp [sendR, Lk.zero]
  have r2 : twiceR ⟨[], [([97], false)], false⟩ 1 0 = (⟨[], [([97], false), ([97], false)], false⟩, 0) := by simp [twiceR, atE]
  have r3 : takeR ⟨[], [([97], false), ([97], false)], false⟩ 1 0 = (⟨[], [([97], false)], false⟩, [97], 0) := by simp [takeR, atE]
  have r4 : takeR ⟨[], [([97], false)], false⟩ 1 0 = (⟨[], [], false⟩, [97], 0) := by simp [takeR, atE]
  have r1 := Lib.hid r1
  have r2 := Lib.hid r2
  have r3 := Lib.hid r3
  have r4 := Lib.hid r4
  go_enter Try.func20, Try.ntmps20
  have kc := fun (w : World) (C : Array Value) (n c : Nat) => Lib.run_convert_bytes_const (P := Try.prog) w 50 5 C n c Try.underlying50 Try.underlying5
  go_upto_region 2 with (go_at_call 19; refine (send_any none 0 0 [] none 0 0 [] false ⟨[], [], false⟩ rfl 1 _ 1 1 [97] _ (Items.nil _) (Items.nil _) (Bs.lit w 5 (1, 2) [97] 1 rfl (by omega) (by simp))).mono ?_; rw [r1.out]; unfold LinkP; dsimp only; rw [errOf_0]; rintro e x1 ⟨lv, rfl, ⟨B0, m0, d0, M0, B1, m1, d1, M1, rfl, hI0, hI1, e0, e1, hb0, hb1, -, -⟩, hbx⟩)
  clear kc
  have hbw := b_then (b_alloc (Below.refl w.heap.size w) (.cells (bytesV [97]).toArray 5 (1, 2))) hbx
  have hfl := fresh_link (t := 49) false hI0 hI1 _ rfl
  have hpw : w.heap.size ≤ x1.heap.size := hbw.size
  generalize x1.alloc (.cells #[.slice B0 m0 d0, .slice B1 m1 d1, .bool false] 49) = W1 at hfl ⊢
  obtain ⟨hP, hJ0, hJ1, hbW, hlt⟩ := hfl
  have hbw1 := b_then hbw hbW
  generalize x1.heap.size = p at hP hlt hpw ⊢
  clear hbW hbw hI0 hI1 hb0 hb1 hbx
  have k0 := hP.cell 0 rfl
  have kf0 := hP.free 0
  have k1 := hP.cell 1 rfl
  have kf1 := hP.free 1
  have k2 := hP.cell 2 rfl
  have kf2 := hP.free 2
  go_upto_region 3 with (go_at_call 17; refine (twice_any B0 m0 d0 M0 B1 m1 d1 M1 false ⟨[], [([97], false)], false⟩ (by rw [e0, e1]) 1 0 _ hJ0 hJ1).mono ?_; rw [r2.out]; unfold LinkP; dsimp only; rw [errOf_0]; rintro e x2 ⟨lv, rfl, ⟨C0, n0, f0, N0, C1, n1, f1, N1, rfl, hI0, hI1, i0, i1, hb0, hb1, -, -⟩, hbx⟩; have hPx := hP.keep hbx; have k0 := hPx.cell 0 rfl; have k1 := hPx.cell 1 rfl; have k2 := hPx.cell 2 rfl; have kf0 := hPx.free 0; have kf1 := hPx.free 1; have kf2 := hPx.free 2)
  have hll := laid_link false rfl (hP.keep hbx) (link_no8 _ _ _ _ _ _ _) hI0 hI1 hb0 hb1 hlt _ rfl
  have hbs := below3 (p := p) (a := .slice C0 n0 f0) (b := .slice C1 n1 f1) (c := .bool false) (b_then hbw1 hbx) hpw
  have hsz := hbx.size
  generalize (((x2.setCell ⟨p, 0, none⟩ (.slice C0 n0 f0)).setCell ⟨p, 1, none⟩ (.slice C1 n1 f1)).setCell ⟨p, 2, none⟩ (.bool false)) = W2 at hll hbs ⊢
  obtain ⟨hP2, hJ2, hJ3, hze, _⟩ := hll
  have hlt2 : p < W2.heap.size := by omega
  clear hI0 hI1 hb0 hb1 hbx hP hJ0 hJ1 e0 e1 k0 k1 k2 kf0 kf1 kf2 hsz hze hPx
  have k0 := hP2.cell 0 rfl
  have kf0 := hP2.free 0
  have k1 := hP2.cell 1 rfl
  have kf1 := hP2.free 1
  have k2 := hP2.cell 2 rfl
  have kf2 := hP2.free 2
  go_upto_region 4 with (go_at_call 15; refine (take_any C0 n0 f0 N0 C1 n1 f1 N1 false ⟨[], [([97], false), ([97], false)], false⟩ (by rw [i0, i1]) 1 0 _ hJ2 hJ3).mono ?_; rw [r3.out]; unfold TakeP; dsimp only; rw [errOf_0]; rintro e x3 ⟨lv, Ab, nb, cb, rfl, ⟨B0, m0, d0, M0, B1, m1, d1, M1, rfl, hI0, hI1, e0, e1, hb0, hb1, -, -⟩, hbs3, hbx⟩; have hPx := hP2.keep hbx; have k0 := hPx.cell 0 rfl; have k1 := hPx.cell 1 rfl; have k2 := hPx.cell 2 rfl; have kf0 := hPx.free 0; have kf1 := hPx.free 1; have kf2 := hPx.free 2)
  have hll := laid_link false rfl (hP2.keep hbx) (link_no8 _ _ _ _ _ _ _) hI0 hI1 hb0 hb1 hlt2 _ rfl
  have hbs' := below3 (p := p) (a := .slice B0 m0 d0) (b := .slice B1 m1 d1) (c := .bool false) (b_then hbs hbx) hpw
  have hsz := hbx.size
  have hby3 := hbs3.far (kept3 (p := p) (a := .slice B0 m0 d0) (b := .slice B1 m1 d1) (c := .bool false)) (fun hn q hq e => hbs3.apart hPx (link_no8 _ _ _ _ _ _ _) hn (by rw [hq, e]))
  generalize (((x3.setCell ⟨p, 0, none⟩ (.slice B0 m0 d0)).setCell ⟨p, 1, none⟩ (.slice B1 m1 d1)).setCell ⟨p, 2, none⟩ (.bool false)) = W3 at hll hbs' hby3 ⊢
  obtain ⟨hP3, hJ0, hJ1, hze, _⟩ := hll
  have hlt3 : p < W3.heap.size := by omega
  clear hI0 hI1 hb0 hb1 hbx hP2 hJ2 hJ3 i0 i1 k0 k1 k2 kf0 kf1 kf2 hsz hze hPx hbs3 hbs
  have k0 := hP3.cell 0 rfl
  have kf0 := hP3.free 0
  have k1 := hP3.cell 1 rfl
  have kf1 := hP3.free 1
  have k2 := hP3.cell 2 rfl
  have kf2 := hP3.free 2
  go_upto_region 5 with (go_at_call 15; refine (take_any B0 m0 d0 M0 B1 m1 d1 M1 false ⟨[], [([97], false)], false⟩ (by rw [e0, e1]) 1 0 _ hJ0 hJ1).mono ?_; rw [r4.out]; unfold TakeP; dsimp only; rw [errOf_0]; rintro e x4 ⟨lv, Ac, nc, cc, rfl, ⟨C0, n0, f0, N0, C1, n1, f1, N1, rfl, hI0, hI1, i0, i1, hb0, hb1, -, -⟩, hbs4, hbx⟩; have hPx := hP3.keep hbx; have k0 := hPx.cell 0 rfl; have k1 := hPx.cell 1 rfl; have k2 := hPx.cell 2 rfl; have kf0 := hPx.free 0; have kf1 := hPx.free 1; have kf2 := hPx.free 2)
  have hll := laid_link false rfl (hP3.keep hbx) (link_no8 _ _ _ _ _ _ _) hI0 hI1 hb0 hb1 hlt3 _ rfl
  have hbs := below3 (p := p) (a := .slice C0 n0 f0) (b := .slice C1 n1 f1) (c := .bool false) (b_then hbs' hbx) hpw
  have hby4 := hbs4.far (kept3 (p := p) (a := .slice C0 n0 f0) (b := .slice C1 n1 f1) (c := .bool false)) (fun hn q hq e => hbs4.apart hPx (link_no8 _ _ _ _ _ _ _) hn (by rw [hq, e]))
  have hby5 := (hby3.keep hbx).far (kept3 (p := p) (a := .slice C0 n0 f0) (b := .slice C1 n1 f1) (c := .bool false)) (fun hn q hq e => (hby3.keep hbx).apart hPx (link_no8 _ _ _ _ _ _ _) hn (by rw [hq, e]))
  generalize (((x4.setCell ⟨p, 0, none⟩ (.slice C0 n0 f0)).setCell ⟨p, 1, none⟩ (.slice C1 n1 f1)).setCell ⟨p, 2, none⟩ (.bool false)) = W4 at hll hbs hby4 hby5 ⊢
  obtain ⟨hP4, hJ2, hJ3, _, _⟩ := hll
  obtain rfl : n1 = 0 := by
    have h1 := hJ3.len
    have h2 : (says N1).length = 0 := by rw [i1]; rfl
    rw [says_len] at h2
    omega
  clear hI0 hI1 hb0 hb1 hbx hP3 hJ0 hJ1 e0 e1 k0 k1 k2 kf0 kf1 kf2 hPx hby3 hbs4 hbs'
  have q1 := run_str (P := Try.prog) 50 5 9 Try.underlying50 Try.underlying5 Try.underlying9 hby5
  have q2 := run_str (P := Try.prog) 50 5 9 Try.underlying50 Try.underlying5 Try.underlying9 hby4
  have hstr : strOf [97] = { data := #[97] } := by rfl
  rw [hstr] at q1 q2
  have k0 := hP4.cell 0 rfl
  have kf0 := hP4.free 0
  have k1 := hP4.cell 1 rfl
  have kf1 := hP4.free 1
  have k2 := hP4.cell 2 rfl
  have kf2 := hP4.free 2
  go_wp2_with fail
  go_ret
  exact ⟨rfl, hbs⟩
end Go.Proofs.Ytbmfcaobhgeogaa
