import Derived.Test.YtdffbihilhkkjaaGreatDoorZ8
import Derived.Test.YtdffbihilhkkjaaGreatDoorZ24
import Derived.Test.YtdffbihilhkkjaaGreatDoorZ25
import Derived.Test.YtdffbihilhkkjaaGreatDoorZ26
import Derived.Deep.QuietTactic
import Derived.BigQuiet
import Derived.Deep.MidRow
namespace Go.Proofs.YtdffbihilhkkjaaGreatDoor
open Go.RowKit
set_option linter.unusedVariables false
set_option linter.unusedSimpArgs false
set_option maxRecDepth 100000
set_option maxHeartbeats 8000000
theorem zz {w:World} {g:Nat} {u:So.Uart} (h:Blk w g (So.uartL u).toArray 79):w.cell? ⟨g,33,none⟩=some (Value.int .i64 u.tx.n)∧w.cell? ⟨g,34,none⟩=some (Value.int .u8 (u.ier:Int))∧w.cell? ⟨g,36,none⟩=some (Value.int .u8 (u.mcr:Int))∧w.cell? ⟨g,41,none⟩=some (Value.int .i64 u.wait):=⟨h.cell 33 (by kernel_rfl),h.cell 34 (by kernel_rfl),h.cell 36 (by kernel_rfl),h.cell 41 (by kernel_rfl)⟩
theorem zi0 (u:So.Uart) (w:World) (x y:Bool) (HB:Hid (So.uartB u=(x&&y&&decide (u.ier≤7)&&decide (u.mcr≤31)&&decide (0≤u.wait)&&decide (u.wait<4) && !(decide (0<u.wait)&&decide (u.tx.n=0))))) (HX:Hid (So.fifoOk u.rx=x)) (HY:Hid (So.fifoOk u.tx=y)) (v0:x=false):Calls Tryz.prog 83 #[.agg (So.uartL u).toArray] w (CkP w (So.uartB u)):=by
 subst v0
 go_enter Tryz.func83,Tryz.ntmps83
 go_upto_region 1 with (fail)
 have hB:=Blk.new w (So.uartL u).toArray 79
 have hbel:=za (Below.refl w.heap.size w) (.cells (So.uartL u).toArray 79)
 generalize w.alloc (.cells (So.uartL u).toArray 79)=W1 at hB hbel ⊢
 obtain ⟨g,hg⟩:=qX w.heap.size
 rw [hg] at hB ⊢
 clear hg
 obtain ⟨c33,c34,c36,c41⟩:=zz hB
 go_upto_if 3 with (first | (refine ze 77 (.tmp 4) rfl g 0 rfl (So.fifoL u.rx) _ (zd hB 0 17 rfl) Tryz.underlying77 rfl (by kernel_rfl) (by rfl) ?_) | (go_at_call_of 150 (So.fifoL u.rx);refine (zB u.rx _).mono ?_;rintro e w2 ⟨rfl,hb2⟩;rw [HX.out];have hbel:=zb hbel hb2;have hB:=hB.keep hb2;clear hb2 c33 c34 c36 c41;obtain ⟨c33,c34,c36,c41⟩:=zz hB) | fail)
 go_wp2_with fail
 go_ret
 exact zu (by rw [HB.out];simp) hbel
theorem zi1 (u:So.Uart) (w:World) (x y:Bool) (HB:Hid (So.uartB u=(x&&y&&decide (u.ier≤7)&&decide (u.mcr≤31)&&decide (0≤u.wait)&&decide (u.wait<4) && !(decide (0<u.wait)&&decide (u.tx.n=0))))) (HX:Hid (So.fifoOk u.rx=x)) (HY:Hid (So.fifoOk u.tx=y)) (v0:x=true) (v1:y=false):Calls Tryz.prog 83 #[.agg (So.uartL u).toArray] w (CkP w (So.uartB u)):=by
 subst v0
 subst v1
 go_enter Tryz.func83,Tryz.ntmps83
 go_upto_region 1 with (fail)
 have hB:=Blk.new w (So.uartL u).toArray 79
 have hbel:=za (Below.refl w.heap.size w) (.cells (So.uartL u).toArray 79)
 generalize w.alloc (.cells (So.uartL u).toArray 79)=W1 at hB hbel ⊢
 obtain ⟨g,hg⟩:=qX w.heap.size
 rw [hg] at hB ⊢
 clear hg
 obtain ⟨c33,c34,c36,c41⟩:=zz hB
 go_upto_if 3 with (first | (refine ze 77 (.tmp 4) rfl g 0 rfl (So.fifoL u.rx) _ (zd hB 0 17 rfl) Tryz.underlying77 rfl (by kernel_rfl) (by rfl) ?_) | (go_at_call_of 150 (So.fifoL u.rx);refine (zB u.rx _).mono ?_;rintro e w2 ⟨rfl,hb2⟩;rw [HX.out];have hbel:=zb hbel hb2;have hB:=hB.keep hb2;clear hb2 c33 c34 c36 c41;obtain ⟨c33,c34,c36,c41⟩:=zz hB) | (refine ze 77 (.tmp 9) rfl g 17 rfl (So.fifoL u.tx) _ (zd hB 17 17 rfl) Tryz.underlying77 rfl (by kernel_rfl) (by rfl) ?_) | (go_at_call_of 150 (So.fifoL u.tx);refine (zB u.tx _).mono ?_;rintro e w2 ⟨rfl,hb2⟩;rw [HY.out];have hbel:=zb hbel hb2;have hB:=hB.keep hb2;clear hb2 c33 c34 c36 c41;obtain ⟨c33,c34,c36,c41⟩:=zz hB) | fail)
 go_wp2_with fail
 go_ret
 exact zu (by rw [HB.out];simp) hbel
theorem zi2 (u:So.Uart) (w:World) (x y:Bool) (HB:Hid (So.uartB u=(x&&y&&decide (u.ier≤7)&&decide (u.mcr≤31)&&decide (0≤u.wait)&&decide (u.wait<4) && !(decide (0<u.wait)&&decide (u.tx.n=0))))) (HX:Hid (So.fifoOk u.rx=x)) (HY:Hid (So.fifoOk u.tx=y)) (v0:x=true) (v1:y=true) (n1:¬ (u.ier:Int)≤7) (f1:Hid (decide (u.ier≤7)=false)):Calls Tryz.prog 83 #[.agg (So.uartL u).toArray] w (CkP w (So.uartB u)):=by
 subst v0
 subst v1
 go_enter Tryz.func83,Tryz.ntmps83
 go_upto_region 1 with (fail)
 have hB:=Blk.new w (So.uartL u).toArray 79
 have hbel:=za (Below.refl w.heap.size w) (.cells (So.uartL u).toArray 79)
 generalize w.alloc (.cells (So.uartL u).toArray 79)=W1 at hB hbel ⊢
 obtain ⟨g,hg⟩:=qX w.heap.size
 rw [hg] at hB ⊢
 clear hg
 obtain ⟨c33,c34,c36,c41⟩:=zz hB
 go_upto_if 3 with (first | (refine ze 77 (.tmp 4) rfl g 0 rfl (So.fifoL u.rx) _ (zd hB 0 17 rfl) Tryz.underlying77 rfl (by kernel_rfl) (by rfl) ?_) | (go_at_call_of 150 (So.fifoL u.rx);refine (zB u.rx _).mono ?_;rintro e w2 ⟨rfl,hb2⟩;rw [HX.out];have hbel:=zb hbel hb2;have hB:=hB.keep hb2;clear hb2 c33 c34 c36 c41;obtain ⟨c33,c34,c36,c41⟩:=zz hB) | (refine ze 77 (.tmp 9) rfl g 17 rfl (So.fifoL u.tx) _ (zd hB 17 17 rfl) Tryz.underlying77 rfl (by kernel_rfl) (by rfl) ?_) | (go_at_call_of 150 (So.fifoL u.tx);refine (zB u.tx _).mono ?_;rintro e w2 ⟨rfl,hb2⟩;rw [HY.out];have hbel:=zb hbel hb2;have hB:=hB.keep hb2;clear hb2 c33 c34 c36 c41;obtain ⟨c33,c34,c36,c41⟩:=zz hB) | fail)
 go_wp2_with fail
 go_ret
 exact zu (by rw [HB.out,f1.out];simp) hbel
theorem zi3 (u:So.Uart) (w:World) (x y:Bool) (HB:Hid (So.uartB u=(x&&y&&decide (u.ier≤7)&&decide (u.mcr≤31)&&decide (0≤u.wait)&&decide (u.wait<4) && !(decide (0<u.wait)&&decide (u.tx.n=0))))) (HX:Hid (So.fifoOk u.rx=x)) (HY:Hid (So.fifoOk u.tx=y)) (v0:x=true) (v1:y=true) (n1:(u.ier:Int)≤7) (f1:Hid (decide (u.ier≤7)=true)) (n2:¬ (u.mcr:Int)≤31) (f2:Hid (decide (u.mcr≤31)=false)):Calls Tryz.prog 83 #[.agg (So.uartL u).toArray] w (CkP w (So.uartB u)):=by
 subst v0
 subst v1
 go_enter Tryz.func83,Tryz.ntmps83
 go_upto_region 1 with (fail)
 have hB:=Blk.new w (So.uartL u).toArray 79
 have hbel:=za (Below.refl w.heap.size w) (.cells (So.uartL u).toArray 79)
 generalize w.alloc (.cells (So.uartL u).toArray 79)=W1 at hB hbel ⊢
 obtain ⟨g,hg⟩:=qX w.heap.size
 rw [hg] at hB ⊢
 clear hg
 obtain ⟨c33,c34,c36,c41⟩:=zz hB
 go_upto_if 3 with (first | (refine ze 77 (.tmp 4) rfl g 0 rfl (So.fifoL u.rx) _ (zd hB 0 17 rfl) Tryz.underlying77 rfl (by kernel_rfl) (by rfl) ?_) | (go_at_call_of 150 (So.fifoL u.rx);refine (zB u.rx _).mono ?_;rintro e w2 ⟨rfl,hb2⟩;rw [HX.out];have hbel:=zb hbel hb2;have hB:=hB.keep hb2;clear hb2 c33 c34 c36 c41;obtain ⟨c33,c34,c36,c41⟩:=zz hB) | (refine ze 77 (.tmp 9) rfl g 17 rfl (So.fifoL u.tx) _ (zd hB 17 17 rfl) Tryz.underlying77 rfl (by kernel_rfl) (by rfl) ?_) | (go_at_call_of 150 (So.fifoL u.tx);refine (zB u.tx _).mono ?_;rintro e w2 ⟨rfl,hb2⟩;rw [HY.out];have hbel:=zb hbel hb2;have hB:=hB.keep hb2;clear hb2 c33 c34 c36 c41;obtain ⟨c33,c34,c36,c41⟩:=zz hB) | fail)
 go_wp2_with fail
 go_ret
 exact zu (by rw [HB.out,f2.out];simp) hbel
theorem zi4 (u:So.Uart) (w:World) (x y:Bool) (HB:Hid (So.uartB u=(x&&y&&decide (u.ier≤7)&&decide (u.mcr≤31)&&decide (0≤u.wait)&&decide (u.wait<4) && !(decide (0<u.wait)&&decide (u.tx.n=0))))) (HX:Hid (So.fifoOk u.rx=x)) (HY:Hid (So.fifoOk u.tx=y)) (v0:x=true) (v1:y=true) (n1:(u.ier:Int)≤7) (f1:Hid (decide (u.ier≤7)=true)) (n2:(u.mcr:Int)≤31) (f2:Hid (decide (u.mcr≤31)=true)) (n3:¬ 0≤u.wait) (f3:Hid (decide (0≤u.wait)=false)):Calls Tryz.prog 83 #[.agg (So.uartL u).toArray] w (CkP w (So.uartB u)):=by
 subst v0
 subst v1
 go_enter Tryz.func83,Tryz.ntmps83
 go_upto_region 1 with (fail)
 have hB:=Blk.new w (So.uartL u).toArray 79
 have hbel:=za (Below.refl w.heap.size w) (.cells (So.uartL u).toArray 79)
 generalize w.alloc (.cells (So.uartL u).toArray 79)=W1 at hB hbel ⊢
 obtain ⟨g,hg⟩:=qX w.heap.size
 rw [hg] at hB ⊢
 clear hg
 obtain ⟨c33,c34,c36,c41⟩:=zz hB
 go_upto_if 3 with (first | (refine ze 77 (.tmp 4) rfl g 0 rfl (So.fifoL u.rx) _ (zd hB 0 17 rfl) Tryz.underlying77 rfl (by kernel_rfl) (by rfl) ?_) | (go_at_call_of 150 (So.fifoL u.rx);refine (zB u.rx _).mono ?_;rintro e w2 ⟨rfl,hb2⟩;rw [HX.out];have hbel:=zb hbel hb2;have hB:=hB.keep hb2;clear hb2 c33 c34 c36 c41;obtain ⟨c33,c34,c36,c41⟩:=zz hB) | (refine ze 77 (.tmp 9) rfl g 17 rfl (So.fifoL u.tx) _ (zd hB 17 17 rfl) Tryz.underlying77 rfl (by kernel_rfl) (by rfl) ?_) | (go_at_call_of 150 (So.fifoL u.tx);refine (zB u.tx _).mono ?_;rintro e w2 ⟨rfl,hb2⟩;rw [HY.out];have hbel:=zb hbel hb2;have hB:=hB.keep hb2;clear hb2 c33 c34 c36 c41;obtain ⟨c33,c34,c36,c41⟩:=zz hB) | fail)
 go_wp2_with fail
 go_ret
 exact zu (by rw [HB.out,f3.out];simp) hbel
theorem zi5 (u:So.Uart) (w:World) (x y:Bool) (HB:Hid (So.uartB u=(x&&y&&decide (u.ier≤7)&&decide (u.mcr≤31)&&decide (0≤u.wait)&&decide (u.wait<4) && !(decide (0<u.wait)&&decide (u.tx.n=0))))) (HX:Hid (So.fifoOk u.rx=x)) (HY:Hid (So.fifoOk u.tx=y)) (v0:x=true) (v1:y=true) (n1:(u.ier:Int)≤7) (f1:Hid (decide (u.ier≤7)=true)) (n2:(u.mcr:Int)≤31) (f2:Hid (decide (u.mcr≤31)=true)) (n3:0≤u.wait) (f3:Hid (decide (0≤u.wait)=true)) (n4:¬ u.wait<4) (f4:Hid (decide (u.wait<4)=false)):Calls Tryz.prog 83 #[.agg (So.uartL u).toArray] w (CkP w (So.uartB u)):=by
 subst v0
 subst v1
 go_enter Tryz.func83,Tryz.ntmps83
 go_upto_region 1 with (fail)
 have hB:=Blk.new w (So.uartL u).toArray 79
 have hbel:=za (Below.refl w.heap.size w) (.cells (So.uartL u).toArray 79)
 generalize w.alloc (.cells (So.uartL u).toArray 79)=W1 at hB hbel ⊢
 obtain ⟨g,hg⟩:=qX w.heap.size
 rw [hg] at hB ⊢
 clear hg
 obtain ⟨c33,c34,c36,c41⟩:=zz hB
 go_upto_if 3 with (first | (refine ze 77 (.tmp 4) rfl g 0 rfl (So.fifoL u.rx) _ (zd hB 0 17 rfl) Tryz.underlying77 rfl (by kernel_rfl) (by rfl) ?_) | (go_at_call_of 150 (So.fifoL u.rx);refine (zB u.rx _).mono ?_;rintro e w2 ⟨rfl,hb2⟩;rw [HX.out];have hbel:=zb hbel hb2;have hB:=hB.keep hb2;clear hb2 c33 c34 c36 c41;obtain ⟨c33,c34,c36,c41⟩:=zz hB) | (refine ze 77 (.tmp 9) rfl g 17 rfl (So.fifoL u.tx) _ (zd hB 17 17 rfl) Tryz.underlying77 rfl (by kernel_rfl) (by rfl) ?_) | (go_at_call_of 150 (So.fifoL u.tx);refine (zB u.tx _).mono ?_;rintro e w2 ⟨rfl,hb2⟩;rw [HY.out];have hbel:=zb hbel hb2;have hB:=hB.keep hb2;clear hb2 c33 c34 c36 c41;obtain ⟨c33,c34,c36,c41⟩:=zz hB) | fail)
 go_wp2_with fail
 go_ret
 exact zu (by rw [HB.out,f4.out];simp) hbel
theorem zi6 (u:So.Uart) (w:World) (x y:Bool) (HB:Hid (So.uartB u=(x&&y&&decide (u.ier≤7)&&decide (u.mcr≤31)&&decide (0≤u.wait)&&decide (u.wait<4) && !(decide (0<u.wait)&&decide (u.tx.n=0))))) (HX:Hid (So.fifoOk u.rx=x)) (HY:Hid (So.fifoOk u.tx=y)) (v0:x=true) (v1:y=true) (n1:(u.ier:Int)≤7) (f1:Hid (decide (u.ier≤7)=true)) (n2:(u.mcr:Int)≤31) (f2:Hid (decide (u.mcr≤31)=true)) (n3:0≤u.wait) (f3:Hid (decide (0≤u.wait)=true)) (n4:u.wait<4) (f4:Hid (decide (u.wait<4)=true)) (n5:0<u.wait) (f5:Hid (decide (0<u.wait)=true)) (n6:u.tx.n=0) (f6:Hid (decide (u.tx.n=0)=true)) (m6:(u.tx.n==0)=true):Calls Tryz.prog 83 #[.agg (So.uartL u).toArray] w (CkP w (So.uartB u)):=by
 subst v0
 subst v1
 go_enter Tryz.func83,Tryz.ntmps83
 go_upto_region 1 with (fail)
 have hB:=Blk.new w (So.uartL u).toArray 79
 have hbel:=za (Below.refl w.heap.size w) (.cells (So.uartL u).toArray 79)
 generalize w.alloc (.cells (So.uartL u).toArray 79)=W1 at hB hbel ⊢
 obtain ⟨g,hg⟩:=qX w.heap.size
 rw [hg] at hB ⊢
 clear hg
 obtain ⟨c33,c34,c36,c41⟩:=zz hB
 go_upto_if 3 with (first | (refine ze 77 (.tmp 4) rfl g 0 rfl (So.fifoL u.rx) _ (zd hB 0 17 rfl) Tryz.underlying77 rfl (by kernel_rfl) (by rfl) ?_) | (go_at_call_of 150 (So.fifoL u.rx);refine (zB u.rx _).mono ?_;rintro e w2 ⟨rfl,hb2⟩;rw [HX.out];have hbel:=zb hbel hb2;have hB:=hB.keep hb2;clear hb2 c33 c34 c36 c41;obtain ⟨c33,c34,c36,c41⟩:=zz hB) | (refine ze 77 (.tmp 9) rfl g 17 rfl (So.fifoL u.tx) _ (zd hB 17 17 rfl) Tryz.underlying77 rfl (by kernel_rfl) (by rfl) ?_) | (go_at_call_of 150 (So.fifoL u.tx);refine (zB u.tx _).mono ?_;rintro e w2 ⟨rfl,hb2⟩;rw [HY.out];have hbel:=zb hbel hb2;have hB:=hB.keep hb2;clear hb2 c33 c34 c36 c41;obtain ⟨c33,c34,c36,c41⟩:=zz hB) | fail)
 go_wp2_with fail
 go_ret
 exact zu (by rw [HB.out,f5.out,f6.out];simp) hbel
theorem zi7 (u:So.Uart) (w:World) (x y:Bool) (HB:Hid (So.uartB u=(x&&y&&decide (u.ier≤7)&&decide (u.mcr≤31)&&decide (0≤u.wait)&&decide (u.wait<4) && !(decide (0<u.wait)&&decide (u.tx.n=0))))) (HX:Hid (So.fifoOk u.rx=x)) (HY:Hid (So.fifoOk u.tx=y)) (v0:x=true) (v1:y=true) (n1:(u.ier:Int)≤7) (f1:Hid (decide (u.ier≤7)=true)) (n2:(u.mcr:Int)≤31) (f2:Hid (decide (u.mcr≤31)=true)) (n3:0≤u.wait) (f3:Hid (decide (0≤u.wait)=true)) (n4:u.wait<4) (f4:Hid (decide (u.wait<4)=true)) (n5:0<u.wait) (f5:Hid (decide (0<u.wait)=true)) (n6:¬ u.tx.n=0) (f6:Hid (decide (u.tx.n=0)=false)) (m6:(u.tx.n==0)=false):Calls Tryz.prog 83 #[.agg (So.uartL u).toArray] w (CkP w (So.uartB u)):=by
 subst v0
 subst v1
 go_enter Tryz.func83,Tryz.ntmps83
 go_upto_region 1 with (fail)
 have hB:=Blk.new w (So.uartL u).toArray 79
 have hbel:=za (Below.refl w.heap.size w) (.cells (So.uartL u).toArray 79)
 generalize w.alloc (.cells (So.uartL u).toArray 79)=W1 at hB hbel ⊢
 obtain ⟨g,hg⟩:=qX w.heap.size
 rw [hg] at hB ⊢
 clear hg
 obtain ⟨c33,c34,c36,c41⟩:=zz hB
 go_upto_if 3 with (first | (refine ze 77 (.tmp 4) rfl g 0 rfl (So.fifoL u.rx) _ (zd hB 0 17 rfl) Tryz.underlying77 rfl (by kernel_rfl) (by rfl) ?_) | (go_at_call_of 150 (So.fifoL u.rx);refine (zB u.rx _).mono ?_;rintro e w2 ⟨rfl,hb2⟩;rw [HX.out];have hbel:=zb hbel hb2;have hB:=hB.keep hb2;clear hb2 c33 c34 c36 c41;obtain ⟨c33,c34,c36,c41⟩:=zz hB) | (refine ze 77 (.tmp 9) rfl g 17 rfl (So.fifoL u.tx) _ (zd hB 17 17 rfl) Tryz.underlying77 rfl (by kernel_rfl) (by rfl) ?_) | (go_at_call_of 150 (So.fifoL u.tx);refine (zB u.tx _).mono ?_;rintro e w2 ⟨rfl,hb2⟩;rw [HY.out];have hbel:=zb hbel hb2;have hB:=hB.keep hb2;clear hb2 c33 c34 c36 c41;obtain ⟨c33,c34,c36,c41⟩:=zz hB) | fail)
 go_wp2_with fail
 go_ret
 exact zU (by rw [HB.out,f1.out,f2.out,f3.out,f4.out,f5.out,f6.out];rfl) hbel
theorem zi8 (u:So.Uart) (w:World) (x y:Bool) (HB:Hid (So.uartB u=(x&&y&&decide (u.ier≤7)&&decide (u.mcr≤31)&&decide (0≤u.wait)&&decide (u.wait<4) && !(decide (0<u.wait)&&decide (u.tx.n=0))))) (HX:Hid (So.fifoOk u.rx=x)) (HY:Hid (So.fifoOk u.tx=y)) (v0:x=true) (v1:y=true) (n1:(u.ier:Int)≤7) (f1:Hid (decide (u.ier≤7)=true)) (n2:(u.mcr:Int)≤31) (f2:Hid (decide (u.mcr≤31)=true)) (n3:0≤u.wait) (f3:Hid (decide (0≤u.wait)=true)) (n4:u.wait<4) (f4:Hid (decide (u.wait<4)=true)) (n5:¬ 0<u.wait) (f5:Hid (decide (0<u.wait)=false)):Calls Tryz.prog 83 #[.agg (So.uartL u).toArray] w (CkP w (So.uartB u)):=by
 subst v0
 subst v1
 go_enter Tryz.func83,Tryz.ntmps83
 go_upto_region 1 with (fail)
 have hB:=Blk.new w (So.uartL u).toArray 79
 have hbel:=za (Below.refl w.heap.size w) (.cells (So.uartL u).toArray 79)
 generalize w.alloc (.cells (So.uartL u).toArray 79)=W1 at hB hbel ⊢
 obtain ⟨g,hg⟩:=qX w.heap.size
 rw [hg] at hB ⊢
 clear hg
 obtain ⟨c33,c34,c36,c41⟩:=zz hB
 go_upto_if 3 with (first | (refine ze 77 (.tmp 4) rfl g 0 rfl (So.fifoL u.rx) _ (zd hB 0 17 rfl) Tryz.underlying77 rfl (by kernel_rfl) (by rfl) ?_) | (go_at_call_of 150 (So.fifoL u.rx);refine (zB u.rx _).mono ?_;rintro e w2 ⟨rfl,hb2⟩;rw [HX.out];have hbel:=zb hbel hb2;have hB:=hB.keep hb2;clear hb2 c33 c34 c36 c41;obtain ⟨c33,c34,c36,c41⟩:=zz hB) | (refine ze 77 (.tmp 9) rfl g 17 rfl (So.fifoL u.tx) _ (zd hB 17 17 rfl) Tryz.underlying77 rfl (by kernel_rfl) (by rfl) ?_) | (go_at_call_of 150 (So.fifoL u.tx);refine (zB u.tx _).mono ?_;rintro e w2 ⟨rfl,hb2⟩;rw [HY.out];have hbel:=zb hbel hb2;have hB:=hB.keep hb2;clear hb2 c33 c34 c36 c41;obtain ⟨c33,c34,c36,c41⟩:=zz hB) | fail)
 go_wp2_with fail
 go_ret
 exact zU (by rw [HB.out,f1.out,f2.out,f3.out,f4.out,f5.out];rfl) hbel
theorem zfh (u:So.Uart) (w:World):Calls Tryz.prog 83 #[.agg (So.uartL u).toArray] w (CkP w (So.uartB u)):=by
 have hBB:So.uartB u=(So.fifoOk u.rx&&So.fifoOk u.tx&&decide (u.ier≤7)&&decide (u.mcr≤31)&&decide (0≤u.wait)&&decide (u.wait<4) && !(decide (0<u.wait)&&decide (u.tx.n=0))):=rfl
 obtain ⟨x,hx⟩:=qX (So.fifoOk u.rx)
 obtain ⟨y,hy⟩:=qX (So.fifoOk u.tx)
 rw [hx,hy] at hBB
 have HB:=qH hBB
 have HX:=qH hx
 have HY:=qH hy
 clear hBB hx hy
 cases x with
 | false=>exact zi0 u w false y HB HX HY rfl
 | true=>cases y with
  | false=>exact zi1 u w true false HB HX HY rfl rfl
  | true =>
   by_cases g1:u.ier≤7
   ·
    have ng1:(u.ier:Int)≤7:=by omega
    have fg1:=qH (decide_eq_true g1)
    by_cases g2:u.mcr≤31
    ·
     have ng2:(u.mcr:Int)≤31:=by omega
     have fg2:=qH (decide_eq_true g2)
     by_cases g3:0≤u.wait
     ·
      have ng3:0≤u.wait:=by omega
      have fg3:=qH (decide_eq_true g3)
      by_cases g4:u.wait<4
      ·
       have ng4:u.wait<4:=by omega
       have fg4:=qH (decide_eq_true g4)
       by_cases g5:0<u.wait
       ·
        have ng5:0<u.wait:=by omega
        have fg5:=qH (decide_eq_true g5)
        by_cases g6:u.tx.n=0
        · exact zi6 u w true true HB HX HY rfl rfl ng1 fg1 ng2 fg2 ng3 fg3 ng4 fg4 ng5 fg5 g6 (qH (decide_eq_true g6)) (by simp [g6])
        · exact zi7 u w true true HB HX HY rfl rfl ng1 fg1 ng2 fg2 ng3 fg3 ng4 fg4 ng5 fg5 g6 (qH (decide_eq_false g6)) (by simp [g6])
       ·
        have ng5:¬ (0<u.wait):=by omega
        have fg5:=qH (decide_eq_false g5)
        exact zi8 u w true true HB HX HY rfl rfl ng1 fg1 ng2 fg2 ng3 fg3 ng4 fg4 ng5 fg5
      ·
       have ng4:¬ (u.wait<4):=by omega
       have fg4:=qH (decide_eq_false g4)
       exact zi5 u w true true HB HX HY rfl rfl ng1 fg1 ng2 fg2 ng3 fg3 ng4 fg4
     ·
      have ng3:¬ (0≤u.wait):=by omega
      have fg3:=qH (decide_eq_false g3)
      exact zi4 u w true true HB HX HY rfl rfl ng1 fg1 ng2 fg2 ng3 fg3
    ·
     have ng2:¬ ((u.mcr:Int)≤31):=by omega
     have fg2:=qH (decide_eq_false g2)
     exact zi3 u w true true HB HX HY rfl rfl ng1 fg1 ng2 fg2
   ·
    have ng1:¬ ((u.ier:Int)≤7):=by omega
    have fg1:=qH (decide_eq_false g1)
    exact zi2 u w true true HB HX HY rfl rfl ng1 fg1
def dmaZ (d:So.Dma):So.Dma:=⟨d.code,d.head,d.at_,d.steps,d.moved,false,0,0,0,0,d.asks⟩
theorem zak {w:World} {g:Nat} {d:So.Dma} (h:Blk w g (So.dmaL d).toArray 80):w.cell? ⟨g,0,none⟩=some (Value.int .u32 (d.code:Int))∧w.cell? ⟨g,1,none⟩=some (Value.int .u32 (d.head:Int))∧w.cell? ⟨g,2,none⟩=some (Value.int .u32 (d.at_:Int))∧w.cell? ⟨g,3,none⟩=some (Value.int .u32 (d.steps:Int))∧w.cell? ⟨g,4,none⟩=some (Value.int .u32 (d.moved:Int))∧w.cell? ⟨g,5,none⟩=some (Value.bool d.have_)∧w.cell? ⟨g,6,none⟩=some (Value.int .u32 (d.from_:Int))∧w.cell? ⟨g,7,none⟩=some (Value.int .u32 (d.to:Int))∧w.cell? ⟨g,8,none⟩=some (Value.int .u32 (d.left:Int))∧w.cell? ⟨g,9,none⟩=some (Value.int .u32 (d.next:Int))∧w.cell? ⟨g,10,none⟩=some (Value.bool d.asks):=⟨h.cell 0 rfl,h.cell 1 rfl,h.cell 2 rfl,h.cell 3 rfl,h.cell 4 rfl,h.cell 5 rfl,h.cell 6 rfl,h.cell 7 rfl,h.cell 8 rfl,h.cell 9 rfl,h.cell 10 rfl⟩
theorem zmc (d:So.Dma):(So.dmaL d).toArray=#[Value.int .u32 (d.code:Int),Value.int .u32 (d.head:Int),Value.int .u32 (d.at_:Int),Value.int .u32 (d.steps:Int),Value.int .u32 (d.moved:Int),Value.bool d.have_,Value.int .u32 (d.from_:Int),Value.int .u32 (d.to:Int),Value.int .u32 (d.left:Int),Value.int .u32 (d.next:Int),Value.bool d.asks]:=rfl
theorem zaN (d:So.Dma):zaY [.i .u32,.i .u32,.i .u32,.i .u32,.i .u32,.b,.i .u32,.i .u32,.i .u32,.i .u32,.b] (So.dmaL d):=⟨⟨_,rfl⟩,⟨_,rfl⟩,⟨_,rfl⟩,⟨_,rfl⟩,⟨_,rfl⟩,⟨_,rfl⟩,⟨_,rfl⟩,⟨_,rfl⟩,⟨_,rfl⟩,⟨_,rfl⟩,⟨_,rfl⟩,trivial⟩
theorem zeh (d:So.Dma) (h:d.have_=false):eqVs (So.dmaL d) (So.dmaL (dmaZ d))=(d.from_==0&&d.to==0&&d.left==0&&d.next==0):=by
 simp only [So.dmaL,dmaZ,eqVs,eqV,h,beq_self_eq_true,Bool.true_and,Bool.and_true]
 have e:∀ n:Nat,((n:Int)==0)=(n==0):=fun n=>by
  rw [Bool.eq_iff_iff]
  simp
 have e0:((0:Nat):Int)=0:=rfl
 simp only [e0,e,Bool.and_assoc]
def zhN (w:World) (d:So.Dma) (e:Ending) (w':World):Prop:=e=.returned (.agg (So.dmaL (dmaZ d)).toArray)∧Below w.heap.size w w'
theorem zbg (d:So.Dma) (w:World):Calls Tryz.prog 151 #[.agg (So.dmaL d).toArray] w (zhN w d):=by
 have HP:Hid (∀ w',Below w.heap.size w w'→zhN w d (.returned (.agg (So.dmaL (dmaZ d)).toArray)) w'):=qH (fun w' h=>⟨rfl,h⟩)
 rw [zmc d]
 go_enter Tryz.func151,Tryz.ntmps151
 go_wp2_with fail
 obtain ⟨W1,hW1⟩:=qX (w.alloc (.cells (So.dmaL (dmaZ d)).toArray 80))
 have hb1:=za (Below.refl w.heap.size w) (.cells (So.dmaL (dmaZ d)).toArray 80)
 have hB:=Blk.new W1 (So.dmaL (dmaZ d)).toArray 80
 have hs:W1.heap.size=w.heap.size+1:=by rw [←hW1];simp
 have hb2:Below w.heap.size w (W1.alloc (.cells (So.dmaL (dmaZ d)).toArray 80)):=by
  rw [←hW1]
  exact za hb1 _
 rw [hs] at hB
 have e1:=run_loadVar_mid (P:=Tryz.prog) (W1.alloc (.cells (So.dmaL (dmaZ d)).toArray 80)) (w.heap.size+1) 0 80 (So.dmaL (dmaZ d)) _ (zw hB) Tryz.underlying80 rfl rfl
 rw [←hW1] at e1 hb2
 exact bodyPost_ret (v:=.agg (So.dmaL (dmaZ d)).toArray) (by simp [results,Tryz.results151,asAddr];exact e1) rfl (HP.out _ hb2)
theorem znS (d:So.Dma) (hc:3<d.code) (w:World):Calls Tryz.prog 84 #[.agg (So.dmaL d).toArray] w (CkP w (So.dmaB d)):=by
 have HB:Hid (So.dmaB d=false):=qH (by unfold So.dmaB;rw [decide_eq_false (by omega)];rfl)
 have n2:¬ (d.code:Int)=2:=by omega
 have n3:¬ (d.code:Int)=3:=by omega
 have n4:(3:Int)<(d.code:Int):=by omega
 clear hc
 go_enter Tryz.func84,Tryz.ntmps84
 go_upto_region 1 with (fail)
 have hB:=Blk.new w (So.dmaL d).toArray 80
 have hbel:=za (Below.refl w.heap.size w) (.cells (So.dmaL d).toArray 80)
 generalize w.alloc (.cells (So.dmaL d).toArray 80)=W1 at hB hbel ⊢
 obtain ⟨g,hg⟩:=qX w.heap.size
 rw [hg] at hB ⊢
 clear hg
 have k0:W1.cell? ⟨g,0,none⟩=some (Value.int .u32 (d.code:Int)):=hB.cell 0 rfl
 go_wp2_with fail
 go_ret
 exact zu HB.out hbel
theorem zmd (d:So.Dma) (hc:d.code=0∨d.code=1∨d.code=2∨d.code=3) (hh:d.have_=true) (w:World):Calls Tryz.prog 84 #[.agg (So.dmaL d).toArray] w (CkP w (So.dmaB d)):=by
 have hBB:So.dmaB d=(decide (d.code≤3) && !(d.have_&&d.code != 1) && !(d.asks && !(d.code==2||d.code==3))&&decide (d.steps≤64) && !(d.have_&&(decide (d.left<1)||decide (65536<d.left)))&&(d.have_||(d.from_==0&&d.to==0&&d.left==0&&d.next==0))):=rfl
 rw [hh] at hBB
 rcases hc with hc | hc | hc | hc<;>cases ha:d.asks
 all_goals
  rw [hc,ha] at hBB
  have HB:=qH hBB
  clear hBB
  go_enter Tryz.func84,Tryz.ntmps84
  go_upto_region 1 with (fail)
  have hB:=Blk.new w (So.dmaL d).toArray 80
  have hbel:=za (Below.refl w.heap.size w) (.cells (So.dmaL d).toArray 80)
  generalize w.alloc (.cells (So.dmaL d).toArray 80)=W1 at hB hbel ⊢
  obtain ⟨g,hg⟩:=qX w.heap.size
  rw [hg] at hB ⊢
  clear hg
  obtain ⟨k0,k1,k2,k3,k4,k5,k6,k7,k8,k9,k10⟩:=zak hB
  rw [hc] at k0
  rw [hh] at k5
  rw [ha] at k10
  clear hc hh ha
  go_upto_region 6 with (fail)
  all_goals first | (go_ret;(first | exact zu (by rw [HB.out];simp<;>omega) hbel | exact zU (by rw [HB.out];simp<;>omega) hbel)) | (go_quiet (fail);go_wp2_with fail;go_ret;(first | exact zu (by rw [HB.out];simp<;>omega) (zI hbel _) | exact zU (by rw [HB.out];simp<;>omega) (zI hbel _)))
theorem zkv (d:So.Dma) (hc:d.code≤3) (h2:d.code=2) (hh:d.have_=false) (ha:d.asks=false) (w:World):Calls Tryz.prog 84 #[.agg (So.dmaL d).toArray] w (CkP w (So.dmaB d)):=by
 have hBB:So.dmaB d=(decide (d.code≤3) && !(d.have_&&d.code != 1) && !(d.asks && !(d.code==2||d.code==3))&&decide (d.steps≤64) && !(d.have_&&(decide (d.left<1)||decide (65536<d.left)))&&(d.have_||(d.from_==0&&d.to==0&&d.left==0&&d.next==0))):=rfl
 rw [hh,←zeh d hh,ha,decide_eq_true hc] at hBB
 have HW:=qH (fun W=>zbg d W)
 obtain ⟨z,hz⟩:=qX (eqVs (So.dmaL d) (So.dmaL (dmaZ d)))
 rw [hz] at hBB
 have HNE:=qH hz
 clear hz
 have hc3:¬ (3:Int)<(d.code:Int):=by omega
 rw [h2] at hBB
 have c2:(d.code:Int)=2:=by omega
 have HB:=qH hBB
 clear hBB
 by_cases hs:d.steps≤64
 ·
  have hs':(d.steps:Int)≤64:=by omega
  have m64:decide ((64:Int)<(d.steps:Int))=false:=decide_eq_false (by omega)
  have FS:=qH (decide_eq_true hs)
  clear hs
  go_enter Tryz.func84,Tryz.ntmps84
  go_upto_region 1 with (fail)
  have hB:=Blk.new w (So.dmaL d).toArray 80
  have hbel:=za (Below.refl w.heap.size w) (.cells (So.dmaL d).toArray 80)
  generalize w.alloc (.cells (So.dmaL d).toArray 80)=W1 at hB hbel ⊢
  obtain ⟨g,hg⟩:=qX w.heap.size
  rw [hg] at hB ⊢
  clear hg
  obtain ⟨k0,k1,k2,k3,k4,k5,k6,k7,k8,k9,k10⟩:=zak hB
  rw [hh] at k5
  rw [ha] at k10
  have HH:=qH hh
  clear hc hh ha h2
  rw [c2] at k0
  go_upto_region 6 with (fail)
  refine zE (by kernel_rfl) (fun X=>⟨#[.agg (So.dmaL d).toArray,.pointer (some ⟨g,0,none⟩),.nilIface,.bool true,.pointer (some ⟨g,0,none⟩),.int .u32 2,.bool true,.bool true,undef,undef,undef,.bool true,.bool false,.pointer (some ⟨g,0,none⟩),.int .u32 2,.bool false,.bool false,.pointer (some ⟨g,5,none⟩),.bool false,.bool false,undef,undef,undef,.bool false,.bool false,.bool false,.pointer (some ⟨g,10,none⟩),.bool false,.bool false,undef,undef,.bool false,.bool false,.bool false,.pointer (some ⟨g,3,none⟩),.int .u32 ↑d.steps,.bool false,.bool false,undef,.bool false,.pointer (some ⟨g,5,none⟩),.bool false,.bool false,undef,undef,undef,undef,undef,undef,undef,undef,.bool false,undef,X 9,X 0,X 1,X 2,X 3,X 4,X 5,X 6,X 7,X 8,undef],[]⟩) (fun u v=>Below u.heap.size u v) (fun i v w=>match i with | 0=>(v=.pointer (some ⟨g,5,none⟩)) | 1=>(v=.bool false) | 2=>(v=.bool true) | 3=>(v=.bool true) | 4=>(v=.agg (So.dmaL d).toArray) | 5=>(v=.agg (So.dmaL d).toArray) | 6=>(v=.agg (So.dmaL (dmaZ d)).toArray) | 7=>(v=.bool (!z)) | 8=>(v=.bool (!z)) | 9=>(v=.bool (!z)) | _=>True) _ (fun _=>undef) (fun u v w a b=>zb a b) ?_ (by kernel_rfl) (zr (Below.refl _ _)) ?_ ?_
  ·
   intro i v w w' h hb
   match i,h with
   | 0,h=>exact h
   | 1,h=>exact h
   | 2,h=>exact h
   | 3,h=>exact h
   | 4,h=>exact h
   | 5,h=>exact h
   | 6,h=>exact h
   | 7,h=>exact h
   | 8,h=>exact h
   | 9,h=>exact h
   | _+10,h=>exact trivial
  ·
   refine fQ 0 ?_ ?_
   ·
    intro X w hR ψ K HK
    go_simp
    exact HK.out _ _ _ rfl (Below.refl _ _) rfl
   refine fQ 1 ?_ ?_
   ·
    intro X w hR ψ K HK
    have e0:X 0=.pointer (some ⟨g,5,none⟩):=(pR ψ 0 .data 0 :)
    have c5:w.cell? ⟨g,5,none⟩=some (Value.bool d.have_):=(hB.keep hR).cell 5 rfl
    rw [HH.out] at c5
    go_simp
    exact HK.out _ _ _ (by (try simp only [e0])<;>rfl) (Below.refl _ _) rfl
   refine fQ 2 ?_ ?_
   ·
    intro X w hR ψ K HK
    have e1:X 1=.bool false:=(pR ψ 1 .data 0 :)
    go_simp
    exact HK.out _ _ _ (by (try simp only [e1])<;>rfl) (Below.refl _ _) rfl
   refine fQ 3 ?_ ?_
   ·
    intro X w hR ψ K HK
    have e2:X 2=.bool true:=(pR ψ 2 .data 0 :)
    go_simp
    exact HK.out _ _ _ (by (try simp only [e2])<;>rfl) (Below.refl _ _) rfl
   refine fQ 4 ?_ ?_
   ·
    intro X w hR ψ K HK
    have e3:X 3=.bool true:=(pR ψ 3 .guard 0 :)
    rw [if_pos (by simp [Region.wanted,yielded,e3])]
    refine wp_load_mid 80 (.tmp 1) rfl g 0 rfl (So.dmaL d) _ (zd (hB.keep hR) 0 11 rfl) Tryz.underlying80 rfl rfl ?_
    exact HK.out _ _ _ (by (try simp only [e3])<;>rfl) (Below.refl _ _) rfl
   refine fQ 5 ?_ ?_
   ·
    intro X w hR ψ K HK
    have e3:X 3=.bool true:=(pR ψ 3 .guard 0 :)
    rw [if_pos (by simp [Region.wanted,yielded,e3])]
    refine wp_load_mid 80 (.tmp 1) rfl g 0 rfl (So.dmaL d) _ (zd (hB.keep hR) 0 11 rfl) Tryz.underlying80 rfl rfl ?_
    exact HK.out _ _ _ (by (try simp only [e3])<;>rfl) (Below.refl _ _) rfl
   refine fQ 6 ?_ ?_
   ·
    intro X w hR ψ K HK
    have e5:X 5=.agg (So.dmaL d).toArray:=(pR ψ 5 .data 0 :)
    have e3:X 3=.bool true:=(pR ψ 3 .chain 1 :)
    go_simp
    go_at_call 151
    refine (HW.out w).mono ?_
    rintro e w2 ⟨rfl,hb2⟩
    go_simp
    exact HK.out _ _ _ (by (try simp only [e5,e3])<;>rfl) hb2 rfl
   refine fQ 7 ?_ ?_
   ·
    intro X w hR ψ K HK
    have e4:X 4=.agg (So.dmaL d).toArray:=(pR ψ 4 .data 0 :)
    have e6:X 6=.agg (So.dmaL (dmaZ d)).toArray:=(pR ψ 6 .data 1 :)
    have e3:X 3=.bool true:=(pR ψ 3 .guard 2 :)
    rw [if_pos (by simp [Region.wanted,yielded,e3])]
    refine zeO 80 80 (.tmp 58) (.tmp 60) rfl (d:=4) (by kernel_rfl) (by decide) (by kernel_rfl) (by kernel_rfl) (zaN d) (zaN (dmaZ d)) (show X 4=_ from e4) (show X 6=_ from e6) ?_
    rw [HNE.out]
    exact HK.out _ _ _ (by (try simp only [e4,e6,e3])<;>rfl) (Below.refl _ _) rfl
   refine fQ 8 ?_ ?_
   ·
    intro X w hR ψ K HK
    have e3:X 3=.bool true:=(pR ψ 3 .data 0 :)
    have e7:X 7=.bool (!z):=(pR ψ 7 .data 1 :)
    go_simp
    exact HK.out _ _ _ (by (try simp only [e3,e7])<;>rfl) (Below.refl _ _) rfl
   refine fQ 9 ?_ ?_
   ·
    intro X w hR ψ K HK
    have e8:X 8=.bool (!z):=(pR ψ 8 .data 0 :)
    go_simp
    exact HK.out _ _ _ (by (try simp only [e8])<;>rfl) (Below.refl _ _) rfl
   exact zF.nil
  ·
   intro X1 wE hR hall
   have e9:X1 9=.bool (!z):=hall 9 (by decide)
   clear hall
   cases z with
   | false =>
    have e9':X1 9=Value.bool true:=e9
    clear e9
    go_wp2_with fail
    go_ret
    exact zu (by rw [HB.out];simp) (zb hbel hR)
   | true =>
    have e9':X1 9=Value.bool false:=e9
    clear e9
    go_wp2_with fail
    go_ret
    exact zU (by rw [HB.out,FS.out];rfl) (zb hbel hR)
 ·
  have hs':¬ (d.steps:Int)≤64:=by omega
  have FS:=qH (decide_eq_false hs)
  clear hs
  go_enter Tryz.func84,Tryz.ntmps84
  go_upto_region 1 with (fail)
  have hB:=Blk.new w (So.dmaL d).toArray 80
  have hbel:=za (Below.refl w.heap.size w) (.cells (So.dmaL d).toArray 80)
  generalize w.alloc (.cells (So.dmaL d).toArray 80)=W1 at hB hbel ⊢
  obtain ⟨g,hg⟩:=qX w.heap.size
  rw [hg] at hB ⊢
  clear hg
  obtain ⟨k0,k1,k2,k3,k4,k5,k6,k7,k8,k9,k10⟩:=zak hB
  rw [hh] at k5
  rw [ha] at k10
  clear hc hh ha h2
  rw [c2] at k0
  go_wp2_with fail
  go_ret
  exact zu (by rw [HB.out,FS.out];simp) hbel
theorem zkw (d:So.Dma) (hc:d.code≤3) (h2:¬ d.code=2) (h3:¬ d.code=3) (hh:d.have_=false) (ha:d.asks=false) (w:World):Calls Tryz.prog 84 #[.agg (So.dmaL d).toArray] w (CkP w (So.dmaB d)):=by
 have hBB:So.dmaB d=(decide (d.code≤3) && !(d.have_&&d.code != 1) && !(d.asks && !(d.code==2||d.code==3))&&decide (d.steps≤64) && !(d.have_&&(decide (d.left<1)||decide (65536<d.left)))&&(d.have_||(d.from_==0&&d.to==0&&d.left==0&&d.next==0))):=rfl
 rw [hh,←zeh d hh,ha,decide_eq_true hc] at hBB
 have HW:=qH (fun W=>zbg d W)
 obtain ⟨z,hz⟩:=qX (eqVs (So.dmaL d) (So.dmaL (dmaZ d)))
 rw [hz] at hBB
 have HNE:=qH hz
 clear hz
 have hc3:¬ (3:Int)<(d.code:Int):=by omega
 have c2:¬ (d.code:Int)=2:=by omega
 have c2':((d.code:Int)==2)=false:=by simp;omega
 have c3:¬ (d.code:Int)=3:=by omega
 have c3':((d.code:Int)==3)=false:=by simp;omega
 clear h3
 have HB:=qH hBB
 clear hBB
 by_cases hs:d.steps≤64
 ·
  have hs':(d.steps:Int)≤64:=by omega
  have m64:decide ((64:Int)<(d.steps:Int))=false:=decide_eq_false (by omega)
  have FS:=qH (decide_eq_true hs)
  clear hs
  go_enter Tryz.func84,Tryz.ntmps84
  go_upto_region 1 with (fail)
  have hB:=Blk.new w (So.dmaL d).toArray 80
  have hbel:=za (Below.refl w.heap.size w) (.cells (So.dmaL d).toArray 80)
  generalize w.alloc (.cells (So.dmaL d).toArray 80)=W1 at hB hbel ⊢
  obtain ⟨g,hg⟩:=qX w.heap.size
  rw [hg] at hB ⊢
  clear hg
  obtain ⟨k0,k1,k2,k3,k4,k5,k6,k7,k8,k9,k10⟩:=zak hB
  rw [hh] at k5
  rw [ha] at k10
  have HH:=qH hh
  clear hc hh ha h2
  go_upto_region 6 with (fail)
  refine zE (by kernel_rfl) (fun X=>⟨#[.agg (So.dmaL d).toArray,.pointer (some ⟨g,0,none⟩),.nilIface,.bool false,.pointer (some ⟨g,0,none⟩),.int .u32 ↑d.code,.bool false,.bool false,.pointer (some ⟨g,0,none⟩),.int .u32 ↑d.code,.bool false,.bool false,.bool false,.pointer (some ⟨g,0,none⟩),.int .u32 ↑d.code,.bool false,.bool false,.pointer (some ⟨g,5,none⟩),.bool false,.bool false,undef,undef,undef,.bool false,.bool false,.bool false,.pointer (some ⟨g,10,none⟩),.bool false,.bool false,undef,undef,.bool false,.bool false,.bool false,.pointer (some ⟨g,3,none⟩),.int .u32 ↑d.steps,.bool false,.bool false,undef,.bool false,.pointer (some ⟨g,5,none⟩),.bool false,.bool false,undef,undef,undef,undef,undef,undef,undef,undef,.bool false,undef,X 9,X 0,X 1,X 2,X 3,X 4,X 5,X 6,X 7,X 8,undef],[]⟩) (fun u v=>Below u.heap.size u v) (fun i v w=>match i with | 0=>(v=.pointer (some ⟨g,5,none⟩)) | 1=>(v=.bool false) | 2=>(v=.bool true) | 3=>(v=.bool true) | 4=>(v=.agg (So.dmaL d).toArray) | 5=>(v=.agg (So.dmaL d).toArray) | 6=>(v=.agg (So.dmaL (dmaZ d)).toArray) | 7=>(v=.bool (!z)) | 8=>(v=.bool (!z)) | 9=>(v=.bool (!z)) | _=>True) _ (fun _=>undef) (fun u v w a b=>zb a b) ?_ (by kernel_rfl) (zr (Below.refl _ _)) ?_ ?_
  ·
   intro i v w w' h hb
   match i,h with
   | 0,h=>exact h
   | 1,h=>exact h
   | 2,h=>exact h
   | 3,h=>exact h
   | 4,h=>exact h
   | 5,h=>exact h
   | 6,h=>exact h
   | 7,h=>exact h
   | 8,h=>exact h
   | 9,h=>exact h
   | _+10,h=>exact trivial
  ·
   refine fQ 0 ?_ ?_
   ·
    intro X w hR ψ K HK
    go_simp
    exact HK.out _ _ _ rfl (Below.refl _ _) rfl
   refine fQ 1 ?_ ?_
   ·
    intro X w hR ψ K HK
    have e0:X 0=.pointer (some ⟨g,5,none⟩):=(pR ψ 0 .data 0 :)
    have c5:w.cell? ⟨g,5,none⟩=some (Value.bool d.have_):=(hB.keep hR).cell 5 rfl
    rw [HH.out] at c5
    go_simp
    exact HK.out _ _ _ (by (try simp only [e0])<;>rfl) (Below.refl _ _) rfl
   refine fQ 2 ?_ ?_
   ·
    intro X w hR ψ K HK
    have e1:X 1=.bool false:=(pR ψ 1 .data 0 :)
    go_simp
    exact HK.out _ _ _ (by (try simp only [e1])<;>rfl) (Below.refl _ _) rfl
   refine fQ 3 ?_ ?_
   ·
    intro X w hR ψ K HK
    have e2:X 2=.bool true:=(pR ψ 2 .data 0 :)
    go_simp
    exact HK.out _ _ _ (by (try simp only [e2])<;>rfl) (Below.refl _ _) rfl
   refine fQ 4 ?_ ?_
   ·
    intro X w hR ψ K HK
    have e3:X 3=.bool true:=(pR ψ 3 .guard 0 :)
    rw [if_pos (by simp [Region.wanted,yielded,e3])]
    refine wp_load_mid 80 (.tmp 1) rfl g 0 rfl (So.dmaL d) _ (zd (hB.keep hR) 0 11 rfl) Tryz.underlying80 rfl rfl ?_
    exact HK.out _ _ _ (by (try simp only [e3])<;>rfl) (Below.refl _ _) rfl
   refine fQ 5 ?_ ?_
   ·
    intro X w hR ψ K HK
    have e3:X 3=.bool true:=(pR ψ 3 .guard 0 :)
    rw [if_pos (by simp [Region.wanted,yielded,e3])]
    refine wp_load_mid 80 (.tmp 1) rfl g 0 rfl (So.dmaL d) _ (zd (hB.keep hR) 0 11 rfl) Tryz.underlying80 rfl rfl ?_
    exact HK.out _ _ _ (by (try simp only [e3])<;>rfl) (Below.refl _ _) rfl
   refine fQ 6 ?_ ?_
   ·
    intro X w hR ψ K HK
    have e5:X 5=.agg (So.dmaL d).toArray:=(pR ψ 5 .data 0 :)
    have e3:X 3=.bool true:=(pR ψ 3 .chain 1 :)
    go_simp
    go_at_call 151
    refine (HW.out w).mono ?_
    rintro e w2 ⟨rfl,hb2⟩
    go_simp
    exact HK.out _ _ _ (by (try simp only [e5,e3])<;>rfl) hb2 rfl
   refine fQ 7 ?_ ?_
   ·
    intro X w hR ψ K HK
    have e4:X 4=.agg (So.dmaL d).toArray:=(pR ψ 4 .data 0 :)
    have e6:X 6=.agg (So.dmaL (dmaZ d)).toArray:=(pR ψ 6 .data 1 :)
    have e3:X 3=.bool true:=(pR ψ 3 .guard 2 :)
    rw [if_pos (by simp [Region.wanted,yielded,e3])]
    refine zeO 80 80 (.tmp 58) (.tmp 60) rfl (d:=4) (by kernel_rfl) (by decide) (by kernel_rfl) (by kernel_rfl) (zaN d) (zaN (dmaZ d)) (show X 4=_ from e4) (show X 6=_ from e6) ?_
    rw [HNE.out]
    exact HK.out _ _ _ (by (try simp only [e4,e6,e3])<;>rfl) (Below.refl _ _) rfl
   refine fQ 8 ?_ ?_
   ·
    intro X w hR ψ K HK
    have e3:X 3=.bool true:=(pR ψ 3 .data 0 :)
    have e7:X 7=.bool (!z):=(pR ψ 7 .data 1 :)
    go_simp
    exact HK.out _ _ _ (by (try simp only [e3,e7])<;>rfl) (Below.refl _ _) rfl
   refine fQ 9 ?_ ?_
   ·
    intro X w hR ψ K HK
    have e8:X 8=.bool (!z):=(pR ψ 8 .data 0 :)
    go_simp
    exact HK.out _ _ _ (by (try simp only [e8])<;>rfl) (Below.refl _ _) rfl
   exact zF.nil
  ·
   intro X1 wE hR hall
   have e9:X1 9=.bool (!z):=hall 9 (by decide)
   clear hall
   cases z with
   | false =>
    have e9':X1 9=Value.bool true:=e9
    clear e9
    go_wp2_with fail
    go_ret
    exact zu (by rw [HB.out];simp) (zb hbel hR)
   | true =>
    have e9':X1 9=Value.bool false:=e9
    clear e9
    go_wp2_with fail
    go_ret
    exact zU (by rw [HB.out,FS.out];rfl) (zb hbel hR)
 ·
  have hs':¬ (d.steps:Int)≤64:=by omega
  have FS:=qH (decide_eq_false hs)
  clear hs
  go_enter Tryz.func84,Tryz.ntmps84
  go_upto_region 1 with (fail)
  have hB:=Blk.new w (So.dmaL d).toArray 80
  have hbel:=za (Below.refl w.heap.size w) (.cells (So.dmaL d).toArray 80)
  generalize w.alloc (.cells (So.dmaL d).toArray 80)=W1 at hB hbel ⊢
  obtain ⟨g,hg⟩:=qX w.heap.size
  rw [hg] at hB ⊢
  clear hg
  obtain ⟨k0,k1,k2,k3,k4,k5,k6,k7,k8,k9,k10⟩:=zak hB
  rw [hh] at k5
  rw [ha] at k10
  clear hc hh ha h2
  go_wp2_with fail
  go_ret
  exact zu (by rw [HB.out,FS.out];simp) hbel
theorem zi9 (d:So.Dma) (hc:d.code≤3) (h2:¬ d.code=2) (h3:d.code=3) (hh:d.have_=false) (ha:d.asks=false) (w:World):Calls Tryz.prog 84 #[.agg (So.dmaL d).toArray] w (CkP w (So.dmaB d)):=by
 have hBB:So.dmaB d=(decide (d.code≤3) && !(d.have_&&d.code != 1) && !(d.asks && !(d.code==2||d.code==3))&&decide (d.steps≤64) && !(d.have_&&(decide (d.left<1)||decide (65536<d.left)))&&(d.have_||(d.from_==0&&d.to==0&&d.left==0&&d.next==0))):=rfl
 rw [hh,←zeh d hh,ha,decide_eq_true hc] at hBB
 have HW:=qH (fun W=>zbg d W)
 obtain ⟨z,hz⟩:=qX (eqVs (So.dmaL d) (So.dmaL (dmaZ d)))
 rw [hz] at hBB
 have HNE:=qH hz
 clear hz
 have hc3:¬ (3:Int)<(d.code:Int):=by omega
 have c2:¬ (d.code:Int)=2:=by omega
 have c2':((d.code:Int)==2)=false:=by simp;omega
 rw [h3] at hBB
 have c3:(d.code:Int)=3:=by omega
 have HB:=qH hBB
 clear hBB
 by_cases hs:d.steps≤64
 ·
  have hs':(d.steps:Int)≤64:=by omega
  have m64:decide ((64:Int)<(d.steps:Int))=false:=decide_eq_false (by omega)
  have FS:=qH (decide_eq_true hs)
  clear hs
  go_enter Tryz.func84,Tryz.ntmps84
  go_upto_region 1 with (fail)
  have hB:=Blk.new w (So.dmaL d).toArray 80
  have hbel:=za (Below.refl w.heap.size w) (.cells (So.dmaL d).toArray 80)
  generalize w.alloc (.cells (So.dmaL d).toArray 80)=W1 at hB hbel ⊢
  obtain ⟨g,hg⟩:=qX w.heap.size
  rw [hg] at hB ⊢
  clear hg
  obtain ⟨k0,k1,k2,k3,k4,k5,k6,k7,k8,k9,k10⟩:=zak hB
  rw [hh] at k5
  rw [ha] at k10
  have HH:=qH hh
  clear hc hh ha h2
  rw [c3] at k0
  go_upto_region 6 with (fail)
  refine zE (by kernel_rfl) (fun X=>⟨#[.agg (So.dmaL d).toArray,.pointer (some ⟨g,0,none⟩),.nilIface,.bool true,.pointer (some ⟨g,0,none⟩),.int .u32 3,.bool false,.bool false,.pointer (some ⟨g,0,none⟩),.int .u32 3,.bool true,.bool true,.bool false,.pointer (some ⟨g,0,none⟩),.int .u32 3,.bool false,.bool false,.pointer (some ⟨g,5,none⟩),.bool false,.bool false,undef,undef,undef,.bool false,.bool false,.bool false,.pointer (some ⟨g,10,none⟩),.bool false,.bool false,undef,undef,.bool false,.bool false,.bool false,.pointer (some ⟨g,3,none⟩),.int .u32 ↑d.steps,.bool false,.bool false,undef,.bool false,.pointer (some ⟨g,5,none⟩),.bool false,.bool false,undef,undef,undef,undef,undef,undef,undef,undef,.bool false,undef,X 9,X 0,X 1,X 2,X 3,X 4,X 5,X 6,X 7,X 8,undef],[]⟩) (fun u v=>Below u.heap.size u v) (fun i v w=>match i with | 0=>(v=.pointer (some ⟨g,5,none⟩)) | 1=>(v=.bool false) | 2=>(v=.bool true) | 3=>(v=.bool true) | 4=>(v=.agg (So.dmaL d).toArray) | 5=>(v=.agg (So.dmaL d).toArray) | 6=>(v=.agg (So.dmaL (dmaZ d)).toArray) | 7=>(v=.bool (!z)) | 8=>(v=.bool (!z)) | 9=>(v=.bool (!z)) | _=>True) _ (fun _=>undef) (fun u v w a b=>zb a b) ?_ (by kernel_rfl) (zr (Below.refl _ _)) ?_ ?_
  ·
   intro i v w w' h hb
   match i,h with
   | 0,h=>exact h
   | 1,h=>exact h
   | 2,h=>exact h
   | 3,h=>exact h
   | 4,h=>exact h
   | 5,h=>exact h
   | 6,h=>exact h
   | 7,h=>exact h
   | 8,h=>exact h
   | 9,h=>exact h
   | _+10,h=>exact trivial
  ·
   refine fQ 0 ?_ ?_
   ·
    intro X w hR ψ K HK
    go_simp
    exact HK.out _ _ _ rfl (Below.refl _ _) rfl
   refine fQ 1 ?_ ?_
   ·
    intro X w hR ψ K HK
    have e0:X 0=.pointer (some ⟨g,5,none⟩):=(pR ψ 0 .data 0 :)
    have c5:w.cell? ⟨g,5,none⟩=some (Value.bool d.have_):=(hB.keep hR).cell 5 rfl
    rw [HH.out] at c5
    go_simp
    exact HK.out _ _ _ (by (try simp only [e0])<;>rfl) (Below.refl _ _) rfl
   refine fQ 2 ?_ ?_
   ·
    intro X w hR ψ K HK
    have e1:X 1=.bool false:=(pR ψ 1 .data 0 :)
    go_simp
    exact HK.out _ _ _ (by (try simp only [e1])<;>rfl) (Below.refl _ _) rfl
   refine fQ 3 ?_ ?_
   ·
    intro X w hR ψ K HK
    have e2:X 2=.bool true:=(pR ψ 2 .data 0 :)
    go_simp
    exact HK.out _ _ _ (by (try simp only [e2])<;>rfl) (Below.refl _ _) rfl
   refine fQ 4 ?_ ?_
   ·
    intro X w hR ψ K HK
    have e3:X 3=.bool true:=(pR ψ 3 .guard 0 :)
    rw [if_pos (by simp [Region.wanted,yielded,e3])]
    refine wp_load_mid 80 (.tmp 1) rfl g 0 rfl (So.dmaL d) _ (zd (hB.keep hR) 0 11 rfl) Tryz.underlying80 rfl rfl ?_
    exact HK.out _ _ _ (by (try simp only [e3])<;>rfl) (Below.refl _ _) rfl
   refine fQ 5 ?_ ?_
   ·
    intro X w hR ψ K HK
    have e3:X 3=.bool true:=(pR ψ 3 .guard 0 :)
    rw [if_pos (by simp [Region.wanted,yielded,e3])]
    refine wp_load_mid 80 (.tmp 1) rfl g 0 rfl (So.dmaL d) _ (zd (hB.keep hR) 0 11 rfl) Tryz.underlying80 rfl rfl ?_
    exact HK.out _ _ _ (by (try simp only [e3])<;>rfl) (Below.refl _ _) rfl
   refine fQ 6 ?_ ?_
   ·
    intro X w hR ψ K HK
    have e5:X 5=.agg (So.dmaL d).toArray:=(pR ψ 5 .data 0 :)
    have e3:X 3=.bool true:=(pR ψ 3 .chain 1 :)
    go_simp
    go_at_call 151
    refine (HW.out w).mono ?_
    rintro e w2 ⟨rfl,hb2⟩
    go_simp
    exact HK.out _ _ _ (by (try simp only [e5,e3])<;>rfl) hb2 rfl
   refine fQ 7 ?_ ?_
   ·
    intro X w hR ψ K HK
    have e4:X 4=.agg (So.dmaL d).toArray:=(pR ψ 4 .data 0 :)
    have e6:X 6=.agg (So.dmaL (dmaZ d)).toArray:=(pR ψ 6 .data 1 :)
    have e3:X 3=.bool true:=(pR ψ 3 .guard 2 :)
    rw [if_pos (by simp [Region.wanted,yielded,e3])]
    refine zeO 80 80 (.tmp 58) (.tmp 60) rfl (d:=4) (by kernel_rfl) (by decide) (by kernel_rfl) (by kernel_rfl) (zaN d) (zaN (dmaZ d)) (show X 4=_ from e4) (show X 6=_ from e6) ?_
    rw [HNE.out]
    exact HK.out _ _ _ (by (try simp only [e4,e6,e3])<;>rfl) (Below.refl _ _) rfl
   refine fQ 8 ?_ ?_
   ·
    intro X w hR ψ K HK
    have e3:X 3=.bool true:=(pR ψ 3 .data 0 :)
    have e7:X 7=.bool (!z):=(pR ψ 7 .data 1 :)
    go_simp
    exact HK.out _ _ _ (by (try simp only [e3,e7])<;>rfl) (Below.refl _ _) rfl
   refine fQ 9 ?_ ?_
   ·
    intro X w hR ψ K HK
    have e8:X 8=.bool (!z):=(pR ψ 8 .data 0 :)
    go_simp
    exact HK.out _ _ _ (by (try simp only [e8])<;>rfl) (Below.refl _ _) rfl
   exact zF.nil
  ·
   intro X1 wE hR hall
   have e9:X1 9=.bool (!z):=hall 9 (by decide)
   clear hall
   cases z with
   | false =>
    have e9':X1 9=Value.bool true:=e9
    clear e9
    go_wp2_with fail
    go_ret
    exact zu (by rw [HB.out];simp) (zb hbel hR)
   | true =>
    have e9':X1 9=Value.bool false:=e9
    clear e9
    go_wp2_with fail
    go_ret
    exact zU (by rw [HB.out,FS.out];rfl) (zb hbel hR)
 ·
  have hs':¬ (d.steps:Int)≤64:=by omega
  have FS:=qH (decide_eq_false hs)
  clear hs
  go_enter Tryz.func84,Tryz.ntmps84
  go_upto_region 1 with (fail)
  have hB:=Blk.new w (So.dmaL d).toArray 80
  have hbel:=za (Below.refl w.heap.size w) (.cells (So.dmaL d).toArray 80)
  generalize w.alloc (.cells (So.dmaL d).toArray 80)=W1 at hB hbel ⊢
  obtain ⟨g,hg⟩:=qX w.heap.size
  rw [hg] at hB ⊢
  clear hg
  obtain ⟨k0,k1,k2,k3,k4,k5,k6,k7,k8,k9,k10⟩:=zak hB
  rw [hh] at k5
  rw [ha] at k10
  clear hc hh ha h2
  rw [c3] at k0
  go_wp2_with fail
  go_ret
  exact zu (by rw [HB.out,FS.out];simp) hbel
theorem zkx (d:So.Dma) (hc:d.code≤3) (h2:d.code=2) (hh:d.have_=false) (ha:d.asks=true) (w:World):Calls Tryz.prog 84 #[.agg (So.dmaL d).toArray] w (CkP w (So.dmaB d)):=by
 have hBB:So.dmaB d=(decide (d.code≤3) && !(d.have_&&d.code != 1) && !(d.asks && !(d.code==2||d.code==3))&&decide (d.steps≤64) && !(d.have_&&(decide (d.left<1)||decide (65536<d.left)))&&(d.have_||(d.from_==0&&d.to==0&&d.left==0&&d.next==0))):=rfl
 rw [hh,←zeh d hh,ha,decide_eq_true hc] at hBB
 have HW:=qH (fun W=>zbg d W)
 obtain ⟨z,hz⟩:=qX (eqVs (So.dmaL d) (So.dmaL (dmaZ d)))
 rw [hz] at hBB
 have HNE:=qH hz
 clear hz
 have hc3:¬ (3:Int)<(d.code:Int):=by omega
 rw [h2] at hBB
 have c2:(d.code:Int)=2:=by omega
 have HB:=qH hBB
 clear hBB
 by_cases hs:d.steps≤64
 ·
  have hs':(d.steps:Int)≤64:=by omega
  have m64:decide ((64:Int)<(d.steps:Int))=false:=decide_eq_false (by omega)
  have FS:=qH (decide_eq_true hs)
  clear hs
  go_enter Tryz.func84,Tryz.ntmps84
  go_upto_region 1 with (fail)
  have hB:=Blk.new w (So.dmaL d).toArray 80
  have hbel:=za (Below.refl w.heap.size w) (.cells (So.dmaL d).toArray 80)
  generalize w.alloc (.cells (So.dmaL d).toArray 80)=W1 at hB hbel ⊢
  obtain ⟨g,hg⟩:=qX w.heap.size
  rw [hg] at hB ⊢
  clear hg
  obtain ⟨k0,k1,k2,k3,k4,k5,k6,k7,k8,k9,k10⟩:=zak hB
  rw [hh] at k5
  rw [ha] at k10
  have HH:=qH hh
  clear hc hh ha h2
  rw [c2] at k0
  go_upto_region 6 with (fail)
  refine zE (by kernel_rfl) (fun X=>⟨#[.agg (So.dmaL d).toArray,.pointer (some ⟨g,0,none⟩),.nilIface,.bool true,.pointer (some ⟨g,0,none⟩),.int .u32 2,.bool true,.bool true,undef,undef,undef,.bool true,.bool false,.pointer (some ⟨g,0,none⟩),.int .u32 2,.bool false,.bool false,.pointer (some ⟨g,5,none⟩),.bool false,.bool false,undef,undef,undef,.bool false,.bool false,.bool false,.pointer (some ⟨g,10,none⟩),.bool true,.bool true,.bool true,.bool false,.bool false,.bool false,.bool false,.pointer (some ⟨g,3,none⟩),.int .u32 ↑d.steps,.bool false,.bool false,undef,.bool false,.pointer (some ⟨g,5,none⟩),.bool false,.bool false,undef,undef,undef,undef,undef,undef,undef,undef,.bool false,undef,X 9,X 0,X 1,X 2,X 3,X 4,X 5,X 6,X 7,X 8,undef],[]⟩) (fun u v=>Below u.heap.size u v) (fun i v w=>match i with | 0=>(v=.pointer (some ⟨g,5,none⟩)) | 1=>(v=.bool false) | 2=>(v=.bool true) | 3=>(v=.bool true) | 4=>(v=.agg (So.dmaL d).toArray) | 5=>(v=.agg (So.dmaL d).toArray) | 6=>(v=.agg (So.dmaL (dmaZ d)).toArray) | 7=>(v=.bool (!z)) | 8=>(v=.bool (!z)) | 9=>(v=.bool (!z)) | _=>True) _ (fun _=>undef) (fun u v w a b=>zb a b) ?_ (by kernel_rfl) (zr (Below.refl _ _)) ?_ ?_
  ·
   intro i v w w' h hb
   match i,h with
   | 0,h=>exact h
   | 1,h=>exact h
   | 2,h=>exact h
   | 3,h=>exact h
   | 4,h=>exact h
   | 5,h=>exact h
   | 6,h=>exact h
   | 7,h=>exact h
   | 8,h=>exact h
   | 9,h=>exact h
   | _+10,h=>exact trivial
  ·
   refine fQ 0 ?_ ?_
   ·
    intro X w hR ψ K HK
    go_simp
    exact HK.out _ _ _ rfl (Below.refl _ _) rfl
   refine fQ 1 ?_ ?_
   ·
    intro X w hR ψ K HK
    have e0:X 0=.pointer (some ⟨g,5,none⟩):=(pR ψ 0 .data 0 :)
    have c5:w.cell? ⟨g,5,none⟩=some (Value.bool d.have_):=(hB.keep hR).cell 5 rfl
    rw [HH.out] at c5
    go_simp
    exact HK.out _ _ _ (by (try simp only [e0])<;>rfl) (Below.refl _ _) rfl
   refine fQ 2 ?_ ?_
   ·
    intro X w hR ψ K HK
    have e1:X 1=.bool false:=(pR ψ 1 .data 0 :)
    go_simp
    exact HK.out _ _ _ (by (try simp only [e1])<;>rfl) (Below.refl _ _) rfl
   refine fQ 3 ?_ ?_
   ·
    intro X w hR ψ K HK
    have e2:X 2=.bool true:=(pR ψ 2 .data 0 :)
    go_simp
    exact HK.out _ _ _ (by (try simp only [e2])<;>rfl) (Below.refl _ _) rfl
   refine fQ 4 ?_ ?_
   ·
    intro X w hR ψ K HK
    have e3:X 3=.bool true:=(pR ψ 3 .guard 0 :)
    rw [if_pos (by simp [Region.wanted,yielded,e3])]
    refine wp_load_mid 80 (.tmp 1) rfl g 0 rfl (So.dmaL d) _ (zd (hB.keep hR) 0 11 rfl) Tryz.underlying80 rfl rfl ?_
    exact HK.out _ _ _ (by (try simp only [e3])<;>rfl) (Below.refl _ _) rfl
   refine fQ 5 ?_ ?_
   ·
    intro X w hR ψ K HK
    have e3:X 3=.bool true:=(pR ψ 3 .guard 0 :)
    rw [if_pos (by simp [Region.wanted,yielded,e3])]
    refine wp_load_mid 80 (.tmp 1) rfl g 0 rfl (So.dmaL d) _ (zd (hB.keep hR) 0 11 rfl) Tryz.underlying80 rfl rfl ?_
    exact HK.out _ _ _ (by (try simp only [e3])<;>rfl) (Below.refl _ _) rfl
   refine fQ 6 ?_ ?_
   ·
    intro X w hR ψ K HK
    have e5:X 5=.agg (So.dmaL d).toArray:=(pR ψ 5 .data 0 :)
    have e3:X 3=.bool true:=(pR ψ 3 .chain 1 :)
    go_simp
    go_at_call 151
    refine (HW.out w).mono ?_
    rintro e w2 ⟨rfl,hb2⟩
    go_simp
    exact HK.out _ _ _ (by (try simp only [e5,e3])<;>rfl) hb2 rfl
   refine fQ 7 ?_ ?_
   ·
    intro X w hR ψ K HK
    have e4:X 4=.agg (So.dmaL d).toArray:=(pR ψ 4 .data 0 :)
    have e6:X 6=.agg (So.dmaL (dmaZ d)).toArray:=(pR ψ 6 .data 1 :)
    have e3:X 3=.bool true:=(pR ψ 3 .guard 2 :)
    rw [if_pos (by simp [Region.wanted,yielded,e3])]
    refine zeO 80 80 (.tmp 58) (.tmp 60) rfl (d:=4) (by kernel_rfl) (by decide) (by kernel_rfl) (by kernel_rfl) (zaN d) (zaN (dmaZ d)) (show X 4=_ from e4) (show X 6=_ from e6) ?_
    rw [HNE.out]
    exact HK.out _ _ _ (by (try simp only [e4,e6,e3])<;>rfl) (Below.refl _ _) rfl
   refine fQ 8 ?_ ?_
   ·
    intro X w hR ψ K HK
    have e3:X 3=.bool true:=(pR ψ 3 .data 0 :)
    have e7:X 7=.bool (!z):=(pR ψ 7 .data 1 :)
    go_simp
    exact HK.out _ _ _ (by (try simp only [e3,e7])<;>rfl) (Below.refl _ _) rfl
   refine fQ 9 ?_ ?_
   ·
    intro X w hR ψ K HK
    have e8:X 8=.bool (!z):=(pR ψ 8 .data 0 :)
    go_simp
    exact HK.out _ _ _ (by (try simp only [e8])<;>rfl) (Below.refl _ _) rfl
   exact zF.nil
  ·
   intro X1 wE hR hall
   have e9:X1 9=.bool (!z):=hall 9 (by decide)
   clear hall
   cases z with
   | false =>
    have e9':X1 9=Value.bool true:=e9
    clear e9
    go_wp2_with fail
    go_ret
    exact zu (by rw [HB.out];simp) (zb hbel hR)
   | true =>
    have e9':X1 9=Value.bool false:=e9
    clear e9
    go_wp2_with fail
    go_ret
    exact zU (by rw [HB.out,FS.out];rfl) (zb hbel hR)
 ·
  have hs':¬ (d.steps:Int)≤64:=by omega
  have FS:=qH (decide_eq_false hs)
  clear hs
  go_enter Tryz.func84,Tryz.ntmps84
  go_upto_region 1 with (fail)
  have hB:=Blk.new w (So.dmaL d).toArray 80
  have hbel:=za (Below.refl w.heap.size w) (.cells (So.dmaL d).toArray 80)
  generalize w.alloc (.cells (So.dmaL d).toArray 80)=W1 at hB hbel ⊢
  obtain ⟨g,hg⟩:=qX w.heap.size
  rw [hg] at hB ⊢
  clear hg
  obtain ⟨k0,k1,k2,k3,k4,k5,k6,k7,k8,k9,k10⟩:=zak hB
  rw [hh] at k5
  rw [ha] at k10
  clear hc hh ha h2
  rw [c2] at k0
  go_wp2_with fail
  go_ret
  exact zu (by rw [HB.out,FS.out];simp) hbel
theorem zky (d:So.Dma) (hc:d.code≤3) (h2:¬ d.code=2) (h3:d.code=3) (hh:d.have_=false) (ha:d.asks=true) (w:World):Calls Tryz.prog 84 #[.agg (So.dmaL d).toArray] w (CkP w (So.dmaB d)):=by
 have hBB:So.dmaB d=(decide (d.code≤3) && !(d.have_&&d.code != 1) && !(d.asks && !(d.code==2||d.code==3))&&decide (d.steps≤64) && !(d.have_&&(decide (d.left<1)||decide (65536<d.left)))&&(d.have_||(d.from_==0&&d.to==0&&d.left==0&&d.next==0))):=rfl
 rw [hh,←zeh d hh,ha,decide_eq_true hc] at hBB
 have HW:=qH (fun W=>zbg d W)
 obtain ⟨z,hz⟩:=qX (eqVs (So.dmaL d) (So.dmaL (dmaZ d)))
 rw [hz] at hBB
 have HNE:=qH hz
 clear hz
 have hc3:¬ (3:Int)<(d.code:Int):=by omega
 have c2:¬ (d.code:Int)=2:=by omega
 have c2':((d.code:Int)==2)=false:=by simp;omega
 rw [h3] at hBB
 have c3:(d.code:Int)=3:=by omega
 have HB:=qH hBB
 clear hBB
 by_cases hs:d.steps≤64
 ·
  have hs':(d.steps:Int)≤64:=by omega
  have m64:decide ((64:Int)<(d.steps:Int))=false:=decide_eq_false (by omega)
  have FS:=qH (decide_eq_true hs)
  clear hs
  go_enter Tryz.func84,Tryz.ntmps84
  go_upto_region 1 with (fail)
  have hB:=Blk.new w (So.dmaL d).toArray 80
  have hbel:=za (Below.refl w.heap.size w) (.cells (So.dmaL d).toArray 80)
  generalize w.alloc (.cells (So.dmaL d).toArray 80)=W1 at hB hbel ⊢
  obtain ⟨g,hg⟩:=qX w.heap.size
  rw [hg] at hB ⊢
  clear hg
  obtain ⟨k0,k1,k2,k3,k4,k5,k6,k7,k8,k9,k10⟩:=zak hB
  rw [hh] at k5
  rw [ha] at k10
  have HH:=qH hh
  clear hc hh ha h2
  rw [c3] at k0
  go_upto_region 6 with (fail)
  refine zE (by kernel_rfl) (fun X=>⟨#[.agg (So.dmaL d).toArray,.pointer (some ⟨g,0,none⟩),.nilIface,.bool true,.pointer (some ⟨g,0,none⟩),.int .u32 3,.bool false,.bool false,.pointer (some ⟨g,0,none⟩),.int .u32 3,.bool true,.bool true,.bool false,.pointer (some ⟨g,0,none⟩),.int .u32 3,.bool false,.bool false,.pointer (some ⟨g,5,none⟩),.bool false,.bool false,undef,undef,undef,.bool false,.bool false,.bool false,.pointer (some ⟨g,10,none⟩),.bool true,.bool true,.bool true,.bool false,.bool false,.bool false,.bool false,.pointer (some ⟨g,3,none⟩),.int .u32 ↑d.steps,.bool false,.bool false,undef,.bool false,.pointer (some ⟨g,5,none⟩),.bool false,.bool false,undef,undef,undef,undef,undef,undef,undef,undef,.bool false,undef,X 9,X 0,X 1,X 2,X 3,X 4,X 5,X 6,X 7,X 8,undef],[]⟩) (fun u v=>Below u.heap.size u v) (fun i v w=>match i with | 0=>(v=.pointer (some ⟨g,5,none⟩)) | 1=>(v=.bool false) | 2=>(v=.bool true) | 3=>(v=.bool true) | 4=>(v=.agg (So.dmaL d).toArray) | 5=>(v=.agg (So.dmaL d).toArray) | 6=>(v=.agg (So.dmaL (dmaZ d)).toArray) | 7=>(v=.bool (!z)) | 8=>(v=.bool (!z)) | 9=>(v=.bool (!z)) | _=>True) _ (fun _=>undef) (fun u v w a b=>zb a b) ?_ (by kernel_rfl) (zr (Below.refl _ _)) ?_ ?_
  ·
   intro i v w w' h hb
   match i,h with
   | 0,h=>exact h
   | 1,h=>exact h
   | 2,h=>exact h
   | 3,h=>exact h
   | 4,h=>exact h
   | 5,h=>exact h
   | 6,h=>exact h
   | 7,h=>exact h
   | 8,h=>exact h
   | 9,h=>exact h
   | _+10,h=>exact trivial
  ·
   refine fQ 0 ?_ ?_
   ·
    intro X w hR ψ K HK
    go_simp
    exact HK.out _ _ _ rfl (Below.refl _ _) rfl
   refine fQ 1 ?_ ?_
   ·
    intro X w hR ψ K HK
    have e0:X 0=.pointer (some ⟨g,5,none⟩):=(pR ψ 0 .data 0 :)
    have c5:w.cell? ⟨g,5,none⟩=some (Value.bool d.have_):=(hB.keep hR).cell 5 rfl
    rw [HH.out] at c5
    go_simp
    exact HK.out _ _ _ (by (try simp only [e0])<;>rfl) (Below.refl _ _) rfl
   refine fQ 2 ?_ ?_
   ·
    intro X w hR ψ K HK
    have e1:X 1=.bool false:=(pR ψ 1 .data 0 :)
    go_simp
    exact HK.out _ _ _ (by (try simp only [e1])<;>rfl) (Below.refl _ _) rfl
   refine fQ 3 ?_ ?_
   ·
    intro X w hR ψ K HK
    have e2:X 2=.bool true:=(pR ψ 2 .data 0 :)
    go_simp
    exact HK.out _ _ _ (by (try simp only [e2])<;>rfl) (Below.refl _ _) rfl
   refine fQ 4 ?_ ?_
   ·
    intro X w hR ψ K HK
    have e3:X 3=.bool true:=(pR ψ 3 .guard 0 :)
    rw [if_pos (by simp [Region.wanted,yielded,e3])]
    refine wp_load_mid 80 (.tmp 1) rfl g 0 rfl (So.dmaL d) _ (zd (hB.keep hR) 0 11 rfl) Tryz.underlying80 rfl rfl ?_
    exact HK.out _ _ _ (by (try simp only [e3])<;>rfl) (Below.refl _ _) rfl
   refine fQ 5 ?_ ?_
   ·
    intro X w hR ψ K HK
    have e3:X 3=.bool true:=(pR ψ 3 .guard 0 :)
    rw [if_pos (by simp [Region.wanted,yielded,e3])]
    refine wp_load_mid 80 (.tmp 1) rfl g 0 rfl (So.dmaL d) _ (zd (hB.keep hR) 0 11 rfl) Tryz.underlying80 rfl rfl ?_
    exact HK.out _ _ _ (by (try simp only [e3])<;>rfl) (Below.refl _ _) rfl
   refine fQ 6 ?_ ?_
   ·
    intro X w hR ψ K HK
    have e5:X 5=.agg (So.dmaL d).toArray:=(pR ψ 5 .data 0 :)
    have e3:X 3=.bool true:=(pR ψ 3 .chain 1 :)
    go_simp
    go_at_call 151
    refine (HW.out w).mono ?_
    rintro e w2 ⟨rfl,hb2⟩
    go_simp
    exact HK.out _ _ _ (by (try simp only [e5,e3])<;>rfl) hb2 rfl
   refine fQ 7 ?_ ?_
   ·
    intro X w hR ψ K HK
    have e4:X 4=.agg (So.dmaL d).toArray:=(pR ψ 4 .data 0 :)
    have e6:X 6=.agg (So.dmaL (dmaZ d)).toArray:=(pR ψ 6 .data 1 :)
    have e3:X 3=.bool true:=(pR ψ 3 .guard 2 :)
    rw [if_pos (by simp [Region.wanted,yielded,e3])]
    refine zeO 80 80 (.tmp 58) (.tmp 60) rfl (d:=4) (by kernel_rfl) (by decide) (by kernel_rfl) (by kernel_rfl) (zaN d) (zaN (dmaZ d)) (show X 4=_ from e4) (show X 6=_ from e6) ?_
    rw [HNE.out]
    exact HK.out _ _ _ (by (try simp only [e4,e6,e3])<;>rfl) (Below.refl _ _) rfl
   refine fQ 8 ?_ ?_
   ·
    intro X w hR ψ K HK
    have e3:X 3=.bool true:=(pR ψ 3 .data 0 :)
    have e7:X 7=.bool (!z):=(pR ψ 7 .data 1 :)
    go_simp
    exact HK.out _ _ _ (by (try simp only [e3,e7])<;>rfl) (Below.refl _ _) rfl
   refine fQ 9 ?_ ?_
   ·
    intro X w hR ψ K HK
    have e8:X 8=.bool (!z):=(pR ψ 8 .data 0 :)
    go_simp
    exact HK.out _ _ _ (by (try simp only [e8])<;>rfl) (Below.refl _ _) rfl
   exact zF.nil
  ·
   intro X1 wE hR hall
   have e9:X1 9=.bool (!z):=hall 9 (by decide)
   clear hall
   cases z with
   | false =>
    have e9':X1 9=Value.bool true:=e9
    clear e9
    go_wp2_with fail
    go_ret
    exact zu (by rw [HB.out];simp) (zb hbel hR)
   | true =>
    have e9':X1 9=Value.bool false:=e9
    clear e9
    go_wp2_with fail
    go_ret
    exact zU (by rw [HB.out,FS.out];rfl) (zb hbel hR)
 ·
  have hs':¬ (d.steps:Int)≤64:=by omega
  have FS:=qH (decide_eq_false hs)
  clear hs
  go_enter Tryz.func84,Tryz.ntmps84
  go_upto_region 1 with (fail)
  have hB:=Blk.new w (So.dmaL d).toArray 80
  have hbel:=za (Below.refl w.heap.size w) (.cells (So.dmaL d).toArray 80)
  generalize w.alloc (.cells (So.dmaL d).toArray 80)=W1 at hB hbel ⊢
  obtain ⟨g,hg⟩:=qX w.heap.size
  rw [hg] at hB ⊢
  clear hg
  obtain ⟨k0,k1,k2,k3,k4,k5,k6,k7,k8,k9,k10⟩:=zak hB
  rw [hh] at k5
  rw [ha] at k10
  clear hc hh ha h2
  rw [c3] at k0
  go_wp2_with fail
  go_ret
  exact zu (by rw [HB.out,FS.out];simp) hbel
theorem zkz (d:So.Dma) (hc:d.code=0∨d.code=1) (hh:d.have_=false) (ha:d.asks=true) (w:World):Calls Tryz.prog 84 #[.agg (So.dmaL d).toArray] w (CkP w (So.dmaB d)):=by
 have HB:Hid (So.dmaB d=false):=qH (by unfold So.dmaB;rw [ha];rcases hc with hc | hc<;>rw [hc]<;>simp)
 rcases hc with hc | hc
 all_goals
  go_enter Tryz.func84,Tryz.ntmps84
  go_upto_region 1 with (fail)
  have hB:=Blk.new w (So.dmaL d).toArray 80
  have hbel:=za (Below.refl w.heap.size w) (.cells (So.dmaL d).toArray 80)
  generalize w.alloc (.cells (So.dmaL d).toArray 80)=W1 at hB hbel ⊢
  obtain ⟨g,hg⟩:=qX w.heap.size
  rw [hg] at hB ⊢
  clear hg
  obtain ⟨k0,k1,k2,k3,k4,k5,k6,k7,k8,k9,k10⟩:=zak hB
  rw [hc] at k0
  rw [hh] at k5
  rw [ha] at k10
  clear hc hh ha
  go_wp2_with fail
  go_ret
  exact zu HB.out hbel
theorem zme (d:So.Dma) (hc:d.code=0∨d.code=1∨d.code=2∨d.code=3) (hh:d.have_=false) (w:World):Calls Tryz.prog 84 #[.agg (So.dmaL d).toArray] w (CkP w (So.dmaB d)):=by
 have h3:d.code≤3:=by omega
 by_cases h2:d.code=2
 ·
  cases ha:d.asks with
  | false=>exact zkv d h3 h2 hh ha w
  | true=>exact zkx d h3 h2 hh ha w
 ·
  cases ha:d.asks with
  | false =>
   by_cases h4:d.code=3
   · exact zi9 d h3 h2 h4 hh ha w
   · exact zkw d h3 h2 h4 hh ha w
  | true =>
   by_cases h4:d.code=3
   · exact zky d h3 h2 h4 hh ha w
   · exact zkz d (by omega) hh ha w
theorem zfY (d:So.Dma) (w:World):Calls Tryz.prog 84 #[.agg (So.dmaL d).toArray] w (CkP w (So.dmaB d)):=by
 by_cases hc:3<d.code
 · exact znS d hc w
 ·
  have hc:d.code=0∨d.code=1∨d.code=2∨d.code=3:=by omega
  cases hh:d.have_ with
  | true=>exact zmd d hc hh w
  | false=>exact zme d hc hh w
end Go.Proofs.YtdffbihilhkkjaaGreatDoor
