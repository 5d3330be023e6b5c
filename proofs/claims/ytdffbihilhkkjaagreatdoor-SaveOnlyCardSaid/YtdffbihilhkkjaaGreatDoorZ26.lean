import Derived.Test.YtdffbihilhkkjaaGreatDoorZ23
import Derived.Test.YtdffbihilhkkjaaGreatDoorZ24
import Derived.Test.YtdffbihilhkkjaaGreatDoorZ25
namespace Go.Proofs.YtdffbihilhkkjaaGreatDoor
open Go.RowKit
set_option linter.unusedVariables false
set_option linter.unusedSimpArgs false
set_option maxRecDepth 100000
set_option maxHeartbeats 8000000
theorem zfT {w:World} {g:Nat} {q:So.Que} (h:Blk w g (So.queL q).toArray 83):w.cell? ⟨g,0,none⟩=some (.bool q.ready)∧w.cell? ⟨g,1,none⟩=some (.int .i64 (q.size:Int))∧w.cell? ⟨g,2,none⟩=some (.int .u32 (q.desc:Int))∧w.cell? ⟨g,3,none⟩=some (.int .u32 (q.avail:Int))∧w.cell? ⟨g,4,none⟩=some (.int .u32 (q.used:Int))∧w.cell? ⟨g,5,none⟩=some (.int .u16 (q.last:Int))∧w.cell? ⟨g,6,none⟩=some (.int .u16 (q.put:Int)):=⟨h.cell 0 rfl,h.cell 1 rfl,h.cell 2 rfl,h.cell 3 rfl,h.cell 4 rfl,h.cell 5 rfl,h.cell 6 rfl⟩
theorem zar (q:So.Que) (hok:q.Ok) (w:World):Calls Tryz.prog 190 #[.agg (So.queL q).toArray] w (zbj w (So.queB q)):=by
 cases hr:q.ready with
 | true =>
  have HB:Hid (So.queB q=So.ringB q):=qH (by unfold So.queB;rw [hr];rfl)
  have HOK:=qH hok
  clear hok
  go_enter Tryz.func190,Tryz.ntmps190
  go_upto_region 1 with (fail)
  have hB:=Blk.new w (So.queL q).toArray 83
  have hbel:=za (Below.refl w.heap.size w) (.cells (So.queL q).toArray 83)
  generalize w.alloc (.cells (So.queL q).toArray 83)=W1 at hB hbel ⊢
  obtain ⟨g,hg⟩:=qX w.heap.size
  rw [hg] at hB ⊢
  clear hg
  obtain ⟨k0,k1,k2,k3,k4,k5,k6⟩:=zfT hB
  rw [hr] at k0
  clear hr
  cases hb:So.ringB q with
  | true =>
   have HC:Hid (ckV (So.ringB q)=.nilIface):=qH (by rw [hb];rfl)
   rw [hb] at HB
   clear hb
   go_wp2_with (first | (go_at_call 210;refine (zcN q _ HOK.out).mono ?_;rintro e w2 ⟨rfl,hb2⟩;rw [HC.out]) | fail)
   go_ret
   exact z0 HB.out (zb hbel hb2)
  | false =>
   have HC:Hid (ckV (So.ringB q)=.iface 149 (.int .i64 1)):=qH (by rw [hb];rfl)
   rw [hb] at HB
   clear hb
   go_wp2_with (first | (go_at_call 210;refine (zcN q _ HOK.out).mono ?_;rintro e w2 ⟨rfl,hb2⟩;rw [HC.out]) | fail)
   go_ret
   exact z0 HB.out (zb hbel hb2)
 | false =>
  have HB:Hid (So.queB q=(decide (0≤q.size)&&decide (q.size≤256))):=qH (by unfold So.queB;rw [hr];rfl)
  clear hok
  go_enter Tryz.func190,Tryz.ntmps190
  go_upto_region 1 with (fail)
  have hB:=Blk.new w (So.queL q).toArray 83
  have hbel:=za (Below.refl w.heap.size w) (.cells (So.queL q).toArray 83)
  generalize w.alloc (.cells (So.queL q).toArray 83)=W1 at hB hbel ⊢
  obtain ⟨g,hg⟩:=qX w.heap.size
  rw [hg] at hB ⊢
  clear hg
  obtain ⟨k0,k1,k2,k3,k4,k5,k6⟩:=zfT hB
  rw [hr] at k0
  clear hr k2 k3 k4 k5 k6
  generalize q.size=s at k1 HB
  by_cases h1:0≤s
  ·
   by_cases h2:s≤256
   ·
    go_wp2_with fail
    go_ret
    exact z0 (by rw [HB.out,decide_eq_true (show 0≤s by omega),decide_eq_true (show s≤256 by omega)];rfl) hbel
   ·
    go_wp2_with fail
    go_ret
    exact z0 (by rw [HB.out,decide_eq_false (show ¬ s≤256 by omega),Bool.and_false]) hbel
  ·
   go_wp2_with fail
   go_ret
   exact z0 (by rw [HB.out,decide_eq_false (show ¬ 0≤s by omega),Bool.false_and]) hbel
theorem zbx {w:World} {g:Nat} {p:So.Virt} (h:Blk w g (So.virtL p).toArray 86):w.cell? ⟨g,0,none⟩=some (.int .u32 (p.status:Int))∧w.cell? ⟨g,1,none⟩=some (.int .u32 (p.feat:Int))∧w.cell? ⟨g,2,none⟩=some (.int .u32 (p.drvsel:Int))∧w.cell? ⟨g,3,none⟩=some (.int .u32 (p.sel:Int))∧w.cell? ⟨g,4,none⟩=some (.int .u32 (p.irq:Int))∧w.cell? ⟨g,5,none⟩=some (.int .u32 (p.drv0:Int))∧w.cell? ⟨g,6,none⟩=some (.int .u32 (p.drv1:Int))∧w.cell? ⟨g,7,none⟩=some (.bool p.q0.ready)∧w.cell? ⟨g,8,none⟩=some (.int .i64 (p.q0.size:Int))∧w.cell? ⟨g,9,none⟩=some (.int .u32 (p.q0.desc:Int))∧w.cell? ⟨g,10,none⟩=some (.int .u32 (p.q0.avail:Int))∧w.cell? ⟨g,11,none⟩=some (.int .u32 (p.q0.used:Int))∧w.cell? ⟨g,12,none⟩=some (.int .u16 (p.q0.last:Int))∧w.cell? ⟨g,13,none⟩=some (.int .u16 (p.q0.put:Int))∧w.cell? ⟨g,14,none⟩=some (.bool p.q1.ready)∧w.cell? ⟨g,15,none⟩=some (.int .i64 (p.q1.size:Int))∧w.cell? ⟨g,16,none⟩=some (.int .u32 (p.q1.desc:Int))∧w.cell? ⟨g,17,none⟩=some (.int .u32 (p.q1.avail:Int))∧w.cell? ⟨g,18,none⟩=some (.int .u32 (p.q1.used:Int))∧w.cell? ⟨g,19,none⟩=some (.int .u16 (p.q1.last:Int))∧w.cell? ⟨g,20,none⟩=some (.int .u16 (p.q1.put:Int)):=⟨h.cell 0 rfl,h.cell 1 rfl,h.cell 2 rfl,h.cell 3 rfl,h.cell 4 rfl,h.cell 5 rfl,h.cell 6 rfl,h.cell 7 rfl,h.cell 8 rfl,h.cell 9 rfl,h.cell 10 rfl,h.cell 11 rfl,h.cell 12 rfl,h.cell 13 rfl,h.cell 14 rfl,h.cell 15 rfl,h.cell 16 rfl,h.cell 17 rfl,h.cell 18 rfl,h.cell 19 rfl,h.cell 20 rfl⟩
theorem zas {w:World} {g:Nat} {p:So.Virt} (h:Blk w g (So.virtL p).toArray 86):w.cell? ⟨g,0,none⟩=some (.int .u32 (p.status:Int))∧w.cell? ⟨g,4,none⟩=some (.int .u32 (p.irq:Int)):=⟨h.cell 0 rfl,h.cell 4 rfl⟩
theorem zoG (a b c d:Int) (W:World):(binOp .eql 46 (.agg #[.int .u32 a,.int .u32 b]) (.agg #[.int .u32 c,.int .u32 d])).run Tryz.prog W=.ok (.bool (a==c&&b==d)) W:=by
 have h:=znQ (P:=Tryz.prog) (d:=3) (t:=46) (l:=[.i .u32,.i .u32]) (by kernel_rfl) (by decide) (by kernel_rfl) (xs:=[.int .u32 a,.int .u32 b]) (ys:=[.int .u32 c,.int .u32 d]) ⟨⟨_,rfl⟩,⟨_,rfl⟩,trivial⟩ ⟨⟨_,rfl⟩,⟨_,rfl⟩,trivial⟩ W
 simp only [eqVs,eqV,Bool.and_true] at h
 exact h
theorem zfU (p:So.Virt) (w:World):Calls Tryz.prog 191 #[.agg (So.virtL p).toArray] w (zbj w (p.drv0==0&&p.drv1==1)):=by
 have HP:Hid ((p.drv0==0&&p.drv1==1)=((p.drv0:Int)==0&&(p.drv1:Int)==1)):=qH (by
  congr 1<;>(rw [Bool.eq_iff_iff];simp<;>omega))
 have hq:=fun W=>zoG (p.drv0:Int) (p.drv1:Int) 0 1 W
 go_enter Tryz.func191,Tryz.ntmps191
 go_upto_region 1 with (fail)
 have hB:=Blk.new w (So.virtL p).toArray 86
 have hbel:=za (Below.refl w.heap.size w) (.cells (So.virtL p).toArray 86)
 generalize w.alloc (.cells (So.virtL p).toArray 86)=W1 at hB hbel ⊢
 obtain ⟨g,hg⟩:=qX w.heap.size
 rw [hg] at hB ⊢
 clear hg
 have k5:W1.cell? ⟨g,5,none⟩=some (.int .u32 (p.drv0:Int)):=hB.cell 5 rfl
 have k6:W1.cell? ⟨g,6,none⟩=some (.int .u32 (p.drv1:Int)):=hB.cell 6 rfl
 go_wp2_with fail
 go_ret
 exact z0 HP.out hbel
theorem ziT (p:So.Virt) (w:World) (b1 b5:Nat) (m0 m1 r:Bool) (HOK:Hid (p.q0.Ok∧p.q1.Ok)) (HB:Hid (So.virtB p=(b1==0&&decide (p.irq≤3)&&m0&&m1 && !(b5 != 0 && !r)))) (HM0:Hid (So.queB p.q0=m0)) (HM1:Hid (So.queB p.q1=m1)) (HR:Hid ((p.drv0==0&&p.drv1==1)=r)) (e1':bits .andNot .u32 (p.status:Int) 207=(b1:Int)) (f1:Hid ((b1==0)=false)) (n1:¬ ((b1:Int)=0)) (n1':((b1:Int) != 0)=true):Calls Tryz.prog 152 #[.agg (So.virtL p).toArray] w (CkP w (So.virtB p)):=by
 go_enter Tryz.func152,Tryz.ntmps152
 go_upto_region 1 with (fail)
 have hB:=Blk.new w (So.virtL p).toArray 86
 have hbel:=za (Below.refl w.heap.size w) (.cells (So.virtL p).toArray 86)
 generalize w.alloc (.cells (So.virtL p).toArray 86)=W1 at hB hbel ⊢
 obtain ⟨g,hg⟩:=qX w.heap.size
 rw [hg] at hB ⊢
 clear hg
 obtain ⟨k0,k4⟩:=zas hB
 go_upto_if 36 with (first | fail)
 go_wp2_with fail
 go_ret
 exact zu (by rw [HB.out,f1.out];simp) hbel
theorem ziU (p:So.Virt) (w:World) (b1 b5:Nat) (m0 m1 r:Bool) (HOK:Hid (p.q0.Ok∧p.q1.Ok)) (HB:Hid (So.virtB p=(b1==0&&decide (p.irq≤3)&&m0&&m1 && !(b5 != 0 && !r)))) (HM0:Hid (So.queB p.q0=m0)) (HM1:Hid (So.queB p.q1=m1)) (HR:Hid ((p.drv0==0&&p.drv1==1)=r)) (e1':bits .andNot .u32 (p.status:Int) 207=0) (f1:Hid ((b1==0)=true)) (n2:¬ ((p.irq:Int)≤3)) (f2:Hid (decide (p.irq≤3)=false)):Calls Tryz.prog 152 #[.agg (So.virtL p).toArray] w (CkP w (So.virtB p)):=by
 go_enter Tryz.func152,Tryz.ntmps152
 go_upto_region 1 with (fail)
 have hB:=Blk.new w (So.virtL p).toArray 86
 have hbel:=za (Below.refl w.heap.size w) (.cells (So.virtL p).toArray 86)
 generalize w.alloc (.cells (So.virtL p).toArray 86)=W1 at hB hbel ⊢
 obtain ⟨g,hg⟩:=qX w.heap.size
 rw [hg] at hB ⊢
 clear hg
 obtain ⟨k0,k4⟩:=zas hB
 go_upto_if 36 with (first | fail)
 go_wp2_with fail
 go_ret
 exact zu (by rw [HB.out,f2.out];simp) hbel
theorem ziV (p:So.Virt) (w:World) (b1 b5:Nat) (m0 m1 r:Bool) (HOK:Hid (p.q0.Ok∧p.q1.Ok)) (HB:Hid (So.virtB p=(b1==0&&decide (p.irq≤3)&&m0&&m1 && !(b5 != 0 && !r)))) (HM0:Hid (So.queB p.q0=m0)) (HM1:Hid (So.queB p.q1=m1)) (HR:Hid ((p.drv0==0&&p.drv1==1)=r)) (e1':bits .andNot .u32 (p.status:Int) 207=0) (f1:Hid ((b1==0)=true)) (n2:(p.irq:Int)≤3) (f2:Hid (decide (p.irq≤3)=true)) (n2':decide ((3:Int)<(p.irq:Int))=false) (v0:m0=false):Calls Tryz.prog 152 #[.agg (So.virtL p).toArray] w (CkP w (So.virtB p)):=by
 subst v0
 go_enter Tryz.func152,Tryz.ntmps152
 go_upto_region 1 with (fail)
 have hB:=Blk.new w (So.virtL p).toArray 86
 have hbel:=za (Below.refl w.heap.size w) (.cells (So.virtL p).toArray 86)
 generalize w.alloc (.cells (So.virtL p).toArray 86)=W1 at hB hbel ⊢
 obtain ⟨g,hg⟩:=qX w.heap.size
 rw [hg] at hB ⊢
 clear hg
 obtain ⟨k0,k4⟩:=zas hB
 clear k0 k4
 obtain ⟨k0,k1,k2,k3,k4,k5,k6,k7,k8,k9,k10,k11,k12,k13,k14,k15,k16,k17,k18,k19,k20⟩:=zbx hB
 go_wp2_with (first | (go_at_call_of 190 (p.q0.size);refine (zar p.q0 HOK.out.1 _).mono ?_;rintro e w2 ⟨rfl,hb2⟩;rw [HM0.out];have hbel:=zb hbel hb2;have hB:=hB.keep hb2;clear hb2 k0 k1 k2 k3 k4 k5 k6 k7 k8 k9 k10 k11 k12 k13 k14 k15 k16 k17 k18 k19 k20;obtain ⟨k0,k1,k2,k3,k4,k5,k6,k7,k8,k9,k10,k11,k12,k13,k14,k15,k16,k17,k18,k19,k20⟩:=zbx hB) | fail)
 go_ret
 exact zu (by rw [HB.out,f1.out];simp) hbel
theorem ziW (p:So.Virt) (w:World) (b1 b5:Nat) (m0 m1 r:Bool) (HOK:Hid (p.q0.Ok∧p.q1.Ok)) (HB:Hid (So.virtB p=(b1==0&&decide (p.irq≤3)&&m0&&m1 && !(b5 != 0 && !r)))) (HM0:Hid (So.queB p.q0=m0)) (HM1:Hid (So.queB p.q1=m1)) (HR:Hid ((p.drv0==0&&p.drv1==1)=r)) (e1':bits .andNot .u32 (p.status:Int) 207=0) (f1:Hid ((b1==0)=true)) (n2:(p.irq:Int)≤3) (f2:Hid (decide (p.irq≤3)=true)) (n2':decide ((3:Int)<(p.irq:Int))=false) (v0:m0=true) (v1:m1=false):Calls Tryz.prog 152 #[.agg (So.virtL p).toArray] w (CkP w (So.virtB p)):=by
 subst v0
 subst v1
 go_enter Tryz.func152,Tryz.ntmps152
 go_upto_region 1 with (fail)
 have hB:=Blk.new w (So.virtL p).toArray 86
 have hbel:=za (Below.refl w.heap.size w) (.cells (So.virtL p).toArray 86)
 generalize w.alloc (.cells (So.virtL p).toArray 86)=W1 at hB hbel ⊢
 obtain ⟨g,hg⟩:=qX w.heap.size
 rw [hg] at hB ⊢
 clear hg
 obtain ⟨k0,k4⟩:=zas hB
 clear k0 k4
 obtain ⟨k0,k1,k2,k3,k4,k5,k6,k7,k8,k9,k10,k11,k12,k13,k14,k15,k16,k17,k18,k19,k20⟩:=zbx hB
 go_wp2_with (first | (go_at_call_of 190 (p.q0.size);refine (zar p.q0 HOK.out.1 _).mono ?_;rintro e w2 ⟨rfl,hb2⟩;rw [HM0.out];have hbel:=zb hbel hb2;have hB:=hB.keep hb2;clear hb2 k0 k1 k2 k3 k4 k5 k6 k7 k8 k9 k10 k11 k12 k13 k14 k15 k16 k17 k18 k19 k20;obtain ⟨k0,k1,k2,k3,k4,k5,k6,k7,k8,k9,k10,k11,k12,k13,k14,k15,k16,k17,k18,k19,k20⟩:=zbx hB) | (go_at_call_of 190 (p.q1.size);refine (zar p.q1 HOK.out.2 _).mono ?_;rintro e w2 ⟨rfl,hb2⟩;rw [HM1.out];have hbel:=zb hbel hb2;have hB:=hB.keep hb2;clear hb2 k0 k1 k2 k3 k4 k5 k6 k7 k8 k9 k10 k11 k12 k13 k14 k15 k16 k17 k18 k19 k20;obtain ⟨k0,k1,k2,k3,k4,k5,k6,k7,k8,k9,k10,k11,k12,k13,k14,k15,k16,k17,k18,k19,k20⟩:=zbx hB) | fail)
 go_ret
 exact zu (by rw [HB.out,f1.out];simp) hbel
theorem ziX (p:So.Virt) (w:World) (b1 b5:Nat) (m0 m1 r:Bool) (HOK:Hid (p.q0.Ok∧p.q1.Ok)) (HB:Hid (So.virtB p=(b1==0&&decide (p.irq≤3)&&m0&&m1 && !(b5 != 0 && !r)))) (HM0:Hid (So.queB p.q0=m0)) (HM1:Hid (So.queB p.q1=m1)) (HR:Hid ((p.drv0==0&&p.drv1==1)=r)) (e1':bits .andNot .u32 (p.status:Int) 207=0) (f1:Hid ((b1==0)=true)) (n2:(p.irq:Int)≤3) (f2:Hid (decide (p.irq≤3)=true)) (n2':decide ((3:Int)<(p.irq:Int))=false) (v0:m0=true) (v1:m1=true) (e5':bits .and .u32 (p.status:Int) 8=0) (f5:Hid ((b5 != 0)=false)):Calls Tryz.prog 152 #[.agg (So.virtL p).toArray] w (CkP w (So.virtB p)):=by
 subst v0
 subst v1
 go_enter Tryz.func152,Tryz.ntmps152
 go_upto_region 1 with (fail)
 have hB:=Blk.new w (So.virtL p).toArray 86
 have hbel:=za (Below.refl w.heap.size w) (.cells (So.virtL p).toArray 86)
 generalize w.alloc (.cells (So.virtL p).toArray 86)=W1 at hB hbel ⊢
 obtain ⟨g,hg⟩:=qX w.heap.size
 rw [hg] at hB ⊢
 clear hg
 obtain ⟨k0,k4⟩:=zas hB
 go_upto_if 36 with (first | (refine ze 83 (.tmp 14) rfl g 7 rfl (So.queL p.q0) _ (zd hB 7 7 rfl) Tryz.underlying83 rfl (by kernel_rfl) (by rfl) ?_) | (go_at_call_of 190 (So.queL p.q0);refine (zar p.q0 HOK.out.1 _).mono ?_;rintro e w2 ⟨rfl,hb2⟩;rw [HM0.out];have hbel:=zb hbel hb2;have hB:=hB.keep hb2;clear hb2 k0 k4;obtain ⟨k0,k4⟩:=zas hB) | (refine ze 83 (.tmp 21) rfl g 14 rfl (So.queL p.q1) _ (zd hB 14 7 rfl) Tryz.underlying83 rfl (by kernel_rfl) (by rfl) ?_) | (go_at_call_of 190 (So.queL p.q1);refine (zar p.q1 HOK.out.2 _).mono ?_;rintro e w2 ⟨rfl,hb2⟩;rw [HM1.out];have hbel:=zb hbel hb2;have hB:=hB.keep hb2;clear hb2 k0 k4;obtain ⟨k0,k4⟩:=zas hB) | fail)
 go_wp2_with fail
 go_ret
 exact zU (by rw [HB.out,f1.out,f2.out,f5.out];rfl) hbel
theorem ziY (p:So.Virt) (w:World) (b1 b5:Nat) (m0 m1 r:Bool) (HOK:Hid (p.q0.Ok∧p.q1.Ok)) (HB:Hid (So.virtB p=(b1==0&&decide (p.irq≤3)&&m0&&m1 && !(b5 != 0 && !r)))) (HM0:Hid (So.queB p.q0=m0)) (HM1:Hid (So.queB p.q1=m1)) (HR:Hid ((p.drv0==0&&p.drv1==1)=r)) (e1':bits .andNot .u32 (p.status:Int) 207=0) (f1:Hid ((b1==0)=true)) (n2:(p.irq:Int)≤3) (f2:Hid (decide (p.irq≤3)=true)) (n2':decide ((3:Int)<(p.irq:Int))=false) (v0:m0=true) (v1:m1=true) (e5':bits .and .u32 (p.status:Int) 8=(b5:Int)) (f5:Hid ((b5 != 0)=true)) (n5:¬ ((b5:Int)=0)) (n5':((b5:Int) != 0)=true) (v2:r=true):Calls Tryz.prog 152 #[.agg (So.virtL p).toArray] w (CkP w (So.virtB p)):=by
 subst v0
 subst v1
 subst v2
 go_enter Tryz.func152,Tryz.ntmps152
 go_upto_region 1 with (fail)
 have hB:=Blk.new w (So.virtL p).toArray 86
 have hbel:=za (Below.refl w.heap.size w) (.cells (So.virtL p).toArray 86)
 generalize w.alloc (.cells (So.virtL p).toArray 86)=W1 at hB hbel ⊢
 obtain ⟨g,hg⟩:=qX w.heap.size
 rw [hg] at hB ⊢
 clear hg
 obtain ⟨k0,k4⟩:=zas hB
 go_upto_if 36 with (first | (refine ze 83 (.tmp 14) rfl g 7 rfl (So.queL p.q0) _ (zd hB 7 7 rfl) Tryz.underlying83 rfl (by kernel_rfl) (by rfl) ?_) | (go_at_call_of 190 (So.queL p.q0);refine (zar p.q0 HOK.out.1 _).mono ?_;rintro e w2 ⟨rfl,hb2⟩;rw [HM0.out];have hbel:=zb hbel hb2;have hB:=hB.keep hb2;clear hb2 k0 k4;obtain ⟨k0,k4⟩:=zas hB) | (refine ze 83 (.tmp 21) rfl g 14 rfl (So.queL p.q1) _ (zd hB 14 7 rfl) Tryz.underlying83 rfl (by kernel_rfl) (by rfl) ?_) | (go_at_call_of 190 (So.queL p.q1);refine (zar p.q1 HOK.out.2 _).mono ?_;rintro e w2 ⟨rfl,hb2⟩;rw [HM1.out];have hbel:=zb hbel hb2;have hB:=hB.keep hb2;clear hb2 k0 k4;obtain ⟨k0,k4⟩:=zas hB) | (refine ze 86 (.tmp 1) rfl g 0 rfl (So.virtL p) _ (zd hB 0 21 rfl) Tryz.underlying86 rfl (by kernel_rfl) (by rfl) ?_) | (go_at_call 191;refine (zfU p _).mono ?_;rintro e w2 ⟨rfl,hb2⟩;rw [HR.out];have hbel:=zb hbel hb2) | fail)
 go_wp2_with fail
 go_ret
 exact zU (by rw [HB.out,f1.out,f2.out,f5.out];rfl) hbel
theorem ziZ (p:So.Virt) (w:World) (b1 b5:Nat) (m0 m1 r:Bool) (HOK:Hid (p.q0.Ok∧p.q1.Ok)) (HB:Hid (So.virtB p=(b1==0&&decide (p.irq≤3)&&m0&&m1 && !(b5 != 0 && !r)))) (HM0:Hid (So.queB p.q0=m0)) (HM1:Hid (So.queB p.q1=m1)) (HR:Hid ((p.drv0==0&&p.drv1==1)=r)) (e1':bits .andNot .u32 (p.status:Int) 207=0) (f1:Hid ((b1==0)=true)) (n2:(p.irq:Int)≤3) (f2:Hid (decide (p.irq≤3)=true)) (n2':decide ((3:Int)<(p.irq:Int))=false) (v0:m0=true) (v1:m1=true) (e5':bits .and .u32 (p.status:Int) 8=(b5:Int)) (f5:Hid ((b5 != 0)=true)) (n5:¬ ((b5:Int)=0)) (n5':((b5:Int) != 0)=true) (v2:r=false):Calls Tryz.prog 152 #[.agg (So.virtL p).toArray] w (CkP w (So.virtB p)):=by
 subst v0
 subst v1
 subst v2
 go_enter Tryz.func152,Tryz.ntmps152
 go_upto_region 1 with (fail)
 have hB:=Blk.new w (So.virtL p).toArray 86
 have hbel:=za (Below.refl w.heap.size w) (.cells (So.virtL p).toArray 86)
 generalize w.alloc (.cells (So.virtL p).toArray 86)=W1 at hB hbel ⊢
 obtain ⟨g,hg⟩:=qX w.heap.size
 rw [hg] at hB ⊢
 clear hg
 obtain ⟨k0,k4⟩:=zas hB
 go_upto_if 36 with (first | (refine ze 83 (.tmp 14) rfl g 7 rfl (So.queL p.q0) _ (zd hB 7 7 rfl) Tryz.underlying83 rfl (by kernel_rfl) (by rfl) ?_) | (go_at_call_of 190 (So.queL p.q0);refine (zar p.q0 HOK.out.1 _).mono ?_;rintro e w2 ⟨rfl,hb2⟩;rw [HM0.out];have hbel:=zb hbel hb2;have hB:=hB.keep hb2;clear hb2 k0 k4;obtain ⟨k0,k4⟩:=zas hB) | (refine ze 83 (.tmp 21) rfl g 14 rfl (So.queL p.q1) _ (zd hB 14 7 rfl) Tryz.underlying83 rfl (by kernel_rfl) (by rfl) ?_) | (go_at_call_of 190 (So.queL p.q1);refine (zar p.q1 HOK.out.2 _).mono ?_;rintro e w2 ⟨rfl,hb2⟩;rw [HM1.out];have hbel:=zb hbel hb2;have hB:=hB.keep hb2;clear hb2 k0 k4;obtain ⟨k0,k4⟩:=zas hB) | (refine ze 86 (.tmp 1) rfl g 0 rfl (So.virtL p) _ (zd hB 0 21 rfl) Tryz.underlying86 rfl (by kernel_rfl) (by rfl) ?_) | (go_at_call 191;refine (zfU p _).mono ?_;rintro e w2 ⟨rfl,hb2⟩;rw [HR.out];have hbel:=zb hbel hb2) | fail)
 go_wp2_with fail
 go_ret
 exact zu (by rw [HB.out,f1.out,f2.out,f5.out];simp) hbel
theorem zag (p:So.Virt) (hok:p.Ok) (w:World):Calls Tryz.prog 152 #[.agg (So.virtL p).toArray] w (CkP w (So.virtB p)):=by
 have e1:bits .andNot .u32 (p.status:Int) 207=((p.status&&&4294967088:Nat):Int):=u32_andNot_nat p.status 207 hok.1 (by decide)
 have e5:bits .and .u32 (p.status:Int) 8=((p.status&&&8:Nat):Int):=u32_and_nat p.status 8 hok.1 (by decide)
 have hBB:So.virtB p=(p.status&&&4294967088==0&&decide (p.irq≤3)&&So.queB p.q0&&So.queB p.q1 && !(p.status&&&8 != 0 && !(p.drv0==0&&p.drv1==1))):=rfl
 have HOK:Hid (p.q0.Ok∧p.q1.Ok):=qH ⟨hok.2.2.2.2.2.2.2.1,hok.2.2.2.2.2.2.2.2⟩
 obtain ⟨b1,hb1⟩:=qX (p.status&&&4294967088)
 obtain ⟨b5,hb5⟩:=qX (p.status&&&8)
 rw [hb1] at e1 hBB
 rw [hb5] at e5 hBB
 have HB:=qH hBB
 clear hBB hb1 hb5 hok
 obtain ⟨m0,hm0⟩:=qX (So.queB p.q0)
 obtain ⟨m1,hm1⟩:=qX (So.queB p.q1)
 obtain ⟨r,hr⟩:=qX ((p.drv0==0&&p.drv1==1))
 rw [hm0,hm1,hr] at HB
 have HM0:=qH hm0
 have HM1:=qH hm1
 have HR:=qH hr
 clear hm0 hm1 hr
 by_cases g1:b1=0
 ·
  subst g1
  have f1:Hid (((0:Nat)==0)=true):=qH rfl
  by_cases g2:p.irq≤3
  ·
   have n2:(p.irq:Int)≤3:=by omega
   have f2:=qH (decide_eq_true g2)
   have n2':decide ((3:Int)<(p.irq:Int))=false:=decide_eq_false (by omega)
   cases m0 with
   | false=>exact ziV p w 0 b5 false m1 r HOK HB HM0 HM1 HR e1 f1 n2 f2 n2' rfl
   | true=>cases m1 with
    | false=>exact ziW p w 0 b5 true false r HOK HB HM0 HM1 HR e1 f1 n2 f2 n2' rfl rfl
    | true =>
     by_cases g5:b5=0
     ·
      subst g5
      exact ziX p w 0 0 true true r HOK HB HM0 HM1 HR e1 f1 n2 f2 n2' rfl rfl e5 (qH rfl)
     ·
      have n5:¬ ((b5:Int)=0):=by omega
      have f5:Hid ((b5 != 0)=true):=qH (by simp [g5])
      cases r with
      | true=>exact ziY p w 0 b5 true true true HOK HB HM0 HM1 HR e1 f1 n2 f2 n2' rfl rfl e5 f5 n5 (by simp;omega) rfl
      | false=>exact ziZ p w 0 b5 true true false HOK HB HM0 HM1 HR e1 f1 n2 f2 n2' rfl rfl e5 f5 n5 (by simp;omega) rfl
  ·
   have n2:¬ ((p.irq:Int)≤3):=by omega
   exact ziU p w 0 b5 m0 m1 r HOK HB HM0 HM1 HR e1 f1 n2 (qH (decide_eq_false g2))
 ·
  have n1:¬ ((b1:Int)=0):=by omega
  exact ziT p w b1 b5 m0 m1 r HOK HB HM0 HM1 HR e1 (qH (by simp [g1])) n1 (by simp;omega)
theorem zfV (n:So.Nic) (hok:n.p.Ok) (w:World):Calls Tryz.prog 86 #[.agg (So.nicL n).toArray] w (CkP w (So.virtB n.p)):=by
 have HOK:=qH hok
 clear hok
 go_enter Tryz.func86,Tryz.ntmps86
 go_upto_region 1 with (fail)
 have hB:=Blk.new w (So.nicL n).toArray 91
 have hbel:=za (Below.refl w.heap.size w) (.cells (So.nicL n).toArray 91)
 generalize w.alloc (.cells (So.nicL n).toArray 91)=W1 at hB hbel ⊢
 obtain ⟨g,hg⟩:=qX w.heap.size
 rw [hg] at hB ⊢
 clear hg
 go_wp2_with (first | (refine ze 86 (.tmp 3) rfl g 0 rfl (So.virtL n.p) _ (zd hB 0 21 rfl) Tryz.underlying86 rfl (by kernel_rfl) (by rfl) ?_) | (go_at_call 152;refine (zag n.p HOK.out _).mono ?_;rintro e w2 ⟨rfl,hb2⟩) | fail)
 go_ret
 exact ⟨rfl,zb hbel hb2⟩
structure InsAt (w:World) (b:So.Blk) (I:So.Hdr) (Rs:List (So.Req×So.Hdr)):Prop where
 ins:Rs.map (·.1)=b.ins
 n:Rs.length=I.n
 max:I.n≤4398046511104
 cap:I.n≤I.c
 row:zaj w I.A 6 (fun r:So.Req×So.Hdr=>So.reqL r.1 r.2) Rs
 seg:∀ r∈Rs,r.1.l.length=r.2.n∧r.2.n≤4398046511104∧r.2.n≤r.2.c∧zaj w r.2.A 3 So.segL r.1.l∧r.1.sector<4294967296∧∀ x∈r.1.l,x.Ok
theorem InsAt.keep {w w1:World} {b:So.Blk} {I:So.Hdr} {Rs:List (So.Req×So.Hdr)} (h:InsAt w b I Rs) (hb:Below w.heap.size w w1):InsAt w1 b I Rs :=
 ⟨h.ins,h.n,h.max,h.cap,h.row.keep hb,fun r hr=>⟨(h.seg r hr).1,(h.seg r hr).2.1,(h.seg r hr).2.2.1,(h.seg r hr).2.2.2.1.keep hb,(h.seg r hr).2.2.2.2⟩⟩
def zdb (b:So.Blk) (pages:Int):Bool:=decide (0≤pages)&&So.virtB b.p&&decide (b.ins.length≤8)&&decide (So.index b.ins b.next<0) && !(decide (0<b.ins.length)&&b.p.status==0)
def zeg (b:So.Blk) (pages:Int) (i:Nat):Bool:=match b.ins[i]? with | some r=>So.reqB b.sectors r pages&&decide (So.index b.ins r.id=i) | none=>true
theorem zgZ (b:So.Blk) (pages:Int):So.blkB b pages=(zdb b pages&&(List.range b.ins.length).all (zeg b pages)):=rfl
theorem zhK {b:So.Blk} {pages:Int} {i:Nat} (hi:i<b.ins.length) (h:zeg b pages i=false):So.blkB b pages=false:=by
 rw [zgZ,Bool.and_eq_false_iff]
 right
 rw [List.all_eq_false]
 exact ⟨i,List.mem_range.2 hi,by simp [h]⟩
theorem zb0 {b:So.Blk} {pages:Int} (h:zdb b pages=false):So.blkB b pages=false:=by
 rw [zgZ,h]
 rfl
theorem zhL {b:So.Blk} {pages:Int} (h:zdb b pages=true) (hr:∀ i,i<b.ins.length→zeg b pages i=true):So.blkB b pages=true:=by
 rw [zgZ,h,Bool.true_and,List.all_eq_true]
 intro i hi
 exact hr i (List.mem_range.1 hi)
theorem blk1 (b:So.Blk) (I:So.Hdr) (Rs:List (So.Req×So.Hdr)) (pages:Int) (w:World) (hs:b.sectors<4294967296) (hok:b.p.Ok) (hI:InsAt w b I Rs) (c1:pages<0) (HR:Hid (So.blkB b pages=false)):Calls Tryz.prog 85 #[.agg (So.blkL b I).toArray,.int .i64 pages] w (CkP w (So.blkB b pages)):=by
 have HOK:=qH hok
 have HI:=qH hI
 have hmax:=hI.max
 clear hok hI
 go_enter Tryz.func85,Tryz.ntmps85
 go_upto_region 1 with (fail)
 have hA:=Blk.new w (So.blkL b I).toArray 89
 have hbel:=za (Below.refl w.heap.size w) (.cells (So.blkL b I).toArray 89)
 generalize w.alloc (.cells (So.blkL b I).toArray 89)=W1 at hA hbel ⊢
 obtain ⟨g,hg⟩:=qX w.heap.size
 rw [hg] at hA ⊢
 clear hg
 have k0:W1.cell? ⟨g,0,none⟩=some (.int .u32 (b.p.status:Int)):=hA.cell 0 rfl
 have k23:W1.cell? ⟨g,23,none⟩=some (.int .u32 (b.next:Int)):=hA.cell 23 rfl
 have k24:W1.cell? ⟨g,24,none⟩=some (.slice I.A I.n I.c):=hA.cell 24 rfl
 have r86:W1.rangeAt g 0 (So.virtL b.p):=zd hA 0 21 rfl
 go_wp2_with fail
 go_ret
 exact zu HR.out hbel
theorem blk2 (b:So.Blk) (I:So.Hdr) (Rs:List (So.Req×So.Hdr)) (pages:Int) (w:World) (hs:b.sectors<4294967296) (hok:b.p.Ok) (hI:InsAt w b I Rs) (d1:decide (pages<0)=false) (d1':¬ pages<0) (HV:Hid (So.virtB b.p=false)) (HR:Hid (So.blkB b pages=false)):Calls Tryz.prog 85 #[.agg (So.blkL b I).toArray,.int .i64 pages] w (CkP w (So.blkB b pages)):=by
 have HOK:=qH hok
 have HI:=qH hI
 have hmax:=hI.max
 clear hok hI
 go_enter Tryz.func85,Tryz.ntmps85
 go_upto_region 1 with (fail)
 have hA:=Blk.new w (So.blkL b I).toArray 89
 have hbel:=za (Below.refl w.heap.size w) (.cells (So.blkL b I).toArray 89)
 generalize w.alloc (.cells (So.blkL b I).toArray 89)=W1 at hA hbel ⊢
 obtain ⟨g,hg⟩:=qX w.heap.size
 rw [hg] at hA ⊢
 clear hg
 have k0:W1.cell? ⟨g,0,none⟩=some (.int .u32 (b.p.status:Int)):=hA.cell 0 rfl
 have k23:W1.cell? ⟨g,23,none⟩=some (.int .u32 (b.next:Int)):=hA.cell 23 rfl
 have k24:W1.cell? ⟨g,24,none⟩=some (.slice I.A I.n I.c):=hA.cell 24 rfl
 have r86:W1.rangeAt g 0 (So.virtL b.p):=zd hA 0 21 rfl
 go_upto_if 39 with (first | (refine ze 86 (.tmp 10) rfl g 0 rfl (So.virtL b.p) _ r86 Tryz.underlying86 rfl (by kernel_rfl) (by rfl) ?_) | (go_at_call 152;refine (zag b.p HOK.out _).mono ?_;rintro e w2 ⟨rfl,hb2⟩;rw [HV.out,zoE];have hbel:=zb hbel hb2;have hA:=hA.keep hb2;clear hb2 k0 k23 k24;have k0:=hA.cell 0 (v:=Value.int .u32 (b.p.status:Int)) rfl;have k23:=hA.cell 23 (v:=Value.int .u32 (b.next:Int)) rfl;have k24:=hA.cell 24 (v:=Value.slice I.A I.n I.c) rfl;have r89:=zw hA;go_upto_if 39 with (fail)) | fail)
 go_wp2_with fail
 go_ret
 exact zu HR.out hbel
theorem blk3 (b:So.Blk) (I:So.Hdr) (Rs:List (So.Req×So.Hdr)) (pages:Int) (w:World) (hs:b.sectors<4294967296) (hok:b.p.Ok) (hI:InsAt w b I Rs) (d1:decide (pages<0)=false) (d1':¬ pages<0) (HV:Hid (So.virtB b.p=true)) (c3:(8:Int)<(I.n:Int)) (HR:Hid (So.blkB b pages=false)):Calls Tryz.prog 85 #[.agg (So.blkL b I).toArray,.int .i64 pages] w (CkP w (So.blkB b pages)):=by
 have HOK:=qH hok
 have HI:=qH hI
 have hmax:=hI.max
 clear hok hI
 go_enter Tryz.func85,Tryz.ntmps85
 go_upto_region 1 with (fail)
 have hA:=Blk.new w (So.blkL b I).toArray 89
 have hbel:=za (Below.refl w.heap.size w) (.cells (So.blkL b I).toArray 89)
 generalize w.alloc (.cells (So.blkL b I).toArray 89)=W1 at hA hbel ⊢
 obtain ⟨g,hg⟩:=qX w.heap.size
 rw [hg] at hA ⊢
 clear hg
 have k0:W1.cell? ⟨g,0,none⟩=some (.int .u32 (b.p.status:Int)):=hA.cell 0 rfl
 have k23:W1.cell? ⟨g,23,none⟩=some (.int .u32 (b.next:Int)):=hA.cell 23 rfl
 have k24:W1.cell? ⟨g,24,none⟩=some (.slice I.A I.n I.c):=hA.cell 24 rfl
 have r86:W1.rangeAt g 0 (So.virtL b.p):=zd hA 0 21 rfl
 go_upto_if 39 with (first | (refine ze 86 (.tmp 10) rfl g 0 rfl (So.virtL b.p) _ r86 Tryz.underlying86 rfl (by kernel_rfl) (by rfl) ?_) | (go_at_call 152;refine (zag b.p HOK.out _).mono ?_;rintro e w2 ⟨rfl,hb2⟩;rw [HV.out,zgW];have hbel:=zb hbel hb2;have hA:=hA.keep hb2;clear hb2 k0 k23 k24;have k0:=hA.cell 0 (v:=Value.int .u32 (b.p.status:Int)) rfl;have k23:=hA.cell 23 (v:=Value.int .u32 (b.next:Int)) rfl;have k24:=hA.cell 24 (v:=Value.slice I.A I.n I.c) rfl;have r89:=zw hA;go_upto_if 39 with (fail)) | fail)
 go_wp2_with fail
 go_ret
 exact zu HR.out hbel
theorem blk4 (b:So.Blk) (I:So.Hdr) (Rs:List (So.Req×So.Hdr)) (pages:Int) (w:World) (hs:b.sectors<4294967296) (hok:b.p.Ok) (hI:InsAt w b I Rs) (d1:decide (pages<0)=false) (d1':¬ pages<0) (HV:Hid (So.virtB b.p=true)) (d2:decide ((8:Int)<(I.n:Int))=false) (d2':¬ (8:Int)<(I.n:Int)) (ix:Int) (HIX:Hid (So.index (Rs.map (·.1)) b.next=ix)) (c4:0≤ix) (HR:Hid (So.blkB b pages=false)):Calls Tryz.prog 85 #[.agg (So.blkL b I).toArray,.int .i64 pages] w (CkP w (So.blkB b pages)):=by
 have HOK:=qH hok
 have HI:=qH hI
 have hmax:=hI.max
 clear hok hI
 go_enter Tryz.func85,Tryz.ntmps85
 go_upto_region 1 with (fail)
 have hA:=Blk.new w (So.blkL b I).toArray 89
 have hbel:=za (Below.refl w.heap.size w) (.cells (So.blkL b I).toArray 89)
 generalize w.alloc (.cells (So.blkL b I).toArray 89)=W1 at hA hbel ⊢
 obtain ⟨g,hg⟩:=qX w.heap.size
 rw [hg] at hA ⊢
 clear hg
 have k0:W1.cell? ⟨g,0,none⟩=some (.int .u32 (b.p.status:Int)):=hA.cell 0 rfl
 have k23:W1.cell? ⟨g,23,none⟩=some (.int .u32 (b.next:Int)):=hA.cell 23 rfl
 have k24:W1.cell? ⟨g,24,none⟩=some (.slice I.A I.n I.c):=hA.cell 24 rfl
 have r86:W1.rangeAt g 0 (So.virtL b.p):=zd hA 0 21 rfl
 go_upto_if 39 with (first | (refine ze 86 (.tmp 10) rfl g 0 rfl (So.virtL b.p) _ r86 Tryz.underlying86 rfl (by kernel_rfl) (by rfl) ?_) | (go_at_call 152;refine (zag b.p HOK.out _).mono ?_;rintro e w2 ⟨rfl,hb2⟩;rw [HV.out,zgW];have hbel:=zb hbel hb2;have hA:=hA.keep hb2;clear hb2 k0 k23 k24;have k0:=hA.cell 0 (v:=Value.int .u32 (b.p.status:Int)) rfl;have k23:=hA.cell 23 (v:=Value.int .u32 (b.next:Int)) rfl;have k24:=hA.cell 24 (v:=Value.slice I.A I.n I.c) rfl;have r89:=zw hA) | (refine ze 89 (.tmp 2) rfl g 0 rfl (So.blkL b I) _ r89 Tryz.underlying89 rfl (by kernel_rfl) (by rfl) ?_) | (go_at_call 153;refine (zbw b I Rs b.next _ HI.out.n HI.out.max HI.out.cap (HI.out.row.keep hbel)).mono ?_;rintro e w2 ⟨rfl,hb2⟩;rw [HIX.out];have hbel:=zb hbel hb2;have hA:=hA.keep hb2;clear hb2 k0 k23 k24;have k0:=hA.cell 0 (v:=Value.int .u32 (b.p.status:Int)) rfl;have k23:=hA.cell 23 (v:=Value.int .u32 (b.next:Int)) rfl;have k24:=hA.cell 24 (v:=Value.slice I.A I.n I.c) rfl;have r89:=zw hA;go_upto_if 39 with (fail)) | fail)
 go_wp2_with fail
 go_ret
 exact zu HR.out hbel
theorem blk5 (b:So.Blk) (I:So.Hdr) (Rs:List (So.Req×So.Hdr)) (pages:Int) (w:World) (hs:b.sectors<4294967296) (hok:b.p.Ok) (hI:InsAt w b I Rs) (d1:decide (pages<0)=false) (d1':¬ pages<0) (HV:Hid (So.virtB b.p=true)) (d2:decide ((8:Int)<(I.n:Int))=false) (d2':¬ (8:Int)<(I.n:Int)) (ix:Int) (HIX:Hid (So.index (Rs.map (·.1)) b.next=ix)) (d4:decide (0≤ix)=false) (d4':¬ 0≤ix) (c5:(0:Int)<(I.n:Int)) (c6:(b.p.status:Int)=0) (HR:Hid (So.blkB b pages=false)):Calls Tryz.prog 85 #[.agg (So.blkL b I).toArray,.int .i64 pages] w (CkP w (So.blkB b pages)):=by
 have HOK:=qH hok
 have HI:=qH hI
 have hmax:=hI.max
 clear hok hI
 go_enter Tryz.func85,Tryz.ntmps85
 go_upto_region 1 with (fail)
 have hA:=Blk.new w (So.blkL b I).toArray 89
 have hbel:=za (Below.refl w.heap.size w) (.cells (So.blkL b I).toArray 89)
 generalize w.alloc (.cells (So.blkL b I).toArray 89)=W1 at hA hbel ⊢
 obtain ⟨g,hg⟩:=qX w.heap.size
 rw [hg] at hA ⊢
 clear hg
 have k0:W1.cell? ⟨g,0,none⟩=some (.int .u32 (b.p.status:Int)):=hA.cell 0 rfl
 have k23:W1.cell? ⟨g,23,none⟩=some (.int .u32 (b.next:Int)):=hA.cell 23 rfl
 have k24:W1.cell? ⟨g,24,none⟩=some (.slice I.A I.n I.c):=hA.cell 24 rfl
 have r86:W1.rangeAt g 0 (So.virtL b.p):=zd hA 0 21 rfl
 go_upto_if 39 with (first | (refine ze 86 (.tmp 10) rfl g 0 rfl (So.virtL b.p) _ r86 Tryz.underlying86 rfl (by kernel_rfl) (by rfl) ?_) | (go_at_call 152;refine (zag b.p HOK.out _).mono ?_;rintro e w2 ⟨rfl,hb2⟩;rw [HV.out,zgW];have hbel:=zb hbel hb2;have hA:=hA.keep hb2;clear hb2 k0 k23 k24;have k0:=hA.cell 0 (v:=Value.int .u32 (b.p.status:Int)) rfl;have k23:=hA.cell 23 (v:=Value.int .u32 (b.next:Int)) rfl;have k24:=hA.cell 24 (v:=Value.slice I.A I.n I.c) rfl;have r89:=zw hA) | (refine ze 89 (.tmp 2) rfl g 0 rfl (So.blkL b I) _ r89 Tryz.underlying89 rfl (by kernel_rfl) (by rfl) ?_) | (go_at_call 153;refine (zbw b I Rs b.next _ HI.out.n HI.out.max HI.out.cap (HI.out.row.keep hbel)).mono ?_;rintro e w2 ⟨rfl,hb2⟩;rw [HIX.out];have hbel:=zb hbel hb2;have hA:=hA.keep hb2;clear hb2 k0 k23 k24;have k0:=hA.cell 0 (v:=Value.int .u32 (b.p.status:Int)) rfl;have k23:=hA.cell 23 (v:=Value.int .u32 (b.next:Int)) rfl;have k24:=hA.cell 24 (v:=Value.slice I.A I.n I.c) rfl;have r89:=zw hA;go_upto_if 39 with (fail)) | fail)
 go_wp2_with fail
 go_ret
 exact zu HR.out hbel
theorem blk6 (b:So.Blk) (I:So.Hdr) (Rs:List (So.Req×So.Hdr)) (pages:Int) (w:World) (hs:b.sectors<4294967296) (hok:b.p.Ok) (hI:InsAt w b I Rs) (hp:0≤pages) (d1:decide (pages<0)=false) (d1':¬ pages<0) (HV:Hid (So.virtB b.p=true)) (d2:decide ((8:Int)<(I.n:Int))=false) (d2':¬ (8:Int)<(I.n:Int)) (ix:Int) (HIX:Hid (So.index (Rs.map (·.1)) b.next=ix)) (d4:decide (0≤ix)=false) (d4':¬ 0≤ix) (c5:¬ (0:Int)<(I.n:Int)) (c5b:decide ((0:Int)<(I.n:Int))=false) (HH:Hid (zdb b pages=true)):Calls Tryz.prog 85 #[.agg (So.blkL b I).toArray,.int .i64 pages] w (CkP w (So.blkB b pages)):=by
 have HOK:=qH hok
 have HI:=qH hI
 have hmax:=hI.max
 clear hok hI
 go_enter Tryz.func85,Tryz.ntmps85
 go_upto_region 1 with (fail)
 have hA:=Blk.new w (So.blkL b I).toArray 89
 have hbel:=za (Below.refl w.heap.size w) (.cells (So.blkL b I).toArray 89)
 generalize w.alloc (.cells (So.blkL b I).toArray 89)=W1 at hA hbel ⊢
 obtain ⟨g,hg⟩:=qX w.heap.size
 rw [hg] at hA ⊢
 clear hg
 have k0:W1.cell? ⟨g,0,none⟩=some (.int .u32 (b.p.status:Int)):=hA.cell 0 rfl
 have k23:W1.cell? ⟨g,23,none⟩=some (.int .u32 (b.next:Int)):=hA.cell 23 rfl
 have k24:W1.cell? ⟨g,24,none⟩=some (.slice I.A I.n I.c):=hA.cell 24 rfl
 have r86:W1.rangeAt g 0 (So.virtL b.p):=zd hA 0 21 rfl
 go_upto_if 39 with (first | (refine ze 86 (.tmp 10) rfl g 0 rfl (So.virtL b.p) _ r86 Tryz.underlying86 rfl (by kernel_rfl) (by rfl) ?_) | (go_at_call 152;refine (zag b.p HOK.out _).mono ?_;rintro e w2 ⟨rfl,hb2⟩;rw [HV.out,zgW];have hbel:=zb hbel hb2;have hA:=hA.keep hb2;clear hb2 k0 k23 k24;have k0:=hA.cell 0 (v:=Value.int .u32 (b.p.status:Int)) rfl;have k23:=hA.cell 23 (v:=Value.int .u32 (b.next:Int)) rfl;have k24:=hA.cell 24 (v:=Value.slice I.A I.n I.c) rfl;have r89:=zw hA) | (refine ze 89 (.tmp 2) rfl g 0 rfl (So.blkL b I) _ r89 Tryz.underlying89 rfl (by kernel_rfl) (by rfl) ?_) | (go_at_call 153;refine (zbw b I Rs b.next _ HI.out.n HI.out.max HI.out.cap (HI.out.row.keep hbel)).mono ?_;rintro e w2 ⟨rfl,hb2⟩;rw [HIX.out];have hbel:=zb hbel hb2;have hA:=hA.keep hb2;clear hb2 k0 k23 k24;have k0:=hA.cell 0 (v:=Value.int .u32 (b.p.status:Int)) rfl;have k23:=hA.cell 23 (v:=Value.int .u32 (b.next:Int)) rfl;have k24:=hA.cell 24 (v:=Value.slice I.A I.n I.c) rfl;have r89:=zw hA;go_upto_if 39 with (fail)) | fail)
 go_wp2_with fail
 go_loopw [5,6,44] (fun _ _ i wr=>∃ k:Nat,k≤I.n∧i=.int .i64 k∧Blk wr g (So.blkL b I).toArray 89∧Below w.heap.size w wr∧Hid (∀ j,j<k→zeg b pages j=true)) (fun _ _ i _=>I.n-(intOf i).toNat)
 case atStart=>exact ⟨0,Nat.zero_le _,rfl,hA,hbel,qH (fun j hj=>absurd hj (Nat.not_lt_zero _))⟩
 case round =>
  obtain ⟨k,hk,rfl,hA2,hbel2,HK⟩:=hrel
  clear hA hbel k0 k23 k24
  by_cases hlt:k<I.n
  ·
   have hlt':(k:Int)<(I.n:Int):=by omega
   exfalso
   omega
  ·
   have hk':k=I.n:=by omega
   have hnl:¬ (k:Int)<(I.n:Int):=by omega
   go_wp2_with fail
   go_ret
   exact zU (zhL HH.out (fun i hi=>HK.out i (by rw [←HI.out.ins,List.length_map,HI.out.n] at hi;omega))) hbel2
theorem blk7 (b:So.Blk) (I:So.Hdr) (Rs:List (So.Req×So.Hdr)) (pages:Int) (w:World) (hs:b.sectors<4294967296) (hok:b.p.Ok) (hI:InsAt w b I Rs) (hp:0≤pages) (d1:decide (pages<0)=false) (d1':¬ pages<0) (HV:Hid (So.virtB b.p=true)) (d2:decide ((8:Int)<(I.n:Int))=false) (d2':¬ (8:Int)<(I.n:Int)) (ix:Int) (HIX:Hid (So.index (Rs.map (·.1)) b.next=ix)) (d4:decide (0≤ix)=false) (d4':¬ 0≤ix) (c5:(0:Int)<(I.n:Int)) (c6:((b.p.status:Int)==0)=false) (c6b:¬ (b.p.status:Int)=0) (HH:Hid (zdb b pages=true)):Calls Tryz.prog 85 #[.agg (So.blkL b I).toArray,.int .i64 pages] w (CkP w (So.blkB b pages)):=by
 have HOK:=qH hok
 have HI:=qH hI
 have hmax:=hI.max
 clear hok hI
 go_enter Tryz.func85,Tryz.ntmps85
 go_upto_region 1 with (fail)
 have hA:=Blk.new w (So.blkL b I).toArray 89
 have hbel:=za (Below.refl w.heap.size w) (.cells (So.blkL b I).toArray 89)
 generalize w.alloc (.cells (So.blkL b I).toArray 89)=W1 at hA hbel ⊢
 obtain ⟨g,hg⟩:=qX w.heap.size
 rw [hg] at hA ⊢
 clear hg
 have k0:W1.cell? ⟨g,0,none⟩=some (.int .u32 (b.p.status:Int)):=hA.cell 0 rfl
 have k23:W1.cell? ⟨g,23,none⟩=some (.int .u32 (b.next:Int)):=hA.cell 23 rfl
 have k24:W1.cell? ⟨g,24,none⟩=some (.slice I.A I.n I.c):=hA.cell 24 rfl
 have r86:W1.rangeAt g 0 (So.virtL b.p):=zd hA 0 21 rfl
 go_upto_if 39 with (first | (refine ze 86 (.tmp 10) rfl g 0 rfl (So.virtL b.p) _ r86 Tryz.underlying86 rfl (by kernel_rfl) (by rfl) ?_) | (go_at_call 152;refine (zag b.p HOK.out _).mono ?_;rintro e w2 ⟨rfl,hb2⟩;rw [HV.out,zgW];have hbel:=zb hbel hb2;have hA:=hA.keep hb2;clear hb2 k0 k23 k24;have k0:=hA.cell 0 (v:=Value.int .u32 (b.p.status:Int)) rfl;have k23:=hA.cell 23 (v:=Value.int .u32 (b.next:Int)) rfl;have k24:=hA.cell 24 (v:=Value.slice I.A I.n I.c) rfl;have r89:=zw hA) | (refine ze 89 (.tmp 2) rfl g 0 rfl (So.blkL b I) _ r89 Tryz.underlying89 rfl (by kernel_rfl) (by rfl) ?_) | (go_at_call 153;refine (zbw b I Rs b.next _ HI.out.n HI.out.max HI.out.cap (HI.out.row.keep hbel)).mono ?_;rintro e w2 ⟨rfl,hb2⟩;rw [HIX.out];have hbel:=zb hbel hb2;have hA:=hA.keep hb2;clear hb2 k0 k23 k24;have k0:=hA.cell 0 (v:=Value.int .u32 (b.p.status:Int)) rfl;have k23:=hA.cell 23 (v:=Value.int .u32 (b.next:Int)) rfl;have k24:=hA.cell 24 (v:=Value.slice I.A I.n I.c) rfl;have r89:=zw hA;go_upto_if 39 with (fail)) | fail)
 go_wp2_with fail
 go_loopw [5,6,44] (fun _ _ i wr=>∃ k:Nat,k≤I.n∧i=.int .i64 k∧Blk wr g (So.blkL b I).toArray 89∧Below w.heap.size w wr∧Hid (∀ j,j<k→zeg b pages j=true)) (fun _ _ i _=>I.n-(intOf i).toNat)
 case atStart=>exact ⟨0,Nat.zero_le _,rfl,hA,hbel,qH (fun j hj=>absurd hj (Nat.not_lt_zero _))⟩
 case round =>
  obtain ⟨k,hk,rfl,hA2,hbel2,HK⟩:=hrel
  clear hA hbel k0 k23 k24
  by_cases hlt:k<I.n
  ·
   have hlt':(k:Int)<(I.n:Int):=by omega
   have hk0:(0:Int)≤(k:Int):=by omega
   obtain ⟨x,hx⟩:∃ x,Rs[k]?=some x:=⟨_,List.getElem?_eq_getElem (by rw [HI.out.n];exact hlt)⟩
   obtain ⟨bb,off,eA,hcell⟩:=(HI.out.row.keep hbel2) k x hx
   have HX:=qH (HI.out.seg x (List.mem_of_getElem? hx))
   have hrow:zeg b pages k=(So.reqB b.sectors x.1 pages&&decide (So.index (Rs.map (·.1)) x.1.id=k)):=by
    unfold zeg
    rw [←HI.out.ins,List.getElem?_map,hx]
    rfl
   have HROW:=qH hrow
   have l0:wr.cell? ⟨bb,off+k*6,none⟩=some (.int .u32 (x.1.id:Int)):=hcell 0 _ rfl
   have l1:wr.cell? ⟨bb,off+k*6+1,none⟩=some (.int .i64 x.1.head):=hcell 1 _ rfl
   have l2:wr.cell? ⟨bb,off+k*6+2,none⟩=some (.bool x.1.write):=hcell 2 _ rfl
   have l3:wr.cell? ⟨bb,off+k*6+3,none⟩=some (.int .u32 (x.1.sector:Int)):=hcell 3 _ rfl
   have l4:wr.cell? ⟨bb,off+k*6+4,none⟩=some (.int .i64 x.1.n):=hcell 4 _ rfl
   have l5:wr.cell? ⟨bb,off+k*6+5,none⟩=some (.slice x.2.A x.2.n x.2.c):=hcell 5 _ rfl
   rw [eA]
   go_upto_region 6 with (fail)
   have hS:=Blk.new wr (So.reqL x.1 x.2).toArray 287
   have hA2:=hA2.alloc (.cells (So.reqL x.1 x.2).toArray 287)
   have hbel2:=za hbel2 (.cells (So.reqL x.1 x.2).toArray 287)
   change Code.wp _ _ _ _ (wr.alloc (.cells (So.reqL x.1 x.2).toArray 287))
   generalize wr.alloc (.cells (So.reqL x.1 x.2).toArray 287)=W2 at hS hA2 hbel2 ⊢
   clear l0 l1 l2 l3 l4 l5 hcell hx hrow
   have q0:W2.cell? ⟨wr.heap.size,0,none⟩=some (.int .u32 (x.1.id:Int)):=hS.cell 0 rfl
   have rq:=zw hS
   have r89:=zw hA2
   obtain ⟨m,hm⟩:=qX (So.reqB b.sectors x.1 pages)
   rw [hm] at HROW
   have HM:=qH hm
   clear hm
   obtain ⟨j,hj⟩:=qX (So.index (Rs.map (·.1)) x.1.id)
   rw [hj] at HROW
   have HJ:=qH hj
   clear hj
   cases m with
   | false =>
    go_upto_if 61 with (first | (refine ze 89 (.tmp 2) rfl g 0 rfl (So.blkL b I) _ r89 Tryz.underlying89 rfl (by kernel_rfl) (by rfl) ?_) | (refine ze 287 (.tmp 6) rfl wr.heap.size 0 rfl (So.reqL x.1 x.2) _ rq Tryz.underlying287 rfl (by kernel_rfl) (by rfl) ?_) | (go_at_call 154;refine (zgX b I x.1 x.2 pages _ hp hs HX.out.2.2.2.2.1 HX.out.2.2.2.2.2 HX.out.1 HX.out.2.1 HX.out.2.2.1 (HX.out.2.2.2.1.keep hbel2)).mono ?_;rintro e w2 ⟨rfl,hb2⟩;rw [HM.out];have hbel2:=zb hbel2 hb2;have hA2:=hA2.keep hb2;have hS:=hS.keep hb2;clear hb2 q0;have q0:=hS.cell 0 (v:=Value.int .u32 (x.1.id:Int)) rfl;have r89:=zw hA2;go_upto_if 61 with (fail)) | fail)
    go_wp2_with fail
    go_ret
    exact zu (zhK (i:=k) (by rw [←HI.out.ins,List.length_map,HI.out.n];exact hlt) (by rw [HROW.out];rfl)) hbel2
   | true =>
    by_cases hjk:j=k
    ·
     subst hjk
     go_upto_if 61 with (first | (refine ze 89 (.tmp 2) rfl g 0 rfl (So.blkL b I) _ r89 Tryz.underlying89 rfl (by kernel_rfl) (by rfl) ?_) | (refine ze 287 (.tmp 6) rfl wr.heap.size 0 rfl (So.reqL x.1 x.2) _ rq Tryz.underlying287 rfl (by kernel_rfl) (by rfl) ?_) | (go_at_call 154;refine (zgX b I x.1 x.2 pages _ hp hs HX.out.2.2.2.2.1 HX.out.2.2.2.2.2 HX.out.1 HX.out.2.1 HX.out.2.2.1 (HX.out.2.2.2.1.keep hbel2)).mono ?_;rintro e w2 ⟨rfl,hb2⟩;rw [HM.out];have hbel2:=zb hbel2 hb2;have hA2:=hA2.keep hb2;have hS:=hS.keep hb2;clear hb2 q0;have q0:=hS.cell 0 (v:=Value.int .u32 (x.1.id:Int)) rfl;have r89:=zw hA2) | (go_at_call 153;refine (zbw b I Rs x.1.id _ HI.out.n HI.out.max HI.out.cap (HI.out.row.keep hbel2)).mono ?_;rintro e w2 ⟨rfl,hb2⟩;rw [HJ.out];have hbel2:=zb hbel2 hb2;have hA2:=hA2.keep hb2;go_upto_if 61 with (fail)) | fail)
     go_wp2_with fail
     go_roundw
     case rel =>
      refine ⟨k+1,by omega,by go_num,hA2,hbel2,qH (fun i hi=>?_)⟩
      by_cases e:i=k
      ·
       subst e
       rw [HROW.out]
       simp
      · exact HK.out i (by omega)
     case measure =>
      simp only [intOf]
      omega
    ·
     have hjk2:(j != (k:Int))=true:=by simp [hjk]
     go_upto_if 61 with (first | (refine ze 89 (.tmp 2) rfl g 0 rfl (So.blkL b I) _ r89 Tryz.underlying89 rfl (by kernel_rfl) (by rfl) ?_) | (refine ze 287 (.tmp 6) rfl wr.heap.size 0 rfl (So.reqL x.1 x.2) _ rq Tryz.underlying287 rfl (by kernel_rfl) (by rfl) ?_) | (go_at_call 154;refine (zgX b I x.1 x.2 pages _ hp hs HX.out.2.2.2.2.1 HX.out.2.2.2.2.2 HX.out.1 HX.out.2.1 HX.out.2.2.1 (HX.out.2.2.2.1.keep hbel2)).mono ?_;rintro e w2 ⟨rfl,hb2⟩;rw [HM.out];have hbel2:=zb hbel2 hb2;have hA2:=hA2.keep hb2;have hS:=hS.keep hb2;clear hb2 q0;have q0:=hS.cell 0 (v:=Value.int .u32 (x.1.id:Int)) rfl;have r89:=zw hA2) | (go_at_call 153;refine (zbw b I Rs x.1.id _ HI.out.n HI.out.max HI.out.cap (HI.out.row.keep hbel2)).mono ?_;rintro e w2 ⟨rfl,hb2⟩;rw [HJ.out];have hbel2:=zb hbel2 hb2;have hA2:=hA2.keep hb2;go_upto_if 61 with (fail)) | fail)
     go_wp2_with fail
     go_ret
     exact zu (zhK (i:=k) (by rw [←HI.out.ins,List.length_map,HI.out.n];exact hlt) (by rw [HROW.out,decide_eq_false hjk];rfl)) hbel2
  ·
   have hk':k=I.n:=by omega
   have hnl:¬ (k:Int)<(I.n:Int):=by omega
   go_wp2_with fail
   go_ret
   exact zU (zhL HH.out (fun i hi=>HK.out i (by rw [←HI.out.ins,List.length_map,HI.out.n] at hi;omega))) hbel2
theorem zfW (b:So.Blk) (I:So.Hdr) (Rs:List (So.Req×So.Hdr)) (pages:Int) (w:World) (hs:b.sectors<4294967296) (hok:b.p.Ok) (hI:InsAt w b I Rs):Calls Tryz.prog 85 #[.agg (So.blkL b I).toArray,.int .i64 pages] w (CkP w (So.blkB b pages)):=by
 have hln:b.ins.length=I.n:=by rw [←hI.ins,List.length_map,hI.n]
 have hh:zdb b pages=(decide (0≤pages)&&So.virtB b.p&&decide (b.ins.length≤8)&&decide (So.index b.ins b.next<0) && !(decide (0<b.ins.length)&&b.p.status==0)):=rfl
 by_cases hp:0≤pages
 ·
  have d1:decide (pages<0)=false:=decide_eq_false (by omega)
  have d1':¬ pages<0:=by omega
  rw [decide_eq_true hp] at hh
  cases hv:So.virtB b.p with
  | false =>
   rw [hv] at hh
   exact blk2 b I Rs pages w hs hok hI d1 d1' (qH hv) (qH (zb0 (by rw [hh];simp)))
  | true =>
   rw [hv] at hh
   by_cases h8:b.ins.length≤8
   ·
    rw [decide_eq_true h8] at hh
    have d2:decide ((8:Int)<(I.n:Int))=false:=decide_eq_false (by omega)
    have d2':¬ (8:Int)<(I.n:Int):=by omega
    obtain ⟨ix,hix⟩:=qX (So.index b.ins b.next)
    rw [hix] at hh
    have HIX:Hid (So.index (Rs.map (·.1)) b.next=ix):=qH (by rw [hI.ins];exact hix)
    by_cases h0:ix<0
    ·
     rw [decide_eq_true h0] at hh
     have d4:decide (0≤ix)=false:=decide_eq_false (by omega)
     have d4':¬ 0≤ix:=by omega
     by_cases hn:0<b.ins.length
     ·
      rw [decide_eq_true hn] at hh
      by_cases hs0:b.p.status=0
      · exact blk5 b I Rs pages w hs hok hI d1 d1' (qH hv) d2 d2' ix HIX d4 d4' (by omega) (by omega) (qH (zb0 (by rw [hh];simp [hs0])))
      · exact blk7 b I Rs pages w hs hok hI hp d1 d1' (qH hv) d2 d2' ix HIX d4 d4' (by omega) (by simp;omega) (by omega) (qH (by rw [hh];simp [hs0]))
     · exact blk6 b I Rs pages w hs hok hI hp d1 d1' (qH hv) d2 d2' ix HIX d4 d4' (by omega) (decide_eq_false (by omega)) (qH (by rw [hh,decide_eq_false hn];rfl))
    ·
     rw [decide_eq_false h0] at hh
     exact blk4 b I Rs pages w hs hok hI d1 d1' (qH hv) d2 d2' ix HIX (by omega) (qH (zb0 (by rw [hh];simp)))
   ·
    rw [decide_eq_false h8] at hh
    exact blk3 b I Rs pages w hs hok hI d1 d1' (qH hv) (by omega) (qH (zb0 (by rw [hh];simp)))
 ·
  rw [decide_eq_false hp] at hh
  exact blk1 b I Rs pages w hs hok hI (by omega) (qH (zb0 (by rw [hh];rfl)))
theorem zhM:∀ args w,(callFunc 188 args).run Tryz.prog w=.ok (.enter 188 args) w:=enters_of Tryz.func188 (by kernel_rfl) rfl
theorem zfX (zs:List Nat) (w:World):zcP 188 #[] (fun x:Nat=>Value.int .u8 (x:Int)) (fun x=>x != 0) zs w:=fun W x _ hb=>by
 show Calls Tryz.prog 188 #[.int .u8 (x:Int)] W _
 by_cases h:x=0
 ·
  have HD:Hid ((x != 0)=false):=qH (by simp [h])
  have h':(x:Int)=0:=by omega
  clear h
  go_enter Tryz.func188,Tryz.ntmps188
  go_wp2_with fail
  go_ret
  exact ⟨by rw [HD.out];simp<;>omega,hb⟩
 ·
  have HD:Hid ((x != 0)=true):=qH (by simp [h])
  have h':¬ (x:Int)=0:=by omega
  clear h
  go_enter Tryz.func188,Tryz.ntmps188
  go_wp2_with fail
  go_ret
  exact ⟨by rw [HD.out];simp<;>omega,hb⟩
def zdc (f:So.Fifo) (k:Nat):List Nat:=(List.range (16-k)).map (fun j=>f.b (k+j))
theorem zmb (f:So.Fifo) (k:Nat) (hn:f.n=k) (h16:k≤16):So.fifoOk f=!((zdc f k).any (fun x=>x != 0)):=by
 have e1:So.fifoOk f=(List.range 16).all (fun i=>decide ((i:Int)<f.n)||f.b i==0):=by
  unfold So.fifoOk
  rw [hn,decide_eq_true (by omega),decide_eq_true (by omega)]
  rfl
 rw [e1]
 have e2:(!((zdc f k).any (fun x=>x != 0)))=(zdc f k).all (fun x=>x==0):=by
  rw [List.not_any_eq_all_not]
  congr 1
  funext x
  cases h:(x==0)<;>simp_all
 rw [e2,Bool.eq_iff_iff,List.all_eq_true,List.all_eq_true]
 constructor
 ·
  intro h x hx
  simp only [zdc,List.mem_map,List.mem_range] at hx
  obtain ⟨j,hj,rfl⟩:=hx
  have:=h (k+j) (List.mem_range.2 (by omega))
  rw [hn,decide_eq_false (by omega),Bool.false_or] at this
  exact this
 ·
  intro h i hi
  rw [List.mem_range] at hi
  by_cases hlt:(i:Int)<f.n
  · rw [decide_eq_true hlt];rfl
  ·
   rw [decide_eq_false hlt,Bool.false_or]
   exact h _ (by simp only [zdc,List.mem_map,List.mem_range];exact ⟨i-k,by omega,by rw [show k+(i-k)=i by omega]⟩)
theorem zku {w:World} {g:Nat} {f:So.Fifo} (h:Blk w g (So.fifoL f).toArray 77) (j:Nat) (hj:j<16):w.cell? ⟨g,j,none⟩=some (.int .u8 (f.b j:Int)):=by
 refine h.cell j ?_
 rw [List.getElem?_toArray]
 unfold So.fifoL
 rw [List.getElem?_append_left (by simpa using hj)]
 simp [hj]
theorem zeP {w:World} {g:Nat} {f:So.Fifo} (h:Blk w g (So.fifoL f).toArray 77) (k:Nat) (A:Option Addr) (hA:k<16→A=some ⟨g,k,none⟩):zaj w A 1 (fun x:Nat=>[Value.int .u8 (x:Int)]) (zdc f k):=fun j x hx=>by
 have hj:j<16-k:=by
  have:=(List.getElem?_eq_some_iff.1 hx).1
  simpa [zdc] using this
 refine ⟨g,k,hA (by omega),fun i v hv=>?_⟩
 have hi:i=0:=by
  have:=(List.getElem?_eq_some_iff.1 hv).1
  simpa using this
 subst hi
 have hv:Value.int .u8 (x:Int)=v:=by simpa using hv
 subst hv
 have e:k+j*1+0=k+j:=by omega
 rw [e,zku h (k+j) (by omega)]
 have h3:(zdc f k)[j]?=some (f.b (k+j)):=by simp [zdc,hj]
 rw [h3] at hx
 rw [Option.some.inj hx]
theorem zB (f:So.Fifo) (w:World):Calls Tryz.prog 150 #[.agg (So.fifoL f).toArray] w (zbj w (So.fifoOk f)):=by
 by_cases h0:0≤f.n
 ·
  by_cases h16:f.n≤16
  ·
   obtain ⟨k,hk⟩:∃ k:Nat,f.n=k:=⟨f.n.toNat,by omega⟩
   have HR:=qH (zmb f k hk (by omega))
   have h16':(k:Int)≤16:=by omega
   have hk0:(0:Int)≤(k:Int):=by omega
   have hkn:k≤16:=by omega
   clear h0 h16
   have hln:(zdc f k).length=16-k:=by simp [zdc]
   have HL:=qH hln
   clear hln
   rcases Nat.lt_or_ge k 16 with hlt | hge
   ·
    have hne:¬ 16=k:=by omega
    go_enter Tryz.func150,Tryz.ntmps150
    go_upto_region 1 with (fail)
    have hB:=Blk.new w (So.fifoL f).toArray 77
    have hbel:=za (Below.refl w.heap.size w) (.cells (So.fifoL f).toArray 77)
    generalize w.alloc (.cells (So.fifoL f).toArray 77)=W1 at hB hbel ⊢
    obtain ⟨g,hg⟩:=qX w.heap.size
    rw [hg] at hB ⊢
    clear hg
    have k16:W1.cell? ⟨g,16,none⟩=some (.int .i64 f.n):=hB.cell 16 rfl
    rw [hk] at k16
    clear hk
    have hE:=zeP hB k (some ⟨g,k,none⟩) (fun _=>rfl)
    go_wp2_with (first | (go_at_call 189;refine (zmX 188 #[] zhM (some ⟨g,k,none⟩) (16-k) (16-k) (zdc f k) _ HL.out (by omega) (Nat.le_refl _) hE _ (zfX _ _)).mono ?_;rintro e w2 ⟨rfl,hb2⟩;have hbel2:=zb hbel hb2) | fail)
    go_ret
    exact z0 (by rw [HR.out]) hbel2
   ·
    obtain rfl:k=16:=by omega
    go_enter Tryz.func150,Tryz.ntmps150
    go_upto_region 1 with (fail)
    have hB:=Blk.new w (So.fifoL f).toArray 77
    have hbel:=za (Below.refl w.heap.size w) (.cells (So.fifoL f).toArray 77)
    generalize w.alloc (.cells (So.fifoL f).toArray 77)=W1 at hB hbel ⊢
    obtain ⟨g,hg⟩:=qX w.heap.size
    rw [hg] at hB ⊢
    clear hg
    have k16:W1.cell? ⟨g,16,none⟩=some (.int .i64 f.n):=hB.cell 16 rfl
    rw [hk] at k16
    clear hk
    have hE:=zeP hB 16 (some ⟨g,0,none⟩) (fun h=>absurd h (by omega))
    go_wp2_with (first | (go_at_call 189;refine (zmX 188 #[] zhM (some ⟨g,0,none⟩) 0 0 (zdc f 16) _ HL.out (by omega) (Nat.le_refl _) hE _ (zfX _ _)).mono ?_;rintro e w2 ⟨rfl,hb2⟩;have hbel2:=zb hbel hb2) | fail)
    go_ret
    exact z0 (by rw [HR.out]) hbel2
  ·
   have HR:Hid (So.fifoOk f=false):=qH (by unfold So.fifoOk;rw [decide_eq_false h16,Bool.and_false,Bool.false_and])
   go_enter Tryz.func150,Tryz.ntmps150
   go_upto_region 1 with (fail)
   have hB:=Blk.new w (So.fifoL f).toArray 77
   have hbel:=za (Below.refl w.heap.size w) (.cells (So.fifoL f).toArray 77)
   generalize w.alloc (.cells (So.fifoL f).toArray 77)=W1 at hB hbel ⊢
   obtain ⟨g,hg⟩:=qX w.heap.size
   rw [hg] at hB ⊢
   clear hg
   have k16:W1.cell? ⟨g,16,none⟩=some (.int .i64 f.n):=hB.cell 16 rfl
   generalize f.n=n at k16 h0 h16
   go_wp2_with fail
   go_ret
   exact z0 HR.out hbel
 ·
  have HR:Hid (So.fifoOk f=false):=qH (by unfold So.fifoOk;rw [decide_eq_false h0,Bool.false_and,Bool.false_and])
  go_enter Tryz.func150,Tryz.ntmps150
  go_upto_region 1 with (fail)
  have hB:=Blk.new w (So.fifoL f).toArray 77
  have hbel:=za (Below.refl w.heap.size w) (.cells (So.fifoL f).toArray 77)
  generalize w.alloc (.cells (So.fifoL f).toArray 77)=W1 at hB hbel ⊢
  obtain ⟨g,hg⟩:=qX w.heap.size
  rw [hg] at hB ⊢
  clear hg
  have k16:W1.cell? ⟨g,16,none⟩=some (.int .i64 f.n):=hB.cell 16 rfl
  generalize f.n=n at k16 h0
  go_wp2_with fail
  go_ret
  exact z0 HR.out hbel
end Go.Proofs.YtdffbihilhkkjaaGreatDoor
