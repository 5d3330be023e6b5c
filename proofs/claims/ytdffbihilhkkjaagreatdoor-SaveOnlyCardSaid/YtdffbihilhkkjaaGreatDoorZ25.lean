import Derived.Test.YtdffbihilhkkjaaGreatDoorZ4
import Derived.Test.YtdffbihilhkkjaaGreatDoorZ24
import Derived.Deep.RegionWith
import Derived.DeepKeys
import Derived.Laws.StructEq
namespace Go.Proofs.YtdffbihilhkkjaaGreatDoor
open Go.RowKit
set_option linter.unusedVariables false
set_option linter.unusedSimpArgs false
set_option maxRecDepth 100000
set_option maxHeartbeats 8000000
theorem ziS (sectors : Nat) (r : So.Req) (pages : Int) : So.reqB sectors r pages = (decide (0 ≤ r.head) && decide (r.head < 256) && decide (512 ≤ r.n) && decide (r.n ≤ 1048576) && decide (r.n % 512 = 0) && r.l.all (fun x => So.segB x pages) && decide (r.l.length ≤ 256) && (decide (r.sector ≤ sectors) && decide (r.n / 512 ≤ (sectors : Int) - r.sector))
    && (if r.write then decide (1≤So.room r.l)&&decide (So.room r.l≤1048576) else decide (So.room r.l=r.n+1))):=by
  unfold So.reqB
  simp only [Bool.and_assoc]
theorem may1 (b:So.Blk) (I:So.Hdr) (r:So.Req) (L:So.Hdr) (pages:Int) (w:World) (hp:0≤pages) (hs:b.sectors<4294967296) (hsec:r.sector<4294967296) (hok:∀ x∈r.l,x.Ok) (hn:r.l.length=L.n) (hmax:L.n≤4398046511104) (hcap:L.n≤L.c) (hE:zaj w L.A 3 So.segL r.l) (c1:r.head<0) (HR:Hid (So.reqB b.sectors r pages=false)):Calls Tryz.prog 154 #[.agg (So.blkL b I).toArray,.agg (So.reqL r L).toArray,.int .i64 pages] w (zbj w (So.reqB b.sectors r pages)):=by
 have HLN:=qH hn
 have HOK:=qH hok
 have HE:=qH hE
 clear hn hok hE
 go_enter Tryz.func154,Tryz.ntmps154
 go_upto_region 1 with (fail)
 obtain ⟨W0,hW0⟩:=qX (w.alloc (.cells (So.blkL b I).toArray 89))
 have hA:=Blk.new w (So.blkL b I).toArray 89
 have hbA:=za (Below.refl w.heap.size w) (.cells (So.blkL b I).toArray 89)
 rw [hW0] at hA hbA
 have hs0:W0.heap.size=w.heap.size+1:=by rw [←hW0];simp
 obtain ⟨W1,hW1⟩:=qX (W0.alloc (.cells (So.reqL r L).toArray 287))
 have hR:=Blk.new W0 (So.reqL r L).toArray 287
 have hA1:=hA.alloc (.cells (So.reqL r L).toArray 287)
 have hbR:=za hbA (.cells (So.reqL r L).toArray 287)
 rw [hW1,hs0] at hR
 rw [hW1] at hA1 hbR
 have hs1:W1.heap.size=w.heap.size+1+1:=by rw [←hW1];simp [hs0]
 obtain ⟨W2,hW2⟩:=qX (W1.alloc (.cells #[Value.int .i64 pages] 3))
 have hP:=Blk.new W1 #[Value.int .i64 pages] 3
 have hA2:=hA1.alloc (.cells #[Value.int .i64 pages] 3)
 have hR2:=hR.alloc (.cells #[Value.int .i64 pages] 3)
 have hbel:=za hbR (.cells #[Value.int .i64 pages] 3)
 rw [hW2,hs1] at hP
 rw [hW2] at hA2 hR2 hbel
 rw [hW0,hW1,hW2]
 clear hW0 hW1 hW2 hs0 hs1 hA hA1 hR hbA hbR
 obtain ⟨g,hg⟩:=qX w.heap.size
 rw [hg] at hA2 hR2 hP ⊢
 clear hg
 generalize g+1+1=z at hP ⊢
 generalize g+1=q at hR2 ⊢
 have k0:W2.cell? ⟨q,1,none⟩=some (.int .i64 r.head):=hR2.cell 1 rfl
 have k2:W2.cell? ⟨q,2,none⟩=some (.bool r.write):=hR2.cell 2 rfl
 have k3:W2.cell? ⟨q,3,none⟩=some (.int .u32 (r.sector:Int)):=hR2.cell 3 rfl
 have k4:W2.cell? ⟨q,4,none⟩=some (.int .i64 r.n):=hR2.cell 4 rfl
 have k5:W2.cell? ⟨q,5,none⟩=some (.slice L.A L.n L.c):=hR2.cell 5 rfl
 have p0:W2.cell? ⟨z,0,none⟩=some (.int .i64 pages):=hP.cell 0 rfl
 go_wp2_with (first | fail)
 go_ret
 exact z0 (by first | exact HR.out | (rw [HR.out];simp<;>omega)) hbel
theorem may2 (b:So.Blk) (I:So.Hdr) (r:So.Req) (L:So.Hdr) (pages:Int) (w:World) (hp:0≤pages) (hs:b.sectors<4294967296) (hsec:r.sector<4294967296) (hok:∀ x∈r.l,x.Ok) (hn:r.l.length=L.n) (hmax:L.n≤4398046511104) (hcap:L.n≤L.c) (hE:zaj w L.A 3 So.segL r.l) (d1:decide (r.head<0)=false) (d1':¬ r.head<0) (c2:256≤r.head) (HR:Hid (So.reqB b.sectors r pages=false)):Calls Tryz.prog 154 #[.agg (So.blkL b I).toArray,.agg (So.reqL r L).toArray,.int .i64 pages] w (zbj w (So.reqB b.sectors r pages)):=by
 have HLN:=qH hn
 have HOK:=qH hok
 have HE:=qH hE
 clear hn hok hE
 go_enter Tryz.func154,Tryz.ntmps154
 go_upto_region 1 with (fail)
 obtain ⟨W0,hW0⟩:=qX (w.alloc (.cells (So.blkL b I).toArray 89))
 have hA:=Blk.new w (So.blkL b I).toArray 89
 have hbA:=za (Below.refl w.heap.size w) (.cells (So.blkL b I).toArray 89)
 rw [hW0] at hA hbA
 have hs0:W0.heap.size=w.heap.size+1:=by rw [←hW0];simp
 obtain ⟨W1,hW1⟩:=qX (W0.alloc (.cells (So.reqL r L).toArray 287))
 have hR:=Blk.new W0 (So.reqL r L).toArray 287
 have hA1:=hA.alloc (.cells (So.reqL r L).toArray 287)
 have hbR:=za hbA (.cells (So.reqL r L).toArray 287)
 rw [hW1,hs0] at hR
 rw [hW1] at hA1 hbR
 have hs1:W1.heap.size=w.heap.size+1+1:=by rw [←hW1];simp [hs0]
 obtain ⟨W2,hW2⟩:=qX (W1.alloc (.cells #[Value.int .i64 pages] 3))
 have hP:=Blk.new W1 #[Value.int .i64 pages] 3
 have hA2:=hA1.alloc (.cells #[Value.int .i64 pages] 3)
 have hR2:=hR.alloc (.cells #[Value.int .i64 pages] 3)
 have hbel:=za hbR (.cells #[Value.int .i64 pages] 3)
 rw [hW2,hs1] at hP
 rw [hW2] at hA2 hR2 hbel
 rw [hW0,hW1,hW2]
 clear hW0 hW1 hW2 hs0 hs1 hA hA1 hR hbA hbR
 obtain ⟨g,hg⟩:=qX w.heap.size
 rw [hg] at hA2 hR2 hP ⊢
 clear hg
 generalize g+1+1=z at hP ⊢
 generalize g+1=q at hR2 ⊢
 have k0:W2.cell? ⟨q,1,none⟩=some (.int .i64 r.head):=hR2.cell 1 rfl
 have k2:W2.cell? ⟨q,2,none⟩=some (.bool r.write):=hR2.cell 2 rfl
 have k3:W2.cell? ⟨q,3,none⟩=some (.int .u32 (r.sector:Int)):=hR2.cell 3 rfl
 have k4:W2.cell? ⟨q,4,none⟩=some (.int .i64 r.n):=hR2.cell 4 rfl
 have k5:W2.cell? ⟨q,5,none⟩=some (.slice L.A L.n L.c):=hR2.cell 5 rfl
 have p0:W2.cell? ⟨z,0,none⟩=some (.int .i64 pages):=hP.cell 0 rfl
 go_wp2_with (first | fail)
 go_ret
 exact z0 (by first | exact HR.out | (rw [HR.out];simp<;>omega)) hbel
theorem may3 (b:So.Blk) (I:So.Hdr) (r:So.Req) (L:So.Hdr) (pages:Int) (w:World) (hp:0≤pages) (hs:b.sectors<4294967296) (hsec:r.sector<4294967296) (hok:∀ x∈r.l,x.Ok) (hn:r.l.length=L.n) (hmax:L.n≤4398046511104) (hcap:L.n≤L.c) (hE:zaj w L.A 3 So.segL r.l) (d1:decide (r.head<0)=false) (d1':¬ r.head<0) (d2:decide (256≤r.head)=false) (d2':¬ 256≤r.head) (c3:r.n<512) (HR:Hid (So.reqB b.sectors r pages=false)):Calls Tryz.prog 154 #[.agg (So.blkL b I).toArray,.agg (So.reqL r L).toArray,.int .i64 pages] w (zbj w (So.reqB b.sectors r pages)):=by
 have HLN:=qH hn
 have HOK:=qH hok
 have HE:=qH hE
 clear hn hok hE
 go_enter Tryz.func154,Tryz.ntmps154
 go_upto_region 1 with (fail)
 obtain ⟨W0,hW0⟩:=qX (w.alloc (.cells (So.blkL b I).toArray 89))
 have hA:=Blk.new w (So.blkL b I).toArray 89
 have hbA:=za (Below.refl w.heap.size w) (.cells (So.blkL b I).toArray 89)
 rw [hW0] at hA hbA
 have hs0:W0.heap.size=w.heap.size+1:=by rw [←hW0];simp
 obtain ⟨W1,hW1⟩:=qX (W0.alloc (.cells (So.reqL r L).toArray 287))
 have hR:=Blk.new W0 (So.reqL r L).toArray 287
 have hA1:=hA.alloc (.cells (So.reqL r L).toArray 287)
 have hbR:=za hbA (.cells (So.reqL r L).toArray 287)
 rw [hW1,hs0] at hR
 rw [hW1] at hA1 hbR
 have hs1:W1.heap.size=w.heap.size+1+1:=by rw [←hW1];simp [hs0]
 obtain ⟨W2,hW2⟩:=qX (W1.alloc (.cells #[Value.int .i64 pages] 3))
 have hP:=Blk.new W1 #[Value.int .i64 pages] 3
 have hA2:=hA1.alloc (.cells #[Value.int .i64 pages] 3)
 have hR2:=hR.alloc (.cells #[Value.int .i64 pages] 3)
 have hbel:=za hbR (.cells #[Value.int .i64 pages] 3)
 rw [hW2,hs1] at hP
 rw [hW2] at hA2 hR2 hbel
 rw [hW0,hW1,hW2]
 clear hW0 hW1 hW2 hs0 hs1 hA hA1 hR hbA hbR
 obtain ⟨g,hg⟩:=qX w.heap.size
 rw [hg] at hA2 hR2 hP ⊢
 clear hg
 generalize g+1+1=z at hP ⊢
 generalize g+1=q at hR2 ⊢
 have k0:W2.cell? ⟨q,1,none⟩=some (.int .i64 r.head):=hR2.cell 1 rfl
 have k2:W2.cell? ⟨q,2,none⟩=some (.bool r.write):=hR2.cell 2 rfl
 have k3:W2.cell? ⟨q,3,none⟩=some (.int .u32 (r.sector:Int)):=hR2.cell 3 rfl
 have k4:W2.cell? ⟨q,4,none⟩=some (.int .i64 r.n):=hR2.cell 4 rfl
 have k5:W2.cell? ⟨q,5,none⟩=some (.slice L.A L.n L.c):=hR2.cell 5 rfl
 have p0:W2.cell? ⟨z,0,none⟩=some (.int .i64 pages):=hP.cell 0 rfl
 go_wp2_with (first | fail)
 go_ret
 exact z0 (by first | exact HR.out | (rw [HR.out];simp<;>omega)) hbel
theorem may4 (b:So.Blk) (I:So.Hdr) (r:So.Req) (L:So.Hdr) (pages:Int) (w:World) (hp:0≤pages) (hs:b.sectors<4294967296) (hsec:r.sector<4294967296) (hok:∀ x∈r.l,x.Ok) (hn:r.l.length=L.n) (hmax:L.n≤4398046511104) (hcap:L.n≤L.c) (hE:zaj w L.A 3 So.segL r.l) (d1:decide (r.head<0)=false) (d1':¬ r.head<0) (d2:decide (256≤r.head)=false) (d2':¬ 256≤r.head) (d3:decide (r.n<512)=false) (d3':¬ r.n<512) (c4:1048576<r.n) (HR:Hid (So.reqB b.sectors r pages=false)):Calls Tryz.prog 154 #[.agg (So.blkL b I).toArray,.agg (So.reqL r L).toArray,.int .i64 pages] w (zbj w (So.reqB b.sectors r pages)):=by
 have HLN:=qH hn
 have HOK:=qH hok
 have HE:=qH hE
 clear hn hok hE
 go_enter Tryz.func154,Tryz.ntmps154
 go_upto_region 1 with (fail)
 obtain ⟨W0,hW0⟩:=qX (w.alloc (.cells (So.blkL b I).toArray 89))
 have hA:=Blk.new w (So.blkL b I).toArray 89
 have hbA:=za (Below.refl w.heap.size w) (.cells (So.blkL b I).toArray 89)
 rw [hW0] at hA hbA
 have hs0:W0.heap.size=w.heap.size+1:=by rw [←hW0];simp
 obtain ⟨W1,hW1⟩:=qX (W0.alloc (.cells (So.reqL r L).toArray 287))
 have hR:=Blk.new W0 (So.reqL r L).toArray 287
 have hA1:=hA.alloc (.cells (So.reqL r L).toArray 287)
 have hbR:=za hbA (.cells (So.reqL r L).toArray 287)
 rw [hW1,hs0] at hR
 rw [hW1] at hA1 hbR
 have hs1:W1.heap.size=w.heap.size+1+1:=by rw [←hW1];simp [hs0]
 obtain ⟨W2,hW2⟩:=qX (W1.alloc (.cells #[Value.int .i64 pages] 3))
 have hP:=Blk.new W1 #[Value.int .i64 pages] 3
 have hA2:=hA1.alloc (.cells #[Value.int .i64 pages] 3)
 have hR2:=hR.alloc (.cells #[Value.int .i64 pages] 3)
 have hbel:=za hbR (.cells #[Value.int .i64 pages] 3)
 rw [hW2,hs1] at hP
 rw [hW2] at hA2 hR2 hbel
 rw [hW0,hW1,hW2]
 clear hW0 hW1 hW2 hs0 hs1 hA hA1 hR hbA hbR
 obtain ⟨g,hg⟩:=qX w.heap.size
 rw [hg] at hA2 hR2 hP ⊢
 clear hg
 generalize g+1+1=z at hP ⊢
 generalize g+1=q at hR2 ⊢
 have k0:W2.cell? ⟨q,1,none⟩=some (.int .i64 r.head):=hR2.cell 1 rfl
 have k2:W2.cell? ⟨q,2,none⟩=some (.bool r.write):=hR2.cell 2 rfl
 have k3:W2.cell? ⟨q,3,none⟩=some (.int .u32 (r.sector:Int)):=hR2.cell 3 rfl
 have k4:W2.cell? ⟨q,4,none⟩=some (.int .i64 r.n):=hR2.cell 4 rfl
 have k5:W2.cell? ⟨q,5,none⟩=some (.slice L.A L.n L.c):=hR2.cell 5 rfl
 have p0:W2.cell? ⟨z,0,none⟩=some (.int .i64 pages):=hP.cell 0 rfl
 go_wp2_with (first | fail)
 go_ret
 exact z0 (by first | exact HR.out | (rw [HR.out];simp<;>omega)) hbel
theorem may5 (b:So.Blk) (I:So.Hdr) (r:So.Req) (L:So.Hdr) (pages:Int) (w:World) (hp:0≤pages) (hs:b.sectors<4294967296) (hsec:r.sector<4294967296) (hok:∀ x∈r.l,x.Ok) (hn:r.l.length=L.n) (hmax:L.n≤4398046511104) (hcap:L.n≤L.c) (hE:zaj w L.A 3 So.segL r.l) (d1:decide (r.head<0)=false) (d1':¬ r.head<0) (d2:decide (256≤r.head)=false) (d2':¬ 256≤r.head) (d3:decide (r.n<512)=false) (d3':¬ r.n<512) (d4:decide (1048576<r.n)=false) (d4':¬ 1048576<r.n) (c5:¬ r.n.tmod 512=0) (c5b:(r.n.tmod 512 != 0)=true) (c6:¬ r.n%512=0) (c6b:(r.n%512 != 0)=true) (HR:Hid (So.reqB b.sectors r pages=false)):Calls Tryz.prog 154 #[.agg (So.blkL b I).toArray,.agg (So.reqL r L).toArray,.int .i64 pages] w (zbj w (So.reqB b.sectors r pages)):=by
 have HLN:=qH hn
 have HOK:=qH hok
 have HE:=qH hE
 clear hn hok hE
 go_enter Tryz.func154,Tryz.ntmps154
 go_upto_region 1 with (fail)
 obtain ⟨W0,hW0⟩:=qX (w.alloc (.cells (So.blkL b I).toArray 89))
 have hA:=Blk.new w (So.blkL b I).toArray 89
 have hbA:=za (Below.refl w.heap.size w) (.cells (So.blkL b I).toArray 89)
 rw [hW0] at hA hbA
 have hs0:W0.heap.size=w.heap.size+1:=by rw [←hW0];simp
 obtain ⟨W1,hW1⟩:=qX (W0.alloc (.cells (So.reqL r L).toArray 287))
 have hR:=Blk.new W0 (So.reqL r L).toArray 287
 have hA1:=hA.alloc (.cells (So.reqL r L).toArray 287)
 have hbR:=za hbA (.cells (So.reqL r L).toArray 287)
 rw [hW1,hs0] at hR
 rw [hW1] at hA1 hbR
 have hs1:W1.heap.size=w.heap.size+1+1:=by rw [←hW1];simp [hs0]
 obtain ⟨W2,hW2⟩:=qX (W1.alloc (.cells #[Value.int .i64 pages] 3))
 have hP:=Blk.new W1 #[Value.int .i64 pages] 3
 have hA2:=hA1.alloc (.cells #[Value.int .i64 pages] 3)
 have hR2:=hR.alloc (.cells #[Value.int .i64 pages] 3)
 have hbel:=za hbR (.cells #[Value.int .i64 pages] 3)
 rw [hW2,hs1] at hP
 rw [hW2] at hA2 hR2 hbel
 rw [hW0,hW1,hW2]
 clear hW0 hW1 hW2 hs0 hs1 hA hA1 hR hbA hbR
 obtain ⟨g,hg⟩:=qX w.heap.size
 rw [hg] at hA2 hR2 hP ⊢
 clear hg
 generalize g+1+1=z at hP ⊢
 generalize g+1=q at hR2 ⊢
 have k0:W2.cell? ⟨q,1,none⟩=some (.int .i64 r.head):=hR2.cell 1 rfl
 have k2:W2.cell? ⟨q,2,none⟩=some (.bool r.write):=hR2.cell 2 rfl
 have k3:W2.cell? ⟨q,3,none⟩=some (.int .u32 (r.sector:Int)):=hR2.cell 3 rfl
 have k4:W2.cell? ⟨q,4,none⟩=some (.int .i64 r.n):=hR2.cell 4 rfl
 have k5:W2.cell? ⟨q,5,none⟩=some (.slice L.A L.n L.c):=hR2.cell 5 rfl
 have p0:W2.cell? ⟨z,0,none⟩=some (.int .i64 pages):=hP.cell 0 rfl
 go_wp2_with (first | fail)
 go_ret
 exact z0 (by first | exact HR.out | (rw [HR.out];simp<;>omega)) hbel
theorem may6 (b:So.Blk) (I:So.Hdr) (r:So.Req) (L:So.Hdr) (pages:Int) (w:World) (hp:0≤pages) (hs:b.sectors<4294967296) (hsec:r.sector<4294967296) (hok:∀ x∈r.l,x.Ok) (hn:r.l.length=L.n) (hmax:L.n≤4398046511104) (hcap:L.n≤L.c) (hE:zaj w L.A 3 So.segL r.l) (d1:decide (r.head<0)=false) (d1':¬ r.head<0) (d2:decide (256≤r.head)=false) (d2':¬ 256≤r.head) (d3:decide (r.n<512)=false) (d3':¬ r.n<512) (d4:decide (1048576<r.n)=false) (d4':¬ 1048576<r.n) (d5:r.n.tmod 512=0) (HA:Hid (r.l.any (fun x=>!So.segB x pages)=true)) (HR:Hid (So.reqB b.sectors r pages=false)):Calls Tryz.prog 154 #[.agg (So.blkL b I).toArray,.agg (So.reqL r L).toArray,.int .i64 pages] w (zbj w (So.reqB b.sectors r pages)):=by
 have HLN:=qH hn
 have HOK:=qH hok
 have HE:=qH hE
 clear hn hok hE
 go_enter Tryz.func154,Tryz.ntmps154
 go_upto_region 1 with (fail)
 obtain ⟨W0,hW0⟩:=qX (w.alloc (.cells (So.blkL b I).toArray 89))
 have hA:=Blk.new w (So.blkL b I).toArray 89
 have hbA:=za (Below.refl w.heap.size w) (.cells (So.blkL b I).toArray 89)
 rw [hW0] at hA hbA
 have hs0:W0.heap.size=w.heap.size+1:=by rw [←hW0];simp
 obtain ⟨W1,hW1⟩:=qX (W0.alloc (.cells (So.reqL r L).toArray 287))
 have hR:=Blk.new W0 (So.reqL r L).toArray 287
 have hA1:=hA.alloc (.cells (So.reqL r L).toArray 287)
 have hbR:=za hbA (.cells (So.reqL r L).toArray 287)
 rw [hW1,hs0] at hR
 rw [hW1] at hA1 hbR
 have hs1:W1.heap.size=w.heap.size+1+1:=by rw [←hW1];simp [hs0]
 obtain ⟨W2,hW2⟩:=qX (W1.alloc (.cells #[Value.int .i64 pages] 3))
 have hP:=Blk.new W1 #[Value.int .i64 pages] 3
 have hA2:=hA1.alloc (.cells #[Value.int .i64 pages] 3)
 have hR2:=hR.alloc (.cells #[Value.int .i64 pages] 3)
 have hbel:=za hbR (.cells #[Value.int .i64 pages] 3)
 rw [hW2,hs1] at hP
 rw [hW2] at hA2 hR2 hbel
 rw [hW0,hW1,hW2]
 clear hW0 hW1 hW2 hs0 hs1 hA hA1 hR hbA hbR
 obtain ⟨g,hg⟩:=qX w.heap.size
 rw [hg] at hA2 hR2 hP ⊢
 clear hg
 generalize g+1+1=z at hP ⊢
 generalize g+1=q at hR2 ⊢
 have k0:W2.cell? ⟨q,1,none⟩=some (.int .i64 r.head):=hR2.cell 1 rfl
 have k2:W2.cell? ⟨q,2,none⟩=some (.bool r.write):=hR2.cell 2 rfl
 have k3:W2.cell? ⟨q,3,none⟩=some (.int .u32 (r.sector:Int)):=hR2.cell 3 rfl
 have k4:W2.cell? ⟨q,4,none⟩=some (.int .i64 r.n):=hR2.cell 4 rfl
 have k5:W2.cell? ⟨q,5,none⟩=some (.slice L.A L.n L.c):=hR2.cell 5 rfl
 have p0:W2.cell? ⟨z,0,none⟩=some (.int .i64 pages):=hP.cell 0 rfl
 go_wp2_with (first | (go_at_call 196;refine (zbX 194 #[.pointer (some ⟨z,0,none⟩)] zbY L.A L.n L.c r.l _ HLN.out hmax hcap (HE.out.keep hbel) _ (zbm z pages hp r.l HOK.out _ p0)).mono ?_;rintro e w2 ⟨rfl,hb2⟩;rw [HA.out];have hbel:=zb hbel hb2;have hA2:=hA2.keep hb2;have hR2:=hR2.keep hb2;clear hb2 k0 k2 k3 k4 k5 p0;have k2:=hR2.cell 2 (v:=Value.bool r.write) rfl;have k3:=hR2.cell 3 (v:=Value.int .u32 (r.sector:Int)) rfl;have k4:=hR2.cell 4 (v:=Value.int .i64 r.n) rfl;have k5:=hR2.cell 5 (v:=Value.slice L.A L.n L.c) rfl) | fail)
 go_ret
 exact z0 (by first | exact HR.out | (rw [HR.out];simp<;>omega)) hbel
theorem may7 (b:So.Blk) (I:So.Hdr) (r:So.Req) (L:So.Hdr) (pages:Int) (w:World) (hp:0≤pages) (hs:b.sectors<4294967296) (hsec:r.sector<4294967296) (hok:∀ x∈r.l,x.Ok) (hn:r.l.length=L.n) (hmax:L.n≤4398046511104) (hcap:L.n≤L.c) (hE:zaj w L.A 3 So.segL r.l) (d1:decide (r.head<0)=false) (d1':¬ r.head<0) (d2:decide (256≤r.head)=false) (d2':¬ 256≤r.head) (d3:decide (r.n<512)=false) (d3':¬ r.n<512) (d4:decide (1048576<r.n)=false) (d4':¬ 1048576<r.n) (d5:r.n.tmod 512=0) (HA:Hid (r.l.any (fun x=>!So.segB x pages)=false)) (c7:(256:Int)<(L.n:Int)) (HR:Hid (So.reqB b.sectors r pages=false)):Calls Tryz.prog 154 #[.agg (So.blkL b I).toArray,.agg (So.reqL r L).toArray,.int .i64 pages] w (zbj w (So.reqB b.sectors r pages)):=by
 have HLN:=qH hn
 have HOK:=qH hok
 have HE:=qH hE
 clear hn hok hE
 go_enter Tryz.func154,Tryz.ntmps154
 go_upto_region 1 with (fail)
 obtain ⟨W0,hW0⟩:=qX (w.alloc (.cells (So.blkL b I).toArray 89))
 have hA:=Blk.new w (So.blkL b I).toArray 89
 have hbA:=za (Below.refl w.heap.size w) (.cells (So.blkL b I).toArray 89)
 rw [hW0] at hA hbA
 have hs0:W0.heap.size=w.heap.size+1:=by rw [←hW0];simp
 obtain ⟨W1,hW1⟩:=qX (W0.alloc (.cells (So.reqL r L).toArray 287))
 have hR:=Blk.new W0 (So.reqL r L).toArray 287
 have hA1:=hA.alloc (.cells (So.reqL r L).toArray 287)
 have hbR:=za hbA (.cells (So.reqL r L).toArray 287)
 rw [hW1,hs0] at hR
 rw [hW1] at hA1 hbR
 have hs1:W1.heap.size=w.heap.size+1+1:=by rw [←hW1];simp [hs0]
 obtain ⟨W2,hW2⟩:=qX (W1.alloc (.cells #[Value.int .i64 pages] 3))
 have hP:=Blk.new W1 #[Value.int .i64 pages] 3
 have hA2:=hA1.alloc (.cells #[Value.int .i64 pages] 3)
 have hR2:=hR.alloc (.cells #[Value.int .i64 pages] 3)
 have hbel:=za hbR (.cells #[Value.int .i64 pages] 3)
 rw [hW2,hs1] at hP
 rw [hW2] at hA2 hR2 hbel
 rw [hW0,hW1,hW2]
 clear hW0 hW1 hW2 hs0 hs1 hA hA1 hR hbA hbR
 obtain ⟨g,hg⟩:=qX w.heap.size
 rw [hg] at hA2 hR2 hP ⊢
 clear hg
 generalize g+1+1=z at hP ⊢
 generalize g+1=q at hR2 ⊢
 have k0:W2.cell? ⟨q,1,none⟩=some (.int .i64 r.head):=hR2.cell 1 rfl
 have k2:W2.cell? ⟨q,2,none⟩=some (.bool r.write):=hR2.cell 2 rfl
 have k3:W2.cell? ⟨q,3,none⟩=some (.int .u32 (r.sector:Int)):=hR2.cell 3 rfl
 have k4:W2.cell? ⟨q,4,none⟩=some (.int .i64 r.n):=hR2.cell 4 rfl
 have k5:W2.cell? ⟨q,5,none⟩=some (.slice L.A L.n L.c):=hR2.cell 5 rfl
 have p0:W2.cell? ⟨z,0,none⟩=some (.int .i64 pages):=hP.cell 0 rfl
 go_wp2_with (first | (go_at_call 196;refine (zbX 194 #[.pointer (some ⟨z,0,none⟩)] zbY L.A L.n L.c r.l _ HLN.out hmax hcap (HE.out.keep hbel) _ (zbm z pages hp r.l HOK.out _ p0)).mono ?_;rintro e w2 ⟨rfl,hb2⟩;rw [HA.out];have hbel:=zb hbel hb2;have hA2:=hA2.keep hb2;have hR2:=hR2.keep hb2;clear hb2 k0 k2 k3 k4 k5 p0;have k2:=hR2.cell 2 (v:=Value.bool r.write) rfl;have k3:=hR2.cell 3 (v:=Value.int .u32 (r.sector:Int)) rfl;have k4:=hR2.cell 4 (v:=Value.int .i64 r.n) rfl;have k5:=hR2.cell 5 (v:=Value.slice L.A L.n L.c) rfl) | fail)
 go_ret
 exact z0 (by first | exact HR.out | (rw [HR.out];simp<;>omega)) hbel
theorem may8 (b:So.Blk) (I:So.Hdr) (r:So.Req) (L:So.Hdr) (pages:Int) (w:World) (hp:0≤pages) (hs:b.sectors<4294967296) (hsec:r.sector<4294967296) (hok:∀ x∈r.l,x.Ok) (hn:r.l.length=L.n) (hmax:L.n≤4398046511104) (hcap:L.n≤L.c) (hE:zaj w L.A 3 So.segL r.l) (d1:decide (r.head<0)=false) (d1':¬ r.head<0) (d2:decide (256≤r.head)=false) (d2':¬ 256≤r.head) (d3:decide (r.n<512)=false) (d3':¬ r.n<512) (d4:decide (1048576<r.n)=false) (d4':¬ 1048576<r.n) (d5:r.n.tmod 512=0) (HA:Hid (r.l.any (fun x=>!So.segB x pages)=false)) (l256:L.n≤256) (d7:decide ((256:Int)<(L.n:Int))=false) (d7':¬ (256:Int)<(L.n:Int)) (n0:0≤r.n) (n1:r.n≤1048576) (es:IntKind.u64.wrap (r.sector:Int)=(r.sector:Int)) (HWI:Hid (zaX b r.sector r.n=false)) (HR:Hid (So.reqB b.sectors r pages=false)):Calls Tryz.prog 154 #[.agg (So.blkL b I).toArray,.agg (So.reqL r L).toArray,.int .i64 pages] w (zbj w (So.reqB b.sectors r pages)):=by
 have HLN:=qH hn
 have HOK:=qH hok
 have HE:=qH hE
 clear hn hok hE
 go_enter Tryz.func154,Tryz.ntmps154
 go_upto_region 1 with (fail)
 obtain ⟨W0,hW0⟩:=qX (w.alloc (.cells (So.blkL b I).toArray 89))
 have hA:=Blk.new w (So.blkL b I).toArray 89
 have hbA:=za (Below.refl w.heap.size w) (.cells (So.blkL b I).toArray 89)
 rw [hW0] at hA hbA
 have hs0:W0.heap.size=w.heap.size+1:=by rw [←hW0];simp
 obtain ⟨W1,hW1⟩:=qX (W0.alloc (.cells (So.reqL r L).toArray 287))
 have hR:=Blk.new W0 (So.reqL r L).toArray 287
 have hA1:=hA.alloc (.cells (So.reqL r L).toArray 287)
 have hbR:=za hbA (.cells (So.reqL r L).toArray 287)
 rw [hW1,hs0] at hR
 rw [hW1] at hA1 hbR
 have hs1:W1.heap.size=w.heap.size+1+1:=by rw [←hW1];simp [hs0]
 obtain ⟨W2,hW2⟩:=qX (W1.alloc (.cells #[Value.int .i64 pages] 3))
 have hP:=Blk.new W1 #[Value.int .i64 pages] 3
 have hA2:=hA1.alloc (.cells #[Value.int .i64 pages] 3)
 have hR2:=hR.alloc (.cells #[Value.int .i64 pages] 3)
 have hbel:=za hbR (.cells #[Value.int .i64 pages] 3)
 rw [hW2,hs1] at hP
 rw [hW2] at hA2 hR2 hbel
 rw [hW0,hW1,hW2]
 clear hW0 hW1 hW2 hs0 hs1 hA hA1 hR hbA hbR
 obtain ⟨g,hg⟩:=qX w.heap.size
 rw [hg] at hA2 hR2 hP ⊢
 clear hg
 generalize g+1+1=z at hP ⊢
 generalize g+1=q at hR2 ⊢
 have k0:W2.cell? ⟨q,1,none⟩=some (.int .i64 r.head):=hR2.cell 1 rfl
 have k2:W2.cell? ⟨q,2,none⟩=some (.bool r.write):=hR2.cell 2 rfl
 have k3:W2.cell? ⟨q,3,none⟩=some (.int .u32 (r.sector:Int)):=hR2.cell 3 rfl
 have k4:W2.cell? ⟨q,4,none⟩=some (.int .i64 r.n):=hR2.cell 4 rfl
 have k5:W2.cell? ⟨q,5,none⟩=some (.slice L.A L.n L.c):=hR2.cell 5 rfl
 have p0:W2.cell? ⟨z,0,none⟩=some (.int .i64 pages):=hP.cell 0 rfl
 go_upto_if 40 with (first | (go_at_call 196;refine (zbX 194 #[.pointer (some ⟨z,0,none⟩)] zbY L.A L.n L.c r.l _ HLN.out hmax hcap (HE.out.keep hbel) _ (zbm z pages hp r.l HOK.out _ p0)).mono ?_;rintro e w2 ⟨rfl,hb2⟩;rw [HA.out];have hbel:=zb hbel hb2;have hA2:=hA2.keep hb2;have hR2:=hR2.keep hb2;clear hb2 k0 k2 k3 k4 k5 p0;have k2:=hR2.cell 2 (v:=Value.bool r.write) rfl;have k3:=hR2.cell 3 (v:=Value.int .u32 (r.sector:Int)) rfl;have k4:=hR2.cell 4 (v:=Value.int .i64 r.n) rfl;have k5:=hR2.cell 5 (v:=Value.slice L.A L.n L.c) rfl) | fail)
 go_upto_if 54 with (first | (refine ze 89 (.tmp 3) rfl g 0 rfl (So.blkL b I) _ (zd hA2 0 25 rfl) Tryz.underlying89 rfl (by kernel_rfl) (by rfl) ?_) | (go_at_call 197;refine (za6 b I r.sector r.n _ hs n0 n1).mono ?_;rintro e w2 ⟨rfl,hb2⟩;rw [HWI.out];have hbel:=zb hbel hb2;have hA2:=hA2.keep hb2;have hR2:=hR2.keep hb2;clear hb2 k2 k3 k4 k5;have k2:=hR2.cell 2 (v:=Value.bool r.write) rfl;have k3:=hR2.cell 3 (v:=Value.int .u32 (r.sector:Int)) rfl;have k4:=hR2.cell 4 (v:=Value.int .i64 r.n) rfl;have k5:=hR2.cell 5 (v:=Value.slice L.A L.n L.c) rfl) | fail)
 go_wp2_with (first | fail)
 go_ret
 exact z0 (by first | exact HR.out | (rw [HR.out];simp<;>omega)) hbel
theorem may9 (b:So.Blk) (I:So.Hdr) (r:So.Req) (L:So.Hdr) (pages:Int) (w:World) (hp:0≤pages) (hs:b.sectors<4294967296) (hsec:r.sector<4294967296) (hok:∀ x∈r.l,x.Ok) (hn:r.l.length=L.n) (hmax:L.n≤4398046511104) (hcap:L.n≤L.c) (hE:zaj w L.A 3 So.segL r.l) (d1:decide (r.head<0)=false) (d1':¬ r.head<0) (d2:decide (256≤r.head)=false) (d2':¬ 256≤r.head) (d3:decide (r.n<512)=false) (d3':¬ r.n<512) (d4:decide (1048576<r.n)=false) (d4':¬ 1048576<r.n) (d5:r.n.tmod 512=0) (HA:Hid (r.l.any (fun x=>!So.segB x pages)=false)) (l256:L.n≤256) (d7:decide ((256:Int)<(L.n:Int))=false) (d7':¬ (256:Int)<(L.n:Int)) (n0:0≤r.n) (n1:r.n≤1048576) (es:IntKind.u64.wrap (r.sector:Int)=(r.sector:Int)) (HWI:Hid (zaX b r.sector r.n=true)) (HWR:Hid (∀ x∈r.l,x.write=true)) (HNN:Hid (∀ x∈r.l,x.n≤1048576)) (w1:r.write=true) (r1:¬ 1≤So.room r.l) (HR:Hid (So.reqB b.sectors r pages=false)):Calls Tryz.prog 154 #[.agg (So.blkL b I).toArray,.agg (So.reqL r L).toArray,.int .i64 pages] w (zbj w (So.reqB b.sectors r pages)):=by
 have HLN:=qH hn
 have HOK:=qH hok
 have HE:=qH hE
 clear hn hok hE
 go_enter Tryz.func154,Tryz.ntmps154
 go_upto_region 1 with (fail)
 obtain ⟨W0,hW0⟩:=qX (w.alloc (.cells (So.blkL b I).toArray 89))
 have hA:=Blk.new w (So.blkL b I).toArray 89
 have hbA:=za (Below.refl w.heap.size w) (.cells (So.blkL b I).toArray 89)
 rw [hW0] at hA hbA
 have hs0:W0.heap.size=w.heap.size+1:=by rw [←hW0];simp
 obtain ⟨W1,hW1⟩:=qX (W0.alloc (.cells (So.reqL r L).toArray 287))
 have hR:=Blk.new W0 (So.reqL r L).toArray 287
 have hA1:=hA.alloc (.cells (So.reqL r L).toArray 287)
 have hbR:=za hbA (.cells (So.reqL r L).toArray 287)
 rw [hW1,hs0] at hR
 rw [hW1] at hA1 hbR
 have hs1:W1.heap.size=w.heap.size+1+1:=by rw [←hW1];simp [hs0]
 obtain ⟨W2,hW2⟩:=qX (W1.alloc (.cells #[Value.int .i64 pages] 3))
 have hP:=Blk.new W1 #[Value.int .i64 pages] 3
 have hA2:=hA1.alloc (.cells #[Value.int .i64 pages] 3)
 have hR2:=hR.alloc (.cells #[Value.int .i64 pages] 3)
 have hbel:=za hbR (.cells #[Value.int .i64 pages] 3)
 rw [hW2,hs1] at hP
 rw [hW2] at hA2 hR2 hbel
 rw [hW0,hW1,hW2]
 clear hW0 hW1 hW2 hs0 hs1 hA hA1 hR hbA hbR
 obtain ⟨g,hg⟩:=qX w.heap.size
 rw [hg] at hA2 hR2 hP ⊢
 clear hg
 generalize g+1+1=z at hP ⊢
 generalize g+1=q at hR2 ⊢
 have k0:W2.cell? ⟨q,1,none⟩=some (.int .i64 r.head):=hR2.cell 1 rfl
 have k2:W2.cell? ⟨q,2,none⟩=some (.bool r.write):=hR2.cell 2 rfl
 have k3:W2.cell? ⟨q,3,none⟩=some (.int .u32 (r.sector:Int)):=hR2.cell 3 rfl
 have k4:W2.cell? ⟨q,4,none⟩=some (.int .i64 r.n):=hR2.cell 4 rfl
 have k5:W2.cell? ⟨q,5,none⟩=some (.slice L.A L.n L.c):=hR2.cell 5 rfl
 have p0:W2.cell? ⟨z,0,none⟩=some (.int .i64 pages):=hP.cell 0 rfl
 go_upto_if 40 with (first | (go_at_call 196;refine (zbX 194 #[.pointer (some ⟨z,0,none⟩)] zbY L.A L.n L.c r.l _ HLN.out hmax hcap (HE.out.keep hbel) _ (zbm z pages hp r.l HOK.out _ p0)).mono ?_;rintro e w2 ⟨rfl,hb2⟩;rw [HA.out];have hbel:=zb hbel hb2;have hA2:=hA2.keep hb2;have hR2:=hR2.keep hb2;clear hb2 k0 k2 k3 k4 k5 p0;have k2:=hR2.cell 2 (v:=Value.bool r.write) rfl;have k3:=hR2.cell 3 (v:=Value.int .u32 (r.sector:Int)) rfl;have k4:=hR2.cell 4 (v:=Value.int .i64 r.n) rfl;have k5:=hR2.cell 5 (v:=Value.slice L.A L.n L.c) rfl) | fail)
 go_upto_if 54 with (first | (refine ze 89 (.tmp 3) rfl g 0 rfl (So.blkL b I) _ (zd hA2 0 25 rfl) Tryz.underlying89 rfl (by kernel_rfl) (by rfl) ?_) | (go_at_call 197;refine (za6 b I r.sector r.n _ hs n0 n1).mono ?_;rintro e w2 ⟨rfl,hb2⟩;rw [HWI.out];have hbel:=zb hbel hb2;have hA2:=hA2.keep hb2;have hR2:=hR2.keep hb2;clear hb2 k2 k3 k4 k5;have k2:=hR2.cell 2 (v:=Value.bool r.write) rfl;have k3:=hR2.cell 3 (v:=Value.int .u32 (r.sector:Int)) rfl;have k4:=hR2.cell 4 (v:=Value.int .i64 r.n) rfl;have k5:=hR2.cell 5 (v:=Value.slice L.A L.n L.c) rfl) | fail)
 go_wp2_with (first | (go_at_call 198;refine (zcQ L.A L.n L.c r.l _ HLN.out l256 hcap (HE.out.keep hbel) HWR.out HNN.out).mono ?_;rintro e w2 ⟨rfl,hb2⟩;have hbel:=zb hbel hb2;have hA2:=hA2.keep hb2;have hR2:=hR2.keep hb2;clear hb2 k2 k3 k4 k5;have k2:=hR2.cell 2 (v:=Value.bool r.write) rfl;have k3:=hR2.cell 3 (v:=Value.int .u32 (r.sector:Int)) rfl;have k4:=hR2.cell 4 (v:=Value.int .i64 r.n) rfl;have k5:=hR2.cell 5 (v:=Value.slice L.A L.n L.c) rfl) | fail)
 go_ret
 exact z0 (by first | exact HR.out | (rw [HR.out];simp<;>omega)) hbel
theorem zpu (b:So.Blk) (I:So.Hdr) (r:So.Req) (L:So.Hdr) (pages:Int) (w:World) (hp:0≤pages) (hs:b.sectors<4294967296) (hsec:r.sector<4294967296) (hok:∀ x∈r.l,x.Ok) (hn:r.l.length=L.n) (hmax:L.n≤4398046511104) (hcap:L.n≤L.c) (hE:zaj w L.A 3 So.segL r.l) (d1:decide (r.head<0)=false) (d1':¬ r.head<0) (d2:decide (256≤r.head)=false) (d2':¬ 256≤r.head) (d3:decide (r.n<512)=false) (d3':¬ r.n<512) (d4:decide (1048576<r.n)=false) (d4':¬ 1048576<r.n) (d5:r.n.tmod 512=0) (HA:Hid (r.l.any (fun x=>!So.segB x pages)=false)) (l256:L.n≤256) (d7:decide ((256:Int)<(L.n:Int))=false) (d7':¬ (256:Int)<(L.n:Int)) (n0:0≤r.n) (n1:r.n≤1048576) (es:IntKind.u64.wrap (r.sector:Int)=(r.sector:Int)) (HWI:Hid (zaX b r.sector r.n=true)) (HWR:Hid (∀ x∈r.l,x.write=true)) (HNN:Hid (∀ x∈r.l,x.n≤1048576)) (w1:r.write=true) (r1:1≤So.room r.l) (r2:¬ So.room r.l≤1048576) (HR:Hid (So.reqB b.sectors r pages=false)):Calls Tryz.prog 154 #[.agg (So.blkL b I).toArray,.agg (So.reqL r L).toArray,.int .i64 pages] w (zbj w (So.reqB b.sectors r pages)):=by
 have HLN:=qH hn
 have HOK:=qH hok
 have HE:=qH hE
 clear hn hok hE
 go_enter Tryz.func154,Tryz.ntmps154
 go_upto_region 1 with (fail)
 obtain ⟨W0,hW0⟩:=qX (w.alloc (.cells (So.blkL b I).toArray 89))
 have hA:=Blk.new w (So.blkL b I).toArray 89
 have hbA:=za (Below.refl w.heap.size w) (.cells (So.blkL b I).toArray 89)
 rw [hW0] at hA hbA
 have hs0:W0.heap.size=w.heap.size+1:=by rw [←hW0];simp
 obtain ⟨W1,hW1⟩:=qX (W0.alloc (.cells (So.reqL r L).toArray 287))
 have hR:=Blk.new W0 (So.reqL r L).toArray 287
 have hA1:=hA.alloc (.cells (So.reqL r L).toArray 287)
 have hbR:=za hbA (.cells (So.reqL r L).toArray 287)
 rw [hW1,hs0] at hR
 rw [hW1] at hA1 hbR
 have hs1:W1.heap.size=w.heap.size+1+1:=by rw [←hW1];simp [hs0]
 obtain ⟨W2,hW2⟩:=qX (W1.alloc (.cells #[Value.int .i64 pages] 3))
 have hP:=Blk.new W1 #[Value.int .i64 pages] 3
 have hA2:=hA1.alloc (.cells #[Value.int .i64 pages] 3)
 have hR2:=hR.alloc (.cells #[Value.int .i64 pages] 3)
 have hbel:=za hbR (.cells #[Value.int .i64 pages] 3)
 rw [hW2,hs1] at hP
 rw [hW2] at hA2 hR2 hbel
 rw [hW0,hW1,hW2]
 clear hW0 hW1 hW2 hs0 hs1 hA hA1 hR hbA hbR
 obtain ⟨g,hg⟩:=qX w.heap.size
 rw [hg] at hA2 hR2 hP ⊢
 clear hg
 generalize g+1+1=z at hP ⊢
 generalize g+1=q at hR2 ⊢
 have k0:W2.cell? ⟨q,1,none⟩=some (.int .i64 r.head):=hR2.cell 1 rfl
 have k2:W2.cell? ⟨q,2,none⟩=some (.bool r.write):=hR2.cell 2 rfl
 have k3:W2.cell? ⟨q,3,none⟩=some (.int .u32 (r.sector:Int)):=hR2.cell 3 rfl
 have k4:W2.cell? ⟨q,4,none⟩=some (.int .i64 r.n):=hR2.cell 4 rfl
 have k5:W2.cell? ⟨q,5,none⟩=some (.slice L.A L.n L.c):=hR2.cell 5 rfl
 have p0:W2.cell? ⟨z,0,none⟩=some (.int .i64 pages):=hP.cell 0 rfl
 go_upto_if 40 with (first | (go_at_call 196;refine (zbX 194 #[.pointer (some ⟨z,0,none⟩)] zbY L.A L.n L.c r.l _ HLN.out hmax hcap (HE.out.keep hbel) _ (zbm z pages hp r.l HOK.out _ p0)).mono ?_;rintro e w2 ⟨rfl,hb2⟩;rw [HA.out];have hbel:=zb hbel hb2;have hA2:=hA2.keep hb2;have hR2:=hR2.keep hb2;clear hb2 k0 k2 k3 k4 k5 p0;have k2:=hR2.cell 2 (v:=Value.bool r.write) rfl;have k3:=hR2.cell 3 (v:=Value.int .u32 (r.sector:Int)) rfl;have k4:=hR2.cell 4 (v:=Value.int .i64 r.n) rfl;have k5:=hR2.cell 5 (v:=Value.slice L.A L.n L.c) rfl) | fail)
 go_upto_if 54 with (first | (refine ze 89 (.tmp 3) rfl g 0 rfl (So.blkL b I) _ (zd hA2 0 25 rfl) Tryz.underlying89 rfl (by kernel_rfl) (by rfl) ?_) | (go_at_call 197;refine (za6 b I r.sector r.n _ hs n0 n1).mono ?_;rintro e w2 ⟨rfl,hb2⟩;rw [HWI.out];have hbel:=zb hbel hb2;have hA2:=hA2.keep hb2;have hR2:=hR2.keep hb2;clear hb2 k2 k3 k4 k5;have k2:=hR2.cell 2 (v:=Value.bool r.write) rfl;have k3:=hR2.cell 3 (v:=Value.int .u32 (r.sector:Int)) rfl;have k4:=hR2.cell 4 (v:=Value.int .i64 r.n) rfl;have k5:=hR2.cell 5 (v:=Value.slice L.A L.n L.c) rfl) | fail)
 go_wp2_with (first | (go_at_call 198;refine (zcQ L.A L.n L.c r.l _ HLN.out l256 hcap (HE.out.keep hbel) HWR.out HNN.out).mono ?_;rintro e w2 ⟨rfl,hb2⟩;have hbel:=zb hbel hb2;have hA2:=hA2.keep hb2;have hR2:=hR2.keep hb2;clear hb2 k2 k3 k4 k5;have k2:=hR2.cell 2 (v:=Value.bool r.write) rfl;have k3:=hR2.cell 3 (v:=Value.int .u32 (r.sector:Int)) rfl;have k4:=hR2.cell 4 (v:=Value.int .i64 r.n) rfl;have k5:=hR2.cell 5 (v:=Value.slice L.A L.n L.c) rfl) | fail)
 go_ret
 exact z0 (by first | exact HR.out | (rw [HR.out];simp<;>omega)) hbel
theorem zpv (b:So.Blk) (I:So.Hdr) (r:So.Req) (L:So.Hdr) (pages:Int) (w:World) (hp:0≤pages) (hs:b.sectors<4294967296) (hsec:r.sector<4294967296) (hok:∀ x∈r.l,x.Ok) (hn:r.l.length=L.n) (hmax:L.n≤4398046511104) (hcap:L.n≤L.c) (hE:zaj w L.A 3 So.segL r.l) (d1:decide (r.head<0)=false) (d1':¬ r.head<0) (d2:decide (256≤r.head)=false) (d2':¬ 256≤r.head) (d3:decide (r.n<512)=false) (d3':¬ r.n<512) (d4:decide (1048576<r.n)=false) (d4':¬ 1048576<r.n) (d5:r.n.tmod 512=0) (HA:Hid (r.l.any (fun x=>!So.segB x pages)=false)) (l256:L.n≤256) (d7:decide ((256:Int)<(L.n:Int))=false) (d7':¬ (256:Int)<(L.n:Int)) (n0:0≤r.n) (n1:r.n≤1048576) (es:IntKind.u64.wrap (r.sector:Int)=(r.sector:Int)) (HWI:Hid (zaX b r.sector r.n=true)) (HWR:Hid (∀ x∈r.l,x.write=true)) (HNN:Hid (∀ x∈r.l,x.n≤1048576)) (w1:r.write=true) (r1:1≤So.room r.l) (r2:So.room r.l≤1048576) (HR:Hid (So.reqB b.sectors r pages=true)):Calls Tryz.prog 154 #[.agg (So.blkL b I).toArray,.agg (So.reqL r L).toArray,.int .i64 pages] w (zbj w (So.reqB b.sectors r pages)):=by
 have HLN:=qH hn
 have HOK:=qH hok
 have HE:=qH hE
 clear hn hok hE
 go_enter Tryz.func154,Tryz.ntmps154
 go_upto_region 1 with (fail)
 obtain ⟨W0,hW0⟩:=qX (w.alloc (.cells (So.blkL b I).toArray 89))
 have hA:=Blk.new w (So.blkL b I).toArray 89
 have hbA:=za (Below.refl w.heap.size w) (.cells (So.blkL b I).toArray 89)
 rw [hW0] at hA hbA
 have hs0:W0.heap.size=w.heap.size+1:=by rw [←hW0];simp
 obtain ⟨W1,hW1⟩:=qX (W0.alloc (.cells (So.reqL r L).toArray 287))
 have hR:=Blk.new W0 (So.reqL r L).toArray 287
 have hA1:=hA.alloc (.cells (So.reqL r L).toArray 287)
 have hbR:=za hbA (.cells (So.reqL r L).toArray 287)
 rw [hW1,hs0] at hR
 rw [hW1] at hA1 hbR
 have hs1:W1.heap.size=w.heap.size+1+1:=by rw [←hW1];simp [hs0]
 obtain ⟨W2,hW2⟩:=qX (W1.alloc (.cells #[Value.int .i64 pages] 3))
 have hP:=Blk.new W1 #[Value.int .i64 pages] 3
 have hA2:=hA1.alloc (.cells #[Value.int .i64 pages] 3)
 have hR2:=hR.alloc (.cells #[Value.int .i64 pages] 3)
 have hbel:=za hbR (.cells #[Value.int .i64 pages] 3)
 rw [hW2,hs1] at hP
 rw [hW2] at hA2 hR2 hbel
 rw [hW0,hW1,hW2]
 clear hW0 hW1 hW2 hs0 hs1 hA hA1 hR hbA hbR
 obtain ⟨g,hg⟩:=qX w.heap.size
 rw [hg] at hA2 hR2 hP ⊢
 clear hg
 generalize g+1+1=z at hP ⊢
 generalize g+1=q at hR2 ⊢
 have k0:W2.cell? ⟨q,1,none⟩=some (.int .i64 r.head):=hR2.cell 1 rfl
 have k2:W2.cell? ⟨q,2,none⟩=some (.bool r.write):=hR2.cell 2 rfl
 have k3:W2.cell? ⟨q,3,none⟩=some (.int .u32 (r.sector:Int)):=hR2.cell 3 rfl
 have k4:W2.cell? ⟨q,4,none⟩=some (.int .i64 r.n):=hR2.cell 4 rfl
 have k5:W2.cell? ⟨q,5,none⟩=some (.slice L.A L.n L.c):=hR2.cell 5 rfl
 have p0:W2.cell? ⟨z,0,none⟩=some (.int .i64 pages):=hP.cell 0 rfl
 go_upto_if 40 with (first | (go_at_call 196;refine (zbX 194 #[.pointer (some ⟨z,0,none⟩)] zbY L.A L.n L.c r.l _ HLN.out hmax hcap (HE.out.keep hbel) _ (zbm z pages hp r.l HOK.out _ p0)).mono ?_;rintro e w2 ⟨rfl,hb2⟩;rw [HA.out];have hbel:=zb hbel hb2;have hA2:=hA2.keep hb2;have hR2:=hR2.keep hb2;clear hb2 k0 k2 k3 k4 k5 p0;have k2:=hR2.cell 2 (v:=Value.bool r.write) rfl;have k3:=hR2.cell 3 (v:=Value.int .u32 (r.sector:Int)) rfl;have k4:=hR2.cell 4 (v:=Value.int .i64 r.n) rfl;have k5:=hR2.cell 5 (v:=Value.slice L.A L.n L.c) rfl) | fail)
 go_upto_if 54 with (first | (refine ze 89 (.tmp 3) rfl g 0 rfl (So.blkL b I) _ (zd hA2 0 25 rfl) Tryz.underlying89 rfl (by kernel_rfl) (by rfl) ?_) | (go_at_call 197;refine (za6 b I r.sector r.n _ hs n0 n1).mono ?_;rintro e w2 ⟨rfl,hb2⟩;rw [HWI.out];have hbel:=zb hbel hb2;have hA2:=hA2.keep hb2;have hR2:=hR2.keep hb2;clear hb2 k2 k3 k4 k5;have k2:=hR2.cell 2 (v:=Value.bool r.write) rfl;have k3:=hR2.cell 3 (v:=Value.int .u32 (r.sector:Int)) rfl;have k4:=hR2.cell 4 (v:=Value.int .i64 r.n) rfl;have k5:=hR2.cell 5 (v:=Value.slice L.A L.n L.c) rfl) | fail)
 go_wp2_with (first | (go_at_call 198;refine (zcQ L.A L.n L.c r.l _ HLN.out l256 hcap (HE.out.keep hbel) HWR.out HNN.out).mono ?_;rintro e w2 ⟨rfl,hb2⟩;have hbel:=zb hbel hb2;have hA2:=hA2.keep hb2;have hR2:=hR2.keep hb2;clear hb2 k2 k3 k4 k5;have k2:=hR2.cell 2 (v:=Value.bool r.write) rfl;have k3:=hR2.cell 3 (v:=Value.int .u32 (r.sector:Int)) rfl;have k4:=hR2.cell 4 (v:=Value.int .i64 r.n) rfl;have k5:=hR2.cell 5 (v:=Value.slice L.A L.n L.c) rfl) | fail)
 go_ret
 exact z0 (by first | exact HR.out | (rw [HR.out];simp<;>omega)) hbel
theorem zpw (b:So.Blk) (I:So.Hdr) (r:So.Req) (L:So.Hdr) (pages:Int) (w:World) (hp:0≤pages) (hs:b.sectors<4294967296) (hsec:r.sector<4294967296) (hok:∀ x∈r.l,x.Ok) (hn:r.l.length=L.n) (hmax:L.n≤4398046511104) (hcap:L.n≤L.c) (hE:zaj w L.A 3 So.segL r.l) (d1:decide (r.head<0)=false) (d1':¬ r.head<0) (d2:decide (256≤r.head)=false) (d2':¬ 256≤r.head) (d3:decide (r.n<512)=false) (d3':¬ r.n<512) (d4:decide (1048576<r.n)=false) (d4':¬ 1048576<r.n) (d5:r.n.tmod 512=0) (HA:Hid (r.l.any (fun x=>!So.segB x pages)=false)) (l256:L.n≤256) (d7:decide ((256:Int)<(L.n:Int))=false) (d7':¬ (256:Int)<(L.n:Int)) (n0:0≤r.n) (n1:r.n≤1048576) (es:IntKind.u64.wrap (r.sector:Int)=(r.sector:Int)) (HWI:Hid (zaX b r.sector r.n=true)) (HWR:Hid (∀ x∈r.l,x.write=true)) (HNN:Hid (∀ x∈r.l,x.n≤1048576)) (w1:r.write=false) (ew:IntKind.i64.wrap (r.n+1)=r.n+1) (r1:(So.room r.l==r.n+1)=true) (r1':So.room r.l=r.n+1) (HR:Hid (So.reqB b.sectors r pages=true)):Calls Tryz.prog 154 #[.agg (So.blkL b I).toArray,.agg (So.reqL r L).toArray,.int .i64 pages] w (zbj w (So.reqB b.sectors r pages)):=by
 have HLN:=qH hn
 have HOK:=qH hok
 have HE:=qH hE
 clear hn hok hE
 go_enter Tryz.func154,Tryz.ntmps154
 go_upto_region 1 with (fail)
 obtain ⟨W0,hW0⟩:=qX (w.alloc (.cells (So.blkL b I).toArray 89))
 have hA:=Blk.new w (So.blkL b I).toArray 89
 have hbA:=za (Below.refl w.heap.size w) (.cells (So.blkL b I).toArray 89)
 rw [hW0] at hA hbA
 have hs0:W0.heap.size=w.heap.size+1:=by rw [←hW0];simp
 obtain ⟨W1,hW1⟩:=qX (W0.alloc (.cells (So.reqL r L).toArray 287))
 have hR:=Blk.new W0 (So.reqL r L).toArray 287
 have hA1:=hA.alloc (.cells (So.reqL r L).toArray 287)
 have hbR:=za hbA (.cells (So.reqL r L).toArray 287)
 rw [hW1,hs0] at hR
 rw [hW1] at hA1 hbR
 have hs1:W1.heap.size=w.heap.size+1+1:=by rw [←hW1];simp [hs0]
 obtain ⟨W2,hW2⟩:=qX (W1.alloc (.cells #[Value.int .i64 pages] 3))
 have hP:=Blk.new W1 #[Value.int .i64 pages] 3
 have hA2:=hA1.alloc (.cells #[Value.int .i64 pages] 3)
 have hR2:=hR.alloc (.cells #[Value.int .i64 pages] 3)
 have hbel:=za hbR (.cells #[Value.int .i64 pages] 3)
 rw [hW2,hs1] at hP
 rw [hW2] at hA2 hR2 hbel
 rw [hW0,hW1,hW2]
 clear hW0 hW1 hW2 hs0 hs1 hA hA1 hR hbA hbR
 obtain ⟨g,hg⟩:=qX w.heap.size
 rw [hg] at hA2 hR2 hP ⊢
 clear hg
 generalize g+1+1=z at hP ⊢
 generalize g+1=q at hR2 ⊢
 have k0:W2.cell? ⟨q,1,none⟩=some (.int .i64 r.head):=hR2.cell 1 rfl
 have k2:W2.cell? ⟨q,2,none⟩=some (.bool r.write):=hR2.cell 2 rfl
 have k3:W2.cell? ⟨q,3,none⟩=some (.int .u32 (r.sector:Int)):=hR2.cell 3 rfl
 have k4:W2.cell? ⟨q,4,none⟩=some (.int .i64 r.n):=hR2.cell 4 rfl
 have k5:W2.cell? ⟨q,5,none⟩=some (.slice L.A L.n L.c):=hR2.cell 5 rfl
 have p0:W2.cell? ⟨z,0,none⟩=some (.int .i64 pages):=hP.cell 0 rfl
 go_upto_if 40 with (first | (go_at_call 196;refine (zbX 194 #[.pointer (some ⟨z,0,none⟩)] zbY L.A L.n L.c r.l _ HLN.out hmax hcap (HE.out.keep hbel) _ (zbm z pages hp r.l HOK.out _ p0)).mono ?_;rintro e w2 ⟨rfl,hb2⟩;rw [HA.out];have hbel:=zb hbel hb2;have hA2:=hA2.keep hb2;have hR2:=hR2.keep hb2;clear hb2 k0 k2 k3 k4 k5 p0;have k2:=hR2.cell 2 (v:=Value.bool r.write) rfl;have k3:=hR2.cell 3 (v:=Value.int .u32 (r.sector:Int)) rfl;have k4:=hR2.cell 4 (v:=Value.int .i64 r.n) rfl;have k5:=hR2.cell 5 (v:=Value.slice L.A L.n L.c) rfl) | fail)
 go_upto_if 54 with (first | (refine ze 89 (.tmp 3) rfl g 0 rfl (So.blkL b I) _ (zd hA2 0 25 rfl) Tryz.underlying89 rfl (by kernel_rfl) (by rfl) ?_) | (go_at_call 197;refine (za6 b I r.sector r.n _ hs n0 n1).mono ?_;rintro e w2 ⟨rfl,hb2⟩;rw [HWI.out];have hbel:=zb hbel hb2;have hA2:=hA2.keep hb2;have hR2:=hR2.keep hb2;clear hb2 k2 k3 k4 k5;have k2:=hR2.cell 2 (v:=Value.bool r.write) rfl;have k3:=hR2.cell 3 (v:=Value.int .u32 (r.sector:Int)) rfl;have k4:=hR2.cell 4 (v:=Value.int .i64 r.n) rfl;have k5:=hR2.cell 5 (v:=Value.slice L.A L.n L.c) rfl) | fail)
 go_wp2_with (first | (go_at_call 198;refine (zcQ L.A L.n L.c r.l _ HLN.out l256 hcap (HE.out.keep hbel) HWR.out HNN.out).mono ?_;rintro e w2 ⟨rfl,hb2⟩;have hbel:=zb hbel hb2;have hA2:=hA2.keep hb2;have hR2:=hR2.keep hb2;clear hb2 k2 k3 k4 k5;have k2:=hR2.cell 2 (v:=Value.bool r.write) rfl;have k3:=hR2.cell 3 (v:=Value.int .u32 (r.sector:Int)) rfl;have k4:=hR2.cell 4 (v:=Value.int .i64 r.n) rfl;have k5:=hR2.cell 5 (v:=Value.slice L.A L.n L.c) rfl) | fail)
 go_ret
 exact z0 (by first | exact HR.out | (rw [HR.out];simp<;>omega)) hbel
theorem zpx (b:So.Blk) (I:So.Hdr) (r:So.Req) (L:So.Hdr) (pages:Int) (w:World) (hp:0≤pages) (hs:b.sectors<4294967296) (hsec:r.sector<4294967296) (hok:∀ x∈r.l,x.Ok) (hn:r.l.length=L.n) (hmax:L.n≤4398046511104) (hcap:L.n≤L.c) (hE:zaj w L.A 3 So.segL r.l) (d1:decide (r.head<0)=false) (d1':¬ r.head<0) (d2:decide (256≤r.head)=false) (d2':¬ 256≤r.head) (d3:decide (r.n<512)=false) (d3':¬ r.n<512) (d4:decide (1048576<r.n)=false) (d4':¬ 1048576<r.n) (d5:r.n.tmod 512=0) (HA:Hid (r.l.any (fun x=>!So.segB x pages)=false)) (l256:L.n≤256) (d7:decide ((256:Int)<(L.n:Int))=false) (d7':¬ (256:Int)<(L.n:Int)) (n0:0≤r.n) (n1:r.n≤1048576) (es:IntKind.u64.wrap (r.sector:Int)=(r.sector:Int)) (HWI:Hid (zaX b r.sector r.n=true)) (HWR:Hid (∀ x∈r.l,x.write=true)) (HNN:Hid (∀ x∈r.l,x.n≤1048576)) (w1:r.write=false) (ew:IntKind.i64.wrap (r.n+1)=r.n+1) (r1:(So.room r.l==r.n+1)=false) (r1':¬ So.room r.l=r.n+1) (HR:Hid (So.reqB b.sectors r pages=false)):Calls Tryz.prog 154 #[.agg (So.blkL b I).toArray,.agg (So.reqL r L).toArray,.int .i64 pages] w (zbj w (So.reqB b.sectors r pages)):=by
 have HLN:=qH hn
 have HOK:=qH hok
 have HE:=qH hE
 clear hn hok hE
 go_enter Tryz.func154,Tryz.ntmps154
 go_upto_region 1 with (fail)
 obtain ⟨W0,hW0⟩:=qX (w.alloc (.cells (So.blkL b I).toArray 89))
 have hA:=Blk.new w (So.blkL b I).toArray 89
 have hbA:=za (Below.refl w.heap.size w) (.cells (So.blkL b I).toArray 89)
 rw [hW0] at hA hbA
 have hs0:W0.heap.size=w.heap.size+1:=by rw [←hW0];simp
 obtain ⟨W1,hW1⟩:=qX (W0.alloc (.cells (So.reqL r L).toArray 287))
 have hR:=Blk.new W0 (So.reqL r L).toArray 287
 have hA1:=hA.alloc (.cells (So.reqL r L).toArray 287)
 have hbR:=za hbA (.cells (So.reqL r L).toArray 287)
 rw [hW1,hs0] at hR
 rw [hW1] at hA1 hbR
 have hs1:W1.heap.size=w.heap.size+1+1:=by rw [←hW1];simp [hs0]
 obtain ⟨W2,hW2⟩:=qX (W1.alloc (.cells #[Value.int .i64 pages] 3))
 have hP:=Blk.new W1 #[Value.int .i64 pages] 3
 have hA2:=hA1.alloc (.cells #[Value.int .i64 pages] 3)
 have hR2:=hR.alloc (.cells #[Value.int .i64 pages] 3)
 have hbel:=za hbR (.cells #[Value.int .i64 pages] 3)
 rw [hW2,hs1] at hP
 rw [hW2] at hA2 hR2 hbel
 rw [hW0,hW1,hW2]
 clear hW0 hW1 hW2 hs0 hs1 hA hA1 hR hbA hbR
 obtain ⟨g,hg⟩:=qX w.heap.size
 rw [hg] at hA2 hR2 hP ⊢
 clear hg
 generalize g+1+1=z at hP ⊢
 generalize g+1=q at hR2 ⊢
 have k0:W2.cell? ⟨q,1,none⟩=some (.int .i64 r.head):=hR2.cell 1 rfl
 have k2:W2.cell? ⟨q,2,none⟩=some (.bool r.write):=hR2.cell 2 rfl
 have k3:W2.cell? ⟨q,3,none⟩=some (.int .u32 (r.sector:Int)):=hR2.cell 3 rfl
 have k4:W2.cell? ⟨q,4,none⟩=some (.int .i64 r.n):=hR2.cell 4 rfl
 have k5:W2.cell? ⟨q,5,none⟩=some (.slice L.A L.n L.c):=hR2.cell 5 rfl
 have p0:W2.cell? ⟨z,0,none⟩=some (.int .i64 pages):=hP.cell 0 rfl
 go_upto_if 40 with (first | (go_at_call 196;refine (zbX 194 #[.pointer (some ⟨z,0,none⟩)] zbY L.A L.n L.c r.l _ HLN.out hmax hcap (HE.out.keep hbel) _ (zbm z pages hp r.l HOK.out _ p0)).mono ?_;rintro e w2 ⟨rfl,hb2⟩;rw [HA.out];have hbel:=zb hbel hb2;have hA2:=hA2.keep hb2;have hR2:=hR2.keep hb2;clear hb2 k0 k2 k3 k4 k5 p0;have k2:=hR2.cell 2 (v:=Value.bool r.write) rfl;have k3:=hR2.cell 3 (v:=Value.int .u32 (r.sector:Int)) rfl;have k4:=hR2.cell 4 (v:=Value.int .i64 r.n) rfl;have k5:=hR2.cell 5 (v:=Value.slice L.A L.n L.c) rfl) | fail)
 go_upto_if 54 with (first | (refine ze 89 (.tmp 3) rfl g 0 rfl (So.blkL b I) _ (zd hA2 0 25 rfl) Tryz.underlying89 rfl (by kernel_rfl) (by rfl) ?_) | (go_at_call 197;refine (za6 b I r.sector r.n _ hs n0 n1).mono ?_;rintro e w2 ⟨rfl,hb2⟩;rw [HWI.out];have hbel:=zb hbel hb2;have hA2:=hA2.keep hb2;have hR2:=hR2.keep hb2;clear hb2 k2 k3 k4 k5;have k2:=hR2.cell 2 (v:=Value.bool r.write) rfl;have k3:=hR2.cell 3 (v:=Value.int .u32 (r.sector:Int)) rfl;have k4:=hR2.cell 4 (v:=Value.int .i64 r.n) rfl;have k5:=hR2.cell 5 (v:=Value.slice L.A L.n L.c) rfl) | fail)
 go_wp2_with (first | (go_at_call 198;refine (zcQ L.A L.n L.c r.l _ HLN.out l256 hcap (HE.out.keep hbel) HWR.out HNN.out).mono ?_;rintro e w2 ⟨rfl,hb2⟩;have hbel:=zb hbel hb2;have hA2:=hA2.keep hb2;have hR2:=hR2.keep hb2;clear hb2 k2 k3 k4 k5;have k2:=hR2.cell 2 (v:=Value.bool r.write) rfl;have k3:=hR2.cell 3 (v:=Value.int .u32 (r.sector:Int)) rfl;have k4:=hR2.cell 4 (v:=Value.int .i64 r.n) rfl;have k5:=hR2.cell 5 (v:=Value.slice L.A L.n L.c) rfl) | fail)
 go_ret
 exact z0 (by first | exact HR.out | (rw [HR.out];simp<;>omega)) hbel
theorem zgX (b:So.Blk) (I:So.Hdr) (r:So.Req) (L:So.Hdr) (pages:Int) (w:World) (hp:0≤pages) (hs:b.sectors<4294967296) (hsec:r.sector<4294967296) (hok:∀ x∈r.l,x.Ok) (hn:r.l.length=L.n) (hmax:L.n≤4398046511104) (hcap:L.n≤L.c) (hE:zaj w L.A 3 So.segL r.l):Calls Tryz.prog 154 #[.agg (So.blkL b I).toArray,.agg (So.reqL r L).toArray,.int .i64 pages] w (zbj w (So.reqB b.sectors r pages)):=by
 have hB:=ziS b.sectors r pages
 by_cases h1:0≤r.head
 ·
  rw [decide_eq_true h1] at hB
  have d1:decide (r.head<0)=false:=decide_eq_false (by omega)
  have d1':¬ r.head<0:=by omega
  by_cases h2:r.head<256
  ·
   rw [decide_eq_true h2] at hB
   have d2:decide (256≤r.head)=false:=decide_eq_false (by omega)
   have d2':¬ 256≤r.head:=by omega
   by_cases h3:512≤r.n
   ·
    rw [decide_eq_true h3] at hB
    have d3:decide (r.n<512)=false:=decide_eq_false (by omega)
    have d3':¬ r.n<512:=by omega
    by_cases h4:r.n≤1048576
    ·
     rw [decide_eq_true h4] at hB
     have d4:decide (1048576<r.n)=false:=decide_eq_false (by omega)
     have d4':¬ 1048576<r.n:=by omega
     have et:r.n.tmod 512=r.n%512:=Int.tmod_eq_emod_of_nonneg (by omega)
     by_cases h5:r.n%512=0
     ·
      rw [decide_eq_true h5] at hB
      have d5:r.n.tmod 512=0:=by rw [et];exact h5
      have ha:r.l.any (fun x=>!So.segB x pages)=!(r.l.all (fun x=>So.segB x pages)):=by rw [List.not_all_eq_any_not]
      cases hm:r.l.all (fun x=>So.segB x pages) with
      | false =>
       rw [hm] at hB ha
       exact may6 b I r L pages w hp hs hsec hok hn hmax hcap hE d1 d1' d2 d2' d3 d3' d4 d4' d5 (qH ha) (qH (by rw [hB];simp))
      | true =>
       rw [hm] at hB ha
       by_cases h7:r.l.length≤256
       ·
        rw [decide_eq_true h7] at hB
        have l256:L.n≤256:=by omega
        have d7:decide ((256:Int)<(L.n:Int))=false:=decide_eq_false (by omega)
        have d7':¬ (256:Int)<(L.n:Int):=by omega
        have es:IntKind.u64.wrap (r.sector:Int)=(r.sector:Int):=by rw [IntKind.wrap_u64];omega
        cases hwi:zaX b r.sector r.n with
        | false =>
         have e:(decide (r.sector≤b.sectors)&&decide (r.n / 512≤(b.sectors:Int)-r.sector))=false:=hwi
         rw [e] at hB
         exact may8 b I r L pages w hp hs hsec hok hn hmax hcap hE d1 d1' d2 d2' d3 d3' d4 d4' d5 (qH ha) l256 d7 d7' (by omega) h4 es (qH hwi) (qH (by rw [hB];simp))
        | true =>
         have e:(decide (r.sector≤b.sectors)&&decide (r.n / 512≤(b.sectors:Int)-r.sector))=true:=hwi
         rw [e] at hB
         have hall:=List.all_eq_true.1 hm
         have hseg:∀ x∈r.l,x.write=true∧x.n≤1048576:=fun x hx=>by
          have:=hall x hx
          unfold So.segB at this
          simp only [Bool.and_eq_true,decide_eq_true_eq] at this
          exact this.1
         have HWR:=qH (fun x hx=>(hseg x hx).1)
         have HNN:=qH (fun x hx=>(hseg x hx).2)
         cases hw:r.write with
         | true =>
          rw [hw] at hB
          by_cases r1:1≤So.room r.l
          ·
           by_cases r2:So.room r.l≤1048576
           · exact zpv b I r L pages w hp hs hsec hok hn hmax hcap hE d1 d1' d2 d2' d3 d3' d4 d4' d5 (qH ha) l256 d7 d7' (by omega) h4 es (qH hwi) HWR HNN hw r1 r2 (qH (by rw [hB];simp [r1,r2]))
           · exact zpu b I r L pages w hp hs hsec hok hn hmax hcap hE d1 d1' d2 d2' d3 d3' d4 d4' d5 (qH ha) l256 d7 d7' (by omega) h4 es (qH hwi) HWR HNN hw r1 r2 (qH (by rw [hB];simp;omega))
          · exact may9 b I r L pages w hp hs hsec hok hn hmax hcap hE d1 d1' d2 d2' d3 d3' d4 d4' d5 (qH ha) l256 d7 d7' (by omega) h4 es (qH hwi) HWR HNN hw r1 (qH (by rw [hB];simp;omega))
         | false =>
          rw [hw] at hB
          have ew:IntKind.i64.wrap (r.n+1)=r.n+1:=by rw [IntKind.wrap_i64];omega
          by_cases r1:So.room r.l=r.n+1
          · exact zpw b I r L pages w hp hs hsec hok hn hmax hcap hE d1 d1' d2 d2' d3 d3' d4 d4' d5 (qH ha) l256 d7 d7' (by omega) h4 es (qH hwi) HWR HNN hw ew (by simp [r1]) r1 (qH (by rw [hB];simp [r1]))
          · exact zpx b I r L pages w hp hs hsec hok hn hmax hcap hE d1 d1' d2 d2' d3 d3' d4 d4' d5 (qH ha) l256 d7 d7' (by omega) h4 es (qH hwi) HWR HNN hw ew (by simp [r1]) r1 (qH (by rw [hB];simp [r1]))
       ·
        rw [decide_eq_false h7] at hB
        exact may7 b I r L pages w hp hs hsec hok hn hmax hcap hE d1 d1' d2 d2' d3 d3' d4 d4' d5 (qH ha) (by omega) (qH (by rw [hB];simp))
     ·
      rw [decide_eq_false h5] at hB
      have c5:¬ r.n.tmod 512=0:=by rw [et];exact h5
      exact may5 b I r L pages w hp hs hsec hok hn hmax hcap hE d1 d1' d2 d2' d3 d3' d4 d4' c5 (by simp [c5]) h5 (by simp [h5]) (qH (by rw [hB];simp))
    ·
     rw [decide_eq_false h4] at hB
     exact may4 b I r L pages w hp hs hsec hok hn hmax hcap hE d1 d1' d2 d2' d3 d3' (by omega) (qH (by rw [hB];simp))
   ·
    rw [decide_eq_false h3] at hB
    exact may3 b I r L pages w hp hs hsec hok hn hmax hcap hE d1 d1' d2 d2' (by omega) (qH (by rw [hB];simp))
  ·
   rw [decide_eq_false h2] at hB
   exact may2 b I r L pages w hp hs hsec hok hn hmax hcap hE d1 d1' (by omega) (qH (by rw [hB];simp))
 ·
  rw [decide_eq_false h1] at hB
  exact may1 b I r L pages w hp hs hsec hok hn hmax hcap hE (by omega) (qH (by rw [hB];simp))
inductive LK where
 | b
 | i (k:IntKind)
def LK.fits:LK→Value→Prop
 | .b,v=>∃ x,v=.bool x
 | .i k,v=>∃ n,v=.int k n
def zaY:List LK→List Value→Prop
 | [],[]=>True
 | k::ks,v::vs=>k.fits v∧zaY ks vs
 | [],_::_=>False
 | _::_,[]=>False
def eqV:Value→Value→Bool
 | .bool a,.bool b=>a==b
 | .int _ a,.int _ b=>a==b
 | _,_=>false
def eqVs:List Value→List Value→Bool
 | [],[]=>true
 | v::vs,u::us=>eqV v u&&eqVs vs us
 | _,_=>false
def zkt (f:TypeId→Option (List LK)):Nat→List Field→Option (List LK)
 | _,[]=>some []
 | off,x::xs=>if x.name ≠ "_" ∧ x.offset=off then match f x.type with
  | none=>none
  | some a=>match zkt f (off+a.length) xs with
   | none=>none
   | some b=>some (a++b) else none
def plan (P:Program):Nat→TypeId→Option (List LK)
 | 0,_=>none
 | d+1,t=>match P.underlying t with
  | some .bool=>some [.b]
  | some (.int k)=>some [.i k]
  | some (.struct fs)=>if P.stoodInHeld t=true then none else match zkt (plan P d) 0 fs.toList with
   | none=>none
   | some l=>if l.length=P.cellsOf t then some l else none
  | some (.array n e)=>match plan P d e with
   | none=>none
   | some l=>if l.length=P.cellsOf e∧n*l.length=P.cellsOf t then some (List.replicate n l).flatten else none
  | _=>none
def aggT (P:Program) (t:TypeId):Bool:=match P.underlying t with
 | some (.struct _)=>true
 | some (.array _ _)=>true
 | _=>false
def zfS (P:Program) (t:TypeId) (xs:List Value):Value:=if aggT P t then .agg xs.toArray else xs.headD undef
theorem zaR:∀ {l:List LK} {xs:List Value},zaY l xs→xs.length=l.length
 | [],[],_=>rfl
 | _::l,_::xs,h=>by simp [zaR h.2]
 | [],_::_,h=>h.elim
 | _::_,[],h=>h.elim
theorem zaS:∀ {a b:List LK} {xs:List Value},zaY (a++b) xs→∃ xa xb,xs=xa++xb∧zaY a xa∧zaY b xb
 | [],b,xs,h=>⟨[],xs,rfl,trivial,h⟩
 | k::a,b,[],h=>h.elim
 | k::a,b,v::xs,h=>by
  obtain ⟨xa,xb,rfl,h1,h2⟩:=zaS (a:=a) h.2
  exact ⟨v::xa,xb,rfl,⟨h.1,h1⟩,h2⟩
theorem zee {k:LK} {xs:List Value} (h:zaY [k] xs):∃ v,xs=[v]∧k.fits v:=by
 match xs,h with
 | [v],h=>exact ⟨v,rfl,h.1⟩
 | _::_::_,h=>exact h.2.elim
theorem zct:∀ {a c b d:List Value},a.length=c.length→eqVs (a++b) (c++d)=(eqVs a c&&eqVs b d)
 | [],[],b,d,_=>by simp [eqVs]
 | x::a,y::c,b,d,h=>by
  simp only [List.cons_append,eqVs,zct (a:=a) (c:=c) (by simpa using h),Bool.and_assoc]
 | [],_::_,_,_,h=>by simp at h
 | _::_,[],_,_,h=>by simp at h
section
variable {P:Program}
theorem zma {t:TypeId} {ds:TypeDesc} (hu:P.underlying t=some ds) (w:World):(isAgg t).run P w=.ok (aggT P t) w:=by
 cases ds<;>simp [isAgg,aggT,run_underlying hu,hu]
theorem zgY {d:Nat} {t:TypeId} {l:List LK} (h:plan P d t=some l):aggT P t=true→l.length=P.cellsOf t:=by
 intro ha
 cases d with
 | zero=>simp [plan] at h
 | succ d =>
  unfold plan at h
  cases hu:P.underlying t with
  | none=>simp [hu] at h
  | some ds =>
   cases ds<;>simp only [hu,Option.some.injEq,reduceCtorEq] at h<;>(try (simp [aggT,hu] at ha;done))
   case array n e =>
    split at h
    · cases h
    ·
     rename_i l' hl'
     split at h
     ·
      rename_i hc
      simp only [Option.some.injEq] at h
      rw [←h,←hc.2]
      simp [List.length_flatten]
     · cases h
   case struct fs =>
    split at h
    · cases h
    ·
     split at h
     · cases h
     ·
      rename_i l' hl'
      split at h
      ·
       rename_i hc
       simp only [Option.some.injEq] at h
       rw [←h];exact hc
      · cases h
theorem zef {d:Nat} {t:TypeId} {l:List LK} (h:plan P d t=some l) (ha:aggT P t=false):∃ k,l=[k]∧((k=.b∧P.underlying t=some .bool)∨∃ q,k=.i q∧P.underlying t=some (.int q)):=by
 cases d with
 | zero=>simp [plan] at h
 | succ d =>
  unfold plan at h
  cases hu:P.underlying t with
  | none=>simp [hu] at h
  | some ds =>
   cases ds<;>simp only [hu,Option.some.injEq,reduceCtorEq] at h<;>(try (simp [aggT,hu] at ha;done))
   case bool=>exact ⟨.b,h.symm,.inl ⟨rfl,rfl⟩⟩
   case int q=>exact ⟨.i q,h.symm,.inr ⟨q,rfl,rfl⟩⟩
theorem zhI {d:Nat} {t:TypeId} {l:List LK} (h:plan P d t=some l):∃ ds,P.underlying t=some ds:=by
 cases d with
 | zero=>simp [plan] at h
 | succ d =>
  unfold plan at h
  cases hu:P.underlying t with
  | none=>simp [hu] at h
  | some ds=>exact ⟨ds,rfl⟩
theorem za1 {d:Nat} {t:TypeId} {l:List LK} (h:plan P d t=some l) {cs:Array Value} {off:Nat} {xs:List Value} (hx:(cs.toList.drop off).take l.length=xs) (hf:zaY l xs) (w:World):(part t cs off).run P w=.ok (zfS P t xs) w:=by
 obtain ⟨ds,hu⟩:=zhI h
 obtain ⟨i,hi⟩:=info_of_underlying hu
 unfold part
 simp only [Sem.run_bind,zma hu,Result.andThen_ok,zfS]
 cases ha:aggT P t with
 | true =>
  have hl:=zgY h ha
  simp only [if_true,Sem.run_bind,run_sizeOf w hi,Result.andThen_ok,Sem.run_pure]
  have e:(cs.extract off (off+P.cellsOf t)).toList=xs:=by
   rw [←hx,hl,Array.toList_extract]
   simp [List.extract]
  rw [←e]
 | false =>
  obtain ⟨k,rfl,_⟩:=zef h ha
  obtain ⟨v,rfl,_⟩:=zee hf
  have e:cs[off]?=some v:=by
   rw [←Array.getElem?_toList]
   have h1:((cs.toList.drop off).take 1)[0]?=some v:=by
    have h2:(cs.toList.drop off).take 1=[v]:=hx
    rw [h2]
    rfl
   simpa using h1
  simp [e]
def zhJ (P:Program) (D:Nat) (t:TypeId) (l:List LK):Prop:=∀ (xs ys:List Value) (w:World),zaY l xs→zaY l ys→(Op.equalIn D t (zfS P t xs) (zfS P t ys)).run P w=.ok (eqVs xs ys) w
theorem za2 {α:Type} (l:List α) (off n:Nat) {a b:List α} (h:l.drop off=a++b) (hn:a.length=n):(l.drop off).take n=a∧l.drop (off+n)=b:=by
 subst hn
 refine ⟨by rw [h];simp,?_⟩
 rw [←List.drop_drop,h]
 simp
theorem zbZ (d D:Nat) (IH:∀ t l,plan P d t=some l→zhJ P D t l) (cs ds:Array Value):∀ (fs:List Field) (off:Nat) (l:List LK) (xs ys:List Value) (w:World),zkt (plan P d) off fs=some l→cs.toList.drop off=xs→ds.toList.drop off=ys→zaY l xs→zaY l ys →
  (Op.eqFields D cs ds fs).run P w=.ok (eqVs xs ys) w
 | [],off,l,xs,ys,w,h,hx,hy,fx,fy=>by
  simp only [zkt,Option.some.injEq] at h
  subst h
  match xs,ys,fx,fy with
  | [],[],_,_=>simp [Op.eqFields,eqVs]
 | f::fs,off,l,xs,ys,w,h,hx,hy,fx,fy=>by
  unfold zkt at h
  split at h
  ·
   rename_i hc
   split at h
   · cases h
   ·
    rename_i a ha
    split at h
    · cases h
    ·
     rename_i b hb
     simp only [Option.some.injEq] at h
     subst h
     obtain ⟨xa,xb,rfl,fx1,fx2⟩:=zaS fx
     obtain ⟨ya,yb,rfl,fy1,fy2⟩:=zaS fy
     have lx:=zaR fx1
     have ly:=zaR fy1
     obtain ⟨x1,x2⟩:=za2 cs.toList off a.length hx lx
     obtain ⟨y1,y2⟩:=za2 ds.toList off a.length hy ly
     have p1:=za1 ha x1 fx1
     have p2:=za1 ha y1 fy1
     have p3:=IH _ _ ha xa ya w fx1 fy1
     have p4:=zbZ d D IH cs ds fs (off+a.length) b xb yb w hb x2 y2 fx2 fy2
     have hn:f.name ≠ "_" := hc.1
     rw [←hc.2] at p1 p2
     simp only [Op.eqFields,hn,ne_eq,not_false_eq_true,if_true,Sem.run_bind,p1,p2,p3,Result.andThen_ok,zct (by rw [lx,ly]:xa.length=ya.length)]
     cases eqVs xa ya
     · simp
     · simpa using p4
  · cases h
theorem zcg (d D:Nat) (e:TypeId) (l:List LK) (he:plan P d e=some l) (IH:zhJ P D e l) (cs ds:Array Value):∀ (n s:Nat) (xs ys:List Value) (w:World),cs.toList.drop (s*l.length)=xs→ds.toList.drop (s*l.length)=ys→zaY (List.replicate n l).flatten xs→zaY (List.replicate n l).flatten ys →
  (Op.eqItems D e l.length cs ds (List.range' s n)).run P w=.ok (eqVs xs ys) w
 | 0,s,xs,ys,w,hx,hy,fx,fy=>by
  match xs,ys,fx,fy with
  | [],[],_,_=>simp [Op.eqItems,eqVs]
 | n+1,s,xs,ys,w,hx,hy,fx,fy=>by
  rw [List.replicate_succ,List.flatten_cons] at fx fy
  obtain ⟨xa,xb,rfl,fx1,fx2⟩:=zaS fx
  obtain ⟨ya,yb,rfl,fy1,fy2⟩:=zaS fy
  have lx:=zaR fx1
  have ly:=zaR fy1
  obtain ⟨x1,x2⟩:=za2 cs.toList (s*l.length) l.length hx lx
  obtain ⟨y1,y2⟩:=za2 ds.toList (s*l.length) l.length hy ly
  have p1:=za1 he x1 fx1
  have p2:=za1 he y1 fy1
  have p3:=IH xa ya w fx1 fy1
  have p4:=zcg d D e l he IH cs ds n (s+1) xb yb w (by rw [Nat.add_mul,Nat.one_mul];exact x2) (by rw [Nat.add_mul,Nat.one_mul];exact y2) fx2 fy2
  rw [List.range'_succ]
  simp only [Op.eqItems,Sem.run_bind,p1,p2,p3,Result.andThen_ok,zct (by rw [lx,ly]:xa.length=ya.length)]
  cases eqVs xa ya
  · simp
  · simpa using p4
theorem zcu:∀ (d:Nat) (t:TypeId) (l:List LK),plan P d t=some l→∀ D,d≤D→zhJ P D t l
 | 0,_,_,h=>by simp [plan] at h
 | d+1,t,l,h=>fun D hD xs ys w fx fy=>by
  obtain ⟨D,rfl⟩:∃ D',D=D'+1:=⟨D-1,by omega⟩
  have IH:∀ t l,plan P d t=some l→zhJ P D t l:=fun t l h=>zcu d t l h D (by omega)
  cases ha:aggT P t with
  | false =>
   obtain ⟨k,rfl,hk⟩:=zef h ha
   obtain ⟨x,rfl,gx⟩:=zee fx
   obtain ⟨y,rfl,gy⟩:=zee fy
   simp only [zfS,ha,Bool.false_eq_true,if_false,List.headD_cons,eqVs,Bool.and_true]
   rcases hk with ⟨rfl,hu⟩ | ⟨q,rfl,hu⟩
   ·
    obtain ⟨a,rfl⟩:=gx
    obtain ⟨b,rfl⟩:=gy
    exact run_equalIn_bool w D t a b hu
   ·
    obtain ⟨a,rfl⟩:=gx
    obtain ⟨b,rfl⟩:=gy
    exact run_equalIn_int w D t q q a b hu
  | true =>
   simp only [zfS,ha,if_true]
   unfold plan at h
   cases hu:P.underlying t with
   | none=>simp [hu] at h
   | some ds =>
    cases ds<;>simp only [hu,Option.some.injEq,reduceCtorEq] at h<;>(try (simp [aggT,hu] at ha;done))
    case array n e =>
     split at h
     · cases h
     ·
      rename_i l' hl'
      split at h
      ·
       rename_i hc
       simp only [Option.some.injEq] at h
       subst h
       obtain ⟨ds,hue⟩:=zhI hl'
       obtain ⟨i,hi⟩:=info_of_underlying hue
       rw [run_equalIn_array w D _ _ hu hi,←hc.1,List.range_eq_range']
       exact zcg d D e l' hl' (IH _ _ hl') _ _ n 0 xs ys w (by simp) (by simp) fx fy
      · cases h
    case struct fs =>
     split at h
     · cases h
     ·
      rename_i hst
      split at h
      · cases h
      ·
       rename_i l' hl'
       split at h
       ·
        rename_i hc
        simp only [Option.some.injEq] at h
        subst h
        have hfs:P.fieldsOf t=fs:=by simp [Program.fieldsOf,hu]
        rw [run_equalIn_struct w D t _ _ (by rw [hfs];exact hu) (by simpa using hst),hfs]
        exact zbZ d D IH _ _ fs.toList 0 l' xs ys w hl' (by simp) (by simp) fx fy
       · cases h
theorem znQ {d:Nat} {t:TypeId} {l:List LK} (h:plan P d t=some l) (hd:d≤10000) (ha:aggT P t=true) {xs ys:List Value} (fx:zaY l xs) (fy:zaY l ys) (W:World):(binOp .eql t (.agg xs.toArray) (.agg ys.toArray)).run P W=.ok (.bool (eqVs xs ys)) W:=by
 have h1:=zcu d t l h 10000 hd xs ys W fx fy
 simp only [zfS,ha,if_true] at h1
 rw [run_eql_struct,h1]
 rfl
theorem znR {d:Nat} {t:TypeId} {l:List LK} (h:plan P d t=some l) (hd:d≤10000) (ha:aggT P t=true) {xs ys:List Value} (fx:zaY l xs) (fy:zaY l ys) (W:World):(binOp .neq t (.agg xs.toArray) (.agg ys.toArray)).run P W=.ok (.bool (!(eqVs xs ys))) W:=by
 have h1:=zcu d t l h 10000 hd xs ys W fx fy
 simp only [zfS,ha,if_true] at h1
 rw [run_neq_struct,h1]
 rfl
end
section
variable {P:Program} {op:Oper} {a:Act} {w:World} {K:Act→World→Prop} {Q:Exit→Act→World→Prop}
theorem zeO (t t2 : TypeId) (x y : Operand) (ho : op.op = .binOp .neq t x y t2) {d : Nat} {l : List LK} (h : plan P d t = some l) (hd : d ≤ 10000) (ha : aggT P t = true) (hm : P.eqGuardType P.depth t = false) {xs ys : List Value} (fx : zaY l xs) (fy : zaY l ys)
    (hx:a.eval x=.agg xs.toArray) (hy:a.eval y=.agg ys.toArray) (hK:K (a.put op.dst (.bool (!(eqVs xs ys)))) w):op.wp P a w K Q:=by
  unfold Oper.wp execOp
  simp only [ho,hx,hy,Sem.run_bind,Sem.run_pure,Result.andThen_ok,run_eqGuard_agg w .neq t x y _ _ hm,znR h hd ha fx fy w]
  exact hK
theorem zaq {ops : Array Oper} {rest : List Oper} (t t2 : TypeId) (x y : Operand) (ho : op.op = .binOp .neq t x y t2) {d : Nat} {l : List LK} (h : plan P d t = some l) (hd : d ≤ 10000) (ha : aggT P t = true) (hm : P.eqGuardType P.depth t = false) {xs ys : List Value} (fx : zaY l xs) (fy : zaY l ys)
    (hx:a.eval x=.agg xs.toArray) (hy:a.eval y=.agg ys.toArray) (hw:Region.wanted op (yielded ops a.tmps)=true) (hK:wpList P ops Q rest (a.put op.dst (.bool (!(eqVs xs ys)))) w):wpList P ops Q (op::rest) a w :=
  wpList_step fun K hk => by
    rw [if_pos hw]
    exact zeO t t2 x y ho h hd ha hm fx fy hx hy (hk _ _ hK)
end
theorem zaT:∀ {l:List LK} {xs:List Value},zaY l xs→eqVs xs xs=true
 | [],[],_=>rfl
 | k::l,v::xs,h=>by
  simp only [eqVs,zaT h.2,Bool.and_true]
  cases k with
  | b =>
   obtain ⟨x,rfl⟩:=h.1
   simp [eqV]
  | i q =>
   obtain ⟨x,rfl⟩:=h.1
   simp [eqV]
 | [],_::_,h=>h.elim
 | _::_,[],h=>h.elim
end Go.Proofs.YtdffbihilhkkjaaGreatDoor
