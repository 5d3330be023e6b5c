import Derived.Test.YtdffbihilhkkjaaGreatDoorZ8
import Derived.Test.YtdffbihilhkkjaaGreatDoorZ13
import Derived.Test.YtdffbihilhkkjaaGreatDoorZ23
import Derived.Test.YtdffbihilhkkjaaGreatDoorZ24
import Derived.Test.YtdffbihilhkkjaaGreatDoorZ26
import Derived.Test.YtdffbihilhkkjaaGreatDoorZ27
import Derived.Deep.QuietTactic
import Derived.BigQuiet
namespace Go.Proofs.YtdffbihilhkkjaaGreatDoor
open Go.RowKit
set_option linter.unusedVariables false
set_option linter.unusedSimpArgs false
set_option maxRecDepth 100000
set_option maxHeartbeats 8000000
theorem zcR:∀ args w,(callFunc 148 args).run Tryz.prog w=.ok (.enter 148 args) w:=enters_of Tryz.func148 (by kernel_rfl) rfl
theorem zb1 (zs:List Nat) (w:World):zcP 148 #[] (fun x:Nat=>Value.int .u32 (x:Int)) (fun x=>decide (7<x)) zs w:=fun W x _ hb=>by
 show Calls Tryz.prog 148 #[.int .u32 (x:Int)] W _
 by_cases h:7<x
 ·
  have h':(7:Int)<(x:Int):=by omega
  have HD:=qH (decide_eq_true h)
  clear h
  go_enter Tryz.func148,Tryz.ntmps148
  go_wp2_with fail
  go_ret
  exact ⟨by rw [HD.out];simp [h'],hb⟩
 ·
  have h':¬ (7:Int)<(x:Int):=by omega
  have HD:=qH (decide_eq_false h)
  clear h
  go_enter Tryz.func148,Tryz.ntmps148
  go_wp2_with fail
  go_ret
  exact ⟨by rw [HD.out];simp [h'],hb⟩
def priL (p:So.Plic):List Nat:=(List.range 8).map p.pri
theorem znT (p:So.Plic):(priL p).any (fun x=>decide (7<x))=!((List.range 8).all (fun i=>decide (p.pri i≤7))):=by
 rw [priL,List.any_map,List.not_all_eq_any_not]
 congr 1
 funext i
 by_cases h:7<p.pri i
 ·
  have h2:¬ p.pri i≤7:=by omega
  simp [h,h2]
 ·
  have h2:p.pri i≤7:=by omega
  simp [h,h2]
theorem zb2 {w:World} {g:Nat} {p:So.Plic} (h:Blk w g (So.plicL p).toArray 76):zaj w (some ⟨g,0,none⟩) 1 (fun x:Nat=>[Value.int .u32 (x:Int)]) (priL p):=fun j x hx=>by
 have hj:j<8:=by
  have:=(List.getElem?_eq_some_iff.1 hx).1
  simpa [priL] using this
 refine ⟨g,0,rfl,fun i v hv=>?_⟩
 have hi:i=0:=by
  have:=(List.getElem?_eq_some_iff.1 hv).1
  simpa using this
 subst hi
 have hv:Value.int .u32 (x:Int)=v:=by simpa using hv
 subst hv
 have e:0+j*1+0=j:=by omega
 rw [e]
 refine h.cell j ?_
 rw [List.getElem?_toArray]
 unfold So.plicL
 rw [List.getElem?_append_left (by simpa using hj)]
 have hx2:p.pri j=x:=by
  have h3:(priL p)[j]?=some (p.pri j):=by simp [priL,hj]
  rw [h3] at hx
  exact Option.some.inj hx
 simp [hj,hx2]
theorem zfi (p:So.Plic) (hok:p.Ok) (w:World):Calls Tryz.prog 82 #[.agg (So.plicL p).toArray] w (CkP w (So.plicB p)):=by
 have e4:bits .or .u32 (bits .or .u32 (p.enable:Int) (p.pending:Int)) (p.busy:Int)=((p.enable ||| p.pending ||| p.busy:Nat):Int):=by
  rw [u32_or_nat p.enable p.pending hok.2.1 hok.2.2.2.1]
  exact u32_or_nat _ p.busy (Nat.or_lt_two_pow (n:=32) hok.2.1 hok.2.2.2.1) hok.2.2.2.2
 have e5:bits .andNot .u32 (bits .or .u32 (bits .or .u32 (p.enable:Int) (p.pending:Int)) (p.busy:Int)) 254=(((p.enable ||| p.pending ||| p.busy)&&&4294967041:Nat):Int):=by
  rw [e4]
  exact u32_andNot_nat _ 254 (Nat.or_lt_two_pow (n:=32) (Nat.or_lt_two_pow (n:=32) hok.2.1 hok.2.2.2.1) hok.2.2.2.2) (by decide)
 clear e4
 have hBB:So.plicB p=((List.range 8).all (fun i=>decide (p.pri i≤7))&&p.pri 0==0&&decide (p.threshold≤7)&&(p.enable ||| p.pending ||| p.busy)&&&4294967041==0):=rfl
 obtain ⟨b4,hb4⟩:=qX ((p.enable ||| p.pending ||| p.busy)&&&4294967041)
 rw [hb4] at e5 hBB
 have hA:=znT p
 obtain ⟨b1,hb1⟩:=qX ((List.range 8).all (fun i=>decide (p.pri i≤7)))
 rw [hb1] at hA hBB
 have HA:=qH hA
 have HB:=qH hBB
 clear hBB hb4 hb1 hok hA
 cases b1 with
 | false =>
  go_enter Tryz.func82,Tryz.ntmps82
  go_upto_region 1 with (fail)
  have hB:=Blk.new w (So.plicL p).toArray 76
  have hbel:=za (Below.refl w.heap.size w) (.cells (So.plicL p).toArray 76)
  generalize w.alloc (.cells (So.plicL p).toArray 76)=W1 at hB hbel ⊢
  obtain ⟨g,hg⟩:=qX w.heap.size
  rw [hg] at hB ⊢
  clear hg
  have hE:=zb2 hB
  have k0:W1.cell? ⟨g,0,none⟩=some (.int .u32 (p.pri 0:Int)):=hB.cell 0 rfl
  have k8:W1.cell? ⟨g,8,none⟩=some (.int .u32 (p.enable:Int)):=hB.cell 8 rfl
  have k9:W1.cell? ⟨g,9,none⟩=some (.int .u32 (p.threshold:Int)):=hB.cell 9 rfl
  have k10:W1.cell? ⟨g,10,none⟩=some (.int .u32 (p.pending:Int)):=hB.cell 10 rfl
  have k11:W1.cell? ⟨g,11,none⟩=some (.int .u32 (p.busy:Int)):=hB.cell 11 rfl
  go_wp2_with (first | (go_at_call 149;refine (zed 148 #[] zcR (some ⟨g,0,none⟩) 8 8 (priL p) _ (by simp [priL]) (by decide) (by decide) hE _ (zb1 _ _)).mono ?_;rintro e w2 ⟨rfl,hb2⟩;rw [HA.out];have k0:=(hB.keep hb2).cell 0 (v:=.int .u32 (p.pri 0:Int)) rfl;have k8:=(hB.keep hb2).cell 8 (v:=.int .u32 (p.enable:Int)) rfl;have k9:=(hB.keep hb2).cell 9 (v:=.int .u32 (p.threshold:Int)) rfl;have k10:=(hB.keep hb2).cell 10 (v:=.int .u32 (p.pending:Int)) rfl;have k11:=(hB.keep hb2).cell 11 (v:=.int .u32 (p.busy:Int)) rfl;  have hbel2:=zb hbel hb2) | fail)
  go_ret
  exact zu (by rw [HB.out];rfl) hbel2
 | true =>
  by_cases g2:p.pri 0=0
  ·
   have n2:(p.pri 0:Int)=0:=by omega
   have f2:=qH g2
   clear g2
   by_cases g3:p.threshold≤7
   ·
    have n3:(p.threshold:Int)≤7:=by omega
    have f3:=qH (decide_eq_true g3)
    clear g3
    by_cases g4:b4=0
    ·
     rw [g4] at e5
     have f4:=qH g4
     clear g4
     have e5':bits .andNot .u32 (bits .or .u32 (bits .or .u32 (p.enable:Int) (p.pending:Int)) (p.busy:Int)) 254=0:=e5
     clear e5
     go_enter Tryz.func82,Tryz.ntmps82
     go_upto_region 1 with (fail)
     have hB:=Blk.new w (So.plicL p).toArray 76
     have hbel:=za (Below.refl w.heap.size w) (.cells (So.plicL p).toArray 76)
     generalize w.alloc (.cells (So.plicL p).toArray 76)=W1 at hB hbel ⊢
     obtain ⟨g,hg⟩:=qX w.heap.size
     rw [hg] at hB ⊢
     clear hg
     have hE:=zb2 hB
     have k0:W1.cell? ⟨g,0,none⟩=some (.int .u32 (p.pri 0:Int)):=hB.cell 0 rfl
     have k8:W1.cell? ⟨g,8,none⟩=some (.int .u32 (p.enable:Int)):=hB.cell 8 rfl
     have k9:W1.cell? ⟨g,9,none⟩=some (.int .u32 (p.threshold:Int)):=hB.cell 9 rfl
     have k10:W1.cell? ⟨g,10,none⟩=some (.int .u32 (p.pending:Int)):=hB.cell 10 rfl
     have k11:W1.cell? ⟨g,11,none⟩=some (.int .u32 (p.busy:Int)):=hB.cell 11 rfl
     go_wp2_with (first | (go_at_call 149;refine (zed 148 #[] zcR (some ⟨g,0,none⟩) 8 8 (priL p) _ (by simp [priL]) (by decide) (by decide) hE _ (zb1 _ _)).mono ?_;rintro e w2 ⟨rfl,hb2⟩;rw [HA.out];have k0:=(hB.keep hb2).cell 0 (v:=.int .u32 (p.pri 0:Int)) rfl;have k8:=(hB.keep hb2).cell 8 (v:=.int .u32 (p.enable:Int)) rfl;have k9:=(hB.keep hb2).cell 9 (v:=.int .u32 (p.threshold:Int)) rfl;have k10:=(hB.keep hb2).cell 10 (v:=.int .u32 (p.pending:Int)) rfl;have k11:=(hB.keep hb2).cell 11 (v:=.int .u32 (p.busy:Int)) rfl;  have hbel2:=zb hbel hb2) | fail)
     go_ret
     exact zU (by rw [HB.out];rw [f2.out,f3.out,f4.out];rfl) hbel2
    ·
     have n4:¬ ((b4:Int)=0):=by omega
     have n4':((b4:Int) != 0)=true:=by simp;omega
     have f4:Hid ((b4==0)=false):=qH (by simp [g4])
     clear g4
     go_enter Tryz.func82,Tryz.ntmps82
     go_upto_region 1 with (fail)
     have hB:=Blk.new w (So.plicL p).toArray 76
     have hbel:=za (Below.refl w.heap.size w) (.cells (So.plicL p).toArray 76)
     generalize w.alloc (.cells (So.plicL p).toArray 76)=W1 at hB hbel ⊢
     obtain ⟨g,hg⟩:=qX w.heap.size
     rw [hg] at hB ⊢
     clear hg
     have hE:=zb2 hB
     have k0:W1.cell? ⟨g,0,none⟩=some (.int .u32 (p.pri 0:Int)):=hB.cell 0 rfl
     have k8:W1.cell? ⟨g,8,none⟩=some (.int .u32 (p.enable:Int)):=hB.cell 8 rfl
     have k9:W1.cell? ⟨g,9,none⟩=some (.int .u32 (p.threshold:Int)):=hB.cell 9 rfl
     have k10:W1.cell? ⟨g,10,none⟩=some (.int .u32 (p.pending:Int)):=hB.cell 10 rfl
     have k11:W1.cell? ⟨g,11,none⟩=some (.int .u32 (p.busy:Int)):=hB.cell 11 rfl
     go_wp2_with (first | (go_at_call 149;refine (zed 148 #[] zcR (some ⟨g,0,none⟩) 8 8 (priL p) _ (by simp [priL]) (by decide) (by decide) hE _ (zb1 _ _)).mono ?_;rintro e w2 ⟨rfl,hb2⟩;rw [HA.out];have k0:=(hB.keep hb2).cell 0 (v:=.int .u32 (p.pri 0:Int)) rfl;have k8:=(hB.keep hb2).cell 8 (v:=.int .u32 (p.enable:Int)) rfl;have k9:=(hB.keep hb2).cell 9 (v:=.int .u32 (p.threshold:Int)) rfl;have k10:=(hB.keep hb2).cell 10 (v:=.int .u32 (p.pending:Int)) rfl;have k11:=(hB.keep hb2).cell 11 (v:=.int .u32 (p.busy:Int)) rfl;  have hbel2:=zb hbel hb2) | fail)
     go_ret
     exact zu (by rw [HB.out];rw [f4.out];simp) hbel2
   ·
    have n3:¬ ((p.threshold:Int)≤7):=by omega
    have f3:=qH (decide_eq_false g3)
    clear g3
    go_enter Tryz.func82,Tryz.ntmps82
    go_upto_region 1 with (fail)
    have hB:=Blk.new w (So.plicL p).toArray 76
    have hbel:=za (Below.refl w.heap.size w) (.cells (So.plicL p).toArray 76)
    generalize w.alloc (.cells (So.plicL p).toArray 76)=W1 at hB hbel ⊢
    obtain ⟨g,hg⟩:=qX w.heap.size
    rw [hg] at hB ⊢
    clear hg
    have hE:=zb2 hB
    have k0:W1.cell? ⟨g,0,none⟩=some (.int .u32 (p.pri 0:Int)):=hB.cell 0 rfl
    have k8:W1.cell? ⟨g,8,none⟩=some (.int .u32 (p.enable:Int)):=hB.cell 8 rfl
    have k9:W1.cell? ⟨g,9,none⟩=some (.int .u32 (p.threshold:Int)):=hB.cell 9 rfl
    have k10:W1.cell? ⟨g,10,none⟩=some (.int .u32 (p.pending:Int)):=hB.cell 10 rfl
    have k11:W1.cell? ⟨g,11,none⟩=some (.int .u32 (p.busy:Int)):=hB.cell 11 rfl
    go_wp2_with (first | (go_at_call 149;refine (zed 148 #[] zcR (some ⟨g,0,none⟩) 8 8 (priL p) _ (by simp [priL]) (by decide) (by decide) hE _ (zb1 _ _)).mono ?_;rintro e w2 ⟨rfl,hb2⟩;rw [HA.out];have k0:=(hB.keep hb2).cell 0 (v:=.int .u32 (p.pri 0:Int)) rfl;have k8:=(hB.keep hb2).cell 8 (v:=.int .u32 (p.enable:Int)) rfl;have k9:=(hB.keep hb2).cell 9 (v:=.int .u32 (p.threshold:Int)) rfl;have k10:=(hB.keep hb2).cell 10 (v:=.int .u32 (p.pending:Int)) rfl;have k11:=(hB.keep hb2).cell 11 (v:=.int .u32 (p.busy:Int)) rfl;  have hbel2:=zb hbel hb2) | fail)
    go_ret
    exact zu (by rw [HB.out];rw [f3.out];simp) hbel2
  ·
   have n2:¬ ((p.pri 0:Int)=0):=by omega
   have f2:Hid ((p.pri 0==0)=false):=qH (by simp [g2])
   clear g2
   go_enter Tryz.func82,Tryz.ntmps82
   go_upto_region 1 with (fail)
   have hB:=Blk.new w (So.plicL p).toArray 76
   have hbel:=za (Below.refl w.heap.size w) (.cells (So.plicL p).toArray 76)
   generalize w.alloc (.cells (So.plicL p).toArray 76)=W1 at hB hbel ⊢
   obtain ⟨g,hg⟩:=qX w.heap.size
   rw [hg] at hB ⊢
   clear hg
   have hE:=zb2 hB
   have k0:W1.cell? ⟨g,0,none⟩=some (.int .u32 (p.pri 0:Int)):=hB.cell 0 rfl
   have k8:W1.cell? ⟨g,8,none⟩=some (.int .u32 (p.enable:Int)):=hB.cell 8 rfl
   have k9:W1.cell? ⟨g,9,none⟩=some (.int .u32 (p.threshold:Int)):=hB.cell 9 rfl
   have k10:W1.cell? ⟨g,10,none⟩=some (.int .u32 (p.pending:Int)):=hB.cell 10 rfl
   have k11:W1.cell? ⟨g,11,none⟩=some (.int .u32 (p.busy:Int)):=hB.cell 11 rfl
   go_wp2_with (first | (go_at_call 149;refine (zed 148 #[] zcR (some ⟨g,0,none⟩) 8 8 (priL p) _ (by simp [priL]) (by decide) (by decide) hE _ (zb1 _ _)).mono ?_;rintro e w2 ⟨rfl,hb2⟩;rw [HA.out];have k0:=(hB.keep hb2).cell 0 (v:=.int .u32 (p.pri 0:Int)) rfl;have k8:=(hB.keep hb2).cell 8 (v:=.int .u32 (p.enable:Int)) rfl;have k9:=(hB.keep hb2).cell 9 (v:=.int .u32 (p.threshold:Int)) rfl;have k10:=(hB.keep hb2).cell 10 (v:=.int .u32 (p.pending:Int)) rfl;have k11:=(hB.keep hb2).cell 11 (v:=.int .u32 (p.busy:Int)) rfl;  have hbel2:=zb hbel hb2) | fail)
   go_ret
   exact zu (by rw [HB.out];rw [f2.out];simp) hbel2
theorem zpy (d:Nat):So.devBy d=1∨So.devBy d=4:=by
 unfold So.devBy
 split<;>simp
theorem zg0 (p:So.Post) (w:World) (hR:RegW w):Calls Tryz.prog 146 #[.agg (So.postL p).toArray] w (zbj w (So.postB p)):=by
 by_cases h1:1≤p.dev
 ·
  by_cases h6:p.dev≤6
  ·
   obtain ⟨d,hd⟩:∃ d:Nat,p.dev=d:=⟨p.dev.toNat,by omega⟩
   have hd1:1≤d:=by omega
   have hd6:d≤6:=by omega
   have hb0:=hR d hd1 hd6
   have HBB:Hid (So.postB p=(decide (p.n=So.devBy d)&&p.at_%(So.devBy d).toNat==0&&decide (p.at_<So.devSize d))):=qH (by
    unfold So.postB
    rw [hd,decide_eq_true (show 1≤(d:Int) by omega),decide_eq_true (show (d:Int)≤6 by omega),Bool.true_and,Bool.true_and])
   have hy:=zpy d
   generalize So.devBy (d:Int)=y at hb0 HBB hy
   generalize So.devSize (d:Int)=z at hb0 HBB
   have hd1':(1:Int)≤(d:Int):=by omega
   have hd6':(d:Int)≤6:=by omega
   have hd0':(0:Int)≤(d:Int):=by omega
   have hd8':(d:Int)<8:=by omega
   clear h1 h6 hR hd1 hd6
   rcases hy with rfl | rfl
   ·
    have ey:((1:Int)).toNat=1:=rfl
    rw [ey] at HBB
    clear ey
    have hw4:IntKind.u32.wrap 1=1:=by decide
    by_cases hn:p.n=1
    ·
     rw [decide_eq_true hn,Bool.true_and] at HBB
     by_cases hm:p.at_%1=0
     ·
      have hm':True:=trivial
      have HBC:Hid (So.postB p=decide (p.at_<z)):=qH (by rw [HBB.out,hm];rfl)
      clear HBB hm
      by_cases hz:p.at_<z
      ·
       have hz':(p.at_:Int)<(z:Int):=by omega
       have HR:Hid (So.postB p=true):=qH (by rw [HBC.out,decide_eq_true hz])
       clear HBC hz
       go_enter Tryz.func146,Tryz.ntmps146
       go_upto_region 1 with (fail)
       have hB:=Blk.new w (So.postL p).toArray 188
       have hbel:=za (Below.refl w.heap.size w) (.cells (So.postL p).toArray 188)
       generalize w.alloc (.cells (So.postL p).toArray 188)=W1 at hB hbel ⊢
       have hbel0:=hbel
       obtain ⟨g,hg⟩:=qX w.heap.size
       rw [hg] at hB ⊢
       clear hg
       have k0:W1.cell? ⟨g,0,none⟩=some (.int .i64 p.dev):=hB.cell 0 rfl
       have k1:W1.cell? ⟨g,1,none⟩=some (.int .u32 (p.at_:Int)):=hB.cell 1 rfl
       have k2:W1.cell? ⟨g,2,none⟩=some (.int .i64 p.n):=hB.cell 2 rfl
       rw [hd] at k0
       clear hd
       have q1:W1.cell? ⟨1,d*3+1,none⟩=some (.int .u32 (z:Int)):=zm hb0.1 hbel0
       have q2:W1.cell? ⟨1,d*3+2,none⟩=some (.int .i64 1):=zm hb0.2 hbel0
       clear hb0 hbel0
       rw [hn] at k2
       clear hn
       go_quiet (fail)
       go_upto_region 3 with (fail)
       go_quiet (fail)
       go_wp2_with fail
       go_ret
       first
        | exact z0 HR.out (zI hbel _)
        | exact z0 HR.out (zI (zI hbel _) _)
      ·
       have hz':¬ (p.at_:Int)<(z:Int):=by omega
       have HR:Hid (So.postB p=false):=qH (by rw [HBC.out,decide_eq_false hz])
       clear HBC hz
       go_enter Tryz.func146,Tryz.ntmps146
       go_upto_region 1 with (fail)
       have hB:=Blk.new w (So.postL p).toArray 188
       have hbel:=za (Below.refl w.heap.size w) (.cells (So.postL p).toArray 188)
       generalize w.alloc (.cells (So.postL p).toArray 188)=W1 at hB hbel ⊢
       have hbel0:=hbel
       obtain ⟨g,hg⟩:=qX w.heap.size
       rw [hg] at hB ⊢
       clear hg
       have k0:W1.cell? ⟨g,0,none⟩=some (.int .i64 p.dev):=hB.cell 0 rfl
       have k1:W1.cell? ⟨g,1,none⟩=some (.int .u32 (p.at_:Int)):=hB.cell 1 rfl
       have k2:W1.cell? ⟨g,2,none⟩=some (.int .i64 p.n):=hB.cell 2 rfl
       rw [hd] at k0
       clear hd
       have q1:W1.cell? ⟨1,d*3+1,none⟩=some (.int .u32 (z:Int)):=zm hb0.1 hbel0
       have q2:W1.cell? ⟨1,d*3+2,none⟩=some (.int .i64 1):=zm hb0.2 hbel0
       clear hb0 hbel0
       rw [hn] at k2
       clear hn
       go_quiet (fail)
       go_upto_region 3 with (fail)
       go_quiet (fail)
       go_wp2_with fail
       go_ret
       first
        | exact z0 HR.out (zI hbel _)
        | exact z0 HR.out (zI (zI hbel _) _)
     · exact absurd (Nat.mod_one _) hm
    ·
     have HR:Hid (So.postB p=false):=qH (by rw [HBB.out,decide_eq_false hn];rfl)
     clear HBB
     go_enter Tryz.func146,Tryz.ntmps146
     go_upto_region 1 with (fail)
     have hB:=Blk.new w (So.postL p).toArray 188
     have hbel:=za (Below.refl w.heap.size w) (.cells (So.postL p).toArray 188)
     generalize w.alloc (.cells (So.postL p).toArray 188)=W1 at hB hbel ⊢
     have hbel0:=hbel
     obtain ⟨g,hg⟩:=qX w.heap.size
     rw [hg] at hB ⊢
     clear hg
     have k0:W1.cell? ⟨g,0,none⟩=some (.int .i64 p.dev):=hB.cell 0 rfl
     have k1:W1.cell? ⟨g,1,none⟩=some (.int .u32 (p.at_:Int)):=hB.cell 1 rfl
     have k2:W1.cell? ⟨g,2,none⟩=some (.int .i64 p.n):=hB.cell 2 rfl
     rw [hd] at k0
     clear hd
     have q1:W1.cell? ⟨1,d*3+1,none⟩=some (.int .u32 (z:Int)):=zm hb0.1 hbel0
     have q2:W1.cell? ⟨1,d*3+2,none⟩=some (.int .i64 1):=zm hb0.2 hbel0
     clear hb0 hbel0
     generalize p.n=pn at k2 hn
     have hn':(pn != 1)=true:=by simp [hn]
     go_quiet (fail)
     go_wp2_with fail
     go_ret
     exact z0 HR.out (zI hbel _)
   ·
    have ey:((4:Int)).toNat=4:=rfl
    rw [ey] at HBB
    clear ey
    have hw4:IntKind.u32.wrap 4=4:=by decide
    by_cases hn:p.n=4
    ·
     rw [decide_eq_true hn,Bool.true_and] at HBB
     by_cases hm:p.at_%4=0
     ·
      have hm':(p.at_:Int)%4=0:=by omega
      have HBC:Hid (So.postB p=decide (p.at_<z)):=qH (by rw [HBB.out,hm];rfl)
      clear HBB hm
      by_cases hz:p.at_<z
      ·
       have hz':(p.at_:Int)<(z:Int):=by omega
       have HR:Hid (So.postB p=true):=qH (by rw [HBC.out,decide_eq_true hz])
       clear HBC hz
       go_enter Tryz.func146,Tryz.ntmps146
       go_upto_region 1 with (fail)
       have hB:=Blk.new w (So.postL p).toArray 188
       have hbel:=za (Below.refl w.heap.size w) (.cells (So.postL p).toArray 188)
       generalize w.alloc (.cells (So.postL p).toArray 188)=W1 at hB hbel ⊢
       have hbel0:=hbel
       obtain ⟨g,hg⟩:=qX w.heap.size
       rw [hg] at hB ⊢
       clear hg
       have k0:W1.cell? ⟨g,0,none⟩=some (.int .i64 p.dev):=hB.cell 0 rfl
       have k1:W1.cell? ⟨g,1,none⟩=some (.int .u32 (p.at_:Int)):=hB.cell 1 rfl
       have k2:W1.cell? ⟨g,2,none⟩=some (.int .i64 p.n):=hB.cell 2 rfl
       rw [hd] at k0
       clear hd
       have q1:W1.cell? ⟨1,d*3+1,none⟩=some (.int .u32 (z:Int)):=zm hb0.1 hbel0
       have q2:W1.cell? ⟨1,d*3+2,none⟩=some (.int .i64 4):=zm hb0.2 hbel0
       clear hb0 hbel0
       rw [hn] at k2
       clear hn
       go_quiet (fail)
       go_upto_region 3 with (fail)
       go_quiet (fail)
       go_wp2_with fail
       go_ret
       first
        | exact z0 HR.out (zI hbel _)
        | exact z0 HR.out (zI (zI hbel _) _)
      ·
       have hz':¬ (p.at_:Int)<(z:Int):=by omega
       have HR:Hid (So.postB p=false):=qH (by rw [HBC.out,decide_eq_false hz])
       clear HBC hz
       go_enter Tryz.func146,Tryz.ntmps146
       go_upto_region 1 with (fail)
       have hB:=Blk.new w (So.postL p).toArray 188
       have hbel:=za (Below.refl w.heap.size w) (.cells (So.postL p).toArray 188)
       generalize w.alloc (.cells (So.postL p).toArray 188)=W1 at hB hbel ⊢
       have hbel0:=hbel
       obtain ⟨g,hg⟩:=qX w.heap.size
       rw [hg] at hB ⊢
       clear hg
       have k0:W1.cell? ⟨g,0,none⟩=some (.int .i64 p.dev):=hB.cell 0 rfl
       have k1:W1.cell? ⟨g,1,none⟩=some (.int .u32 (p.at_:Int)):=hB.cell 1 rfl
       have k2:W1.cell? ⟨g,2,none⟩=some (.int .i64 p.n):=hB.cell 2 rfl
       rw [hd] at k0
       clear hd
       have q1:W1.cell? ⟨1,d*3+1,none⟩=some (.int .u32 (z:Int)):=zm hb0.1 hbel0
       have q2:W1.cell? ⟨1,d*3+2,none⟩=some (.int .i64 4):=zm hb0.2 hbel0
       clear hb0 hbel0
       rw [hn] at k2
       clear hn
       go_quiet (fail)
       go_upto_region 3 with (fail)
       go_quiet (fail)
       go_wp2_with fail
       go_ret
       first
        | exact z0 HR.out (zI hbel _)
        | exact z0 HR.out (zI (zI hbel _) _)
     ·
      have hm':¬ (p.at_:Int)%4=0:=by omega
      have hm2:((p.at_:Int)%4==0)=false:=by simp [hm']
      have HR:Hid (So.postB p=false):=qH (by rw [HBB.out];simp [hm])
      clear HBB hm
      go_enter Tryz.func146,Tryz.ntmps146
      go_upto_region 1 with (fail)
      have hB:=Blk.new w (So.postL p).toArray 188
      have hbel:=za (Below.refl w.heap.size w) (.cells (So.postL p).toArray 188)
      generalize w.alloc (.cells (So.postL p).toArray 188)=W1 at hB hbel ⊢
      have hbel0:=hbel
      obtain ⟨g,hg⟩:=qX w.heap.size
      rw [hg] at hB ⊢
      clear hg
      have k0:W1.cell? ⟨g,0,none⟩=some (.int .i64 p.dev):=hB.cell 0 rfl
      have k1:W1.cell? ⟨g,1,none⟩=some (.int .u32 (p.at_:Int)):=hB.cell 1 rfl
      have k2:W1.cell? ⟨g,2,none⟩=some (.int .i64 p.n):=hB.cell 2 rfl
      rw [hd] at k0
      clear hd
      have q1:W1.cell? ⟨1,d*3+1,none⟩=some (.int .u32 (z:Int)):=zm hb0.1 hbel0
      have q2:W1.cell? ⟨1,d*3+2,none⟩=some (.int .i64 4):=zm hb0.2 hbel0
      clear hb0 hbel0
      rw [hn] at k2
      clear hn
      go_quiet (fail)
      go_upto_region 3 with (fail)
      go_quiet (fail)
      go_wp2_with fail
      go_ret
      first
       | exact z0 HR.out (zI hbel _)
       | exact z0 HR.out (zI (zI hbel _) _)
    ·
     have HR:Hid (So.postB p=false):=qH (by rw [HBB.out,decide_eq_false hn];rfl)
     clear HBB
     go_enter Tryz.func146,Tryz.ntmps146
     go_upto_region 1 with (fail)
     have hB:=Blk.new w (So.postL p).toArray 188
     have hbel:=za (Below.refl w.heap.size w) (.cells (So.postL p).toArray 188)
     generalize w.alloc (.cells (So.postL p).toArray 188)=W1 at hB hbel ⊢
     have hbel0:=hbel
     obtain ⟨g,hg⟩:=qX w.heap.size
     rw [hg] at hB ⊢
     clear hg
     have k0:W1.cell? ⟨g,0,none⟩=some (.int .i64 p.dev):=hB.cell 0 rfl
     have k1:W1.cell? ⟨g,1,none⟩=some (.int .u32 (p.at_:Int)):=hB.cell 1 rfl
     have k2:W1.cell? ⟨g,2,none⟩=some (.int .i64 p.n):=hB.cell 2 rfl
     rw [hd] at k0
     clear hd
     have q1:W1.cell? ⟨1,d*3+1,none⟩=some (.int .u32 (z:Int)):=zm hb0.1 hbel0
     have q2:W1.cell? ⟨1,d*3+2,none⟩=some (.int .i64 4):=zm hb0.2 hbel0
     clear hb0 hbel0
     generalize p.n=pn at k2 hn
     have hn':(pn != 4)=true:=by simp [hn]
     go_quiet (fail)
     go_wp2_with fail
     go_ret
     exact z0 HR.out (zI hbel _)
  ·
   have HR:Hid (So.postB p=false):=qH (by unfold So.postB;rw [decide_eq_false h6];simp)
   clear hR
   go_enter Tryz.func146,Tryz.ntmps146
   go_upto_region 1 with (fail)
   have hB:=Blk.new w (So.postL p).toArray 188
   have hbel:=za (Below.refl w.heap.size w) (.cells (So.postL p).toArray 188)
   generalize w.alloc (.cells (So.postL p).toArray 188)=W1 at hB hbel ⊢
   obtain ⟨g,hg⟩:=qX w.heap.size
   rw [hg] at hB ⊢
   clear hg
   have k0:W1.cell? ⟨g,0,none⟩=some (.int .i64 p.dev):=hB.cell 0 rfl
   have k1:W1.cell? ⟨g,1,none⟩=some (.int .u32 (p.at_:Int)):=hB.cell 1 rfl
   have k2:W1.cell? ⟨g,2,none⟩=some (.int .i64 p.n):=hB.cell 2 rfl
   generalize p.dev=d at k0 h1 h6
   go_quiet (fail)
   go_wp2_with fail
   go_ret
   exact z0 HR.out (zI hbel _)
 ·
  have HR:Hid (So.postB p=false):=qH (by unfold So.postB;rw [decide_eq_false h1];simp)
  clear hR
  go_enter Tryz.func146,Tryz.ntmps146
  go_upto_region 1 with (fail)
  have hB:=Blk.new w (So.postL p).toArray 188
  have hbel:=za (Below.refl w.heap.size w) (.cells (So.postL p).toArray 188)
  generalize w.alloc (.cells (So.postL p).toArray 188)=W1 at hB hbel ⊢
  obtain ⟨g,hg⟩:=qX w.heap.size
  rw [hg] at hB ⊢
  clear hg
  have k0:W1.cell? ⟨g,0,none⟩=some (.int .i64 p.dev):=hB.cell 0 rfl
  have k1:W1.cell? ⟨g,1,none⟩=some (.int .u32 (p.at_:Int)):=hB.cell 1 rfl
  have k2:W1.cell? ⟨g,2,none⟩=some (.int .i64 p.n):=hB.cell 2 rfl
  generalize p.dev=d at k0 h1
  have h1':d<1:=by omega
  go_quiet (fail)
  go_wp2_with fail
  go_ret
  exact z0 HR.out (zI hbel _)
theorem zhO:∀ args w,(callFunc 145 args).run Tryz.prog w=.ok (.enter 145 args) w:=enters_of Tryz.func145 (by kernel_rfl) rfl
theorem zfZ (zs:List So.Post) (w:World) (hR:RegW w):zcP 145 #[] (fun x=>.agg (So.postL x).toArray) (fun x=>!So.postB x) zs w:=fun W x _ hb=>by
 show Calls Tryz.prog 145 #[.agg (So.postL x).toArray] W _
 have HRW:=qH (hR.keep hb)
 have Hb0:=qH hb
 clear hR hb
 obtain ⟨w0,hw0⟩:∃ w0,w0=W:=⟨_,rfl⟩
 have HBw:Hid (∀ w',Below W.heap.size W w'→Below w.heap.size w w'):=qH (fun w' h=>zb Hb0.out h)
 clear hw0 w0 Hb0
 go_enter Tryz.func145,Tryz.ntmps145
 go_upto_region 1 with (fail)
 have hB:=Blk.new W (So.postL x).toArray 188
 have hbel:=za (Below.refl W.heap.size W) (.cells (So.postL x).toArray 188)
 generalize W.alloc (.cells (So.postL x).toArray 188)=W1 at hB hbel ⊢
 have hbel0:=hbel
 obtain ⟨g,hg⟩:=qX W.heap.size
 rw [hg] at hB ⊢
 clear hg
 have k0:W1.cell? ⟨g,0,none⟩=some (.int .i64 x.dev):=hB.cell 0 rfl
 have k1:W1.cell? ⟨g,1,none⟩=some (.int .u32 (x.at_:Int)):=hB.cell 1 rfl
 have k2:W1.cell? ⟨g,2,none⟩=some (.int .i64 x.n):=hB.cell 2 rfl
 have k3:W1.cell? ⟨g,3,none⟩=some (.int .u32 (x.value:Int)):=hB.cell 3 rfl
 have HR1:=qH (HRW.out.keep hbel0)
 go_wp2_with (first | (go_at_call 146;refine (zg0 x _ HR1.out).mono ?_;rintro e w2 ⟨rfl,hb2⟩;have hbel2:=zb hbel hb2) | fail)
 go_ret
 exact ⟨rfl,HBw.out _ hbel2⟩
theorem zf0 (A:Option Addr) (n c:Nat) (q:List So.Post) (w:World) (hR:RegW w) (hlen:q.length=n) (hmax:n≤4398046511104) (hcap:n≤c) (hE:zaj w A 4 So.postL q):Calls Tryz.prog 80 #[.agg #[.slice A n c]] w (CkP w (So.queueB q)):=by
 have HBB:Hid (So.queueB q=(decide (n≤8)&&q.all So.postB)):=qH (by unfold So.queueB;rw [hlen])
 have HA:Hid (q.any (fun x=>!So.postB x)=!(q.all So.postB)):=qH (by rw [List.not_all_eq_any_not])
 obtain ⟨b,hb⟩:=qX (q.all So.postB)
 rw [hb] at HBB HA
 have HL:=qH hlen
 have HRW:=qH hR
 have HEE:=qH hE
 clear hb hlen hR hE
 by_cases h8:n≤8
 ·
  have h8':(n:Int)≤8:=by omega
  rw [decide_eq_true h8] at HBB
  clear h8
  cases b with
  | true =>
   go_enter Tryz.func80,Tryz.ntmps80
   go_upto_region 1 with (fail)
   have hB:=Blk.new w ([Value.slice A n c]).toArray 74
   have hbel:=za (Below.refl w.heap.size w) (.cells ([Value.slice A n c]).toArray 74)
   generalize w.alloc (.cells ([Value.slice A n c]).toArray 74)=W1 at hB hbel ⊢
   obtain ⟨g,hg⟩:=qX w.heap.size
   rw [hg] at hB ⊢
   clear hg
   have k0:W1.cell? ⟨g,0,none⟩=some (.slice A n c):=hB.cell 0 rfl
   have hbel0:=hbel
   have HR1:=qH (HRW.out.keep hbel0)
   have HE1:=qH (HEE.out.keep hbel0)
   go_wp2_with (first | (go_at_call 147;refine (zhH 145 #[] zhO A n c q _ HL.out hmax hcap HE1.out _ (zfZ _ _ HR1.out)).mono ?_;rintro e w2 ⟨rfl,hb2⟩;rw [HA.out];have hbel2:=zb hbel hb2) | fail)
   go_ret
   exact zU HBB.out hbel2
  | false =>
   go_enter Tryz.func80,Tryz.ntmps80
   go_upto_region 1 with (fail)
   have hB:=Blk.new w ([Value.slice A n c]).toArray 74
   have hbel:=za (Below.refl w.heap.size w) (.cells ([Value.slice A n c]).toArray 74)
   generalize w.alloc (.cells ([Value.slice A n c]).toArray 74)=W1 at hB hbel ⊢
   obtain ⟨g,hg⟩:=qX w.heap.size
   rw [hg] at hB ⊢
   clear hg
   have k0:W1.cell? ⟨g,0,none⟩=some (.slice A n c):=hB.cell 0 rfl
   have hbel0:=hbel
   have HR1:=qH (HRW.out.keep hbel0)
   have HE1:=qH (HEE.out.keep hbel0)
   go_wp2_with (first | (go_at_call 147;refine (zhH 145 #[] zhO A n c q _ HL.out hmax hcap HE1.out _ (zfZ _ _ HR1.out)).mono ?_;rintro e w2 ⟨rfl,hb2⟩;rw [HA.out];have hbel2:=zb hbel hb2) | fail)
   go_ret
   exact zu HBB.out hbel2
 ·
  have h8':¬ (n:Int)≤8:=by omega
  rw [decide_eq_false h8] at HBB
  clear h8
  go_enter Tryz.func80,Tryz.ntmps80
  go_upto_region 1 with (fail)
  have hB:=Blk.new w ([Value.slice A n c]).toArray 74
  have hbel:=za (Below.refl w.heap.size w) (.cells ([Value.slice A n c]).toArray 74)
  generalize w.alloc (.cells ([Value.slice A n c]).toArray 74)=W1 at hB hbel ⊢
  obtain ⟨g,hg⟩:=qX w.heap.size
  rw [hg] at hB ⊢
  clear hg
  have k0:W1.cell? ⟨g,0,none⟩=some (.slice A n c):=hB.cell 0 rfl
  go_wp2_with fail
  go_ret
  exact zu (by rw [HBB.out];rfl) hbel
theorem za3 (c:So.Config) (w:World):Calls Tryz.prog 76 #[.agg (So.configL c).toArray] w (zbj w (So.mayB c)):=by
 have hB:So.mayB c=(decide (1≤c.pages)&&decide (c.pages≤16384)&&decide (c.sectors≤1048576)):=rfl
 by_cases h1:1≤c.pages
 ·
  by_cases h2:c.pages≤16384
  ·
   have e3:decide (c.sectors≤1048576)=decide ((c.sectors:Int)≤1048576):=by rw [Bool.eq_iff_iff];simp;omega
   have HR:Hid (So.mayB c=decide ((c.sectors:Int)≤1048576)):=qH (by rw [hB,decide_eq_true h1,decide_eq_true h2,e3];rfl)
   clear hB e3
   go_enter Tryz.func76,Tryz.ntmps76
   go_upto_region 1 with (fail)
   have hB:=Blk.new w (So.configL c).toArray 68
   have hbel:=za (Below.refl w.heap.size w) (.cells (So.configL c).toArray 68)
   generalize w.alloc (.cells (So.configL c).toArray 68)=W1 at hB hbel ⊢
   obtain ⟨g,hg⟩:=qX w.heap.size
   rw [hg] at hB ⊢
   clear hg
   have k0:W1.cell? ⟨g,0,none⟩=some (.int .i64 c.pages):=hB.cell 0 rfl
   have k1:W1.cell? ⟨g,1,none⟩=some (.int .u32 (c.sectors:Int)):=hB.cell 1 rfl
   go_wp2_with fail
   go_ret
   exact z0 HR.out hbel
  ·
   have HR:Hid (So.mayB c=false):=qH (by rw [hB,decide_eq_false h2];simp)
   clear hB
   go_enter Tryz.func76,Tryz.ntmps76
   go_upto_region 1 with (fail)
   have hB:=Blk.new w (So.configL c).toArray 68
   have hbel:=za (Below.refl w.heap.size w) (.cells (So.configL c).toArray 68)
   generalize w.alloc (.cells (So.configL c).toArray 68)=W1 at hB hbel ⊢
   obtain ⟨g,hg⟩:=qX w.heap.size
   rw [hg] at hB ⊢
   clear hg
   have k0:W1.cell? ⟨g,0,none⟩=some (.int .i64 c.pages):=hB.cell 0 rfl
   go_wp2_with fail
   go_ret
   exact z0 HR.out hbel
 ·
  have HR:Hid (So.mayB c=false):=qH (by rw [hB,decide_eq_false h1];simp)
  clear hB
  go_enter Tryz.func76,Tryz.ntmps76
  go_upto_region 1 with (fail)
  have hB:=Blk.new w (So.configL c).toArray 68
  have hbel:=za (Below.refl w.heap.size w) (.cells (So.configL c).toArray 68)
  generalize w.alloc (.cells (So.configL c).toArray 68)=W1 at hB hbel ⊢
  obtain ⟨g,hg⟩:=qX w.heap.size
  rw [hg] at hB ⊢
  clear hg
  have k0:W1.cell? ⟨g,0,none⟩=some (.int .i64 c.pages):=hB.cell 0 rfl
  go_wp2_with fail
  go_ret
  exact z0 HR.out hbel
theorem zoH (b0 b1 b2 b3 b4 b5 b6 b7:Bool) (W:World):(Instr.build 222 #[(0,ckV b0),(1,ckV b1),(2,ckV b2),(3,ckV b3),(4,ckV b4),(5,ckV b5),(6,ckV b6),(7,ckV b7)]).run Tryz.prog W=.ok (.agg [ckV b0,ckV b1,ckV b2,ckV b3,ckV b4,ckV b5,ckV b6,ckV b7].toArray) W :=
 run_build W 222 _ _ (by cases b0<;>cases b1<;>cases b2<;>cases b3<;>cases b4<;>cases b5<;>cases b6<;>cases b7<;>kernel_rfl)
theorem zoI (vs:List Value) (h:vs.length=8) (k:Nat) (hk:k<8):∃ v,vs[k]?=some v∧∀ w,(Instr.index 222 (.agg vs.toArray) (.int .i64 k)).run Tryz.prog w=.ok v w:=by
 match vs,h with
 | [v0,v1,v2,v3,v4,v5,v6,v7],_ =>
  have hk':k=0∨k=1∨k=2∨k=3∨k=4∨k=5∨k=6∨k=7:=by omega
  rcases hk' with rfl | rfl | rfl | rfl | rfl | rfl | rfl | rfl<;>exact ⟨_,rfl,fun w=>by kernel_rfl⟩
theorem zdd {P:Program} {op:Oper} {a:Act} {w:World} {K:Act→World→Prop} {Q:Exit→Act→World→Prop} (t:TypeId) (ps:Array (Nat×Operand)) (ho:op.op=.build t ps) (vs:Array (Nat×Value)) (hv:(ps.map fun x=>(x.1,a.eval x.2))=vs) (v:Value) (hr:(Instr.build t vs).run P w=.ok v w) (hK:K (a.put op.dst v) w):op.wp P a w K Q:=by
 subst hv
 unfold Oper.wp execOp
 simp only [ho,Sem.run_bind,Sem.run_pure,hr,Result.andThen_ok]
 exact hK
def socL (c:So.Config) (s:So.State):List Bool:=[So.hartB s.h,So.queueB s.q,So.clintB s.c,So.plicB s.p,So.uartB s.u,So.dmaB s.d,So.blkB s.b c.pages,So.virtB s.n.p]
theorem zei (c:So.Config) (s:So.State):So.stateB c s=(So.mayB c&&s.b.sectors==c.sectors&&(socL c s).all (fun b=>b)):=by
 unfold So.stateB socL
 simp only [List.all_cons,List.all_nil,Bool.and_true,Bool.and_assoc]
theorem soc1 (c:So.Config) (s:So.State) (Q I:So.Hdr) (Rs:List (So.Req×So.Hdr)) (w:World) (hR:RegW w) (hco:c.Ok) (hok:s.Ok) (hq:s.q.length=Q.n) (hqm:Q.n≤4398046511104) (hqc:Q.n≤Q.c) (hqE:zaj w Q.A 4 So.postL s.q) (hI:InsAt w s.b I Rs) (HM:Hid (So.mayB c=false)):Calls Tryz.prog 21 #[.agg (So.configL c).toArray,.agg (So.stL s Q I).toArray] w (CkP w (So.stateB c s)):=by
 have HR:Hid (So.stateB c s=false):=qH (by rw [zei,HM.out];simp)
 clear hR hco hok hq hqm hqc hqE hI
 go_enter Tryz.func21,Tryz.ntmps21
 go_upto_region 1 with (fail)
 obtain ⟨W0,hW0⟩:=qX (w.alloc (.cells (So.configL c).toArray 68))
 have hA:=Blk.new w (So.configL c).toArray 68
 have hbA:=za (Below.refl w.heap.size w) (.cells (So.configL c).toArray 68)
 rw [hW0] at hA hbA
 have hs0:W0.heap.size=w.heap.size+1:=by rw [←hW0];simp
 obtain ⟨W1,hW1⟩:=qX (W0.alloc (.cells (So.stL s Q I).toArray 93))
 have hS:=Blk.new W0 (So.stL s Q I).toArray 93
 have hC:=hA.alloc (.cells (So.stL s Q I).toArray 93)
 have hbel:=za hbA (.cells (So.stL s Q I).toArray 93)
 rw [hW1,hs0] at hS
 rw [hW1] at hC hbel
 rw [hW0,hW1]
 clear hW0 hW1 hs0 hA hbA
 obtain ⟨g,hg⟩:=qX w.heap.size
 rw [hg] at hS hC ⊢
 clear hg
 generalize g+1=q at hS ⊢
 have k0:W1.cell? ⟨g,0,none⟩=some (.int .i64 c.pages):=hC.cell 0 rfl
 have k1:W1.cell? ⟨g,1,none⟩=some (.int .u32 (c.sectors:Int)):=hC.cell 1 rfl
 have k133:W1.cell? ⟨q,133,none⟩=some (.int .u32 (s.b.sectors:Int)):=hS.cell 133 (by kernel_rfl)
 go_upto_if 17 with (first | (refine ze 68 (.tmp 2) rfl g 0 rfl (So.configL c) _ (zd hC 0 2 rfl) Tryz.underlying68 rfl (by kernel_rfl) (by rfl) ?_) | (go_at_call 76;refine (za3 c _).mono ?_;rintro e w2 ⟨rfl,hb2⟩;rw [HM.out];have hbel:=zb hbel hb2;have hC:=hC.keep hb2;have hS:=hS.keep hb2;clear hb2 k0 k1 k133;have k1:=hC.cell 1 (v:=Value.int .u32 (c.sectors:Int)) rfl;have k133:=hS.cell 133 (v:=Value.int .u32 (s.b.sectors:Int)) (by kernel_rfl)) | fail)
 go_wp2_with fail
 go_ret
 exact zu HR.out hbel
theorem soc2 (c:So.Config) (s:So.State) (Q I:So.Hdr) (Rs:List (So.Req×So.Hdr)) (w:World) (hR:RegW w) (hco:c.Ok) (hok:s.Ok) (hq:s.q.length=Q.n) (hqm:Q.n≤4398046511104) (hqc:Q.n≤Q.c) (hqE:zaj w Q.A 4 So.postL s.q) (hI:InsAt w s.b I Rs) (HM:Hid (So.mayB c=true)) (hne:¬ s.b.sectors=c.sectors):Calls Tryz.prog 21 #[.agg (So.configL c).toArray,.agg (So.stL s Q I).toArray] w (CkP w (So.stateB c s)):=by
 have HR:Hid (So.stateB c s=false):=qH (by rw [zei,HM.out];simp [hne])
 have hne':¬ (s.b.sectors:Int)=(c.sectors:Int):=by omega
 have hne2:((s.b.sectors:Int) != (c.sectors:Int))=true:=by simp;omega
 clear hR hco hok hq hqm hqc hqE hI hne
 go_enter Tryz.func21,Tryz.ntmps21
 go_upto_region 1 with (fail)
 obtain ⟨W0,hW0⟩:=qX (w.alloc (.cells (So.configL c).toArray 68))
 have hA:=Blk.new w (So.configL c).toArray 68
 have hbA:=za (Below.refl w.heap.size w) (.cells (So.configL c).toArray 68)
 rw [hW0] at hA hbA
 have hs0:W0.heap.size=w.heap.size+1:=by rw [←hW0];simp
 obtain ⟨W1,hW1⟩:=qX (W0.alloc (.cells (So.stL s Q I).toArray 93))
 have hS:=Blk.new W0 (So.stL s Q I).toArray 93
 have hC:=hA.alloc (.cells (So.stL s Q I).toArray 93)
 have hbel:=za hbA (.cells (So.stL s Q I).toArray 93)
 rw [hW1,hs0] at hS
 rw [hW1] at hC hbel
 rw [hW0,hW1]
 clear hW0 hW1 hs0 hA hbA
 obtain ⟨g,hg⟩:=qX w.heap.size
 rw [hg] at hS hC ⊢
 clear hg
 generalize g+1=q at hS ⊢
 have k0:W1.cell? ⟨g,0,none⟩=some (.int .i64 c.pages):=hC.cell 0 rfl
 have k1:W1.cell? ⟨g,1,none⟩=some (.int .u32 (c.sectors:Int)):=hC.cell 1 rfl
 have k133:W1.cell? ⟨q,133,none⟩=some (.int .u32 (s.b.sectors:Int)):=hS.cell 133 (by kernel_rfl)
 go_upto_if 17 with (first | (refine ze 68 (.tmp 2) rfl g 0 rfl (So.configL c) _ (zd hC 0 2 rfl) Tryz.underlying68 rfl (by kernel_rfl) (by rfl) ?_) | (go_at_call 76;refine (za3 c _).mono ?_;rintro e w2 ⟨rfl,hb2⟩;rw [HM.out];have hbel:=zb hbel hb2;have hC:=hC.keep hb2;have hS:=hS.keep hb2;clear hb2 k0 k1 k133;have k1:=hC.cell 1 (v:=Value.int .u32 (c.sectors:Int)) rfl;have k133:=hS.cell 133 (v:=Value.int .u32 (s.b.sectors:Int)) (by kernel_rfl)) | fail)
 go_wp2_with fail
 go_ret
 exact zu HR.out hbel
theorem soc3 (c:So.Config) (s:So.State) (Q I:So.Hdr) (Rs:List (So.Req×So.Hdr)) (w:World) (hR:RegW w) (hco:c.Ok) (hok:s.Ok) (hq:s.q.length=Q.n) (hqm:Q.n≤4398046511104) (hqc:Q.n≤Q.c) (hqE:zaj w Q.A 4 So.postL s.q) (hI:InsAt w s.b I Rs) (HM:Hid (So.mayB c=true)) (heq:s.b.sectors=c.sectors):Calls Tryz.prog 21 #[.agg (So.configL c).toArray,.agg (So.stL s Q I).toArray] w (CkP w (So.stateB c s)):=by
 have HR:Hid (So.stateB c s=(socL c s).all (fun b=>b)):=qH (by rw [zei,HM.out,heq];simp)
 have heq':(s.b.sectors:Int)=(c.sectors:Int):=by omega
 have heq2:((s.b.sectors:Int) != (c.sectors:Int))=false:=by simp;omega
 have HOK:=qH hok
 have HRW:=qH hR
 have HQ:=qH hq
 have HQE:=qH hqE
 have HI:=qH hI
 have hbsec:s.b.sectors<4294967296:=by unfold So.Config.Ok at hco;omega
 clear hR hco hok hq hqE hI heq
 go_enter Tryz.func21,Tryz.ntmps21
 go_upto_region 1 with (fail)
 obtain ⟨W0,hW0⟩:=qX (w.alloc (.cells (So.configL c).toArray 68))
 have hA:=Blk.new w (So.configL c).toArray 68
 have hbA:=za (Below.refl w.heap.size w) (.cells (So.configL c).toArray 68)
 rw [hW0] at hA hbA
 have hs0:W0.heap.size=w.heap.size+1:=by rw [←hW0];simp
 obtain ⟨W1,hW1⟩:=qX (W0.alloc (.cells (So.stL s Q I).toArray 93))
 have hS:=Blk.new W0 (So.stL s Q I).toArray 93
 have hC:=hA.alloc (.cells (So.stL s Q I).toArray 93)
 have hbel:=za hbA (.cells (So.stL s Q I).toArray 93)
 rw [hW1,hs0] at hS
 rw [hW1] at hC hbel
 rw [hW0,hW1]
 clear hW0 hW1 hs0 hA hbA
 obtain ⟨g,hg⟩:=qX w.heap.size
 rw [hg] at hS hC ⊢
 clear hg
 generalize g+1=q at hS ⊢
 have k0:W1.cell? ⟨g,0,none⟩=some (.int .i64 c.pages):=hC.cell 0 rfl
 have k1:W1.cell? ⟨g,1,none⟩=some (.int .u32 (c.sectors:Int)):=hC.cell 1 rfl
 have k133:W1.cell? ⟨q,133,none⟩=some (.int .u32 (s.b.sectors:Int)):=hS.cell 133 (by kernel_rfl)
 go_upto_if 17 with (first | (refine ze 68 (.tmp 2) rfl g 0 rfl (So.configL c) _ (zd hC 0 2 rfl) Tryz.underlying68 rfl (by kernel_rfl) (by rfl) ?_) | (go_at_call 76;refine (za3 c _).mono ?_;rintro e w2 ⟨rfl,hb2⟩;rw [HM.out];have hbel:=zb hbel hb2;have hC:=hC.keep hb2;have hS:=hS.keep hb2;clear hb2 k0 k1 k133;have k1:=hC.cell 1 (v:=Value.int .u32 (c.sectors:Int)) rfl;have k133:=hS.cell 133 (v:=Value.int .u32 (s.b.sectors:Int)) (by kernel_rfl)) | fail)
 go_upto_region 3 with (fail)
 have k0:=hC.cell 0 (v:=Value.int .i64 c.pages) rfl
 obtain ⟨W0,hW0⟩:∃ W0,W0=w:=⟨_,rfl⟩
 refine zE (by kernel_rfl) (fun X=>⟨#[.agg (So.configL c).toArray,.agg (So.stL s Q I).toArray,.pointer (some ⟨g,0,none⟩),.pointer (some ⟨q,0,none⟩),.nilIface,undef,undef,.agg (So.configL c).toArray,.bool true,.bool false,.bool false,.pointer (some ⟨q,112,none⟩),.pointer (some ⟨q,133,none⟩),.int .u32 ↑c.sectors,.pointer (some ⟨g,1,none⟩),.int .u32 ↑c.sectors,.bool false,.bool false,undef,X 0,X 1,X 2,X 3,X 4,X 5,X 6,X 7,X 8,X 9,X 10,X 11,X 12,X 13,X 14,X 15,X 16,X 17,X 18,X 19,X 20,X 21,X 22,X 23,X 24,X 25,X 26,X 27,undef,undef,undef,undef,undef,undef],[]⟩) (fun u v=>Below u.heap.size u v) (fun i v w=>match i with | 0=>(v=.pointer (some ⟨q,1,none⟩)) | 1=>(v=.agg (So.hartL s.h).toArray) | 2=>(v=ckV (So.hartB s.h)) | 3=>(v=.pointer (some ⟨q,43,none⟩)) | 4=>(v=.agg ([.slice Q.A Q.n Q.c]).toArray) | 5=>(v=ckV (So.queueB s.q)) | 6=>(v=.pointer (some ⟨q,44,none⟩)) | 7=>(v=.agg (So.clintL s.c).toArray) | 8=>(v=ckV (So.clintB s.c)) | 9=>(v=.pointer (some ⟨q,47,none⟩)) | 10=>(v=.agg (So.plicL s.p).toArray) | 11=>(v=ckV (So.plicB s.p)) | 12=>(v=.pointer (some ⟨q,59,none⟩)) | 13=>(v=.agg (So.uartL s.u).toArray) | 14=>(v=ckV (So.uartB s.u)) | 15=>(v=.pointer (some ⟨q,101,none⟩)) | 16=>(v=.agg (So.dmaL s.d).toArray) | 17=>(v=ckV (So.dmaB s.d)) | 18=>(v=.pointer (some ⟨q,112,none⟩)) | 19=>(v=.agg (So.blkL s.b I).toArray) | 20=>(v=.pointer (some ⟨g,0,none⟩)) | 21=>(v=.int .i64 c.pages) | 22=>(v=ckV (So.blkB s.b c.pages)) | 23=>(v=.pointer (some ⟨q,137,none⟩)) | 24=>(v=.agg (So.nicL s.n).toArray) | 25=>(v=ckV (So.virtB s.n.p)) | 26=>(v=.agg ([ckV (So.hartB s.h),ckV (So.queueB s.q),ckV (So.clintB s.c),ckV (So.plicB s.p),ckV (So.uartB s.u),ckV (So.dmaB s.d),ckV (So.blkB s.b c.pages),ckV (So.virtB s.n.p)]:List Value).toArray) | 27=>(v=.int .i64 0) | _=>True) _ (fun _=>undef) (fun u v w a b=>zb a b) ?_ (by kernel_rfl) (zr (Below.refl _ _)) ?_ ?_
 ·
  intro i v w w' h hb
  match i,h with
  | 0,h=>exact h
  | 1,h=>exact h
  | 2,h=>exact h
  | 3,h=>exact h
  | 4,h=>exact h
  | 5,h=>exact h
  | 6,h=>exact h
  | 7,h=>exact h
  | 8,h=>exact h
  | 9,h=>exact h
  | 10,h=>exact h
  | 11,h=>exact h
  | 12,h=>exact h
  | 13,h=>exact h
  | 14,h=>exact h
  | 15,h=>exact h
  | 16,h=>exact h
  | 17,h=>exact h
  | 18,h=>exact h
  | 19,h=>exact h
  | 20,h=>exact h
  | 21,h=>exact h
  | 22,h=>exact h
  | 23,h=>exact h
  | 24,h=>exact h
  | 25,h=>exact h
  | 26,h=>exact h
  | 27,h=>exact h
  | _+28,h=>exact trivial
 ·
  refine fQ 0 ?_ ?_
  ·
   intro X w hR ψ K HK
   go_simp
   exact HK.out _ _ _ rfl (Below.refl _ _) rfl
  refine fQ 1 ?_ ?_
  ·
   intro X w hR ψ K HK
   have e0:X 0=.pointer (some ⟨q,1,none⟩):=(pR ψ 0 .data 0 :)
   rw [if_pos (zo rfl)]
   refine wp_load_mid 71 (.tmp 19) rfl q 1 (show X 0=_ from e0) (So.hartL s.h) _ (zd (hS.keep hR) 1 42 (by kernel_rfl)) Tryz.underlying71 rfl (by kernel_rfl) ?_
   exact HK.out _ _ _ (by (try simp only [e0])<;>rfl) (Below.refl _ _) rfl
  refine fQ 2 ?_ ?_
  ·
   intro X w hR ψ K HK
   have e1:X 1=.agg (So.hartL s.h).toArray:=(pR ψ 1 .data 0 :)
   go_simp
   go_at_call 79
   refine (zfg s.h w HOK.out.2.1).mono ?_
   rintro e w2 ⟨rfl,hb2⟩
   go_simp
   exact HK.out (ckV (So.hartB s.h)) _ _ (by (try simp only [e1])<;>rfl) hb2 rfl
  refine fQ 3 ?_ ?_
  ·
   intro X w hR ψ K HK
   go_simp
   exact HK.out _ _ _ rfl (Below.refl _ _) rfl
  refine fQ 4 ?_ ?_
  ·
   intro X w hR ψ K HK
   have e3:X 3=.pointer (some ⟨q,43,none⟩):=(pR ψ 3 .data 0 :)
   rw [if_pos (zo rfl)]
   refine wp_load_mid 74 (.tmp 22) rfl q 43 (show X 3=_ from e3) ([Value.slice Q.A Q.n Q.c]) _ (zd (hS.keep hR) 43 1 (by kernel_rfl)) Tryz.underlying74 rfl (by kernel_rfl) ?_
   exact HK.out _ _ _ (by (try simp only [e3])<;>rfl) (Below.refl _ _) rfl
  refine fQ 5 ?_ ?_
  ·
   intro X w hR ψ K HK
   have e4:X 4=.agg ([Value.slice Q.A Q.n Q.c]).toArray:=(pR ψ 4 .data 0 :)
   go_simp
   go_at_call 80
   refine (zf0 Q.A Q.n Q.c s.q w (HRW.out.keep (zb hbel hR)) HQ.out hqm hqc (HQE.out.keep (zb hbel hR))).mono ?_
   rintro e w2 ⟨rfl,hb2⟩
   go_simp
   exact HK.out (ckV (So.queueB s.q)) _ _ (by (try simp only [e4])<;>rfl) hb2 rfl
  refine fQ 6 ?_ ?_
  ·
   intro X w hR ψ K HK
   go_simp
   exact HK.out _ _ _ rfl (Below.refl _ _) rfl
  refine fQ 7 ?_ ?_
  ·
   intro X w hR ψ K HK
   have e6:X 6=.pointer (some ⟨q,44,none⟩):=(pR ψ 6 .data 0 :)
   rw [if_pos (zo rfl)]
   refine wp_load_mid 75 (.tmp 25) rfl q 44 (show X 6=_ from e6) (So.clintL s.c) _ (zd (hS.keep hR) 44 3 (by kernel_rfl)) Tryz.underlying75 rfl (by kernel_rfl) ?_
   exact HK.out _ _ _ (by (try simp only [e6])<;>rfl) (Below.refl _ _) rfl
  refine fQ 8 ?_ ?_
  ·
   intro X w hR ψ K HK
   have e7:X 7=.agg (So.clintL s.c).toArray:=(pR ψ 7 .data 0 :)
   go_simp
   go_at_call 81
   refine (zex s.c w).mono ?_
   rintro e w2 ⟨rfl,hb2⟩
   go_simp
   exact HK.out (ckV (So.clintB s.c)) _ _ (by (try simp only [e7])<;>rfl) hb2 rfl
  refine fQ 9 ?_ ?_
  ·
   intro X w hR ψ K HK
   go_simp
   exact HK.out _ _ _ rfl (Below.refl _ _) rfl
  refine fQ 10 ?_ ?_
  ·
   intro X w hR ψ K HK
   have e9:X 9=.pointer (some ⟨q,47,none⟩):=(pR ψ 9 .data 0 :)
   rw [if_pos (zo rfl)]
   refine wp_load_mid 76 (.tmp 28) rfl q 47 (show X 9=_ from e9) (So.plicL s.p) _ (zd (hS.keep hR) 47 12 (by kernel_rfl)) Tryz.underlying76 rfl (by kernel_rfl) ?_
   exact HK.out _ _ _ (by (try simp only [e9])<;>rfl) (Below.refl _ _) rfl
  refine fQ 11 ?_ ?_
  ·
   intro X w hR ψ K HK
   have e10:X 10=.agg (So.plicL s.p).toArray:=(pR ψ 10 .data 0 :)
   go_simp
   go_at_call 82
   refine (zfi s.p HOK.out.2.2.2.2.1 w).mono ?_
   rintro e w2 ⟨rfl,hb2⟩
   go_simp
   exact HK.out (ckV (So.plicB s.p)) _ _ (by (try simp only [e10])<;>rfl) hb2 rfl
  refine fQ 12 ?_ ?_
  ·
   intro X w hR ψ K HK
   go_simp
   exact HK.out _ _ _ rfl (Below.refl _ _) rfl
  refine fQ 13 ?_ ?_
  ·
   intro X w hR ψ K HK
   have e12:X 12=.pointer (some ⟨q,59,none⟩):=(pR ψ 12 .data 0 :)
   rw [if_pos (zo rfl)]
   refine wp_load_mid 79 (.tmp 31) rfl q 59 (show X 12=_ from e12) (So.uartL s.u) _ (zd (hS.keep hR) 59 42 (by kernel_rfl)) Tryz.underlying79 rfl (by kernel_rfl) ?_
   exact HK.out _ _ _ (by (try simp only [e12])<;>rfl) (Below.refl _ _) rfl
  refine fQ 14 ?_ ?_
  ·
   intro X w hR ψ K HK
   have e13:X 13=.agg (So.uartL s.u).toArray:=(pR ψ 13 .data 0 :)
   go_simp
   go_at_call 83
   refine (zfh s.u w).mono ?_
   rintro e w2 ⟨rfl,hb2⟩
   go_simp
   exact HK.out (ckV (So.uartB s.u)) _ _ (by (try simp only [e13])<;>rfl) hb2 rfl
  refine fQ 15 ?_ ?_
  ·
   intro X w hR ψ K HK
   go_simp
   exact HK.out _ _ _ rfl (Below.refl _ _) rfl
  refine fQ 16 ?_ ?_
  ·
   intro X w hR ψ K HK
   have e15:X 15=.pointer (some ⟨q,101,none⟩):=(pR ψ 15 .data 0 :)
   rw [if_pos (zo rfl)]
   refine wp_load_mid 80 (.tmp 34) rfl q 101 (show X 15=_ from e15) (So.dmaL s.d) _ (zd (hS.keep hR) 101 11 (by kernel_rfl)) Tryz.underlying80 rfl (by kernel_rfl) ?_
   exact HK.out _ _ _ (by (try simp only [e15])<;>rfl) (Below.refl _ _) rfl
  refine fQ 17 ?_ ?_
  ·
   intro X w hR ψ K HK
   have e16:X 16=.agg (So.dmaL s.d).toArray:=(pR ψ 16 .data 0 :)
   go_simp
   go_at_call 84
   refine (zfY s.d w).mono ?_
   rintro e w2 ⟨rfl,hb2⟩
   go_simp
   exact HK.out (ckV (So.dmaB s.d)) _ _ (by (try simp only [e16])<;>rfl) hb2 rfl
  refine fQ 18 ?_ ?_
  ·
   intro X w hR ψ K HK
   go_simp
   exact HK.out _ _ _ rfl (Below.refl _ _) rfl
  refine fQ 19 ?_ ?_
  ·
   intro X w hR ψ K HK
   have e18:X 18=.pointer (some ⟨q,112,none⟩):=(pR ψ 18 .data 0 :)
   rw [if_pos (zo rfl)]
   refine wp_load_mid 89 (.tmp 37) rfl q 112 (show X 18=_ from e18) (So.blkL s.b I) _ (zd (hS.keep hR) 112 25 (by kernel_rfl)) Tryz.underlying89 rfl (by kernel_rfl) ?_
   exact HK.out _ _ _ (by (try simp only [e18])<;>rfl) (Below.refl _ _) rfl
  refine fQ 20 ?_ ?_
  ·
   intro X w hR ψ K HK
   go_simp
   exact HK.out _ _ _ rfl (Below.refl _ _) rfl
  refine fQ 21 ?_ ?_
  ·
   intro X w hR ψ K HK
   have e20:X 20=.pointer (some ⟨g,0,none⟩):=(pR ψ 20 .data 0 :)
   have c0:w.cell? ⟨g,0,none⟩=some (Value.int .i64 c.pages):=(hC.keep hR).cell 0 rfl
   go_simp
   exact HK.out _ _ _ (by (try simp only [e20])<;>rfl) (Below.refl _ _) rfl
  refine fQ 22 ?_ ?_
  ·
   intro X w hR ψ K HK
   have e19:X 19=.agg (So.blkL s.b I).toArray:=(pR ψ 19 .data 0 :)
   have e21:X 21=.int .i64 c.pages:=(pR ψ 21 .data 1 :)
   go_simp
   go_at_call 85
   refine (zfW s.b I Rs c.pages w hbsec HOK.out.2.2.2.2.2.2.2.1.1 (HI.out.keep (zb hbel hR))).mono ?_
   rintro e w2 ⟨rfl,hb2⟩
   go_simp
   exact HK.out (ckV (So.blkB s.b c.pages)) _ _ (by (try simp only [e19,e21])<;>rfl) hb2 rfl
  refine fQ 23 ?_ ?_
  ·
   intro X w hR ψ K HK
   go_simp
   exact HK.out _ _ _ rfl (Below.refl _ _) rfl
  refine fQ 24 ?_ ?_
  ·
   intro X w hR ψ K HK
   have e23:X 23=.pointer (some ⟨q,137,none⟩):=(pR ψ 23 .data 0 :)
   rw [if_pos (zo rfl)]
   refine wp_load_mid 91 (.tmp 42) rfl q 137 (show X 23=_ from e23) (So.nicL s.n) _ (zd (hS.keep hR) 137 23 (by kernel_rfl)) Tryz.underlying91 rfl (by kernel_rfl) ?_
   exact HK.out _ _ _ (by (try simp only [e23])<;>rfl) (Below.refl _ _) rfl
  refine fQ 25 ?_ ?_
  ·
   intro X w hR ψ K HK
   have e24:X 24=.agg (So.nicL s.n).toArray:=(pR ψ 24 .data 0 :)
   go_simp
   go_at_call 86
   refine (zfV s.n HOK.out.2.2.2.2.2.2.2.2.1 w).mono ?_
   rintro e w2 ⟨rfl,hb2⟩
   go_simp
   exact HK.out (ckV (So.virtB s.n.p)) _ _ (by (try simp only [e24])<;>rfl) hb2 rfl
  refine fQ 26 ?_ ?_
  ·
   intro X w hR ψ K HK
   have e2:X 2=ckV (So.hartB s.h):=(pR ψ 2 .data 0 :)
   have e5:X 5=ckV (So.queueB s.q):=(pR ψ 5 .data 1 :)
   have e8:X 8=ckV (So.clintB s.c):=(pR ψ 8 .data 2 :)
   have e11:X 11=ckV (So.plicB s.p):=(pR ψ 11 .data 3 :)
   have e14:X 14=ckV (So.uartB s.u):=(pR ψ 14 .data 4 :)
   have e17:X 17=ckV (So.dmaB s.d):=(pR ψ 17 .data 5 :)
   have e22:X 22=ckV (So.blkB s.b c.pages):=(pR ψ 22 .data 6 :)
   have e25:X 25=ckV (So.virtB s.n.p):=(pR ψ 25 .data 7 :)
   rw [if_pos (zo rfl)]
   refine zdd 222 _ rfl #[(0,ckV (So.hartB s.h)),(1,ckV (So.queueB s.q)),(2,ckV (So.clintB s.c)),(3,ckV (So.plicB s.p)),(4,ckV (So.uartB s.u)),(5,ckV (So.dmaB s.d)),(6,ckV (So.blkB s.b c.pages)),(7,ckV (So.virtB s.n.p))] (by simp [Act.eval,e2,e5,e8,e11,e14,e17,e22,e25]) _ (zoH (So.hartB s.h) (So.queueB s.q) (So.clintB s.c) (So.plicB s.p) (So.uartB s.u) (So.dmaB s.d) (So.blkB s.b c.pages) (So.virtB s.n.p) w) ?_
   exact HK.out _ _ _ (by (try simp only [e2,e5,e8,e11,e14,e17,e22,e25])<;>rfl) (Below.refl _ _) rfl
  refine fQ 27 ?_ ?_
  ·
   intro X w hR ψ K HK
   go_simp
   exact HK.out _ _ _ rfl (Below.refl _ _) rfl
  exact zF.nil
 ·
  intro X1 wE hR hall
  have eb:X1 26=Value.agg ((socL c s).map ckV).toArray:=hall 26 (by decide)
  have ei:X1 27=Value.int .i64 0:=hall 27 (by decide)
  have hbE:=zb hbel hR
  have hln:((socL c s).map ckV).length=8:=rfl
  have HLN:=qH hln
  have hlb:(socL c s).length=8:=rfl
  have HLB:=qH hlb
  clear hall hln hlb
  obtain ⟨bs,hbs⟩:=qX (socL c s)
  rw [hbs] at eb HLN HLB HR
  clear hbs
  obtain ⟨va,hva⟩:∃ va,va=Value.agg (bs.map ckV).toArray:=⟨_,rfl⟩
  rw [←hva] at eb
  have HVA:=qH hva
  clear hva
  go_wp2_with fail
  go_loopw [6,46] (fun _ i wr=>∃ k:Nat,k≤8∧i=.int .i64 k∧Below w.heap.size w wr∧Hid (∀ j,j<k→bs[j]?=some true)) (fun _ i _=>8-(intOf i).toNat)
  case atStart=>exact ⟨0,by omega,ei,hbE,qH (fun j hj=>absurd hj (Nat.not_lt_zero _))⟩
  case round =>
   obtain ⟨k,hk,rfl,hbel2,HK⟩:=hrel
   by_cases hlt:k<8
   ·
    have hlt':(k:Int)<8:=by omega
    obtain ⟨v,hv,hix⟩:=zoI (bs.map ckV) HLN.out k hlt
    rw [←HVA.out] at hix
    obtain ⟨b,hb,rfl⟩:∃ b,bs[k]?=some b∧v=ckV b:=by
     rw [List.getElem?_map] at hv
     cases h:bs[k]? with
     | none=>rw [h] at hv;cases hv
     | some b=>rw [h] at hv;exact ⟨b,rfl,(Option.some.inj hv).symm⟩
    have HB:=qH hb
    clear hv hb
    cases b with
    | true =>
     rw [zgW] at hix
     go_wp2_with fail
     go_roundw
     case rel =>
      refine ⟨k+1,by omega,by go_num,hbel2,qH (fun j hj=>?_)⟩
      by_cases e:j=k
      · subst e;exact HB.out
      · exact HK.out j (by omega)
     case measure =>
      simp only [intOf]
      omega
    | false =>
     rw [zoE] at hix
     go_wp2_with fail
     go_ret
     exact zu (by rw [HR.out,List.all_eq_false];exact ⟨false,List.mem_of_getElem? HB.out,by simp⟩) hbel2
   ·
    have hk':k=8:=by omega
    have hnl:¬ (k:Int)<8:=by omega
    go_wp2_with fail
    go_ret
    exact zU (by
     rw [HR.out,List.all_eq_true]
     intro x hx
     obtain ⟨j,hj⟩:=List.getElem?_of_mem hx
     have:=(List.getElem?_eq_some_iff.1 hj).1
     rw [HK.out j (by have:=HLB.out;omega)] at hj
     exact (Option.some.inj hj).symm) hbel2
theorem zdr (c:So.Config) (s:So.State) (Q I:So.Hdr) (Rs:List (So.Req×So.Hdr)) (w:World) (hR:RegW w) (hco:c.Ok) (hok:s.Ok) (hq:s.q.length=Q.n) (hqm:Q.n≤4398046511104) (hqc:Q.n≤Q.c) (hqE:zaj w Q.A 4 So.postL s.q) (hI:InsAt w s.b I Rs):Calls Tryz.prog 21 #[.agg (So.configL c).toArray,.agg (So.stL s Q I).toArray] w (CkP w (So.stateB c s)):=by
 cases h:So.mayB c with
 | false=>exact soc1 c s Q I Rs w hR hco hok hq hqm hqc hqE hI (qH h)
 | true =>
  by_cases he:s.b.sectors=c.sectors
  · exact soc3 c s Q I Rs w hR hco hok hq hqm hqc hqE hI (qH h) he
  · exact soc2 c s Q I Rs w hR hco hok hq hqm hqc hqE hI (qH h) he
theorem ListsAt.insAt {w:World} {base:Nat} {s:So.State} {Q I:So.Hdr} {Rs:List (So.Req×So.Hdr)} (h:ListsAt w base s Q I Rs) (hm:s.b.ins.length≤4398046511104) (hl:∀ r∈s.b.ins,r.l.length≤4398046511104) (hok:s.Ok):InsAt w s.b I Rs :=
 ⟨h.ins,h.rn.symm,by rw [h.rn,←List.length_map (f:=(·.1)),h.ins];exact hm,h.i.cap,h.i.elems (fun r=>rfl) h.rn.symm,fun r hr=>by
  have hr1:r.1∈s.b.ins:=by rw [←h.ins];exact List.mem_map_of_mem hr
  obtain ⟨s1,s2⟩:=h.seg r hr
  have ho:=hok.2.2.2.2.2.2.2.1.2.2.2 r.1 hr1
  exact ⟨s2.symm,by rw [s2];exact hl r.1 hr1,s1.cap,s1.elems (fun x=>rfl) s2.symm,ho.2.1,ho.2.2⟩⟩
theorem zmY:zmW:=fun c s Q I Rs base w hR hL hok hco hq hi hreq =>
 zdr c s Q I Rs w hR hco hok hL.qn.symm (by rw [hL.qn];omega) hL.q.cap (hL.q.elems (fun p=>rfl) hL.qn.symm) (hL.insAt (by omega) (fun r hr=>by have:=(hreq r hr).2.1;omega) hok)
structure FillR (w:World) (n:Nat) (res:Option (Nat→Option (List Nat))) (p0 kk:Nat) (la:Int) (r:List Nat) (A:Option Addr) (c:Nat) (wr:World):Prop where
 bs:Bs w A (4100*kk) c r
 ram:∃ G M,G.p=p0∧RamAt wr G M∧M.n=n∧RamNew w G M∧Fl.go n kk la M.pg r=res
 lo : -1≤la
 hi:la<n
 bel:Below w.heap.size w wr
theorem zja {w:World} {n:Nat} {res:Option (Nat→Option (List Nat))} {p0 kk:Nat} {la:Int} {r:List Nat} {A:Option Addr} {c:Nat} {wr:World} (h:FillR w n res p0 (kk+1) la r A c wr) (hb:Fl.bad n la r=true):res=none:=by
 obtain ⟨G,M,_,_,_,_,e⟩:=h.ram
 rw [←e]
 unfold Fl.go
 rw [if_pos hb]
theorem zkA (n:Nat) (h1:1≤n) (h2:n≤16384) (A:Option Addr) (m c k:Nat) (l:List Nat) (w:World) (hb:Bs w A m c l) (hm:m=4+4100*k) (hk:Tl.num (l.take 4)=k):Calls Tryz.prog 28 #[.int .i64 (n:Int),.slice A m c] w (zoB w n (Fl.go n k (-1) (fun _=>none) (l.drop 4))):=by
 have hN:=zcF n h1 h2 w
 have hn1:¬ (n:Int)<1:=by omega
 have hn2:¬ (16384:Int)<(n:Int):=by omega
 have hmx:=hb.max
 have hcp:=hb.cap
 obtain ⟨d,hd⟩:∃ d:Nat,m=d+4:=⟨m-4,by omega⟩
 have e1:(m:Int)-4=(d:Int):=by omega
 have e2:¬ (m:Int)<4:=by omega
 have e3:(d:Int).tmod 4100=0:=by
  rw [Int.tmod_eq_emod_of_nonneg (by omega)]
  omega
 have e8:(d:Int).tdiv 4100=(k:Int):=by
  rw [Int.tdiv_eq_ediv_of_nonneg (by omega)]
  omega
 have e9:(d:Int) / 4100=(k:Int):=by omega
 have e7:(d:Int)≤140737488355328:=by omega
 have hu:=zY k (by omega)
 have hb4:=hb.take 4 (by omega)
 have h4:(l.take 4).length=4:=hb4.len
 have h4c:(4:Int)≤(c:Int):=by omega
 have Hx:=qH hk
 obtain ⟨A',hA',hB'⟩:=zbD (P:=Tryz.prog) 65 5 .i64 Tryz.underlying65 Tryz.info5 A m c 4 (by omega)
 have hrest:=hB' w l hb
 have hm4:m-4=4100*k:=by omega
 rw [hm4] at hrest
 have HA:Hid (∀ W:World,(Instr.slice 65 (.slice A m c) (some (.int .i64 4)) none none).run Tryz.prog W=.ok (.slice A' (4100*k) (c-4)) W):=qH (fun W=>by
  have:=hA' W
  rwa [hm4] at this)
 have hA9:=HA.out
 obtain ⟨res,hres⟩:∃ res,res=Fl.go n k (-1) (fun _=>none) (l.drop 4):=⟨_,rfl⟩
 rw [←hres]
 have Hres:=qH hres
 have Hd:=qH hd
 have Hm:=qH hm
 clear hd hm hk hA' hB' hm4 hres
 go_enter Tryz.func28,Tryz.ntmps28
 go_wp2_with (first | (go_at_call 25;refine hN.mono ?_;rintro e w1 ⟨G,rfl,hR,hp,hpb,hdb,hbel⟩) | (go_at_call 40;refine (zc2 A 4 c (l.take 4) _ (hb4.keep hbel)).mono ?_;rintro e w2 ⟨g,rfl,hI,hb2,hg⟩) | (go_at_call 93;refine (inN4 g (l.take 4) _ hI h4).mono ?_;rintro e w3 ⟨rfl,hk3⟩;rw [Hx.out]) | fail)
 clear hA9
 have hbel3:Below w.heap.size w w3:=zQ (zb hbel hb2) hk3 (fun i hi e=>by have:=hbel.size;have e:i=g:=e;omega)
 have hR3:RamAt w3 G (RamM.zero n):=(hR.keep hb2).kept hk3 (fun i hi e=>by
  have e:i=g:=e
  have:=hR.has_lt hi
  omega)
 have h0:FillR w n res G.p k (-1) (l.drop 4) A' (c-4) w3:=⟨hrest,⟨G,RamM.zero n,rfl,hR3,rfl,⟨hp,hpb,hdb,fun i hi hs=>by cases hs⟩,Hres.out.symm⟩,by omega,by omega,hbel3⟩
 clear hR hp hpb hdb hbel hI hb2 hg hk3 hR3 hbel3 hrest hb4 h4 h4c e1 e2 e3 e8 e9 e7 hu hmx hcp
 generalize G.p=p0 at h0 ⊢
 go_loopw [8,9,10,11] (fun la re _ _ wr=>∃ (kk c:Nat) (x:Int) (r:List Nat) (A:Option Addr),la=.int .i64 x∧re=.slice A (4100*kk) c∧FillR w n res p0 kk x r A c wr) (fun _ re _ _ _=>zhx re)
 case atStart=>exact ⟨k,c-4,-1,l.drop 4,A',rfl,rfl,h0⟩
 case round =>
  obtain ⟨kk,c1,x,r,A1,rfl,rfl,hR⟩:=hrel
  clear h0
  have hmx1:=hR.bs.max
  have hcp1:=hR.bs.cap
  rcases Nat.eq_zero_or_pos kk with h0 | h0
  ·
   subst h0
   obtain ⟨G,M,rfl,hRam,hMn,hnew,hgo⟩:=hR.ram
   have hbel:=hR.bel
   have Hgo:=qH hgo
   have HMn:=qH hMn
   clear hgo hMn
   go_wp2_with (first | (go_at_call 77;refine (zd2 G M _ hRam).mono ?_;rintro e w2 ⟨A7,c7,rfl,hR7,hk7⟩) | fail)
   go_ret2
   rw [←Hgo.out]
   show zoA w n M.pg _ _
   exact ⟨G,{ M with dirty:=fun _=>false },rfl,hR7,HMn.out,rfl,fun _=>rfl,⟨hnew.p,hnew.pb,hnew.db,hnew.q⟩,zQ hbel hk7 (fun i hi e=>by have:=hnew.db;have e:i=G.db:=e;omega)⟩
  ·
   obtain ⟨k1,rfl⟩:∃ k1,kk=k1+1:=⟨kk-1,by omega⟩
   have hlr:=hR.bs.len
   have hsr:=hR.bs.small
   have hb4r:=hR.bs.take 4 (by omega)
   have h4r:(r.take 4).length=4:=hb4r.len
   have hpk:=Fl.page_ok hsr (by omega)
   have hnum:(Tl.num (r.take 4))=Fl.num r:=rfl
   have hlt:=(znv h4r hb4r.small).2
   have hbel:=hR.bel
   have hc4:(4:Int)≤(c1:Int):=by omega
   have hlen0:(0:Int)<((4100*(k1+1):Nat):Int):=by omega
   obtain ⟨Ap,hAp,hBp⟩:=zbE (P:=Tryz.prog) 65 5 .i64 .i64 Tryz.underlying65 Tryz.info5 A1 (4100*(k1+1)) c1 4 4100 (by omega) (by omega) hcp1
   obtain ⟨An,hAn,hBn⟩:=zbD (P:=Tryz.prog) 65 5 .i64 Tryz.underlying65 Tryz.info5 A1 (4100*(k1+1)) c1 4100 (by omega)
   have hpage:=hBp w r hR.bs
   have hnext:=hBn w r hR.bs
   have en:4100*(k1+1)-4100=4100*k1:=by omega
   rw [en] at hnext
   have hAn':Hid (∀ W:World,(Instr.slice 65 (.slice A1 (4100*(k1+1)) c1) (some (.int .i64 4100)) none none).run Tryz.prog W=.ok (.slice An (4100*k1) (c1-4100)) W):=qH (fun W=>by
    have:=hAn W
    rwa [en] at this)
   have hAp':Hid (∀ W:World,(Instr.slice 65 (.slice A1 (4100*(k1+1)) c1) (some (.int .i64 4)) (some (.int .i64 4100)) none).run Tryz.prog W=.ok (.slice Ap 4096 (c1-4)) W):=qH (fun W=>hAp W)
   have hpage:Bs w Ap 4096 (c1-4) (Fl.page r):=hpage
   have hnext':Bs w An (4100*k1) (c1-4100) (r.drop 4100):=hnext
   obtain ⟨pb,po,rfl,hpc⟩:=hpage.cells (by decide)
   have Hnum:=qH hnum
   clear hAp hBp hAn hBn hnext hpc en hlr hnum
   obtain ⟨L,hL⟩:=qX (4100*(k1+1))
   have HL:=qH hL
   rw [hL] at hAn' hAp' hlen0 ⊢
   have hA1:=hAn'.out
   have hA2:=hAp'.out
   clear hL hAn' hAp'
   have hbadP:=zja hR
   obtain ⟨G,M,rfl,hRam,hMn,hnew,hgo⟩:=hR.ram
   have Hgo:=qH hgo
   have hlo:=hR.lo
   have hhi:=hR.hi
   have HMn:=qH hMn
   have Hs4:=qH h4r
   obtain ⟨q,hq⟩:=qX (Fl.num r)
   have Hq:=qH hq
   have hlt':q<4294967296:=by rw [←hq];exact hlt
   have hb4w:=hb4r
   clear hgo hMn h4r hq hlt
   by_cases hla:(q:Int)≤x
   ·
    have hbad:Fl.bad n x r=true:=by unfold Fl.bad;rw [Hq.out,decide_eq_true hla];rfl
    have Hres2:=qH (hbadP hbad)
    clear hbad hbadP
    go_wp2_with (first | (go_at_call 40;refine (zc2 A1 4 c1 (r.take 4) _ (hb4w.keep hbel)).mono ?_;rintro e w2 ⟨g,rfl,hI,hb2,hg⟩) | (go_at_call 93;refine (inN4 g (r.take 4) _ hI Hs4.out).mono ?_;rintro e w3 ⟨rfl,hk3⟩;rw [Hnum.out,Hq.out]) | fail)
    go_ret2
    rw [Hres2.out]
    exact ⟨rfl,zQ (zb hbel hb2) hk3 (fun i hi e=>by have:=hbel.size;have e:i=g:=e;omega)⟩
   ·
    have hxq:¬ ((q:Int)≤x):=hla
    cases hh:z7 (Fl.page r) with
    | false =>
     have hbad:Fl.bad n x r=true:=by unfold Fl.bad;rw [hh];simp
     have Hres2:=qH (hbadP hbad)
     have HH:=qH hh
     clear hbad hbadP hh
     go_wp2_with (first | (go_at_call 40;refine (zc2 A1 4 c1 (r.take 4) _ (hb4w.keep hbel)).mono ?_;rintro e w2 ⟨g,rfl,hI,hb2,hg⟩) | (go_at_call 93;refine (inN4 g (r.take 4) _ hI Hs4.out).mono ?_;rintro e w3 ⟨rfl,hk3⟩;rw [Hnum.out,Hq.out];have hbel3:Below w.heap.size w w3:=zQ (zb hbel hb2) hk3 (fun i hi e=>by have:=hbel.size;have e:i=g:=e;omega)) | (go_at_call 94;refine (zbP _ _ _ _ _ (hpage.keep hbel3)).mono ?_;rintro e w4 ⟨rfl,rfl⟩;rw [HH.out]) | fail)
     go_ret2
     rw [Hres2.out]
     exact ⟨rfl,hbel3⟩
    | true =>
     have HH:=qH hh
     by_cases hqn:n≤q
     ·
      have hbad:Fl.bad n x r=true:=by unfold Fl.bad;rw [Hq.out,decide_eq_true hqn];simp
      have Hres2:=qH (hbadP hbad)
      have hRam3:=fun (w2 w3:World) (g:Nat) (hb2:Below wr.heap.size wr w2) (hg:wr.heap.size≤g) (hk3:Kept (inIn g) w2 w3)=>(hRam.keep hb2).kept hk3 (fun i hi e=>by have:=hRam.has_lt hi;have e:i=g:=e;omega)
      have HR3:=qH hRam3
      have hno:(q:Int)<0∨(M.n:Int)≤(q:Int):=.inr (by rw [HMn.out];omega)
      have Hno:=qH hno
      clear hbad hbadP hh hRam3 hno
      go_wp2_with (first | (go_at_call 40;refine (zc2 A1 4 c1 (r.take 4) _ (hb4w.keep hbel)).mono ?_;rintro e w2 ⟨g,rfl,hI,hb2,hg⟩) | (go_at_call 93;refine (inN4 g (r.take 4) _ hI Hs4.out).mono ?_;rintro e w3 ⟨rfl,hk3⟩;rw [Hnum.out,Hq.out];have hbel3:Below w.heap.size w w3:=zQ (zb hbel hb2) hk3 (fun i hi e=>by have:=hbel.size;have e:i=g:=e;omega)) | (go_at_call 94;refine (zbP _ _ _ _ _ (hpage.keep hbel3)).mono ?_;rintro e w4 ⟨rfl,rfl⟩;rw [HH.out]) | (go_at_call 95;refine (zis G M q Hno.out _ _ (HR3.out _ _ _ hb2 hg hk3)).mono ?_;rintro e w5 ⟨rfl,rfl⟩) | fail)
      go_ret2
      rw [Hres2.out]
      exact ⟨rfl,hbel3⟩
     ·
      have hbad:Fl.bad n x r=false:=by unfold Fl.bad;rw [Hq.out,hh,decide_eq_false hla,decide_eq_false hqn];rfl
      have hgo':Fl.go n k1 q (Fl.put M.pg q (Fl.page r)) (r.drop 4100)=res:=by
       have:=Hgo.out
       unfold Fl.go at this
       rw [if_neg (by rw [hbad];simp),Hq.out] at this
       exact this
      have hqM:q<M.n:=by rw [HMn.out];omega
      have hpe:∀ (G':RamG) (s:Int),({ (M.owned q).put q (Fl.page r) with wr:=s } : RamM).pg=Fl.put M.pg q (Fl.page r):=fun G' s=>by
       funext j
       simp only [RamM.put,RamM.owned,Fl.put]
       by_cases hj:j=q<;>simp [hj]
      have hRam3:=fun (w2 w3:World) (g:Nat) (hb2:Below wr.heap.size wr w2) (hg:wr.heap.size≤g) (hk3:Kept (inIn g) w2 w3)=>(hRam.keep hb2).kept hk3 (fun i hi e=>by have:=hRam.has_lt hi;have e:i=g:=e;omega)
      have HR3:=qH hRam3
      have Hgo':=qH hgo'
      have Hpe:=qH hpe
      clear hbad hbadP hh hRam3 hgo' hpe Hgo
      go_wp2_with (first | (go_at_call 40;refine (zc2 A1 4 c1 (r.take 4) _ (hb4w.keep hbel)).mono ?_;rintro e w2 ⟨g,rfl,hI,hb2,hg⟩) | (go_at_call 93;refine (inN4 g (r.take 4) _ hI Hs4.out).mono ?_;rintro e w3 ⟨rfl,hk3⟩;rw [Hnum.out,Hq.out];have hbel3:Below w.heap.size w w3:=zQ (zb hbel hb2) hk3 (fun i hi e=>by have:=hbel.size;have e:i=g:=e;omega)) | (go_at_call 94;refine (zbP _ _ _ _ _ (hpage.keep hbel3)).mono ?_;rintro e w4 ⟨rfl,rfl⟩;rw [HH.out]) | (go_at_call 95;refine (zgy G M q hqM pb po (c1-4) (Fl.page r) _ (HR3.out _ _ _ hb2 hg hk3) (hpage.keep hbel3)).mono ?_;rintro e w5 ⟨q5,s5,rfl,hR5,hk5,hq5⟩) | fail)
      go_roundw
      case rel =>
       refine ⟨k1,c1-4100,q,r.drop 4100,An,rfl,rfl,hnext',⟨G.put q q5,{ (M.owned q).put q (Fl.page r) with wr:=s5 },rfl,hR5,HMn.out,hnew.put hbel3.size hq5 hqM,?_⟩,by omega,by omega,hnew.set hqM hbel3 hk5⟩
       rw [Hpe.out (G.put q q5) s5]
       exact Hgo'.out
      case measure =>
       have:=HL.out
       simp only [zhx]
       omega
theorem zhP (n:Nat) (h1:1≤n) (h2:n≤16384) (A:Option Addr) (m c:Nat) (l:List Nat) (w:World) (hb:Bs w A m c l):Calls Tryz.prog 28 #[.int .i64 (n:Int),.slice A m c] w (zoB w n (Fl.fill n l)):=by
 have hl:=hb.len
 by_cases h4:m<4
 ·
  have e:Fl.fill n l=none:=by unfold Fl.fill Fl.form;rw [decide_eq_false (by omega)];rfl
  rw [e]
  exact zit n h1 h2 A m c l (by omega) w
 ·
  by_cases hr:(m-4)%4100=0
  ·
   obtain ⟨k,hk⟩:∃ k,m-4=4100*k:=⟨(m-4) / 4100,by omega⟩
   have hq:(l.length-4) / 4100=k:=by omega
   by_cases hc:Tl.num (l.take 4)=k
   ·
    have e:Fl.fill n l=Fl.go n k (-1) (fun _=>none) (l.drop 4):=by
     unfold Fl.fill Fl.form
     rw [hq,hl,decide_eq_true (show 4≤m by omega),decide_eq_true hr,decide_eq_true hc]
     rfl
    rw [e]
    exact zkA n h1 h2 A m c k l w hb (by omega) hc
   ·
    have e:Fl.fill n l=none:=by
     unfold Fl.fill Fl.form
     rw [hq,decide_eq_false hc,Bool.and_false]
     rfl
    rw [e]
    exact ziu n h1 h2 A m c k l w hb (by omega) hc
  ·
   have e:Fl.fill n l=none:=by
    unfold Fl.fill Fl.form
    rw [hl,decide_eq_false hr,Bool.and_false,Bool.false_and]
    rfl
   rw [e]
   exact zlP n h1 h2 A m c (by omega) hb.max hr w
end Go.Proofs.YtdffbihilhkkjaaGreatDoor
