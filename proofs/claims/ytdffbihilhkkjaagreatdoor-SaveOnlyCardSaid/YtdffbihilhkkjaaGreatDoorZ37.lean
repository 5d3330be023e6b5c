import Derived.Test.YtdffbihilhkkjaaGreatDoorZ28
import Derived.Test.YtdffbihilhkkjaaGreatDoorZ36
import Derived.BigFrame
namespace Go.Proofs.YtdffbihilhkkjaaGreatDoor
open Go.RowKit
set_option linter.unusedVariables false
set_option linter.unusedSimpArgs false
set_option maxRecDepth 100000
set_option maxHeartbeats 8000000
theorem zmz (w:World):Blk ((w.alloc (.cells #[Value.int IntKind.i64 0,Value.int IntKind.u32 0] 68)).alloc (.cells Tryz.zeroCells93 93)) w.heap.size (So.configL So.zConfig).toArray 68:=(Blk.new w #[Value.int IntKind.i64 0,Value.int IntKind.u32 0] 68).alloc (.cells Tryz.zeroCells93 93)
theorem zpR (w:World):Blk ((w.alloc (.cells #[Value.int IntKind.i64 0,Value.int IntKind.u32 0] 68)).alloc (.cells Tryz.zeroCells93 93)) (w.heap.size+1) (So.stL So.zState nilH nilH).toArray 93:=by
 have h:=Blk.new (w.alloc (.cells #[Value.int IntKind.i64 0,Value.int IntKind.u32 0] 68)) Tryz.zeroCells93 93
 rw [show (w.alloc (.cells #[Value.int IntKind.i64 0,Value.int IntKind.u32 0] 68)).heap.size=w.heap.size+1 by simp,zbf] at h
 rw [zbf]
 exact h
theorem zm6 (w:World) (c:So.Config):Kept (fun k=>k=w.heap.size) ((w.alloc (.cells #[Value.int IntKind.i64 0,Value.int IntKind.u32 0] 68)).alloc (.cells Tryz.zeroCells93 93)) (((w.alloc (.cells #[Value.int IntKind.i64 0,Value.int IntKind.u32 0] 68)).alloc (.cells Tryz.zeroCells93 93)).setCells w.heap.size 0 (So.configL c)):=Kept.setCells (S:=fun k=>k=w.heap.size) rfl (So.configL c) 0 _ (Kept.refl _ _)
theorem zle (w:World) (c:So.Config):Blk (((w.alloc (.cells #[Value.int IntKind.i64 0,Value.int IntKind.u32 0] 68)).alloc (.cells Tryz.zeroCells93 93)).setCells w.heap.size 0 (So.configL c)) w.heap.size (So.configL c).toArray 68:=by
 have h:=(zmz w).setMid (So.configL c) 0
 rw [zS _ 0 _ (by rfl)] at h
 exact h
theorem zlf (w:World) (c:So.Config):Blk (((w.alloc (.cells #[Value.int IntKind.i64 0,Value.int IntKind.u32 0] 68)).alloc (.cells Tryz.zeroCells93 93)).setCells w.heap.size 0 (So.configL c)) (w.heap.size+1) (So.stL So.zState nilH nilH).toArray 93:=(zpR w).kept (zm6 w c) (by omega)
theorem zlg (w:World) (c:So.Config):Below w.heap.size w (((w.alloc (.cells #[Value.int IntKind.i64 0,Value.int IntKind.u32 0] 68)).alloc (.cells Tryz.zeroCells93 93)).setCells w.heap.size 0 (So.configL c)):=zQ (za (za (Below.refl _ _) _) _) (zm6 w c) (fun i hi e=>by have e:i=w.heap.size:=e;omega)
theorem zhc (L:List SecV) (A:Option Addr) (c:Nat) (r:Nat×So.Config×So.State) (w:World) (hR:RegW w) (hS:Secs w A 13 c (L.take 13)) (e:zJ ((secL L).take 13)=r):Calls Tryz.prog 9 #[.slice A 13 c] w (zff w r):=by
 rw [←e,←zlc]
 exact zl7 (qH zmY) A 13 c rfl (L.take 13) w hR hS
def zdz (w0:World) (n:Nat) (pg:Nat→Option (List Nat)) (G:RamG) (M:RamM) (w:World):Prop:=RamAt w G M∧M.n=n∧M.pg=pg∧(∀ i,M.dirty i=false)∧RamNew w0 G M
theorem zdz.keep {w0 w w1:World} {n:Nat} {pg:Nat→Option (List Nat)} {G:RamG} {M:RamM} (h:zdz w0 n pg G M w) (hb:Below w.heap.size w w1):zdz w0 n pg G M w1:=⟨h.1.keep hb,h.2⟩
theorem RamNew.low {w w1:World} {G:RamG} {M:RamM} (h:RamNew w1 G M) (hw:w.heap.size≤w1.heap.size):RamNew w G M:=⟨Nat.le_trans hw h.p,Nat.le_trans hw h.pb,Nat.le_trans hw h.db,fun i hi hs=>Nat.le_trans hw (h.q i hi hs)⟩
theorem zpS (A:Option Addr) (n c:Nat) (b:List Nat) (w:World) (hb:Bs w A n c b) (hT:TabW w) (hR:RegW w) (hE:Tl.decE b=0) (hV:Tl.decV b=3) (hL:(Tl.decL b).length=14) (hG:Tl.tagAt (Tl.decL b) 13=14) (r:Nat) (cf:So.Config) (st:So.State) (hW:zJ ((Tl.decL b).take 13)=(r,cf,st)) (hr:r≠0):Calls Tryz.prog 18 #[.slice A n c] w (DecM w b):=by
 have hq:decM b=.error r:=by
  have h1:=zm5 hE hV hL hG (by rw [hW];exact hr)
  rw [hW] at h1
  exact h1
 have HERR:=qH (fun w'=>DecM.err (w:=w) (w':=w') hq)
 clear hq
 have HW:=qH hW
 have HG:=qH hG
 have Hr:=qH hr
 clear hW hG hr
 have HE:=qH (zbB A n c b 3 14 w hb hT hE hV hL)
 have HR:=qH hR
 have HL:=qH hL
 have hsz0:=Below.refl w.heap.size w
 clear hT hR
 go_enter Tryz.func18,Tryz.ntmps18
 go_upto_region 2 with (first | (go_at_call 73;refine HE.out.mono ?_;rintro e w1 ⟨A1,c1,L,rfl,ho,hs,hb1⟩) | fail)
 obtain ⟨g,x,rfl,hx,k26,k27,hbx⟩:=zca ho
 have htag:(x.tag:Int)=14:=by
  have h1:=zaP hx
  rw [hs] at h1
  have h2:=HG.out
  omega
 rw [htag] at k26
 have HS:=qH hs
 have HX:=qH hx
 have HO:=qH ho
 have hcap:=ho.secs.cap
 clear hs hx htag ho
 go_upto_region 8 with (fail)
 have hW:=zhc L (some ⟨g,0,none⟩) c1 (r,cf,st) w1 (HR.out.keep hb1) (HO.out.secs.take 13 (by decide)) (by rw [HS.out];exact HW.out)
 go_upto_region 9 with (first | (go_at_call 9;refine hW.mono ?_;rintro e w2 ⟨Q,I,Rs,V,rfl,hV2,hL2,hb2⟩) | (refine wpList_store_mid ?g 68 (.tmp 7) (.tmp 40) ?h w2.heap.size 0 (So.configL cf).toArray ?a1 ?a2 ?t ?a3 ?a4 ?k;(case g=>rfl);(case h=>rfl);(case a1=>rfl);(case a2=>rfl);(case t=>exact (zmz w2).there 0 2 (by decide));(case a3=>kernel_rfl);(case a4=>kernel_rfl);(obtain ⟨W4,hW4⟩:=qX (((w2.alloc (.cells #[Value.int IntKind.i64 0,Value.int IntKind.u32 0] 68)).alloc (.cells Tryz.zeroCells93 93)).setCells w2.heap.size 0 (So.configL cf).toArray.toList);rw [hW4];have hc4:Blk W4 w2.heap.size (So.configL cf).toArray 68:=(by rw [←hW4];exact zle w2 cf);have hs4:Blk W4 (w2.heap.size+1) (So.stL So.zState nilH nilH).toArray 93:=(by rw [←hW4];exact zlf w2 cf);have hb4:Below w2.heap.size w2 W4:=(by rw [←hW4];exact zlg w2 cf);clear hW4;have ht4:=hs4.there 0 160 (by rw [zv];exact Nat.le_refl _);obtain ⟨rc,hrc⟩:=qX w2.heap.size;rw [hrc] at hc4 hs4 ht4 ⊢;have Hrc:=qH hrc;clear hrc;obtain ⟨rs,hrs⟩:=qX (rc+1);rw [hrs] at hs4 ht4 ⊢;have Hrs:=qH hrs;clear hrs;go_simp)) | (refine wpList_store_mid ?gz 93 (.tmp 8) (.tmp 41) ?hz rs 0 (So.stL st Q I).toArray ?a1z ?a2z ?tz ?a3z ?a4z ?kz;(case gz=>rfl);(case hz=>rfl);(case a1z=>rfl);(case a2z=>rfl);(case tz=>rw [zv];exact ht4);(case a3z=>kernel_rfl);(case a4z=>kernel_rfl)) | fail)
 have hs5:Blk (W4.setCells rs 0 (So.stL st Q I)) rs (So.stL st Q I).toArray 93:=by
  have h:=hs4.setMid (So.stL st Q I) 0
  rw [zS _ 0 _ (by rw [zv,So.stL_len])] at h
  exact h
 have hk5:Kept (fun k=>k=rs) W4 (W4.setCells rs 0 (So.stL st Q I)):=Kept.setCells (S:=fun k=>k=rs) rfl (So.stL st Q I) 0 W4 (Kept.refl _ _)
 have hc5:=hc4.kept hk5 (by have:=Hrs.out;omega)
 have hb5:Below w2.heap.size w2 (W4.setCells rs 0 (So.stL st Q I)):=zQ hb4 hk5 (fun i hi e=>by have e:i=rs:=e;have:=Hrc.out;have:=Hrs.out;omega)
 have hL5:=hL2.keep hb5
 have hbe:=zb (zb hb1 hb2) hb5
 have hge5:w1.heap.size≤(W4.setCells rs 0 (So.stL st Q I)).heap.size:=Nat.le_trans hb2.size hb5.size
 generalize W4.setCells rs 0 (So.stL st Q I)=W5 at hs5 hk5 hc5 hb5 hL5 hbe hge5 ⊢
 clear hs4 hc4 hb4 ht4 hk5
 obtain rfl:=hV2.ne Hr.out
 have HBE:=qH hbe
 clear hs5 hc5 hL5 hbe hb5 hL2
 go_wp2_with fail
 go_ret2
 exact HERR.out _ HBE.out
theorem zpT (A:Option Addr) (n c:Nat) (b:List Nat) (w:World) (hb:Bs w A n c b) (hT:TabW w) (hR:RegW w) (hE:Tl.decE b=0) (hV:Tl.decV b=3) (hL:(Tl.decL b).length=14) (hG:Tl.tagAt (Tl.decL b) 13=14) (n0:Nat) (sc:Nat) (st:So.State) (p:List Nat) (h1:1≤n0) (h2:n0≤16384) (hW:zJ ((Tl.decL b).take 13)=(0,⟨(n0:Int),sc⟩,st)) (hp:(Tl.decL b).getD 13 ⟨0,[]⟩=⟨14,p⟩) (hF:Fl.fill n0 p=none):Calls Tryz.prog 18 #[.slice A n c] w (DecM w b):=by
 have hq:decM b=.error 3:=by
  have h:=zh4 hE hV hL hG hW hp
  rw [show (⟨(n0:Int),sc⟩:So.Config).pages.toNat=n0 from rfl,hF] at h
  exact h
 have HERR:=qH (fun w'=>DecM.err (w:=w) (w':=w') hq)
 have HF:=qH hF
 clear hq hF
 have HW:=qH hW
 have HG:=qH hG
 have HPX:=qH hp
 have H1:=qH h1
 have H2:=qH h2
 clear hW hG hp h1 h2
 have HE:=qH (zbB A n c b 3 14 w hb hT hE hV hL)
 have HR:=qH hR
 have HL:=qH hL
 have hsz0:=Below.refl w.heap.size w
 clear hT hR
 go_enter Tryz.func18,Tryz.ntmps18
 go_upto_region 2 with (first | (go_at_call 73;refine HE.out.mono ?_;rintro e w1 ⟨A1,c1,L,rfl,ho,hs,hb1⟩) | fail)
 obtain ⟨g,x,rfl,hx,k26,k27,hbx⟩:=zca ho
 have htag:(x.tag:Int)=14:=by
  have h1:=zaP hx
  rw [hs] at h1
  have h2:=HG.out
  omega
 rw [htag] at k26
 have HS:=qH hs
 have HX:=qH hx
 have HO:=qH ho
 have hcap:=ho.secs.cap
 clear hs hx htag ho
 go_upto_region 8 with (fail)
 have hW:=zhc L (some ⟨g,0,none⟩) c1 (0,⟨(n0:Int),sc⟩,st) w1 (HR.out.keep hb1) (HO.out.secs.take 13 (by decide)) (by rw [HS.out];exact HW.out)
 go_upto_region 9 with (first | (go_at_call 9;refine hW.mono ?_;rintro e w2 ⟨Q,I,Rs,V,rfl,hV2,hL2,hb2⟩) | (refine wpList_store_mid ?g 68 (.tmp 7) (.tmp 40) ?h w2.heap.size 0 (So.configL ⟨(n0:Int),sc⟩).toArray ?a1 ?a2 ?t ?a3 ?a4 ?k;(case g=>rfl);(case h=>rfl);(case a1=>rfl);(case a2=>rfl);(case t=>exact (zmz w2).there 0 2 (by decide));(case a3=>kernel_rfl);(case a4=>kernel_rfl);(obtain ⟨W4,hW4⟩:=qX (((w2.alloc (.cells #[Value.int IntKind.i64 0,Value.int IntKind.u32 0] 68)).alloc (.cells Tryz.zeroCells93 93)).setCells w2.heap.size 0 (So.configL ⟨(n0:Int),sc⟩).toArray.toList);rw [hW4];have hc4:Blk W4 w2.heap.size (So.configL ⟨(n0:Int),sc⟩).toArray 68:=(by rw [←hW4];exact zle w2 ⟨(n0:Int),sc⟩);have hs4:Blk W4 (w2.heap.size+1) (So.stL So.zState nilH nilH).toArray 93:=(by rw [←hW4];exact zlf w2 ⟨(n0:Int),sc⟩);have hb4:Below w2.heap.size w2 W4:=(by rw [←hW4];exact zlg w2 ⟨(n0:Int),sc⟩);clear hW4;have ht4:=hs4.there 0 160 (by rw [zv];exact Nat.le_refl _);obtain ⟨rc,hrc⟩:=qX w2.heap.size;rw [hrc] at hc4 hs4 ht4 ⊢;have Hrc:=qH hrc;clear hrc;obtain ⟨rs,hrs⟩:=qX (rc+1);rw [hrs] at hs4 ht4 ⊢;have Hrs:=qH hrs;clear hrs;go_simp)) | (refine wpList_store_mid ?gz 93 (.tmp 8) (.tmp 41) ?hz rs 0 (So.stL st Q I).toArray ?a1z ?a2z ?tz ?a3z ?a4z ?kz;(case gz=>rfl);(case hz=>rfl);(case a1z=>rfl);(case a2z=>rfl);(case tz=>rw [zv];exact ht4);(case a3z=>kernel_rfl);(case a4z=>kernel_rfl)) | fail)
 have hs5:Blk (W4.setCells rs 0 (So.stL st Q I)) rs (So.stL st Q I).toArray 93:=by
  have h:=hs4.setMid (So.stL st Q I) 0
  rw [zS _ 0 _ (by rw [zv,So.stL_len])] at h
  exact h
 have hk5:Kept (fun k=>k=rs) W4 (W4.setCells rs 0 (So.stL st Q I)):=Kept.setCells (S:=fun k=>k=rs) rfl (So.stL st Q I) 0 W4 (Kept.refl _ _)
 have hc5:=hc4.kept hk5 (by have:=Hrs.out;omega)
 have hb5:Below w2.heap.size w2 (W4.setCells rs 0 (So.stL st Q I)):=zQ hb4 hk5 (fun i hi e=>by have e:i=rs:=e;have:=Hrc.out;have:=Hrs.out;omega)
 have hL5:=hL2.keep hb5
 have hbe:=zb (zb hb1 hb2) hb5
 have hge5:w1.heap.size≤(W4.setCells rs 0 (So.stL st Q I)).heap.size:=Nat.le_trans hb2.size hb5.size
 generalize W4.setCells rs 0 (So.stL st Q I)=W5 at hs5 hk5 hc5 hb5 hL5 hbe hge5 ⊢
 clear hs4 hc4 hb4 ht4 hk5
 obtain rfl:=hV2.eq
 have hxb:x.b=p:=by
  have h:=HPX.out
  rw [←HS.out,List.getD_eq_getElem?_getD] at h
  unfold secL at h
  rw [List.getElem?_map,HX.out] at h
  have h:x.sec=⟨14,p⟩:=h
  exact congrArg Tl.Sec.b h
 rw [hxb] at hbx
 have Hxb:=qH hxb
 clear hxb
 have hbx5:=(hbx.keep hb2).keep hb5
 have hg0:W5.cell? ⟨g,27,none⟩=some (.slice x.A x.n x.c):=zm (zm k27 hb2) hb5
 have hge:w.heap.size≤W5.heap.size:=hbe.size
 clear k26 k27 hbx hb5 hL2
 go_upto_region 11 with (fail)
 obtain ⟨wb,hwb⟩:∃ wb,wb=w:=⟨_,rfl⟩
 have Hwb:=qH hwb
 clear hwb
 refine zE (by kernel_rfl) (fun X=>⟨#[.slice A n c,undef,.pointer none,.nilIface,.int .u32 3,.slice (some { block:=g,off:=0 }) 14 c1,X 11,.pointer (some ⟨rc,0,none⟩),.pointer (some ⟨rs,0,none⟩),X 10,.tuple #[.int .u32 3,.slice (some { block:=g,off:=0 }) 14 c1,.nilIface],.slice A n c,.tuple #[.int .u32 3,.slice (some { block:=g,off:=0 }) 14 c1,.nilIface],.int .u32 3,.slice (some { block:=g,off:=0 }) 14 c1,.nilIface,.bool false,.nilIface,.bool false,undef,.bool false,.int .u32 3,.bool false,undef,.bool false,.slice (some { block:=g,off:=0 }) 14 c1,.int .i64 14,.bool false,.bool false,.slice (some { block:=g,off:=0 }) 14 c1,.pointer (some ⟨g,26,none⟩),.pointer (some ⟨g,26,none⟩),.int .u32 14,.bool false,.bool false,undef,.tuple #[.agg (So.configL { pages:=↑n0,sectors:=sc }).toArray,.agg (So.stL st Q I).toArray,.nilIface],.slice (some { block:=g,off:=0 }) 14 c1,.slice (some { block:=g,off:=0 }) 13 c1,.tuple #[.agg (So.configL { pages:=↑n0,sectors:=sc }).toArray,.agg (So.stL st Q I).toArray,.nilIface],.agg (So.configL { pages:=↑n0,sectors:=sc }).toArray,.agg (So.stL st Q I).toArray,.nilIface,.nilIface,.bool false,undef,X 7,X 0,X 1,X 2,X 3,X 4,X 5,X 6,X 8,X 9,undef,undef,undef,undef,undef,undef,undef,undef,undef],[]⟩) (fun u v=>Below u.heap.size u v) (fun i v w=>match i with | 0=>(v=.pointer (some ⟨rc,0,none⟩)) | 1=>(v=.int .i64 (n0:Int)) | 2=>(v=.slice (some ⟨g,0,none⟩) 14 c1) | 3=>(v=.pointer (some ⟨g,26,none⟩)) | 4=>(v=.pointer (some ⟨g,27,none⟩)) | 5=>(v=.slice x.A x.n x.c) | 6=>(v=.tuple #[.pointer none,.iface 149 (.int .i64 3)]) | 7=>(v=.tuple #[.pointer none,.iface 149 (.int .i64 3)]) | 8=>(v=.pointer none) | 9=>(v=.iface 149 (.int .i64 3)) | 10=>(v=.pointer none) | 11=>(v=.iface 149 (.int .i64 3)) | _=>True) _ (fun i=>if i=11 then .nilIface else undef) (fun u v w a b=>zb a b) ?_ (by kernel_rfl) (zr (Below.refl _ _)) ?_ ?_
 ·
  intro i v w w' h hb
  match i,h with
  | 0,h=>exact h
  | 1,h=>exact h
  | 2,h=>exact h
  | 3,h=>exact h
  | 4,h=>exact h
  | 5,h=>exact h
  | 6,h=>exact h
  | 7,h=>exact h
  | 8,h=>exact h
  | 9,h=>exact h
  | 10,h=>exact h
  | 11,h=>exact h
  | _+12,h=>exact trivial
 ·
  refine fQ 0 ?_ ?_
  ·
   intro X w hR ψ K HK
   go_simp
   exact HK.out _ _ _ rfl (Below.refl _ _) rfl
  refine fQ 1 ?_ ?_
  ·
   intro X w hR ψ K HK
   have e0:X 0=.pointer (some ⟨rc,0,none⟩):=(pR ψ 0 .data 0 :)
   have c1':=(hc5.keep hR).cell 0 (v:=Value.int .i64 (n0:Int)) rfl
   go_simp
   exact HK.out _ _ _ (by (try simp only [e0])<;>rfl) (Below.refl _ _) rfl
  refine fQ 2 ?_ ?_
  ·
   intro X w hR ψ K HK
   go_simp
   exact HK.out _ _ _ rfl (Below.refl _ _) rfl
  refine fQ 3 ?_ ?_
  ·
   intro X w hR ψ K HK
   have e2:X 2=.slice (some ⟨g,0,none⟩) 14 c1:=(pR ψ 2 .data 0 :)
   go_simp
   exact HK.out _ _ _ (by (try simp only [e2])<;>rfl) (Below.refl _ _) rfl
  refine fQ 4 ?_ ?_
  ·
   intro X w hR ψ K HK
   have e3:X 3=.pointer (some ⟨g,26,none⟩):=(pR ψ 3 .data 0 :)
   go_simp
   exact HK.out _ _ _ (by (try simp only [e3])<;>rfl) (Below.refl _ _) rfl
  refine fQ 5 ?_ ?_
  ·
   intro X w hR ψ K HK
   have e4:X 4=.pointer (some ⟨g,27,none⟩):=(pR ψ 4 .data 0 :)
   have c5':w.cell? ⟨g,27,none⟩=some (Value.slice x.A x.n x.c):=zm hg0 hR
   go_simp
   exact HK.out _ _ _ (by (try simp only [e4])<;>rfl) (Below.refl _ _) rfl
  refine fQ 6 ?_ ?_
  ·
   intro X w hR ψ K HK
   have e1:X 1=.int .i64 (n0:Int):=(pR ψ 1 .data 0 :)
   have e5:X 5=.slice x.A x.n x.c:=(pR ψ 5 .data 1 :)
   go_simp
   go_at_call 28
   refine (zhP n0 H1.out H2.out x.A x.n x.c p w (hbx5.keep hR)).mono ?_
   rw [HF.out]
   rintro e w2 ⟨rfl,hbf⟩
   go_simp
   exact HK.out _ _ _ (by (try simp only [e1,e5])<;>rfl) hbf rfl
  refine fQ 7 ?_ ?_
  ·
   intro X w hR ψ K HK
   have e6:X 6=.tuple #[Value.pointer none,Value.iface 149 (Value.int .i64 3)]:=(pR ψ 6 .data 0 :)
   go_simp
   exact HK.out _ _ _ (by (try simp only [e6])<;>rfl) (Below.refl _ _) rfl
  refine fQ 8 ?_ ?_
  ·
   intro X w hR ψ K HK
   have e7:X 7=.tuple #[Value.pointer none,Value.iface 149 (Value.int .i64 3)]:=(pR ψ 7 .data 0 :)
   go_simp
   exact HK.out _ _ _ (by (try simp only [e7])<;>rfl) (Below.refl _ _) rfl
  refine fQ 9 ?_ ?_
  ·
   intro X w hR ψ K HK
   have e7:X 7=.tuple #[Value.pointer none,Value.iface 149 (Value.int .i64 3)]:=(pR ψ 7 .data 0 :)
   go_simp
   exact HK.out _ _ _ (by (try simp only [e7])<;>rfl) (Below.refl _ _) rfl
  refine fQ 10 ?_ ?_
  ·
   intro X w hR ψ K HK
   have e8:X 8=.pointer none:=(pR ψ 8 .data 0 :)
   go_simp
   exact HK.out _ _ _ (by (try simp only [e8])<;>rfl) (Below.refl _ _) rfl
  refine fQ 11 ?_ ?_
  ·
   intro X w hR ψ K HK
   have e9:X 9=.iface 149 (Value.int .i64 3):=(pR ψ 9 .data 0 :)
   go_simp
   exact HK.out _ _ _ (by (try simp only [e9])<;>rfl) (Below.refl _ _) rfl
  exact zF.nil
 ·
  intro X1 W6 hR1 hall
  have e11:X1 11=.iface 149 (Value.int .i64 3):=hall 11 (by decide)
  have HBE:=qH (zb hbe hR1)
  clear hall hR1 hbe hs5 hc5 hL5 hbx5 hg0
  rw [e11]
  clear e11
  go_wp2_with fail
  go_ret2
  exact HERR.out _ HBE.out
theorem zpU (A:Option Addr) (n c:Nat) (b:List Nat) (w:World) (hb:Bs w A n c b) (hT:TabW w) (hR:RegW w) (hE:Tl.decE b=0) (hV:Tl.decV b=3) (hL:(Tl.decL b).length=14) (hG:Tl.tagAt (Tl.decL b) 13=14) (n0:Nat) (sc:Nat) (st:So.State) (p:List Nat) (h1:1≤n0) (h2:n0≤16384) (hW:zJ ((Tl.decL b).take 13)=(0,⟨(n0:Int),sc⟩,st)) (hp:(Tl.decL b).getD 13 ⟨0,[]⟩=⟨14,p⟩) (pg:Nat→Option (List Nat)) (hF:Fl.fill n0 p=some pg) (hcok:(⟨(n0:Int),sc⟩:So.Config).Ok) (hok:st.Ok) (hsh:zg1 st) (hB:So.stateB ⟨(n0:Int),sc⟩ st=true):Calls Tryz.prog 18 #[.slice A n c] w (DecM w b):=by
 have hq:decM b=.ok (⟨(n0:Int),sc⟩,st,pg):=by
  have h:=zh4 hE hV hL hG hW hp
  rw [show (⟨(n0:Int),sc⟩:So.Config).pages.toNat=n0 from rfl,hF] at h
  exact h
 have HQ:=qH hq
 have HF:=qH hF
 have HCO:=qH hcok
 have HOK:=qH hok
 have HSH:=qH hsh
 have HB:=qH hB
 clear hq hF hcok hok hsh hB
 have HW:=qH hW
 have HG:=qH hG
 have HPX:=qH hp
 have H1:=qH h1
 have H2:=qH h2
 clear hW hG hp h1 h2
 have HE:=qH (zbB A n c b 3 14 w hb hT hE hV hL)
 have HR:=qH hR
 have HL:=qH hL
 have hsz0:=Below.refl w.heap.size w
 clear hT hR
 go_enter Tryz.func18,Tryz.ntmps18
 go_upto_region 2 with (first | (go_at_call 73;refine HE.out.mono ?_;rintro e w1 ⟨A1,c1,L,rfl,ho,hs,hb1⟩) | fail)
 obtain ⟨g,x,rfl,hx,k26,k27,hbx⟩:=zca ho
 have htag:(x.tag:Int)=14:=by
  have h1:=zaP hx
  rw [hs] at h1
  have h2:=HG.out
  omega
 rw [htag] at k26
 have HS:=qH hs
 have HX:=qH hx
 have HO:=qH ho
 have hcap:=ho.secs.cap
 clear hs hx htag ho
 go_upto_region 8 with (fail)
 have hW:=zhc L (some ⟨g,0,none⟩) c1 (0,⟨(n0:Int),sc⟩,st) w1 (HR.out.keep hb1) (HO.out.secs.take 13 (by decide)) (by rw [HS.out];exact HW.out)
 go_upto_region 9 with (first | (go_at_call 9;refine hW.mono ?_;rintro e w2 ⟨Q,I,Rs,V,rfl,hV2,hL2,hb2⟩) | (refine wpList_store_mid ?g 68 (.tmp 7) (.tmp 40) ?h w2.heap.size 0 (So.configL ⟨(n0:Int),sc⟩).toArray ?a1 ?a2 ?t ?a3 ?a4 ?k;(case g=>rfl);(case h=>rfl);(case a1=>rfl);(case a2=>rfl);(case t=>exact (zmz w2).there 0 2 (by decide));(case a3=>kernel_rfl);(case a4=>kernel_rfl);(obtain ⟨W4,hW4⟩:=qX (((w2.alloc (.cells #[Value.int IntKind.i64 0,Value.int IntKind.u32 0] 68)).alloc (.cells Tryz.zeroCells93 93)).setCells w2.heap.size 0 (So.configL ⟨(n0:Int),sc⟩).toArray.toList);rw [hW4];have hc4:Blk W4 w2.heap.size (So.configL ⟨(n0:Int),sc⟩).toArray 68:=(by rw [←hW4];exact zle w2 ⟨(n0:Int),sc⟩);have hs4:Blk W4 (w2.heap.size+1) (So.stL So.zState nilH nilH).toArray 93:=(by rw [←hW4];exact zlf w2 ⟨(n0:Int),sc⟩);have hb4:Below w2.heap.size w2 W4:=(by rw [←hW4];exact zlg w2 ⟨(n0:Int),sc⟩);clear hW4;have ht4:=hs4.there 0 160 (by rw [zv];exact Nat.le_refl _);obtain ⟨rc,hrc⟩:=qX w2.heap.size;rw [hrc] at hc4 hs4 ht4 ⊢;have Hrc:=qH hrc;clear hrc;obtain ⟨rs,hrs⟩:=qX (rc+1);rw [hrs] at hs4 ht4 ⊢;have Hrs:=qH hrs;clear hrs;go_simp)) | (refine wpList_store_mid ?gz 93 (.tmp 8) (.tmp 41) ?hz rs 0 (So.stL st Q I).toArray ?a1z ?a2z ?tz ?a3z ?a4z ?kz;(case gz=>rfl);(case hz=>rfl);(case a1z=>rfl);(case a2z=>rfl);(case tz=>rw [zv];exact ht4);(case a3z=>kernel_rfl);(case a4z=>kernel_rfl)) | fail)
 have hs5:Blk (W4.setCells rs 0 (So.stL st Q I)) rs (So.stL st Q I).toArray 93:=by
  have h:=hs4.setMid (So.stL st Q I) 0
  rw [zS _ 0 _ (by rw [zv,So.stL_len])] at h
  exact h
 have hk5:Kept (fun k=>k=rs) W4 (W4.setCells rs 0 (So.stL st Q I)):=Kept.setCells (S:=fun k=>k=rs) rfl (So.stL st Q I) 0 W4 (Kept.refl _ _)
 have hc5:=hc4.kept hk5 (by have:=Hrs.out;omega)
 have hb5:Below w2.heap.size w2 (W4.setCells rs 0 (So.stL st Q I)):=zQ hb4 hk5 (fun i hi e=>by have e:i=rs:=e;have:=Hrc.out;have:=Hrs.out;omega)
 have hL5:=hL2.keep hb5
 have hbe:=zb (zb hb1 hb2) hb5
 have hge5:w1.heap.size≤(W4.setCells rs 0 (So.stL st Q I)).heap.size:=Nat.le_trans hb2.size hb5.size
 generalize W4.setCells rs 0 (So.stL st Q I)=W5 at hs5 hk5 hc5 hb5 hL5 hbe hge5 ⊢
 clear hs4 hc4 hb4 ht4 hk5
 obtain rfl:=hV2.eq
 have hxb:x.b=p:=by
  have h:=HPX.out
  rw [←HS.out,List.getD_eq_getElem?_getD] at h
  unfold secL at h
  rw [List.getElem?_map,HX.out] at h
  have h:x.sec=⟨14,p⟩:=h
  exact congrArg Tl.Sec.b h
 rw [hxb] at hbx
 have Hxb:=qH hxb
 clear hxb
 have hbx5:=(hbx.keep hb2).keep hb5
 have hg0:W5.cell? ⟨g,27,none⟩=some (.slice x.A x.n x.c):=zm (zm k27 hb2) hb5
 have hge:w.heap.size≤W5.heap.size:=hbe.size
 clear k26 k27 hbx hb5 hL2
 go_upto_region 11 with (fail)
 obtain ⟨wb,hwb⟩:∃ wb,wb=W5:=⟨_,rfl⟩
 have Hwb:=qH hwb
 clear hwb
 refine zE (by kernel_rfl) (fun X=>⟨#[.slice A n c,undef,.pointer none,.nilIface,.int .u32 3,.slice (some { block:=g,off:=0 }) 14 c1,X 11,.pointer (some ⟨rc,0,none⟩),.pointer (some ⟨rs,0,none⟩),X 10,.tuple #[.int .u32 3,.slice (some { block:=g,off:=0 }) 14 c1,.nilIface],.slice A n c,.tuple #[.int .u32 3,.slice (some { block:=g,off:=0 }) 14 c1,.nilIface],.int .u32 3,.slice (some { block:=g,off:=0 }) 14 c1,.nilIface,.bool false,.nilIface,.bool false,undef,.bool false,.int .u32 3,.bool false,undef,.bool false,.slice (some { block:=g,off:=0 }) 14 c1,.int .i64 14,.bool false,.bool false,.slice (some { block:=g,off:=0 }) 14 c1,.pointer (some ⟨g,26,none⟩),.pointer (some ⟨g,26,none⟩),.int .u32 14,.bool false,.bool false,undef,.tuple #[.agg (So.configL { pages:=↑n0,sectors:=sc }).toArray,.agg (So.stL st Q I).toArray,.nilIface],.slice (some { block:=g,off:=0 }) 14 c1,.slice (some { block:=g,off:=0 }) 13 c1,.tuple #[.agg (So.configL { pages:=↑n0,sectors:=sc }).toArray,.agg (So.stL st Q I).toArray,.nilIface],.agg (So.configL { pages:=↑n0,sectors:=sc }).toArray,.agg (So.stL st Q I).toArray,.nilIface,.nilIface,.bool false,undef,X 7,X 0,X 1,X 2,X 3,X 4,X 5,X 6,X 8,X 9,undef,undef,undef,undef,undef,undef,undef,undef,undef],[]⟩) (fun u v=>Below u.heap.size u v) (fun i v w=>match i with | 0=>(v=.pointer (some ⟨rc,0,none⟩)) | 1=>(v=.int .i64 (n0:Int)) | 2=>(v=.slice (some ⟨g,0,none⟩) 14 c1) | 3=>(v=.pointer (some ⟨g,26,none⟩)) | 4=>(v=.pointer (some ⟨g,27,none⟩)) | 5=>(v=.slice x.A x.n x.c) | 6=>(∃ G M,v=.tuple #[.pointer (some ⟨G.p,0,none⟩),.nilIface]∧zdz wb n0 pg G M w) | 7=>(∃ G M,v=.tuple #[.pointer (some ⟨G.p,0,none⟩),.nilIface]∧zdz wb n0 pg G M w) | 8=>(∃ G M,v=.pointer (some ⟨G.p,0,none⟩)∧zdz wb n0 pg G M w) | 9=>(v=.nilIface) | 10=>(∃ G M,v=.pointer (some ⟨G.p,0,none⟩)∧zdz wb n0 pg G M w) | 11=>(v=.nilIface) | _=>True) _ (fun i=>if i=11 then .nilIface else undef) (fun u v w a b=>zb a b) ?_ (by kernel_rfl) (zr (Below.refl _ _)) ?_ ?_
 ·
  intro i v w w' h hb
  match i,h with
  | 0,h=>exact h
  | 1,h=>exact h
  | 2,h=>exact h
  | 3,h=>exact h
  | 4,h=>exact h
  | 5,h=>exact h
  | 6,h=>exact (let ⟨G,M,e,h1⟩:=h;⟨G,M,e,h1.keep hb⟩)
  | 7,h=>exact (let ⟨G,M,e,h1⟩:=h;⟨G,M,e,h1.keep hb⟩)
  | 8,h=>exact (let ⟨G,M,e,h1⟩:=h;⟨G,M,e,h1.keep hb⟩)
  | 9,h=>exact h
  | 10,h=>exact (let ⟨G,M,e,h1⟩:=h;⟨G,M,e,h1.keep hb⟩)
  | 11,h=>exact h
  | _+12,h=>exact trivial
 ·
  refine fQ 0 ?_ ?_
  ·
   intro X w hR ψ K HK
   go_simp
   exact HK.out _ _ _ rfl (Below.refl _ _) rfl
  refine fQ 1 ?_ ?_
  ·
   intro X w hR ψ K HK
   have e0:X 0=.pointer (some ⟨rc,0,none⟩):=(pR ψ 0 .data 0 :)
   have c1':=(hc5.keep hR).cell 0 (v:=Value.int .i64 (n0:Int)) rfl
   go_simp
   exact HK.out _ _ _ (by (try simp only [e0])<;>rfl) (Below.refl _ _) rfl
  refine fQ 2 ?_ ?_
  ·
   intro X w hR ψ K HK
   go_simp
   exact HK.out _ _ _ rfl (Below.refl _ _) rfl
  refine fQ 3 ?_ ?_
  ·
   intro X w hR ψ K HK
   have e2:X 2=.slice (some ⟨g,0,none⟩) 14 c1:=(pR ψ 2 .data 0 :)
   go_simp
   exact HK.out _ _ _ (by (try simp only [e2])<;>rfl) (Below.refl _ _) rfl
  refine fQ 4 ?_ ?_
  ·
   intro X w hR ψ K HK
   have e3:X 3=.pointer (some ⟨g,26,none⟩):=(pR ψ 3 .data 0 :)
   go_simp
   exact HK.out _ _ _ (by (try simp only [e3])<;>rfl) (Below.refl _ _) rfl
  refine fQ 5 ?_ ?_
  ·
   intro X w hR ψ K HK
   have e4:X 4=.pointer (some ⟨g,27,none⟩):=(pR ψ 4 .data 0 :)
   have c5':w.cell? ⟨g,27,none⟩=some (Value.slice x.A x.n x.c):=zm hg0 hR
   go_simp
   exact HK.out _ _ _ (by (try simp only [e4])<;>rfl) (Below.refl _ _) rfl
  refine fQ 6 ?_ ?_
  ·
   intro X w hR ψ K HK
   have e1:X 1=.int .i64 (n0:Int):=(pR ψ 1 .data 0 :)
   have e5:X 5=.slice x.A x.n x.c:=(pR ψ 5 .data 1 :)
   go_simp
   go_at_call 28
   refine (zhP n0 H1.out H2.out x.A x.n x.c p w (hbx5.keep hR)).mono ?_
   rw [HF.out]
   rintro e w2 ⟨G,M,rfl,hr,hn,hpg,hd,hnew,hbf⟩
   go_simp
   exact HK.out _ _ _ (by (try simp only [e1,e5])<;>rfl) hbf ⟨G,M,rfl,hr,hn,hpg,hd,hnew.low (by rw [Hwb.out];exact hR.size)⟩
  refine fQ 7 ?_ ?_
  ·
   intro X w hR ψ K HK
   obtain ⟨G,M,e6,hf⟩:∃ G M,X 6=Value.tuple #[Value.pointer (some ⟨G.p,0,none⟩),Value.nilIface]∧zdz wb n0 pg G M w:=(pR ψ 6 .data 0 :)
   go_simp
   exact HK.out _ _ _ (by (try simp only [e6])<;>rfl) (Below.refl _ _) ⟨G,M,rfl,hf⟩
  refine fQ 8 ?_ ?_
  ·
   intro X w hR ψ K HK
   obtain ⟨G,M,e7,hf⟩:∃ G M,X 7=Value.tuple #[Value.pointer (some ⟨G.p,0,none⟩),Value.nilIface]∧zdz wb n0 pg G M w:=(pR ψ 7 .data 0 :)
   go_simp
   exact HK.out _ _ _ (by (try simp only [e7])<;>rfl) (Below.refl _ _) ⟨G,M,rfl,hf⟩
  refine fQ 9 ?_ ?_
  ·
   intro X w hR ψ K HK
   obtain ⟨G,M,e7,hf⟩:∃ G M,X 7=Value.tuple #[Value.pointer (some ⟨G.p,0,none⟩),Value.nilIface]∧zdz wb n0 pg G M w:=(pR ψ 7 .data 0 :)
   go_simp
   exact HK.out _ _ _ (by (try simp only [e7])<;>rfl) (Below.refl _ _) rfl
  refine fQ 10 ?_ ?_
  ·
   intro X w hR ψ K HK
   obtain ⟨G,M,e8,hf⟩:∃ G M,X 8=Value.pointer (some ⟨G.p,0,none⟩)∧zdz wb n0 pg G M w:=(pR ψ 8 .data 0 :)
   go_simp
   exact HK.out _ _ _ (by (try simp only [e8])<;>rfl) (Below.refl _ _) ⟨G,M,rfl,hf⟩
  refine fQ 11 ?_ ?_
  ·
   intro X w hR ψ K HK
   have e9:X 9=.nilIface:=(pR ψ 9 .data 0 :)
   go_simp
   exact HK.out _ _ _ (by (try simp only [e9])<;>rfl) (Below.refl _ _) rfl
  exact zF.nil
 ·
  intro X1 W6 hR1 hall
  have e11:X1 11=.nilIface:=hall 11 (by decide)
  obtain ⟨G,M,e10,hr6,hn6,hpg6,hd6,hnew6⟩:∃ G M,X1 10=Value.pointer (some ⟨G.p,0,none⟩)∧zdz wb n0 pg G M W6:=hall 10 (by decide)
  clear hall
  rw [e11,e10]
  clear e11 e10
  have hs6:=hs5.keep hR1
  have hc6:=hc5.keep hR1
  have hL6:=hL5.keep hR1
  have hb6:=zb hbe hR1
  have hrc0:W6.cell? ⟨rc,0,none⟩=some (.int .i64 (n0:Int)):=hc6.cell 0 rfl
  have hrc1:W6.cell? ⟨rc,1,none⟩=some (.int .u32 (sc:Int)):=hc6.cell 1 rfl
  have hR6:=((HR.out.keep hb1).keep hb2)
  have hld:=znV w1.heap.size ⟨(n0:Int),sc⟩ st Q I Rs G M W6 (HR.out.keep hb6) HCO.out HOK.out hL6 HSH.out hr6 (by rw [hn6]) HB.out
  have hrg:W6.rangeAt rs 0 (So.stL st Q I):=zd hs6 0 160 (by kernel_rfl)
  have hrgc:W6.rangeAt rc 0 (So.configL ⟨(n0:Int),sc⟩):=zd hc6 0 2 (by kernel_rfl)
  have HLD:=qH hld
  clear hld hs5 hc5 hL5 hbx5 hg0 hL6 hR6 hrc0 hrc1
  go_wp2_with (first | (refine wpList_load_mid rfl 68 (.tmp 7) rfl rc 0 rfl (So.configL ⟨(n0:Int),sc⟩) _ hrgc Tryz.underlying68 rfl (by kernel_rfl) ?_) | (refine wpList_load_mid rfl 93 (.tmp 8) rfl rs 0 rfl (So.stL st Q I) _ hrg Tryz.underlying93 rfl (by kernel_rfl) ?_) | (go_at_call 74;refine HLD.out.mono ?_;rintro e w9 ⟨y,Q9,I9,Rs9,rfl,hm9,hy9,hb9⟩) | fail)
  go_ret2
  unfold DecM
  rw [HQ.out]
  have hbs:=Nat.le_trans hbe.size hR1.size
  exact ⟨y,Q9,I9,Rs9,G,M,rfl,⟨⟨hm9.blk,hm9.lists.low hbs,hm9.ram⟩,HB.out,HOK.out,HCO.out,by rw [hn6]⟩,hpg6,hd6,hnew6.low (by rw [Hwb.out];exact hge),Nat.le_trans hbs hy9,zb hb6 hb9⟩
end Go.Proofs.YtdffbihilhkkjaaGreatDoor
