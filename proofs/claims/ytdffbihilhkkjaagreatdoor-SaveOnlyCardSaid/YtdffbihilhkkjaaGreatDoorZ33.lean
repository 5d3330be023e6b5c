import Derived.Test.YtdffbihilhkkjaaGreatDoorZ10
import Derived.Test.YtdffbihilhkkjaaGreatDoorZ30
import Derived.Test.YtdffbihilhkkjaaGreatDoorZ31
import Derived.Test.YtdffbihilhkkjaaGreatDoorZ32
import Derived.Deep.DeepCutAuto
namespace Go.Proofs.YtdffbihilhkkjaaGreatDoor
open Go.RowKit
set_option linter.unusedVariables false
set_option linter.unusedSimpArgs false
set_option maxRecDepth 100000
set_option maxHeartbeats 8000000
def zoR (w:World) (c:So.Config) (s:So.State) (e:Ending) (w':World):Prop:=∃ A k L,e=.returned (.slice A 13 k)∧OwnS w' w.heap.size 150 A 13 k L∧secL L=(So.parts c s).zipIdx.map (fun x=>⟨x.2+1,x.1⟩)∧Below w.heap.size w w'
theorem zkR {w:World} : ∀ {vs:List Value} {ls:List (List Nat)},BVL w vs ls→∀ v∈vs,v.oneCell'=true
 | [],[],_,v,h=>by cases h
 | x::vs,l::ls,h,v,hv=>by
  rcases List.mem_cons.1 hv with rfl | hv
  · exact h.1.one
  · exact zkR h.2 v hv
 | [],_::_,h,_,_=>h.elim
 | _::_,[],h,_,_=>h.elim
theorem zmq (w:World) (g:Nat) (cs:Array Value):Kept (fun k=>k=g) w (w.setRow g cs):=⟨rfl,rfl,rfl,by simp,fun k _ hk=>setRow_other w g k cs hk⟩
theorem zkS {w:World} {g:Nat} {cs:Array Value} {T:TypeId} {old:Array Value} : ∀ {vs:List Value} {ls:List (List Nat)},BVL w vs ls→Blk w g old T→NoU8 old→BVL (w.setRow g cs) vs ls
 | [],[],_,_,_=>trivial
 | v::vs,l::ls,h,hg,hu=>by
  obtain ⟨A,c,e,hb⟩:=h.1
  exact ⟨⟨A,c,e,hb.far (zmq w g cs) (fun h0 b hb' e'=>hb.apart hg hu h0 (by rw [hb',e']))⟩,zkS h.2 hg hu⟩
 | [],_::_,h,_,_=>h.elim
 | _::_,[],h,_,_=>h.elim
theorem zkT {w:World} : ∀ {vs:List Value} {ls:List (List Nat)},BVL w vs ls→∀ v∈vs,∃ A n c,v=Value.slice A n c
 | [],[],_,v,h=>by cases h
 | x::vs,l::ls,h,v,hv=>by
  rcases List.mem_cons.1 hv with rfl | hv
  ·
   obtain ⟨A,c,e,_⟩:=h.1
   exact ⟨A,_,c,e⟩
  · exact zkT h.2 v hv
 | [],_::_,h,_,_=>h.elim
 | _::_,[],h,_,_=>h.elim
theorem zmr {w:World} {vs:List Value} {ls:List (List Nat)} (h:BVL w vs ls):NoU8 vs.toArray:=fun i v hv x e=>by
 obtain ⟨A,n,c,e2⟩:=zkT h v (by simpa using Array.mem_of_getElem? hv)
 rw [e2] at e
 cases e
theorem zkU:NoU8 #[Value.slice none 0 0,Value.slice none 0 0,Value.slice none 0 0,Value.slice none 0 0,Value.slice none 0 0,Value.slice none 0 0,Value.slice none 0 0,Value.slice none 0 0,Value.slice none 0 0,Value.slice none 0 0,Value.slice none 0 0,Value.slice none 0 0,Value.slice none 0 0]:=fun i v hv x e=>by
 have:=Array.mem_of_getElem? hv
 simp at this
 rw [this] at e
 cases e
theorem zkV {w:World} {g B n:Nat} {T:TypeId} {old cs:Array Value} (hg:w.heap[g]?=some (Obj.cells old T (0,0))) (ho:old.size=n) (hc:cs.size=n) (hB:B≤g) (hu:NoU8 cs):OutsT B T n w (w.setRow g cs):=by
 refine ⟨rfl,rfl,rfl,by simp,fun k hk hn=>?_,fun k cs' hk hs hno=>?_⟩
 ·
  by_cases e:k=g
  ·
   subst e
   rcases hn with h | h
   · omega
   · exact absurd hg (h old (0,0)).2.2
  · exact setRow_other w g k cs e
 ·
  by_cases e:k=g
  ·
   subst e
   exact ⟨cs,setRow_heap _ _ _ _ _ _ hg,hc,hu⟩
  · exact ⟨cs',(setRow_other w g k cs e).trans hk,hs,hno⟩
theorem OutsT.below' {B:Nat} {T:TypeId} {n:Nat} {u v:World} (h:OutsT B T n u v) (hB:B≤u.heap.size) (hB':u.heap.size≤B):Below u.heap.size u v:=(h.below hB).mono hB'
def zb4 (B:Nat) (v0:Value) (l0:List Nat) (c:So.Config) (s:So.State):Nat→(Nat→Value)→World→Prop:=fun k X w=>match k with
 | 0=>True
 | 1=>OutV B ([]:List Nat) (X 0) w
 | 2=>OutV B (So.sConfig c) (X 7) w
 | 3=>BVL w [X 8] [So.sConfig c]
 | 4=>∃ B2,B≤B2∧B2≤w.heap.size∧OutV B2 ([]:List Nat) (X 9) w∧zc0 w B2 (So.sConfig c) (X 8)
 | 5=>∃ B2,B≤B2∧B2≤w.heap.size∧OutV B2 (So.sTicks s) (X 12) w∧zc0 w B2 (So.sConfig c) (X 8)
 | 6=>BVL w [X 8,X 13] [So.sConfig c,So.sTicks s]
 | 7=>BVL w [X 8,X 13,X 16] [So.sConfig c,So.sTicks s,So.sRegs s.h]
 | 8=>BVL w [X 8,X 13,X 16,X 20] [So.sConfig c,So.sTicks s,So.sRegs s.h,So.sControl s.h.c]
 | 9=>BVL w [X 8,X 13,X 16,X 20,X 23] [So.sConfig c,So.sTicks s,So.sRegs s.h,So.sControl s.h.c,So.sQueue s.q]
 | 10=>BVL w [X 8,X 13,X 16,X 20,X 23,X 26] [So.sConfig c,So.sTicks s,So.sRegs s.h,So.sControl s.h.c,So.sQueue s.q,So.sTimer s.c]
 | 11=>BVL w [X 8,X 13,X 16,X 20,X 23,X 26,X 29] [So.sConfig c,So.sTicks s,So.sRegs s.h,So.sControl s.h.c,So.sQueue s.q,So.sTimer s.c,So.sSources s.p]
 | 12=>BVL w [X 8,X 13,X 16,X 20,X 23,X 26,X 29,X 32] [So.sConfig c,So.sTicks s,So.sRegs s.h,So.sControl s.h.c,So.sQueue s.q,So.sTimer s.c,So.sSources s.p,So.sPort s.u]
 | 13=>BVL w [X 8,X 13,X 16,X 20,X 23,X 26,X 29,X 32,X 35] [So.sConfig c,So.sTicks s,So.sRegs s.h,So.sControl s.h.c,So.sQueue s.q,So.sTimer s.c,So.sSources s.p,So.sPort s.u,So.sEngine s.d]
 | 14=>BVL w [X 8,X 13,X 16,X 20,X 23,X 26,X 29,X 32,X 35,X 39] [So.sConfig c,So.sTicks s,So.sRegs s.h,So.sControl s.h.c,So.sQueue s.q,So.sTimer s.c,So.sSources s.p,So.sPort s.u,So.sEngine s.d,So.sSetting s.b.p]
 | 15=>BVL w [X 8,X 13,X 16,X 20,X 23,X 26,X 29,X 32,X 35,X 39,X 42] [So.sConfig c,So.sTicks s,So.sRegs s.h,So.sControl s.h.c,So.sQueue s.q,So.sTimer s.c,So.sSources s.p,So.sPort s.u,So.sEngine s.d,So.sSetting s.b.p,So.sDisk s.b]
 | 16=>BVL w [X 8,X 13,X 16,X 20,X 23,X 26,X 29,X 32,X 35,X 39,X 42,X 46] [So.sConfig c,So.sTicks s,So.sRegs s.h,So.sControl s.h.c,So.sQueue s.q,So.sTimer s.c,So.sSources s.p,So.sPort s.u,So.sEngine s.d,So.sSetting s.b.p,So.sDisk s.b,So.sSetting s.n.p]
 | 17=>BVL w [X 8,X 13,X 16,X 20,X 23,X 26,X 29,X 32,X 35,X 39,X 42,X 46,X 49] [So.sConfig c,So.sTicks s,So.sRegs s.h,So.sControl s.h.c,So.sQueue s.q,So.sTimer s.c,So.sSources s.p,So.sPort s.u,So.sEngine s.d,So.sSetting s.b.p,So.sDisk s.b,So.sSetting s.n.p,So.sNet s.n]
 | 18=>∃ vs:List Value,X 50=Value.agg vs.toArray∧BVL w vs (So.parts c s)
 | 19=>∃ (ga:Nat) (vs:List Value),X 51=Value.pointer (some ⟨ga,0,none⟩)∧B≤ga∧Blk w ga vs.toArray 182∧BVL w vs (So.parts c s)
 | _=>False
theorem zci (B:Nat) (v0:Value) (l0:List Nat) (c:So.Config) (s:So.State):∀ k X w w',zb4 B v0 l0 c s k X w→Below w.heap.size w w'→zb4 B v0 l0 c s k X w':=by
 intro k X w w' h hb
 match k,h with
 | 0,h=>exact trivial
 | 1,h=>exact OutV.keep h hb
 | 2,h=>exact OutV.keep h hb
 | 3,h=>exact BVL.keep h hb
 | 4,h=>exact (let ⟨B2,h1,h2,h3,h4⟩:=h;⟨B2,h1,Nat.le_trans h2 hb.size,h3.keep hb,h4.keep hb⟩)
 | 5,h=>exact (let ⟨B2,h1,h2,h3,h4⟩:=h;⟨B2,h1,Nat.le_trans h2 hb.size,h3.keep hb,h4.keep hb⟩)
 | 6,h=>exact BVL.keep h hb
 | 7,h=>exact BVL.keep h hb
 | 8,h=>exact BVL.keep h hb
 | 9,h=>exact BVL.keep h hb
 | 10,h=>exact BVL.keep h hb
 | 11,h=>exact BVL.keep h hb
 | 12,h=>exact BVL.keep h hb
 | 13,h=>exact BVL.keep h hb
 | 14,h=>exact BVL.keep h hb
 | 15,h=>exact BVL.keep h hb
 | 16,h=>exact BVL.keep h hb
 | 17,h=>exact BVL.keep h hb
 | 18,h=>exact (let ⟨vs,e,h1⟩:=h;⟨vs,e,h1.keep hb⟩)
 | 19,h=>exact (let ⟨ga,vs,e,h0,h1,h2⟩:=h;⟨ga,vs,e,h0,h1.keep hb,h2.keep hb⟩)
 | _+20,h=>exact h.elim
theorem zf3 (B:Nat) (v0:Value) (l0:List Nat) (c:So.Config) (s:So.State):∀ k X w w' v,k≠19→zb4 B v0 l0 c s k X w→Below w.heap.size w w'→zb4 B v0 l0 c s k (upd X 51 v) w':=by
 intro k X w w' v hk h hb
 have h2:=zci B v0 l0 c s k X w w' h hb
 match k,hk,h2 with
 | 0,_,h=>exact h
 | 1,_,h=>exact h
 | 2,_,h=>exact h
 | 3,_,h=>exact h
 | 4,_,h=>exact h
 | 5,_,h=>exact h
 | 6,_,h=>exact h
 | 7,_,h=>exact h
 | 8,_,h=>exact h
 | 9,_,h=>exact h
 | 10,_,h=>exact h
 | 11,_,h=>exact h
 | 12,_,h=>exact h
 | 13,_,h=>exact h
 | 14,_,h=>exact h
 | 15,_,h=>exact h
 | 16,_,h=>exact h
 | 17,_,h=>exact h
 | 18,_,h=>exact h
 | 19,hk,_=>exact absurd rfl hk
 | _+20,_,h=>exact h.elim
theorem zpD (vs:List Value) (h:vs.length=13) (k:Nat) (hk:k<13):∃ v,vs[k]?=some v∧∀ w,(Instr.index 182 (.agg vs.toArray) (.int .i64 k)).run Tryz.prog w=.ok v w:=by
 match vs,h with
 | [a0,a1,a2,a3,a4,a5,a6,a7,a8,a9,a10,a11,a12],_ =>
  match k,hk with
  | 0,_=>exact ⟨a0,rfl,fun w=>by kernel_rfl⟩
  | 1,_=>exact ⟨a1,rfl,fun w=>by kernel_rfl⟩
  | 2,_=>exact ⟨a2,rfl,fun w=>by kernel_rfl⟩
  | 3,_=>exact ⟨a3,rfl,fun w=>by kernel_rfl⟩
  | 4,_=>exact ⟨a4,rfl,fun w=>by kernel_rfl⟩
  | 5,_=>exact ⟨a5,rfl,fun w=>by kernel_rfl⟩
  | 6,_=>exact ⟨a6,rfl,fun w=>by kernel_rfl⟩
  | 7,_=>exact ⟨a7,rfl,fun w=>by kernel_rfl⟩
  | 8,_=>exact ⟨a8,rfl,fun w=>by kernel_rfl⟩
  | 9,_=>exact ⟨a9,rfl,fun w=>by kernel_rfl⟩
  | 10,_=>exact ⟨a10,rfl,fun w=>by kernel_rfl⟩
  | 11,_=>exact ⟨a11,rfl,fun w=>by kernel_rfl⟩
  | 12,_=>exact ⟨a12,rfl,fun w=>by kernel_rfl⟩
theorem zkW (c:So.Config) (s:So.State) (QA:Option Addr) (qn qc:Nat) (IA:Option Addr) (im ic:Nat) (w:World) (hQ:Posts w QA qn qc s.q) (hI:Reqs w IA im ic s.b.ins) (hok:s.Ok) (hco:c.Ok) (hq8:qn≤100000) (hsz:(s.b.ins.flatMap So.sReq).length≤1000000000) (hi8:im≤1000000000):Calls Tryz.prog 13 #[.agg (So.configL c).toArray,.agg (So.stL s ⟨QA,qn,qc⟩ ⟨IA,im,ic⟩).toArray] w (zoR w c s):=by
 go_enter Tryz.func13,Tryz.ntmps13
 go_upto_region 1 with (fail)
 have hC:=(Blk.new w (So.configL c).toArray 68).alloc (.cells (So.stL s ⟨QA,qn,qc⟩ ⟨IA,im,ic⟩).toArray 93)
 have hS:=Blk.new (w.alloc (.cells (So.configL c).toArray 68)) (So.stL s ⟨QA,qn,qc⟩ ⟨IA,im,ic⟩).toArray 93
 have hbel:=za (za (Below.refl w.heap.size w) (.cells (So.configL c).toArray 68)) (.cells (So.stL s ⟨QA,qn,qc⟩ ⟨IA,im,ic⟩).toArray 93)
 have hgs:(w.alloc (.cells (So.configL c).toArray 68)).heap.size=w.heap.size+1:=by simp
 rw [hgs] at hS
 clear hgs
 generalize (w.alloc (.cells (So.configL c).toArray 68)).alloc (.cells (So.stL s ⟨QA,qn,qc⟩ ⟨IA,im,ic⟩).toArray 93)=W1 at hC hS hbel ⊢
 have hQ1:=hQ.keep hbel
 have hI1:=hI.keep hbel
 have hbB:=hbel.size
 obtain ⟨g,hg⟩:∃ g,g=w.heap.size:=⟨_,rfl⟩
 obtain ⟨gs,hgs⟩:∃ gs,gs=w.heap.size+1:=⟨_,rfl⟩
 rw [←hgs] at hS ⊢
 rw [←hg] at hC ⊢
 clear hg hgs
 obtain ⟨B,hBB⟩:∃ B,B=W1.heap.size:=⟨_,rfl⟩
 have hBs:B≤W1.heap.size:=by omega
 have hBs':W1.heap.size≤B:=by omega
 have hgB:w.heap.size≤B:=by omega
 clear hBB
 refine zc (by kernel_rfl) (fun X=>⟨#[.agg (So.configL c).toArray,.agg (So.stL s { A:=QA,n:=qn,c:=qc } { A:=IA,n:=im,c:=ic }).toArray,.pointer (some ⟨g,0,none⟩),.pointer (some ⟨gs,0,none⟩),.slice none 0 0,X 51,undef,undef,undef,X 0,X 1,X 2,X 3,X 4,X 5,X 6,X 7,X 8,X 9,X 10,X 11,X 12,X 13,X 14,X 15,X 16,X 17,X 18,X 19,X 20,X 21,X 22,X 23,X 24,X 25,X 26,X 27,X 28,X 29,X 30,X 31,X 32,X 33,X 34,X 35,X 36,X 37,X 38,X 39,X 40,X 41,X 42,X 43,X 44,X 45,X 46,X 47,X 48,X 49,X 50,undef,undef,undef,undef,undef,undef,undef,undef,undef,undef,undef,undef,undef,undef,undef],[]⟩) (OutsT B 182 13) (fun i v w=>match i with | 1=>(v=.pointer (some ⟨g,0,none⟩)) | 2=>(v=.int .i64 c.pages) | 3=>(v=.int .u32 ((So.w32 c.pages:Nat):Int)) | 4=>(v=.pointer (some ⟨g,1,none⟩)) | 5=>(v=.int .u32 ((c.sectors:Nat):Int)) | 6=>(∃ s,v=.slice (some ⟨s,0,none⟩) 2 2∧Blk w s #[.int .u32 ((So.w32 c.pages:Nat):Int),.int .u32 ((c.sectors:Nat):Int)] 22) | 10=>(v=.pointer (some ⟨gs,0,none⟩)) | 11=>(v=.int .u64 ((s.ticks:Nat):Int)) | 14=>(v=.pointer (some ⟨gs,1,none⟩)) | 15=>(v=.agg (So.hartL s.h).toArray) | 17=>(v=.pointer (some ⟨gs,1,none⟩)) | 18=>(v=.pointer (some ⟨gs,35,none⟩)) | 19=>(v=.agg (So.csrL s.h.c).toArray) | 21=>(v=.pointer (some ⟨gs,43,none⟩)) | 22=>(v=.agg ([.slice QA qn qc]).toArray) | 24=>(v=.pointer (some ⟨gs,44,none⟩)) | 25=>(v=.agg (So.clintL s.c).toArray) | 27=>(v=.pointer (some ⟨gs,47,none⟩)) | 28=>(v=.agg (So.plicL s.p).toArray) | 30=>(v=.pointer (some ⟨gs,59,none⟩)) | 31=>(v=.agg (So.uartL s.u).toArray) | 33=>(v=.pointer (some ⟨gs,101,none⟩)) | 34=>(v=.agg (So.dmaL s.d).toArray) | 36=>(v=.pointer (some ⟨gs,112,none⟩)) | 37=>(v=.pointer (some ⟨gs,112,none⟩)) | 38=>(v=.agg (So.virtL s.b.p).toArray) | 40=>(v=.pointer (some ⟨gs,112,none⟩)) | 41=>(v=.agg (So.blkL s.b ⟨IA,im,ic⟩).toArray) | 43=>(v=.pointer (some ⟨gs,137,none⟩)) | 44=>(v=.pointer (some ⟨gs,137,none⟩)) | 45=>(v=.agg (So.virtL s.n.p).toArray) | 47=>(v=.pointer (some ⟨gs,137,none⟩)) | 48=>(v=.agg (So.nicL s.n).toArray) | 51=>(∃ (ga:Nat) (cs:Array Value),v=.pointer (some ⟨ga,0,none⟩)∧Blk w ga cs 182∧cs.size=13∧B≤ga∧NoU8 cs) | _=>True) (fun i=>([1,0,0,0,0,0,0,2,3,4,0,0,5,6,0,0,7,0,0,0,8,0,0,9,0,0,10,0,0,11,0,0,12,0,0,13,0,0,0,14,0,0,15,0,0,0,16,0,0,17,18,0,19]:List Nat).getD i 0) 19 (zb4 B undef [] c s) _ (fun _=>undef) (fun u v w a b=>a.trans b) ?_ (by kernel_rfl) (by kernel_rfl) ((Outs.drew _).t (T:=182) (by decide) (by decide) 13) (trivial) ?_ ?_
 ·
  intro i v w w' h hb
  match i,h with
  | 1,h=>exact h
  | 2,h=>exact h
  | 3,h=>exact h
  | 4,h=>exact h
  | 5,h=>exact h
  | 6,h=>exact (let ⟨s,e,hb'⟩:=h;⟨s,e,hb.blk hb' (by decide) (by decide) (by decide)⟩)
  | 10,h=>exact h
  | 11,h=>exact h
  | 14,h=>exact h
  | 15,h=>exact h
  | 17,h=>exact h
  | 18,h=>exact h
  | 19,h=>exact h
  | 21,h=>exact h
  | 22,h=>exact h
  | 24,h=>exact h
  | 25,h=>exact h
  | 27,h=>exact h
  | 28,h=>exact h
  | 30,h=>exact h
  | 31,h=>exact h
  | 33,h=>exact h
  | 34,h=>exact h
  | 36,h=>exact h
  | 37,h=>exact h
  | 38,h=>exact h
  | 40,h=>exact h
  | 41,h=>exact h
  | 43,h=>exact h
  | 44,h=>exact h
  | 45,h=>exact h
  | 47,h=>exact h
  | 48,h=>exact h
  | 51,h=>exact (let ⟨ga,cs,e,hb',hs,hg,hu⟩:=h;let ⟨cs',h1,h2,h3⟩:=hb.row ga cs hb'.at_ hs hu;⟨ga,cs',e,⟨h1⟩,h2,hg,h3⟩)
  | 0,h=>exact trivial
  | 7,h=>exact trivial
  | 8,h=>exact trivial
  | 9,h=>exact trivial
  | 12,h=>exact trivial
  | 13,h=>exact trivial
  | 16,h=>exact trivial
  | 20,h=>exact trivial
  | 23,h=>exact trivial
  | 26,h=>exact trivial
  | 29,h=>exact trivial
  | 32,h=>exact trivial
  | 35,h=>exact trivial
  | 39,h=>exact trivial
  | 42,h=>exact trivial
  | 46,h=>exact trivial
  | 49,h=>exact trivial
  | 50,h=>exact trivial
  | 52,h=>exact trivial
  | _+53,h=>exact trivial
 ·
  refine cS 0 0 ?_ ?_
  ·
   intro X w hR ψ χ hst K HK
   go_simp
   go_at_call 48
   refine (zay B _ (Nat.le_trans hBs hR.size)).mono ?_
   rintro e w2 ⟨v,rfl,ho,hr⟩
   go_simp
   exact HK.out _ _ _ rfl (hr.t (T:=182) (by decide) (by decide) 13) trivial ho
  refine cQ 1 ?_ ?_
  ·
   intro X w hR ψ χ K HK
   go_simp
   exact HK.out _ _ _ rfl (OutsT.refl B (by decide) (by decide) 13 _) rfl iD
  refine cQ 2 ?_ ?_
  ·
   intro X w hR ψ χ K HK
   have e1:X 1=.pointer (some ⟨g,0,none⟩):=(pS ψ 1 .data :)
   have c2:w.cell? ⟨g,0,none⟩=some (.int .i64 c.pages):=(hR.blk hC (by decide) (by decide) (by decide)).cell 0 rfl
   go_simp
   exact HK.out _ _ _ (by (try simp only [e1])<;>rfl) (OutsT.refl B (by decide) (by decide) 13 _) rfl iD
  refine cQ 3 ?_ ?_
  ·
   intro X w hR ψ χ K HK
   have e2:X 2=.int IntKind.i64 c.pages:=(pS ψ 2 .data :)
   have q3:=zgn c.pages
   go_simp
   exact HK.out _ _ _ (by (try simp only [e2])<;>rfl) (OutsT.refl B (by decide) (by decide) 13 _) rfl iD
  refine cQ 4 ?_ ?_
  ·
   intro X w hR ψ χ K HK
   go_simp
   exact HK.out _ _ _ rfl (OutsT.refl B (by decide) (by decide) 13 _) rfl iD
  refine cQ 5 ?_ ?_
  ·
   intro X w hR ψ χ K HK
   have e4:X 4=.pointer (some ⟨g,1,none⟩):=(pS ψ 4 .data :)
   have c5:w.cell? ⟨g,1,none⟩=some (.int .u32 ((c.sectors:Nat):Int)):=(hR.blk hC (by decide) (by decide) (by decide)).cell 1 rfl
   go_simp
   exact HK.out _ _ _ (by (try simp only [e4])<;>rfl) (OutsT.refl B (by decide) (by decide) 13 _) rfl iD
  refine cQ 6 ?_ ?_
  ·
   intro X w hR ψ χ K HK
   have e3:X 3=.int IntKind.u32 ((So.w32 c.pages:Nat):Int):=(pS ψ 3 .data :)
   have e5:X 5=.int IntKind.u32 ((c.sectors:Nat):Int):=(pS ψ 5 .data :)
   go_simp
   exact HK.out _ _ _ (by (try simp only [e3,e5])<;>rfl) ((Outs.alloc _ _).t (T:=182) (by decide) (by decide) 13) ⟨_,rfl,Blk.new _ _ _⟩ (fun k _ h=>zci B undef [] c s _ _ _ _ h (za (Below.refl _ _) _))
  refine cS 7 1 ?_ ?_
  ·
   intro X w hR ψ χ hst K HK
   have hst:OutV B ([]:List Nat) (X 0) w:=hst
   obtain ⟨s6,e6,hs6⟩:∃ s,X 6=Value.slice (some ⟨s,0,none⟩) 2 2∧Blk w s #[Value.int IntKind.u32 ((So.w32 c.pages:Nat):Int),Value.int IntKind.u32 ((c.sectors:Nat):Int)] 22:=(pS ψ 6 .data :)
   go_simp
   go_at_call 47
   refine (za8 hst s6 2 2 [So.w32 c.pages,c.sectors] hs6 rfl (by intro x hx;simp only [List.mem_cons,List.not_mem_nil,or_false] at hx;have:=w32_lt c.pages;unfold So.Config.Ok at hco;rcases hx with rfl | rfl<;>omega) (by simp)).mono ?_
   rintro e w2 ⟨rfl,ho,hr⟩
   go_simp
   exact HK.out _ _ _ (by (try simp only [e6])<;>rfl) (hr.t (T:=182) (by decide) (by decide) 13) trivial (ho.cast (by simp [So.sConfig,Tl.row]))
  refine cS 8 2 ?_ ?_
  ·
   intro X w hR ψ χ hst K HK
   have hst:OutV B (So.sConfig c) (X 7) w:=hst
   go_simp
   go_at_call 49
   refine (zai hst).mono ?_
   rintro e w2 ⟨A,k,rfl,hbs,hr⟩
   obtain ⟨nL,hnL⟩:=qX ((So.sConfig c).length)
   rw [hnL] at hbs ⊢
   have HnL:=qH hnL
   clear hnL
   go_simp
   exact HK.out _ _ _ rfl (hr.t (T:=182) (by decide) (by decide) 13) trivial ⟨⟨A,k,by rw [HnL.out];rfl,by rw [HnL.out];exact hbs⟩,trivial⟩
  refine cS 9 3 ?_ ?_
  ·
   intro X w hR ψ χ hst K HK
   have hst:BVL w [X 8] [So.sConfig c]:=hst
   have hsz9:=Nat.le_refl w.heap.size
   obtain ⟨hst,_⟩:=hst
   go_simp
   go_at_call 48
   refine (zay w.heap.size _ (Nat.le_refl _)).mono ?_
   rintro e w2 ⟨v,rfl,ho,hr⟩
   go_simp
   exact HK.out _ _ _ rfl ((hr.base (Nat.le_trans hBs hR.size)).t (T:=182) (by decide) (by decide) 13) trivial ⟨w.heap.size,(Nat.le_trans hBs hR.size),hr.size,ho,hst.low (hr.below (Nat.le_refl _))⟩
  refine cQ 10 ?_ ?_
  ·
   intro X w hR ψ χ K HK
   go_simp
   exact HK.out _ _ _ rfl (OutsT.refl B (by decide) (by decide) 13 _) rfl iD
  refine cQ 11 ?_ ?_
  ·
   intro X w hR ψ χ K HK
   have e10:X 10=.pointer (some ⟨gs,0,none⟩):=(pS ψ 10 .data :)
   have c11:w.cell? ⟨gs,0,none⟩=some (.int .u64 ((s.ticks:Nat):Int)):=(hR.blk hS (by decide) (by decide) (by decide)).cell 0 rfl
   go_simp
   exact HK.out _ _ _ (by (try simp only [e10])<;>rfl) (OutsT.refl B (by decide) (by decide) 13 _) rfl iD
  refine cS 12 4 ?_ ?_
  ·
   intro X w hR ψ χ hst K HK
   have hst:∃ B2,B≤B2∧B2≤w.heap.size∧OutV B2 ([]:List Nat) (X 9) w∧zc0 w B2 (So.sConfig c) (X 8):=hst
   have e11:X 11=.int IntKind.u64 ((s.ticks:Nat):Int):=(pS ψ 11 .data :)
   obtain ⟨B2,hB2,hBw,hst,hl8⟩:=hst
   go_simp
   go_at_call 50
   refine (zO hst s.ticks 8 (by have:=hok;unfold So.State.Ok at this;omega) (by omega) (by omega) (by simp)).mono ?_
   rintro e w2 ⟨rfl,ho,hr⟩
   go_simp
   exact HK.out _ _ _ (by (try simp only [e11])<;>rfl) ((hr.base hB2).t (T:=182) (by decide) (by decide) 13) trivial ⟨B2,hB2,Nat.le_trans hBw hr.size,ho.cast (by simp [So.sTicks,Tl.row]),hl8.outs hBw hr⟩
  refine cS 13 5 ?_ ?_
  ·
   intro X w hR ψ χ hst K HK
   have hst:∃ B2,B≤B2∧B2≤w.heap.size∧OutV B2 (So.sTicks s) (X 12) w∧zc0 w B2 (So.sConfig c) (X 8):=hst
   obtain ⟨B2,hB2,hBw,hst,hl8⟩:=hst
   go_simp
   go_at_call 49
   refine (zai hst).mono ?_
   rintro e w2 ⟨A,k,rfl,hbs,hr⟩
   obtain ⟨nL,hnL⟩:=qX ((So.sTicks s).length)
   rw [hnL] at hbs ⊢
   have HnL:=qH hnL
   clear hnL
   go_simp
   exact HK.out _ _ _ rfl ((hr.base hB2).t (T:=182) (by decide) (by decide) 13) trivial ⟨(hl8.outs hBw hr).bv,⟨A,k,by rw [HnL.out];rfl,by rw [HnL.out];exact hbs⟩,trivial⟩
  refine cQ 14 ?_ ?_
  ·
   intro X w hR ψ χ K HK
   go_simp
   exact HK.out _ _ _ rfl (OutsT.refl B (by decide) (by decide) 13 _) rfl iD
  refine cQ 15 ?_ ?_
  ·
   intro X w hR ψ χ K HK
   have e14:X 14=.pointer (some ⟨gs,1,none⟩):=(pS ψ 14 .data :)
   rw [if_pos (zo rfl)]
   refine wp_load_mid 71 (.tmp 23) rfl gs 1 (show X 14=_ from e14) (So.hartL s.h) _ (zd (hR.blk hS (by decide) (by decide) (by decide)) 1 42 rfl) Tryz.underlying71 rfl rfl ?_
   exact HK.out _ _ _ (by (try simp only [e14])<;>rfl) (OutsT.refl B (by decide) (by decide) 13 _) rfl iD
  refine cS 16 6 ?_ ?_
  ·
   intro X w hR ψ χ hst K HK
   have hst:BVL w [X 8,X 13] [So.sConfig c,So.sTicks s]:=hst
   have e15:X 15=.agg (So.hartL s.h).toArray:=(pS ψ 15 .data :)
   go_simp
   go_at_call 51
   refine (zmj s.h (by have:=hok;unfold So.State.Ok at this;exact this.2.1) _).mono ?_
   intro e w2 hmk
   obtain ⟨v,rfl,hv,hb2⟩:=MkB.bv hmk
   go_simp
   exact HK.out _ _ _ (by (try simp only [e15])<;>rfl) ((Outs.of_below hb2).t (T:=182) (by decide) (by decide) 13) trivial ⟨(show BV w _ (X 8) from hst.1).keep hb2,(show BV w _ (X 13) from hst.2.1).keep hb2,hv,trivial⟩
  refine cQ 17 ?_ ?_
  ·
   intro X w hR ψ χ K HK
   go_simp
   exact HK.out _ _ _ rfl (OutsT.refl B (by decide) (by decide) 13 _) rfl iD
  refine cQ 18 ?_ ?_
  ·
   intro X w hR ψ χ K HK
   have e17:X 17=.pointer (some ⟨gs,1,none⟩):=(pS ψ 17 .data :)
   go_simp
   exact HK.out _ _ _ (by (try simp only [e17])<;>rfl) (OutsT.refl B (by decide) (by decide) 13 _) rfl iD
  refine cQ 19 ?_ ?_
  ·
   intro X w hR ψ χ K HK
   have e18:X 18=.pointer (some ⟨gs,35,none⟩):=(pS ψ 18 .data :)
   rw [if_pos (zo rfl)]
   refine wp_load_mid 69 (.tmp 27) rfl gs 35 (show X 18=_ from e18) (So.csrL s.h.c) _ (zd (hR.blk hS (by decide) (by decide) (by decide)) 35 8 rfl) Tryz.underlying69 rfl rfl ?_
   exact HK.out _ _ _ (by (try simp only [e18])<;>rfl) (OutsT.refl B (by decide) (by decide) 13 _) rfl iD
  refine cS 20 7 ?_ ?_
  ·
   intro X w hR ψ χ hst K HK
   have hst:BVL w [X 8,X 13,X 16] [So.sConfig c,So.sTicks s,So.sRegs s.h]:=hst
   have e19:X 19=.agg (So.csrL s.h.c).toArray:=(pS ψ 19 .data :)
   go_simp
   go_at_call 52
   refine (zg3 s.h.c (by have:=hok;unfold So.State.Ok at this;exact this.2.1.2.2) _).mono ?_
   intro e w2 hmk
   obtain ⟨v,rfl,hv,hb2⟩:=MkB.bv hmk
   go_simp
   exact HK.out _ _ _ (by (try simp only [e19])<;>rfl) ((Outs.of_below hb2).t (T:=182) (by decide) (by decide) 13) trivial ⟨(show BV w _ (X 8) from hst.1).keep hb2,(show BV w _ (X 13) from hst.2.1).keep hb2,(show BV w _ (X 16) from hst.2.2.1).keep hb2,hv,trivial⟩
  refine cQ 21 ?_ ?_
  ·
   intro X w hR ψ χ K HK
   go_simp
   exact HK.out _ _ _ rfl (OutsT.refl B (by decide) (by decide) 13 _) rfl iD
  refine cQ 22 ?_ ?_
  ·
   intro X w hR ψ χ K HK
   have e21:X 21=.pointer (some ⟨gs,43,none⟩):=(pS ψ 21 .data :)
   rw [if_pos (zo rfl)]
   refine wp_load_mid 74 (.tmp 30) rfl gs 43 (show X 21=_ from e21) ([Value.slice QA qn qc]) _ (zd (hR.blk hS (by decide) (by decide) (by decide)) 43 1 rfl) Tryz.underlying74 rfl rfl ?_
   exact HK.out _ _ _ (by (try simp only [e21])<;>rfl) (OutsT.refl B (by decide) (by decide) 13 _) rfl iD
  refine cS 23 8 ?_ ?_
  ·
   intro X w hR ψ χ hst K HK
   have hst:BVL w [X 8,X 13,X 16,X 20] [So.sConfig c,So.sTicks s,So.sRegs s.h,So.sControl s.h.c]:=hst
   have e22:X 22=.agg ([Value.slice QA qn qc]).toArray:=(pS ψ 22 .data :)
   go_simp
   go_at_call 53
   refine (zkQ QA qn qc s.q _ (hQ1.keep (hR.below' hBs hBs')) (by have:=hok;unfold So.State.Ok at this;exact this.2.2.1) hq8).mono ?_
   intro e w2 hmk
   obtain ⟨v,rfl,hv,hb2⟩:=MkB.bv hmk
   go_simp
   exact HK.out _ _ _ (by (try simp only [e22])<;>rfl) ((Outs.of_below hb2).t (T:=182) (by decide) (by decide) 13) trivial ⟨(show BV w _ (X 8) from hst.1).keep hb2,(show BV w _ (X 13) from hst.2.1).keep hb2,(show BV w _ (X 16) from hst.2.2.1).keep hb2,(show BV w _ (X 20) from hst.2.2.2.1).keep hb2,hv,trivial⟩
  refine cQ 24 ?_ ?_
  ·
   intro X w hR ψ χ K HK
   go_simp
   exact HK.out _ _ _ rfl (OutsT.refl B (by decide) (by decide) 13 _) rfl iD
  refine cQ 25 ?_ ?_
  ·
   intro X w hR ψ χ K HK
   have e24:X 24=.pointer (some ⟨gs,44,none⟩):=(pS ψ 24 .data :)
   rw [if_pos (zo rfl)]
   refine wp_load_mid 75 (.tmp 33) rfl gs 44 (show X 24=_ from e24) (So.clintL s.c) _ (zd (hR.blk hS (by decide) (by decide) (by decide)) 44 3 rfl) Tryz.underlying75 rfl rfl ?_
   exact HK.out _ _ _ (by (try simp only [e24])<;>rfl) (OutsT.refl B (by decide) (by decide) 13 _) rfl iD
  refine cS 26 9 ?_ ?_
  ·
   intro X w hR ψ χ hst K HK
   have hst:BVL w [X 8,X 13,X 16,X 20,X 23] [So.sConfig c,So.sTicks s,So.sRegs s.h,So.sControl s.h.c,So.sQueue s.q]:=hst
   have e25:X 25=.agg (So.clintL s.c).toArray:=(pS ψ 25 .data :)
   go_simp
   go_at_call 54
   refine (zkN s.c (by have:=hok;unfold So.State.Ok at this;exact this.2.2.2.1) _).mono ?_
   intro e w2 hmk
   obtain ⟨v,rfl,hv,hb2⟩:=MkB.bv hmk
   go_simp
   exact HK.out _ _ _ (by (try simp only [e25])<;>rfl) ((Outs.of_below hb2).t (T:=182) (by decide) (by decide) 13) trivial ⟨(show BV w _ (X 8) from hst.1).keep hb2,(show BV w _ (X 13) from hst.2.1).keep hb2,(show BV w _ (X 16) from hst.2.2.1).keep hb2,(show BV w _ (X 20) from hst.2.2.2.1).keep hb2,(show BV w _ (X 23) from hst.2.2.2.2.1).keep hb2,hv,trivial⟩
  refine cQ 27 ?_ ?_
  ·
   intro X w hR ψ χ K HK
   go_simp
   exact HK.out _ _ _ rfl (OutsT.refl B (by decide) (by decide) 13 _) rfl iD
  refine cQ 28 ?_ ?_
  ·
   intro X w hR ψ χ K HK
   have e27:X 27=.pointer (some ⟨gs,47,none⟩):=(pS ψ 27 .data :)
   rw [if_pos (zo rfl)]
   refine wp_load_mid 76 (.tmp 36) rfl gs 47 (show X 27=_ from e27) (So.plicL s.p) _ (zd (hR.blk hS (by decide) (by decide) (by decide)) 47 12 rfl) Tryz.underlying76 rfl rfl ?_
   exact HK.out _ _ _ (by (try simp only [e27])<;>rfl) (OutsT.refl B (by decide) (by decide) 13 _) rfl iD
  refine cS 29 10 ?_ ?_
  ·
   intro X w hR ψ χ hst K HK
   have hst:BVL w [X 8,X 13,X 16,X 20,X 23,X 26] [So.sConfig c,So.sTicks s,So.sRegs s.h,So.sControl s.h.c,So.sQueue s.q,So.sTimer s.c]:=hst
   have e28:X 28=.agg (So.plicL s.p).toArray:=(pS ψ 28 .data :)
   go_simp
   go_at_call 55
   refine (zg4 s.p (by have:=hok;unfold So.State.Ok at this;exact this.2.2.2.2.1) _).mono ?_
   intro e w2 hmk
   obtain ⟨v,rfl,hv,hb2⟩:=MkB.bv hmk
   go_simp
   exact HK.out _ _ _ (by (try simp only [e28])<;>rfl) ((Outs.of_below hb2).t (T:=182) (by decide) (by decide) 13) trivial ⟨(show BV w _ (X 8) from hst.1).keep hb2,(show BV w _ (X 13) from hst.2.1).keep hb2,(show BV w _ (X 16) from hst.2.2.1).keep hb2,(show BV w _ (X 20) from hst.2.2.2.1).keep hb2,(show BV w _ (X 23) from hst.2.2.2.2.1).keep hb2,(show BV w _ (X 26) from hst.2.2.2.2.2.1).keep hb2,hv,trivial⟩
  refine cQ 30 ?_ ?_
  ·
   intro X w hR ψ χ K HK
   go_simp
   exact HK.out _ _ _ rfl (OutsT.refl B (by decide) (by decide) 13 _) rfl iD
  refine cQ 31 ?_ ?_
  ·
   intro X w hR ψ χ K HK
   have e30:X 30=.pointer (some ⟨gs,59,none⟩):=(pS ψ 30 .data :)
   rw [if_pos (zo rfl)]
   refine wp_load_mid 79 (.tmp 39) rfl gs 59 (show X 30=_ from e30) (So.uartL s.u) _ (zd (hR.blk hS (by decide) (by decide) (by decide)) 59 42 rfl) Tryz.underlying79 rfl rfl ?_
   exact HK.out _ _ _ (by (try simp only [e30])<;>rfl) (OutsT.refl B (by decide) (by decide) 13 _) rfl iD
  refine cS 32 11 ?_ ?_
  ·
   intro X w hR ψ χ hst K HK
   have hst:BVL w [X 8,X 13,X 16,X 20,X 23,X 26,X 29] [So.sConfig c,So.sTicks s,So.sRegs s.h,So.sControl s.h.c,So.sQueue s.q,So.sTimer s.c,So.sSources s.p]:=hst
   have e31:X 31=.agg (So.uartL s.u).toArray:=(pS ψ 31 .data :)
   go_simp
   go_at_call 56
   refine (zmm s.u (by have:=hok;unfold So.State.Ok at this;exact this.2.2.2.2.2.1) _).mono ?_
   intro e w2 hmk
   obtain ⟨v,rfl,hv,hb2⟩:=MkB.bv hmk
   go_simp
   exact HK.out _ _ _ (by (try simp only [e31])<;>rfl) ((Outs.of_below hb2).t (T:=182) (by decide) (by decide) 13) trivial ⟨(show BV w _ (X 8) from hst.1).keep hb2,(show BV w _ (X 13) from hst.2.1).keep hb2,(show BV w _ (X 16) from hst.2.2.1).keep hb2,(show BV w _ (X 20) from hst.2.2.2.1).keep hb2,(show BV w _ (X 23) from hst.2.2.2.2.1).keep hb2,(show BV w _ (X 26) from hst.2.2.2.2.2.1).keep hb2,(show BV w _ (X 29) from hst.2.2.2.2.2.2.1).keep hb2,hv,trivial⟩
  refine cQ 33 ?_ ?_
  ·
   intro X w hR ψ χ K HK
   go_simp
   exact HK.out _ _ _ rfl (OutsT.refl B (by decide) (by decide) 13 _) rfl iD
  refine cQ 34 ?_ ?_
  ·
   intro X w hR ψ χ K HK
   have e33:X 33=.pointer (some ⟨gs,101,none⟩):=(pS ψ 33 .data :)
   rw [if_pos (zo rfl)]
   refine wp_load_mid 80 (.tmp 42) rfl gs 101 (show X 33=_ from e33) (So.dmaL s.d) _ (zd (hR.blk hS (by decide) (by decide) (by decide)) 101 11 rfl) Tryz.underlying80 rfl rfl ?_
   exact HK.out _ _ _ (by (try simp only [e33])<;>rfl) (OutsT.refl B (by decide) (by decide) 13 _) rfl iD
  refine cS 35 12 ?_ ?_
  ·
   intro X w hR ψ χ hst K HK
   have hst:BVL w [X 8,X 13,X 16,X 20,X 23,X 26,X 29,X 32] [So.sConfig c,So.sTicks s,So.sRegs s.h,So.sControl s.h.c,So.sQueue s.q,So.sTimer s.c,So.sSources s.p,So.sPort s.u]:=hst
   have e34:X 34=.agg (So.dmaL s.d).toArray:=(pS ψ 34 .data :)
   go_simp
   go_at_call 57
   refine (zjd s.d (by have:=hok;unfold So.State.Ok at this;exact this.2.2.2.2.2.2.1) _).mono ?_
   intro e w2 hmk
   obtain ⟨v,rfl,hv,hb2⟩:=MkB.bv hmk
   go_simp
   exact HK.out _ _ _ (by (try simp only [e34])<;>rfl) ((Outs.of_below hb2).t (T:=182) (by decide) (by decide) 13) trivial ⟨(show BV w _ (X 8) from hst.1).keep hb2,(show BV w _ (X 13) from hst.2.1).keep hb2,(show BV w _ (X 16) from hst.2.2.1).keep hb2,(show BV w _ (X 20) from hst.2.2.2.1).keep hb2,(show BV w _ (X 23) from hst.2.2.2.2.1).keep hb2,(show BV w _ (X 26) from hst.2.2.2.2.2.1).keep hb2,(show BV w _ (X 29) from hst.2.2.2.2.2.2.1).keep hb2,(show BV w _ (X 32) from hst.2.2.2.2.2.2.2.1).keep hb2,hv,trivial⟩
  refine cQ 36 ?_ ?_
  ·
   intro X w hR ψ χ K HK
   go_simp
   exact HK.out _ _ _ rfl (OutsT.refl B (by decide) (by decide) 13 _) rfl iD
  refine cQ 37 ?_ ?_
  ·
   intro X w hR ψ χ K HK
   have e36:X 36=.pointer (some ⟨gs,112,none⟩):=(pS ψ 36 .data :)
   go_simp
   exact HK.out _ _ _ (by (try simp only [e36])<;>rfl) (OutsT.refl B (by decide) (by decide) 13 _) rfl iD
  refine cQ 38 ?_ ?_
  ·
   intro X w hR ψ χ K HK
   have e37:X 37=.pointer (some ⟨gs,112,none⟩):=(pS ψ 37 .data :)
   rw [if_pos (zo rfl)]
   refine wp_load_mid 86 (.tmp 46) rfl gs 112 (show X 37=_ from e37) (So.virtL s.b.p) _ (zd (hR.blk hS (by decide) (by decide) (by decide)) 112 21 rfl) Tryz.underlying86 rfl rfl ?_
   exact HK.out _ _ _ (by (try simp only [e37])<;>rfl) (OutsT.refl B (by decide) (by decide) 13 _) rfl iD
  refine cS 39 13 ?_ ?_
  ·
   intro X w hR ψ χ hst K HK
   have hst:BVL w [X 8,X 13,X 16,X 20,X 23,X 26,X 29,X 32,X 35] [So.sConfig c,So.sTicks s,So.sRegs s.h,So.sControl s.h.c,So.sQueue s.q,So.sTimer s.c,So.sSources s.p,So.sPort s.u,So.sEngine s.d]:=hst
   have e38:X 38=.agg (So.virtL s.b.p).toArray:=(pS ψ 38 .data :)
   go_simp
   go_at_call 58
   refine (zen s.b.p (by have:=hok;unfold So.State.Ok at this;exact this.2.2.2.2.2.2.2.1.1) _).mono ?_
   intro e w2 hmk
   obtain ⟨v,rfl,hv,hb2⟩:=MkB.bv hmk
   go_simp
   exact HK.out _ _ _ (by (try simp only [e38])<;>rfl) ((Outs.of_below hb2).t (T:=182) (by decide) (by decide) 13) trivial ⟨(show BV w _ (X 8) from hst.1).keep hb2,(show BV w _ (X 13) from hst.2.1).keep hb2,(show BV w _ (X 16) from hst.2.2.1).keep hb2,(show BV w _ (X 20) from hst.2.2.2.1).keep hb2,(show BV w _ (X 23) from hst.2.2.2.2.1).keep hb2,(show BV w _ (X 26) from hst.2.2.2.2.2.1).keep hb2,(show BV w _ (X 29) from hst.2.2.2.2.2.2.1).keep hb2,(show BV w _ (X 32) from hst.2.2.2.2.2.2.2.1).keep hb2,(show BV w _ (X 35) from hst.2.2.2.2.2.2.2.2.1).keep hb2,hv,trivial⟩
  refine cQ 40 ?_ ?_
  ·
   intro X w hR ψ χ K HK
   go_simp
   exact HK.out _ _ _ rfl (OutsT.refl B (by decide) (by decide) 13 _) rfl iD
  refine cQ 41 ?_ ?_
  ·
   intro X w hR ψ χ K HK
   have e40:X 40=.pointer (some ⟨gs,112,none⟩):=(pS ψ 40 .data :)
   rw [if_pos (zo rfl)]
   refine wp_load_mid 89 (.tmp 49) rfl gs 112 (show X 40=_ from e40) (So.blkL s.b ⟨IA,im,ic⟩) _ (zd (hR.blk hS (by decide) (by decide) (by decide)) 112 25 rfl) Tryz.underlying89 rfl rfl ?_
   exact HK.out _ _ _ (by (try simp only [e40])<;>rfl) (OutsT.refl B (by decide) (by decide) 13 _) rfl iD
  refine cS 42 14 ?_ ?_
  ·
   intro X w hR ψ χ hst K HK
   have hst:BVL w [X 8,X 13,X 16,X 20,X 23,X 26,X 29,X 32,X 35,X 39] [So.sConfig c,So.sTicks s,So.sRegs s.h,So.sControl s.h.c,So.sQueue s.q,So.sTimer s.c,So.sSources s.p,So.sPort s.u,So.sEngine s.d,So.sSetting s.b.p]:=hst
   have e41:X 41=.agg (So.blkL s.b ⟨IA,im,ic⟩).toArray:=(pS ψ 41 .data :)
   go_simp
   go_at_call 59
   refine (zmp s.b IA im ic _ (hI1.keep (hR.below' hBs hBs')) (by have:=hok;unfold So.State.Ok at this;exact this.2.2.2.2.2.2.2.1) hsz hi8).mono ?_
   intro e w2 hmk
   obtain ⟨v,rfl,hv,hb2⟩:=MkB.bv hmk
   go_simp
   exact HK.out _ _ _ (by (try simp only [e41])<;>rfl) ((Outs.of_below hb2).t (T:=182) (by decide) (by decide) 13) trivial ⟨(show BV w _ (X 8) from hst.1).keep hb2,(show BV w _ (X 13) from hst.2.1).keep hb2,(show BV w _ (X 16) from hst.2.2.1).keep hb2,(show BV w _ (X 20) from hst.2.2.2.1).keep hb2,(show BV w _ (X 23) from hst.2.2.2.2.1).keep hb2,(show BV w _ (X 26) from hst.2.2.2.2.2.1).keep hb2,(show BV w _ (X 29) from hst.2.2.2.2.2.2.1).keep hb2,(show BV w _ (X 32) from hst.2.2.2.2.2.2.2.1).keep hb2,(show BV w _ (X 35) from hst.2.2.2.2.2.2.2.2.1).keep hb2,(show BV w _ (X 39) from hst.2.2.2.2.2.2.2.2.2.1).keep hb2,hv,trivial⟩
  refine cQ 43 ?_ ?_
  ·
   intro X w hR ψ χ K HK
   go_simp
   exact HK.out _ _ _ rfl (OutsT.refl B (by decide) (by decide) 13 _) rfl iD
  refine cQ 44 ?_ ?_
  ·
   intro X w hR ψ χ K HK
   have e43:X 43=.pointer (some ⟨gs,137,none⟩):=(pS ψ 43 .data :)
   go_simp
   exact HK.out _ _ _ (by (try simp only [e43])<;>rfl) (OutsT.refl B (by decide) (by decide) 13 _) rfl iD
  refine cQ 45 ?_ ?_
  ·
   intro X w hR ψ χ K HK
   have e44:X 44=.pointer (some ⟨gs,137,none⟩):=(pS ψ 44 .data :)
   rw [if_pos (zo rfl)]
   refine wp_load_mid 86 (.tmp 53) rfl gs 137 (show X 44=_ from e44) (So.virtL s.n.p) _ (zd (hR.blk hS (by decide) (by decide) (by decide)) 137 21 rfl) Tryz.underlying86 rfl rfl ?_
   exact HK.out _ _ _ (by (try simp only [e44])<;>rfl) (OutsT.refl B (by decide) (by decide) 13 _) rfl iD
  refine cS 46 15 ?_ ?_
  ·
   intro X w hR ψ χ hst K HK
   have hst:BVL w [X 8,X 13,X 16,X 20,X 23,X 26,X 29,X 32,X 35,X 39,X 42] [So.sConfig c,So.sTicks s,So.sRegs s.h,So.sControl s.h.c,So.sQueue s.q,So.sTimer s.c,So.sSources s.p,So.sPort s.u,So.sEngine s.d,So.sSetting s.b.p,So.sDisk s.b]:=hst
   have e45:X 45=.agg (So.virtL s.n.p).toArray:=(pS ψ 45 .data :)
   go_simp
   go_at_call 58
   refine (zen s.n.p (by have:=hok;unfold So.State.Ok at this;exact this.2.2.2.2.2.2.2.2.1) _).mono ?_
   intro e w2 hmk
   obtain ⟨v,rfl,hv,hb2⟩:=MkB.bv hmk
   go_simp
   exact HK.out _ _ _ (by (try simp only [e45])<;>rfl) ((Outs.of_below hb2).t (T:=182) (by decide) (by decide) 13) trivial ⟨(show BV w _ (X 8) from hst.1).keep hb2,(show BV w _ (X 13) from hst.2.1).keep hb2,(show BV w _ (X 16) from hst.2.2.1).keep hb2,(show BV w _ (X 20) from hst.2.2.2.1).keep hb2,(show BV w _ (X 23) from hst.2.2.2.2.1).keep hb2,(show BV w _ (X 26) from hst.2.2.2.2.2.1).keep hb2,(show BV w _ (X 29) from hst.2.2.2.2.2.2.1).keep hb2,(show BV w _ (X 32) from hst.2.2.2.2.2.2.2.1).keep hb2,(show BV w _ (X 35) from hst.2.2.2.2.2.2.2.2.1).keep hb2,(show BV w _ (X 39) from hst.2.2.2.2.2.2.2.2.2.1).keep hb2,(show BV w _ (X 42) from hst.2.2.2.2.2.2.2.2.2.2.1).keep hb2,hv,trivial⟩
  refine cQ 47 ?_ ?_
  ·
   intro X w hR ψ χ K HK
   go_simp
   exact HK.out _ _ _ rfl (OutsT.refl B (by decide) (by decide) 13 _) rfl iD
  refine cQ 48 ?_ ?_
  ·
   intro X w hR ψ χ K HK
   have e47:X 47=.pointer (some ⟨gs,137,none⟩):=(pS ψ 47 .data :)
   rw [if_pos (zo rfl)]
   refine wp_load_mid 91 (.tmp 56) rfl gs 137 (show X 47=_ from e47) (So.nicL s.n) _ (zd (hR.blk hS (by decide) (by decide) (by decide)) 137 23 rfl) Tryz.underlying91 rfl rfl ?_
   exact HK.out _ _ _ (by (try simp only [e47])<;>rfl) (OutsT.refl B (by decide) (by decide) 13 _) rfl iD
  refine cS 49 16 ?_ ?_
  ·
   intro X w hR ψ χ hst K HK
   have hst:BVL w [X 8,X 13,X 16,X 20,X 23,X 26,X 29,X 32,X 35,X 39,X 42,X 46] [So.sConfig c,So.sTicks s,So.sRegs s.h,So.sControl s.h.c,So.sQueue s.q,So.sTimer s.c,So.sSources s.p,So.sPort s.u,So.sEngine s.d,So.sSetting s.b.p,So.sDisk s.b,So.sSetting s.n.p]:=hst
   have e48:X 48=.agg (So.nicL s.n).toArray:=(pS ψ 48 .data :)
   go_simp
   go_at_call 60
   refine (znX s.n (by have:=hok;unfold So.State.Ok at this;exact this.2.2.2.2.2.2.2.2) _).mono ?_
   intro e w2 hmk
   obtain ⟨v,rfl,hv,hb2⟩:=MkB.bv hmk
   go_simp
   exact HK.out _ _ _ (by (try simp only [e48])<;>rfl) ((Outs.of_below hb2).t (T:=182) (by decide) (by decide) 13) trivial ⟨(show BV w _ (X 8) from hst.1).keep hb2,(show BV w _ (X 13) from hst.2.1).keep hb2,(show BV w _ (X 16) from hst.2.2.1).keep hb2,(show BV w _ (X 20) from hst.2.2.2.1).keep hb2,(show BV w _ (X 23) from hst.2.2.2.2.1).keep hb2,(show BV w _ (X 26) from hst.2.2.2.2.2.1).keep hb2,(show BV w _ (X 29) from hst.2.2.2.2.2.2.1).keep hb2,(show BV w _ (X 32) from hst.2.2.2.2.2.2.2.1).keep hb2,(show BV w _ (X 35) from hst.2.2.2.2.2.2.2.2.1).keep hb2,(show BV w _ (X 39) from hst.2.2.2.2.2.2.2.2.2.1).keep hb2,(show BV w _ (X 42) from hst.2.2.2.2.2.2.2.2.2.2.1).keep hb2,(show BV w _ (X 46) from hst.2.2.2.2.2.2.2.2.2.2.2.1).keep hb2,hv,trivial⟩
  refine cS 50 17 ?_ ?_
  ·
   intro X w hR ψ χ hst K HK
   have hst:BVL w [X 8,X 13,X 16,X 20,X 23,X 26,X 29,X 32,X 35,X 39,X 42,X 46,X 49] [So.sConfig c,So.sTicks s,So.sRegs s.h,So.sControl s.h.c,So.sQueue s.q,So.sTimer s.c,So.sSources s.p,So.sPort s.u,So.sEngine s.d,So.sSetting s.b.p,So.sDisk s.b,So.sSetting s.n.p,So.sNet s.n]:=hst
   obtain ⟨A8,k8,e8,hv8⟩:=hst.1
   obtain ⟨A13,k13,e13,hv13⟩:=hst.2.1
   obtain ⟨A16,k16,e16,hv16⟩:=hst.2.2.1
   obtain ⟨A20,k20,e20,hv20⟩:=hst.2.2.2.1
   obtain ⟨A23,k23,e23,hv23⟩:=hst.2.2.2.2.1
   obtain ⟨A26,k26,e26,hv26⟩:=hst.2.2.2.2.2.1
   obtain ⟨A29,k29,e29,hv29⟩:=hst.2.2.2.2.2.2.1
   obtain ⟨A32,k32,e32,hv32⟩:=hst.2.2.2.2.2.2.2.1
   obtain ⟨A35,k35,e35,hv35⟩:=hst.2.2.2.2.2.2.2.2.1
   obtain ⟨A39,k39,e39,hv39⟩:=hst.2.2.2.2.2.2.2.2.2.1
   obtain ⟨A42,k42,e42,hv42⟩:=hst.2.2.2.2.2.2.2.2.2.2.1
   obtain ⟨A46,k46,e46,hv46⟩:=hst.2.2.2.2.2.2.2.2.2.2.2.1
   obtain ⟨A49,k49,e49,hv49⟩:=hst.2.2.2.2.2.2.2.2.2.2.2.2.1
   go_simp
   exact HK.out _ _ _ (by (try simp only [e8,e13,e16,e20,e23,e26,e29,e32,e35,e39,e42,e46,e49])<;>rfl) (OutsT.refl B (by decide) (by decide) 13 _) trivial ⟨[_,_,_,_,_,_,_,_,_,_,_,_,_],rfl,⟨A8,k8,rfl,hv8⟩,⟨A13,k13,rfl,hv13⟩,⟨A16,k16,rfl,hv16⟩,⟨A20,k20,rfl,hv20⟩,⟨A23,k23,rfl,hv23⟩,⟨A26,k26,rfl,hv26⟩,⟨A29,k29,rfl,hv29⟩,⟨A32,k32,rfl,hv32⟩,⟨A35,k35,rfl,hv35⟩,⟨A39,k39,rfl,hv39⟩,⟨A42,k42,rfl,hv42⟩,⟨A46,k46,rfl,hv46⟩,⟨A49,k49,rfl,hv49⟩,trivial⟩
  refine cQ 51 ?_ ?_
  ·
   intro X w hR ψ χ K HK
   go_simp
   exact HK.out _ _ _ rfl ((Outs.alloc _ _).t (T:=182) (by decide) (by decide) 13) ⟨_,_,rfl,Blk.new _ _ _,rfl,(Nat.le_trans hBs hR.size),zkU⟩ (fun k hk h=>zf3 B undef [] c s k X w _ _ (fun e=>by subst e;exact hk 52 _ rfl rfl (by omega) ⟨51,.data⟩ (by simp) (by kernel_rfl) rfl) h (za (Below.refl _ _) _))
  refine cS 52 18 ?_ ?_
  ·
   intro X w hR ψ χ hst K HK
   have hst:∃ vs:List Value,X 50=Value.agg vs.toArray∧BVL w vs (So.parts c s):=hst
   obtain ⟨ga51,cs51,e51,hb51,hs51,hg51,hu51⟩:∃ (ga:Nat) (cs:Array Value),X 51=Value.pointer (some ⟨ga,0,none⟩)∧Blk w ga cs 182∧cs.size=13∧B≤ga∧NoU8 cs:=(pS ψ 51 .data :)
   obtain ⟨vs,e50,hvs⟩:=hst
   have hvl:vs.length=13:=hvs.length
   rw [if_pos (zo rfl)]
   refine wp_store_row 182 (.tmp 5) (.tmp 59) rfl ga51 vs.toArray (show X 51=_ from e51) (show X 50=_ from e50) 182 cs51 hb51.at_ (by rw [List.size_toArray,hvl];rfl) (by simp [hvl,hs51]) (all_oneCell_toArray (zkR hvs)) ?_
   exact HK.out undef _ _ (by (try simp only [e51])<;>rfl) (zkV hb51.at_ hs51 (by rw [List.size_toArray,hvl]) hg51 (zmr hvs)) trivial ⟨ga51,vs,e51,hg51,⟨setRow_heap _ _ _ _ _ _ hb51.at_⟩,zkS hvs hb51 hu51⟩
  exact zi.nil
 ·
  intro X1 wE1 hR1 hall1 hS1
  obtain ⟨ga,vs,e51,hga,hG,hvs⟩:∃ (ga:Nat) (vs:List Value),X1 51=Value.pointer (some ⟨ga,0,none⟩)∧B≤ga∧Blk wE1 ga vs.toArray 182∧BVL wE1 vs (So.parts c s):=hS1
  clear hall1
  have hbE:Below w.heap.size w wE1:=hbel.trans ((hR1.below hBs).mono hgB)
  have hvl:vs.length=13:=hvs.length
  go_wp2_with (refine wpList_load_row rfl 182 (.tmp 5) rfl ga (show X1 51=_ from e51) 182 vs.toArray (0,0) _ hG.at_ Tryz.underlying182 rfl (by rw [List.size_toArray,hvl];rfl) ?_)
  have Hvl:=qH hvl
  clear hvl e51 hG
  go_loopw [6,7,8,61] (fun lv _ _ i wr=>∃ (k:Nat) (A:Option Addr) (c1:Nat) (L:List SecV),k≤13∧i=.int .i64 k∧lv=.slice A k c1∧OwnS wr wE1.heap.size 150 A k c1 L∧secL L=((So.parts c s).take k).zipIdx.map (fun x=>⟨x.2+1,x.1⟩)∧Below wE1.heap.size wE1 wr) (fun _ _ _ i _=>13-(intOf i).toNat)
  case atStart=>exact ⟨0,none,0,[],by omega,rfl,rfl,OwnS.nil _ _ _,rfl,Below.refl _ _⟩
  case round =>
   obtain ⟨k,A,c1,L,hk,rfl,rfl,hL,hLs,hb⟩:=hrel
   by_cases hlt:k<13
   ·
    obtain ⟨v,hvk,hix⟩:=zpD vs Hvl.out k hlt
    obtain ⟨l,hlk⟩:∃ l,(So.parts c s)[k]?=some l:=⟨_,List.getElem?_eq_getElem (by show k<13;omega)⟩
    obtain ⟨v',hv',hbv⟩:=hvs.at_ k l hlk
    obtain rfl:v=v':=Option.some.inj (hvk.symm.trans hv')
    obtain ⟨A2,c2,rfl,hbs⟩:=hbv
    have hln:((So.parts c s).take (k+1)).zipIdx.map (fun x=>(⟨x.2+1,x.1⟩:Tl.Sec))=((So.parts c s).take k).zipIdx.map (fun x=>⟨x.2+1,x.1⟩)++[⟨k+1,l⟩]:=by
     obtain ⟨h1,rfl⟩:=List.getElem?_eq_some_iff.1 hlk
     rw [List.take_succ_eq_append_getElem h1,List.zipIdx_append,List.map_append,List.length_take,Nat.min_eq_left (by omega)]
     simp
    have Hln:=qH hln
    have hbw:=hbs.keep hb
    have hblk:0<l.length→∀ q,A2.map (·.block)=some q→q<wE1.heap.size:=fun h0 q hq=>by
     obtain ⟨b,off,rfl,hl⟩:=hbs.lt (by omega)
     obtain rfl:b=q:=Option.some.inj hq
     exact hl
    obtain ⟨nl,hnl⟩:=qX l.length
    rw [hnl] at hbw hblk
    have Hnl:=qH hnl
    have hk1:IntKind.u32.wrap ((k:Int)+1)=(k:Int)+1:=by rw [IntKind.wrap_u32];omega
    have hkn:(k:Int)<13:=by omega
    rw [hnl] at hix
    clear hnl hln hvk hv' hlk hbs
    go_upto_region 6 with (fail)
    have hT:=Blk.new wr #[.int .u32 ((k:Int)+1),.slice A2 nl c2] 150
    have hbT:=za (Below.refl wr.heap.size wr) (.cells #[.int .u32 ((k:Int)+1),.slice A2 nl c2] 150)
    have hLW:=hL.keep hbT
    have hn0:(wr.alloc (.cells #[.int .u32 ((k:Int)+1),.slice A2 nl c2] 150)).cell? ⟨wr.heap.size,0,none⟩=some (.int .u32 ((k+1:Nat):Int)):=by
     rw [show ((k+1:Nat):Int)=(k:Int)+1 from by omega]
     exact hT.cell 0 rfl
    have hn1:(wr.alloc (.cells #[.int .u32 ((k:Int)+1),.slice A2 nl c2] 150)).cell? ⟨wr.heap.size,1,none⟩=some (.slice A2 nl c2):=hT.cell 1 rfl
    have hbW:=hbw.keep hbT
    have hfar:0<nl→∀ q,A.map (·.block)=some q→A2.map (·.block)≠some q:=fun h0 q hq e=>by
     have h1:=(hL.ge q hq).1
     have h2:=hblk h0 q e
     omega
    have hbz:wE1.heap.size≤(wr.alloc (.cells #[.int .u32 ((k:Int)+1),.slice A2 nl c2] 150)).heap.size:=Nat.le_trans hb.size hbT.size
    have htag:k+1<4294967296:=by omega
    have hkm:k+1≤4398046511104:=by omega
    go_wp2_with (at_builtin;refine zeK rfl _ _ 98 150 rfl Tryz.underlying98 Tryz.info150 wE1.heap.size A k c1 L wr.heap.size ⟨k+1,A2,nl,c2,l⟩ (k+1) rfl rfl rfl hLW hn0 hn1 htag hbW hfar hbz hkm ?_;intro A3 c3 w2 hown2 hg2 hat2)
    go_roundw
    case rel=>exact ⟨k+1,A3,c3,L++[⟨k+1,A2,nl,c2,l⟩],by omega,by go_num,rfl,hown2,by rw [Hln.out,←hLs];simp [secL,SecV.sec],zaJ (zb hb hbT) hg2 (fun q hq=>(hL.ge q hq).1)⟩
    case measure=>simp [intOf];omega
   ·
    obtain rfl:k=13:=by omega
    clear hlt
    go_wp2_with fail
    go_ret
    exact ⟨A,c1,L,rfl,hL.lower hbE.size,by rw [hLs];rfl,zb hbE hb⟩
end Go.Proofs.YtdffbihilhkkjaaGreatDoor
