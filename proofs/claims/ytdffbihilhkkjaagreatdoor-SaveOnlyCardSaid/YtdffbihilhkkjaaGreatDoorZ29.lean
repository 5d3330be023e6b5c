import Derived.Test.YtdffbihilhkkjaaGreatDoorZ8
import Derived.Test.YtdffbihilhkkjaaGreatDoorZ11
import Derived.Test.YtdffbihilhkkjaaGreatDoorZ23
import Derived.Test.YtdffbihilhkkjaaGreatDoorZ28
import Derived.Maps.AppendAt
import Derived.Lib.SliceRun
namespace Go.Proofs.YtdffbihilhkkjaaGreatDoor
open Go.RowKit
set_option linter.unusedVariables false
set_option linter.unusedSimpArgs false
set_option maxRecDepth 100000
set_option maxHeartbeats 8000000
def zkB (w:World) (e:TypeId) (sz n:Nat) (xs:List Value) (en:Ending) (w':World):Prop:=∃ A1 c1,en=.returned (.slice A1 n c1)∧RowE w' w.heap.size e sz A1 n c1 xs∧Below w.heap.size w w'
theorem zej {w:World} {base n:Nat} {e:TypeId} {sz:Nat} {v:Value} {xs:List Value} (h:w.ownsRow base e sz v n xs):∃ A c,v=.slice A n c:=by
 rcases h.2 with ⟨rfl,hn⟩ | ⟨g,cap,cur,rfl,_⟩
 · exact ⟨none,0,by rw [hn]⟩
 · exact ⟨_,_,rfl⟩
theorem zjb (base:Nat) (A:Option Addr) (n c:Nat) (xs:List Value) (w:World) (hR:RowE w base 188 4 A n c xs) (h1:∀ u∈xs,u.oneCell'=true) (hm:n≤549755813888):Calls Tryz.prog 155 #[.slice A n c] w (zkB w 188 4 n xs):=by
 have q23:∀ (w:World) (a:Option Addr) (n c n' c':Nat),(binOp .eql 72 (.slice a n c) (.slice none n' c')).run Tryz.prog w=.ok (.bool a.isNone) w:=fun w a n c n' c'=>Lib.run_eql_slice_nil w _ _ a n c n' c' Tryz.underlying72
 have HO:=qH hR.own
 have hlen:xs.length=n*4:=hR.own.1
 have HL:=qH hlen
 have H1:=qH h1
 clear hlen hR h1
 cases A with
 | none =>
  have h0:n=0:=by
   rcases HO.out.2 with ⟨_,hn⟩ | ⟨g,cap,cur,he,_⟩
   · exact hn
   · simp at he
  subst h0
  have hx:xs=[]:=List.eq_nil_of_length_eq_zero (by rw [HL.out,Nat.zero_mul])
  subst hx
  go_enter Tryz.func155,Tryz.ntmps155
  go_wp2
  go_ret
  exact ⟨none,0,rfl,RowE.nil _ _ _ _,Below.refl _ _⟩
 | some a =>
  obtain ⟨i0,hi,hzz⟩:=Option.map_eq_some_iff.1 zfP
  simp only [Prod.mk.injEq] at hzz
  have HI:=qH hi
  have HZ:=qH hzz
  clear hi hzz
  have hcell:=HO.out.cells (g:=a.block) rfl
  have HE:=qH (World.ownsRow_lit (size:=4) (e:=188) w (#[]:Array Value) 0 (Nat.le_refl w.heap.size) (by decide) (by decide))
  have HC:Hid (∀ j u,xs[j]?=some u→(w.alloc (.cells #[] 188)).cell? (a.add j)=some u):=qH (fun j u hu=>zao (by
   rcases HO.out.2 with ⟨he,_⟩ | ⟨g,cap,cur,he,hb,hg,hr⟩
   · simp at he
   ·
    have h2:=HO.out.cells (g:=g) (by rw [he];rfl) j u hu
    simp only [Value.slice.injEq,Option.some.injEq] at he
    rw [he.1]
    exact h2) _)
  clear hcell
  go_enter Tryz.func155,Tryz.ntmps155
  go_wp2_with (at_builtin;go_loud (refine wpList_append_own_at _ rfl _ _ 72 rfl w.heap.size 188 i0 _ 4 32 Tryz.underlying72 HI.out HZ.out.1 HZ.out.2.1 HZ.out.2.2 rfl (by decide) (.slice (some ⟨w.heap.size,0,none⟩) 0 0) 0 [] rfl HE.out a n c xs rfl HL.out HC.out H1.out (by simp only [maxLen];omega) (by omega) (by simp) ?_);intro v1 w1 hown hg hnil hat)
  go_ret
  rw [Nat.zero_add] at hown
  obtain ⟨A1,c1,rfl⟩:=zej hown
  refine ⟨A1,c1,rfl,⟨by simpa using hown⟩,?_⟩
  rw [zaH] at hg
  exact zaJ ((Below.refl _ _).alloc (Nat.le_refl _) _) hg (by intro k hk;simp at hk;omega)
theorem zkC (base:Nat) (A:Option Addr) (n c:Nat) (xs:List Value) (w:World) (hR:RowE w base 288 3 A n c xs) (h1:∀ u∈xs,u.oneCell'=true) (hm:n≤549755813888):Calls Tryz.prog 157 #[.slice A n c] w (zkB w 288 3 n xs):=by
 have q23:∀ (w:World) (a:Option Addr) (n c n' c':Nat),(binOp .eql 285 (.slice a n c) (.slice none n' c')).run Tryz.prog w=.ok (.bool a.isNone) w:=fun w a n c n' c'=>Lib.run_eql_slice_nil w _ _ a n c n' c' Tryz.underlying285
 have HO:=qH hR.own
 have hlen:xs.length=n*3:=hR.own.1
 have HL:=qH hlen
 have H1:=qH h1
 clear hlen hR h1
 cases A with
 | none =>
  have h0:n=0:=by
   rcases HO.out.2 with ⟨_,hn⟩ | ⟨g,cap,cur,he,_⟩
   · exact hn
   · simp at he
  subst h0
  have hx:xs=[]:=List.eq_nil_of_length_eq_zero (by rw [HL.out,Nat.zero_mul])
  subst hx
  go_enter Tryz.func157,Tryz.ntmps157
  go_wp2
  go_ret
  exact ⟨none,0,rfl,RowE.nil _ _ _ _,Below.refl _ _⟩
 | some a =>
  obtain ⟨i0,hi,hzz⟩:=Option.map_eq_some_iff.1 zhE
  simp only [Prod.mk.injEq] at hzz
  have HI:=qH hi
  have HZ:=qH hzz
  clear hi hzz
  have hcell:=HO.out.cells (g:=a.block) rfl
  have HE:=qH (World.ownsRow_lit (size:=3) (e:=288) w (#[]:Array Value) 0 (Nat.le_refl w.heap.size) (by decide) (by decide))
  have HC:Hid (∀ j u,xs[j]?=some u→(w.alloc (.cells #[] 288)).cell? (a.add j)=some u):=qH (fun j u hu=>zao (by
   rcases HO.out.2 with ⟨he,_⟩ | ⟨g,cap,cur,he,hb,hg,hr⟩
   · simp at he
   ·
    have h2:=HO.out.cells (g:=g) (by rw [he];rfl) j u hu
    simp only [Value.slice.injEq,Option.some.injEq] at he
    rw [he.1]
    exact h2) _)
  clear hcell
  go_enter Tryz.func157,Tryz.ntmps157
  go_wp2_with (at_builtin;go_loud (refine wpList_append_own_at _ rfl _ _ 285 rfl w.heap.size 288 i0 _ 3 24 Tryz.underlying285 HI.out HZ.out.1 HZ.out.2.1 HZ.out.2.2 rfl (by decide) (.slice (some ⟨w.heap.size,0,none⟩) 0 0) 0 [] rfl HE.out a n c xs rfl HL.out HC.out H1.out (by simp only [maxLen];omega) (by omega) (by simp) ?_);intro v1 w1 hown hg hnil hat)
  go_ret
  rw [Nat.zero_add] at hown
  obtain ⟨A1,c1,rfl⟩:=zej hown
  refine ⟨A1,c1,rfl,⟨by simpa using hown⟩,?_⟩
  rw [zaH] at hg
  exact zaJ ((Below.refl _ _).alloc (Nat.le_refl _) _) hg (by intro k hk;simp at hk;omega)
theorem zkD (base:Nat) (A:Option Addr) (n c:Nat) (xs:List Value) (w:World) (hR:RowE w base 287 6 A n c xs) (h1:∀ u∈xs,u.oneCell'=true) (hm:n≤549755813888):Calls Tryz.prog 156 #[.slice A n c] w (zkB w 287 6 n xs):=by
 have q23:∀ (w:World) (a:Option Addr) (n c n' c':Nat),(binOp .eql 87 (.slice a n c) (.slice none n' c')).run Tryz.prog w=.ok (.bool a.isNone) w:=fun w a n c n' c'=>Lib.run_eql_slice_nil w _ _ a n c n' c' Tryz.underlying87
 have HO:=qH hR.own
 have hlen:xs.length=n*6:=hR.own.1
 have HL:=qH hlen
 have H1:=qH h1
 clear hlen hR h1
 cases A with
 | none =>
  have h0:n=0:=by
   rcases HO.out.2 with ⟨_,hn⟩ | ⟨g,cap,cur,he,_⟩
   · exact hn
   · simp at he
  subst h0
  have hx:xs=[]:=List.eq_nil_of_length_eq_zero (by rw [HL.out,Nat.zero_mul])
  subst hx
  go_enter Tryz.func156,Tryz.ntmps156
  go_wp2
  go_ret
  exact ⟨none,0,rfl,RowE.nil _ _ _ _,Below.refl _ _⟩
 | some a =>
  obtain ⟨i0,hi,hzz⟩:=Option.map_eq_some_iff.1 zhF
  simp only [Prod.mk.injEq] at hzz
  have HI:=qH hi
  have HZ:=qH hzz
  clear hi hzz
  have hcell:=HO.out.cells (g:=a.block) rfl
  have HE:=qH (World.ownsRow_lit (size:=6) (e:=287) w (#[]:Array Value) 0 (Nat.le_refl w.heap.size) (by decide) (by decide))
  have HC:Hid (∀ j u,xs[j]?=some u→(w.alloc (.cells #[] 287)).cell? (a.add j)=some u):=qH (fun j u hu=>zao (by
   rcases HO.out.2 with ⟨he,_⟩ | ⟨g,cap,cur,he,hb,hg,hr⟩
   · simp at he
   ·
    have h2:=HO.out.cells (g:=g) (by rw [he];rfl) j u hu
    simp only [Value.slice.injEq,Option.some.injEq] at he
    rw [he.1]
    exact h2) _)
  clear hcell
  go_enter Tryz.func156,Tryz.ntmps156
  go_wp2_with (at_builtin;go_loud (refine wpList_append_own_at _ rfl _ _ 87 rfl w.heap.size 287 i0 _ 6 56 Tryz.underlying87 HI.out HZ.out.1 HZ.out.2.1 HZ.out.2.2 rfl (by decide) (.slice (some ⟨w.heap.size,0,none⟩) 0 0) 0 [] rfl HE.out a n c xs rfl HL.out HC.out H1.out (by simp only [maxLen];omega) (by omega) (by simp) ?_);intro v1 w1 hown hg hnil hat)
  go_ret
  rw [Nat.zero_add] at hown
  obtain ⟨A1,c1,rfl⟩:=zej hown
  refine ⟨A1,c1,rfl,⟨by simpa using hown⟩,?_⟩
  rw [zaH] at hg
  exact zaJ ((Below.refl _ _).alloc (Nat.le_refl _) _) hg (by intro k hk;simp at hk;omega)
def zbh (c:So.Config) (s:So.State) (Q I:So.Hdr) (p:Nat):List Value:=So.configL c++(So.stL s Q I++[.pointer (some ⟨p,0,none⟩)])
theorem zf1 (c:So.Config) (s:So.State) (Q I:So.Hdr) (p:Nat):(zbh c s Q I p).length=163:=rfl
structure MachAt (w:World) (base x:Nat) (c:So.Config) (s:So.State) (Q I:So.Hdr) (Rs:List (So.Req×So.Hdr)) (G:RamG) (M:RamM):Prop where
 blk:Blk w x (zbh c s Q I G.p).toArray 212
 lists:ListsAt w base s Q I Rs
 ram:RamAt w G M
theorem MachAt.keep {w w1:World} {base x:Nat} {c:So.Config} {s:So.State} {Q I:So.Hdr} {Rs:List (So.Req×So.Hdr)} {G:RamG} {M:RamM} (h:MachAt w base x c s Q I Rs G M) (hb:Below w.heap.size w w1):MachAt w1 base x c s Q I Rs G M:=⟨h.blk.keep hb,h.lists.keep hb,h.ram.keep hb⟩
def RetP (w:World) (v:Value) (e:Ending) (w':World):Prop:=e=.returned v∧Below w.heap.size w w'
theorem zaU {w:World} {base x:Nat} {c:So.Config} {s:So.State} {Q I:So.Hdr} {Rs:List (So.Req×So.Hdr)} {G:RamG} {M:RamM} (h:MachAt w base x c s Q I Rs G M):Calls Tryz.prog 22 #[.pointer (some ⟨x,0,none⟩)] w (RetP w (.agg (So.configL c).toArray)):=by
 have hx:=h.blk.lt
 have c0:w.cell? ⟨x,0,none⟩=some (.int .i64 c.pages):=h.blk.cell 0 rfl
 have c1:w.cell? ⟨x,1,none⟩=some (.int .u32 (c.sectors:Int)):=h.blk.cell 1 rfl
 clear h
 go_enter Tryz.func22,Tryz.ntmps22
 go_wp2_with fail
 have e1:=run_loadVar_mid (P:=Tryz.prog) _ w.heap.size 0 68 (So.configL c) _ (zw (Blk.new w (So.configL c).toArray 68)) Tryz.underlying68 rfl rfl
 exact bodyPost_ret (v:=.agg (So.configL c).toArray) (by simp [results,Tryz.results22,asAddr];exact e1) rfl ⟨rfl,za (Below.refl _ _) _⟩
theorem zmZ {w:World} {base x:Nat} {c:So.Config} {s:So.State} {Q I:So.Hdr} {Rs:List (So.Req×So.Hdr)} {G:RamG} {M:RamM} (h:MachAt w base x c s Q I Rs G M):Calls Tryz.prog 34 #[.pointer (some ⟨x,0,none⟩)] w (RetP w (.pointer (some ⟨G.p,0,none⟩))):=by
 have c0:w.cell? ⟨x,162,none⟩=some (.pointer (some ⟨G.p,0,none⟩)):=h.blk.cell 162 (by kernel_rfl)
 clear h
 go_enter Tryz.func34,Tryz.ntmps34
 go_wp2_with fail
 go_ret
 exact ⟨rfl,Below.refl _ _⟩
theorem zch {P:Program} {ops:Array Oper} {rest:List Oper} {op:Oper} {a:Act} {w:World} {Q:Exit→Act→World→Prop} (hg:op.guard=none) (t:TypeId) (ps:Array (Nat×Operand)) (ho:op.op=.build t ps) (vs:Array (Nat×Value)) (hv:(ps.map fun x=>(x.1,a.eval x.2))=vs) (v:Value) (hr:(Instr.build t vs).run P w=.ok v w) (hK:wpList P ops Q rest (a.put op.dst v) w):wpList P ops Q (op::rest) a w :=
 wpList_plain hg fun K hk=>zdd t ps ho vs hv v hr (hk _ _ hK)
def zhQ:Array Value:=#[Value.int IntKind.u32 0,Value.int IntKind.u32 0,Value.int IntKind.u32 0,Value.int IntKind.u32 0,Value.int IntKind.u32 0,Value.int IntKind.u32 0,Value.int IntKind.u32 0,Value.int IntKind.u32 0,Value.int IntKind.u32 0,Value.int IntKind.u32 0,Value.int IntKind.u32 0,Value.int IntKind.u32 0,Value.int IntKind.u32 0,Value.int IntKind.u32 0,Value.int IntKind.u32 0,Value.int IntKind.u32 0,Value.int IntKind.u32 0,Value.int IntKind.u32 0,Value.int IntKind.u32 0,Value.int IntKind.u32 0,Value.int IntKind.u32 0,Value.int IntKind.u32 0,Value.int IntKind.u32 0,Value.int IntKind.u32 0,Value.int IntKind.u32 0,Value.int IntKind.u32 0,Value.int IntKind.u32 0,Value.int IntKind.u32 0,Value.int IntKind.u32 0,Value.int IntKind.u32 0,Value.int IntKind.u32 0,Value.int IntKind.u32 0,Value.int IntKind.u32 0,Value.bool false,Value.int IntKind.u32 0,Value.int IntKind.u32 0,Value.int IntKind.u32 0,Value.int IntKind.u32 0,Value.int IntKind.u32 0,Value.int IntKind.u32 0,Value.int IntKind.u32 0,Value.int IntKind.u64 0]
theorem zkE:zhQ=(So.hartL So.zHart).toArray:=by kernel_rfl
def zb3:So.Hart:=⟨2147483648,fun _=>0,false,So.zCsr⟩
theorem zkF {w:World} {g:Nat} {h:So.Hart} {tmps:Array Value} (hB:Blk w g (So.hartL h).toArray 71) (h2:tmps.getD 2 undef=.pointer (some ⟨g,0,none⟩)):(results Tryz.f78 tmps).run Tryz.prog w=.ok (.agg (So.hartL h).toArray) w:=by
 have e1:=run_loadVar_mid (P:=Tryz.prog) w g 0 71 (So.hartL h) _ (zw hB) Tryz.underlying71 rfl (by kernel_rfl)
 rw [Array.getD_eq_getD_getElem?] at h2
 simp [results,Tryz.results78,h2,asAddr,e1]
theorem zkG (w:World):Calls Tryz.prog 78 #[.int .u32 2147483648] w (RetP w (.agg (So.hartL zb3).toArray)):=by
 have e0:bits .andNot .u32 2147483648 3=2147483648:=by decide
 have hb:∀ W:World,(Instr.build 71 #[(0,.int .u32 2147483648)]).run Tryz.prog W=.ok (.agg (So.hartL zb3).toArray) W:=fun W=>run_build W 71 _ _ (by kernel_rfl)
 have HBU:=qH hb
 clear hb
 go_enter Tryz.func78,Tryz.ntmps78
 go_upto_region 1 with (fail)
 obtain ⟨W1,hW1⟩:=qX (w.alloc (.cells zhQ 71))
 have hB:=Blk.new w zhQ 71
 have hbel:=za (Below.refl w.heap.size w) (.cells zhQ 71)
 rw [hW1] at hB hbel
 have hW1':w.alloc (.cells #[Value.int IntKind.u32 0,Value.int IntKind.u32 0,Value.int IntKind.u32 0,Value.int IntKind.u32 0,Value.int IntKind.u32 0,Value.int IntKind.u32 0,Value.int IntKind.u32 0,Value.int IntKind.u32 0,Value.int IntKind.u32 0,Value.int IntKind.u32 0,Value.int IntKind.u32 0,Value.int IntKind.u32 0,Value.int IntKind.u32 0,Value.int IntKind.u32 0,Value.int IntKind.u32 0,Value.int IntKind.u32 0,Value.int IntKind.u32 0,Value.int IntKind.u32 0,Value.int IntKind.u32 0,Value.int IntKind.u32 0,Value.int IntKind.u32 0,Value.int IntKind.u32 0,Value.int IntKind.u32 0,Value.int IntKind.u32 0,Value.int IntKind.u32 0,Value.int IntKind.u32 0,Value.int IntKind.u32 0,Value.int IntKind.u32 0,Value.int IntKind.u32 0,Value.int IntKind.u32 0,Value.int IntKind.u32 0,Value.int IntKind.u32 0,Value.int IntKind.u32 0,Value.bool false,Value.int IntKind.u32 0,Value.int IntKind.u32 0,Value.int IntKind.u32 0,Value.int IntKind.u32 0,Value.int IntKind.u32 0,Value.int IntKind.u32 0,Value.int IntKind.u32 0,Value.int IntKind.u64 0] 71)=W1:=hW1
 rw [hW1']
 clear hW1 hW1'
 rw [zkE] at hB
 have hT:=hB.there 0 42 (by decide)
 have hge:w.heap.size≤w.heap.size:=Nat.le_refl _
 go_wp2_with (first | (refine zch rfl 71 _ rfl #[(0,Value.int .u32 2147483648)] rfl _ (HBU.out _) ?_) | (refine wpList_store_mid rfl 71 (.tmp 2) (.tmp 5) rfl w.heap.size 0 (So.hartL zb3).toArray rfl rfl hT (by kernel_rfl) (by kernel_rfl) ?_) | fail)
 have hB2:=hB.setMid (So.hartL zb3) 0
 rw [zS _ 0 _ (by kernel_rfl)] at hB2
 exact bodyPost_ret (v:=.agg (So.hartL zb3).toArray) (zkF hB2 rfl) rfl ⟨rfl,zQ hbel (Kept.setCells (S:=fun k=>k=w.heap.size) rfl _ 0 _ (Kept.refl _ _)) (fun i hi e=>by have e:i=w.heap.size:=e;omega)⟩
theorem zhR {α:Type} (f:α→List Value) (m:Nat) (hf:∀ x,(f x).length=m) (i:Nat) (v:Value) (hi:i<m):∀ (L:List α) (k:Nat) (x y:α),L[k]?=some x→(f x).set i v=f y→(L.flatMap f).set (k*m+i) v=(L.set k y).flatMap f
 | [],k,x,y,h,_=>by simp at h
 | z::L,0,x,y,h,e=>by
  obtain rfl:z=x:=by simpa using h
  rw [List.flatMap_cons,List.set_cons_zero,List.flatMap_cons,Nat.zero_mul,Nat.zero_add,List.set_append_left _ _ (by rw [hf];exact hi),e]
 | z::L,k+1,x,y,h,e=>by
  have ih:=zhR f m hf i v hi L k x y (by simpa using h) e
  rw [List.flatMap_cons,List.set_cons_succ,List.flatMap_cons,List.set_append_right _ _ (by rw [hf,Nat.add_mul];omega),hf,←ih]
  rw [show (k+1)*m+i-m=k*m+i by rw [Nat.add_mul];omega]
theorem zmf (r:So.Req) (L:So.Hdr):∀ v∈So.reqL r L,v.oneCell'=true:=by
 intro v hv
 simp only [So.reqL,List.mem_cons,List.not_mem_nil,or_false] at hv
 rcases hv with rfl | rfl | rfl | rfl | rfl | rfl<;>rfl
theorem zmg (x:So.Seg):∀ v∈So.segL x,v.oneCell'=true:=by
 intro v hv
 simp only [So.segL,List.mem_cons,List.not_mem_nil,or_false] at hv
 rcases hv with rfl | rfl | rfl<;>rfl
theorem zfj {α:Type} (f:α→List Value) (h:∀ x,∀ v∈f x,v.oneCell'=true) (L:List α):∀ v∈L.flatMap f,v.oneCell'=true:=by
 intro v hv
 rw [List.mem_flatMap] at hv
 obtain ⟨x,_,hx⟩:=hv
 exact h x v hx
theorem zkH (Rs:List (So.Req×So.Hdr)):∀ v∈zbJ Rs,v.oneCell'=true:=zfj (fun r:So.Req×So.Hdr=>So.reqL r.1 r.2) (fun r=>zmf r.1 r.2) Rs
theorem RowE.low {w:World} {b1 b2 n c sz:Nat} {e:TypeId} {A:Option Addr} {xs:List Value} (h:RowE w b1 e sz A n c xs) (hb:b2≤b1):RowE w b2 e sz A n c xs:=by
 refine ⟨⟨h.own.1,?_⟩⟩
 rcases h.own.2 with h2 | ⟨g,cap,cur,he,hg,hr⟩
 · exact .inl h2
 · exact .inr ⟨g,cap,cur,he,Nat.le_trans hb hg,hr⟩
theorem RowE.form {w:World} {base n c sz:Nat} {e:TypeId} {A:Option Addr} {xs:List Value} (h:RowE w base e sz A n c xs) (hn:0<n):∃ g,A=some ⟨g,0,none⟩∧base≤g∧g<w.heap.size∧(∀ j,w.frozen? ⟨g,j,none⟩=false)∧w.rangeAt g 0 xs:=by
 rcases h.own.2 with ⟨he,h0⟩ | ⟨g,cap,cur,he,hb,hg,hr⟩
 · omega
 ·
  simp only [Value.slice.injEq,true_and] at he
  refine ⟨g,he.1,hb,(Array.getElem?_eq_some_iff.1 hg).1,fun j=>by simp [World.frozen?,hg],fun j v hv=>?_⟩
  have:=h.own.cells (g:=g) (by rw [he.1];rfl) j v hv
  rw [zah] at this
  exact this
theorem RowE.off {w:World} {b1 b2 n1 c1 z1 n2 c2 z2 g:Nat} {e1 e2:TypeId} {A:Option Addr} {xs ys:List Value} (h1:RowE w b1 e1 z1 (some ⟨g,0,none⟩) n1 c1 xs) (h2:RowE w b2 e2 z2 A n2 c2 ys) (hne:e1≠e2):∀ b,A.map (·.block)=some b→b≠g:=by
 rintro b hb rfl
 rcases h1.own.2 with ⟨he,_⟩ | ⟨g1,cap1,cur1,he1,_,hg1,_⟩
 · simp at he
 ·
  rcases h2.own.2 with ⟨he2,_⟩ | ⟨g2,cap2,cur2,he2,_,hg2,_⟩
  ·
   simp only [Value.slice.injEq] at he2
   rw [he2.1] at hb
   cases hb
  ·
   simp only [Value.slice.injEq,true_and,Option.some.injEq,Addr.mk.injEq,and_true] at he1 he2
   rw [he2.1] at hb
   have e3:g2=b:=by simpa using hb
   subst e3
   have e4:g2=g1:=he1.1
   subst e4
   have:=hg1.symm.trans hg2
   simp only [Option.some.injEq,Obj.cells.injEq] at this
   exact hne this.2.1
theorem zmh {α:Type} {l:List α} {k:Nat} {a:α} (h:l[k]?=some a):l.set k a=l:=by
 apply List.ext_getElem?
 intro j
 rw [List.getElem?_set]
 by_cases e:k=j
 ·
  subst e
  rw [if_pos rfl,h]
  have:=(List.getElem?_eq_some_iff.1 h).1
  simp [this]
 · rw [if_neg e]
def ownS (B base gi n c2 k6:Nat) (xs:List Value) (x:So.Req×So.Hdr):Nat→(Nat→Value)→World→Prop:=fun k X w=>match k with
 | 0=>RowE w B 287 6 (some ⟨gi,0,none⟩) n c2 xs∧zau w base x
 | 1=>RowE w B 287 6 (some ⟨gi,0,none⟩) n c2 xs∧∃ A c,X 11=.slice A x.2.n c∧RowE w B 288 3 A x.2.n c (x.1.l.flatMap So.segL)
 | 2=>∃ A c,RowE w B 287 6 (some ⟨gi,0,none⟩) n c2 (xs.set k6 (.slice A x.2.n c))∧RowE w B 288 3 A x.2.n c (x.1.l.flatMap So.segL)
 | _=>False
theorem zat {B base gi n c2 k6:Nat} {xs:List Value} {x:So.Req×So.Hdr} {kk:Nat} {X:Nat→Value} {w:World} (i:Nat) (v:Value) (hi:i≠11) (h:ownS B base gi n c2 k6 xs x kk X w):ownS B base gi n c2 k6 xs x kk (upd X i v) w:=by
 match kk,h with
 | 0,h | 2,h=>exact h
 | 1,h =>
  obtain ⟨h1,A1,c1,e,h3⟩:=h
  exact ⟨h1,A1,c1,(zav X v (fun e=>hi e.symm)).trans e,h3⟩
 | _+3,h=>exact h.elim
theorem zoJ {B base gi n c2 k6:Nat} {xs:List Value} {x:So.Req×So.Hdr} {kk:Nat} {X:Nat→Value} {w:World} (h:ownS B base gi n c2 k6 xs x kk X w) (hk:kk<1):RowE w B 287 6 (some ⟨gi,0,none⟩) n c2 xs∧zau w base x:=by
 obtain rfl:kk=0:=by omega
 exact h
theorem znU {w:World} {r:Nat} {s:So.State} {Q I:So.Hdr} {tmps:Array Value} (hB:Blk w r (So.stL s Q I).toArray 93) (h2:tmps.getD 2 undef=.pointer (some ⟨r,0,none⟩)):(results Tryz.f87 tmps).run Tryz.prog w=.ok (.agg (So.stL s Q I).toArray) w:=by
 have e1:=run_loadVar_mid (P:=Tryz.prog) w r 0 93 (So.stL s Q I) _ (zw hB) Tryz.underlying93 rfl rfl
 rw [Array.getD_eq_getD_getElem?] at h2
 simp [results,Tryz.results87,h2,asAddr,e1]
def zoK (w:World) (s:So.State) (e:Ending) (w':World):Prop:=∃ Q I Rs,e=.returned (.agg (So.stL s Q I).toArray)∧ListsAt w' w.heap.size s Q I Rs∧Below w.heap.size w w'
theorem zpz (s:So.State) (Q I:So.Hdr) (A:Option Addr) (n c:Nat):(So.stL s Q I).toArray.setIfInBounds 43 (.slice A n c)=(So.stL s ⟨A,n,c⟩ I).toArray:=by kernel_rfl
theorem zpA (s:So.State) (Q I:So.Hdr) (A:Option Addr) (n c:Nat):(So.stL s Q I).toArray.setIfInBounds 136 (.slice A n c)=(So.stL s Q ⟨A,n,c⟩).toArray:=by kernel_rfl
theorem zm0 (base:Nat) (s:So.State) (Q I:So.Hdr) (Rs:List (So.Req×So.Hdr)) (w:World) (hL:ListsAt w base s Q I Rs) (b1:s.q.length≤549755813888) (b2:s.b.ins.length≤549755813888) (b3:∀ r∈s.b.ins,r.l.length≤549755813888):Calls Tryz.prog 87 #[.agg (So.stL s Q I).toArray] w (zoK w s):=by
 have HL:=qH hL
 have hQn:Q.n≤549755813888:=by rw [hL.qn];exact b1
 have hIn:I.n≤549755813888:=by rw [hL.rn,←List.length_map (f:=(·.1)),hL.ins];exact b2
 have HB3:=qH b3
 clear hL b1 b2 b3
 go_enter Tryz.func87,Tryz.ntmps87
 go_upto_region 1 with (fail)
 obtain ⟨W0,hW0⟩:=qX (w.alloc (.cells (So.stL s Q I).toArray 93))
 have hA:=Blk.new w (So.stL s Q I).toArray 93
 have hbA:=za (Below.refl w.heap.size w) (.cells (So.stL s Q I).toArray 93)
 rw [hW0] at hA hbA
 have hs0:W0.heap.size=w.heap.size+1:=by rw [←hW0];simp
 obtain ⟨W1,hW1⟩:=qX (W0.alloc (.cells Tryz.zeroCells93 93))
 have hZ:=Blk.new W0 Tryz.zeroCells93 93
 have hP:=hA.alloc (.cells Tryz.zeroCells93 93)
 have hbel:=za hbA (.cells Tryz.zeroCells93 93)
 rw [hW1,hs0] at hZ
 rw [hW1] at hP hbel
 rw [hW0,hW1]
 clear hW0 hW1 hs0 hA hbA
 rw [zbf] at hZ
 have hge:w.heap.size≤w.heap.size:=Nat.le_refl _
 obtain ⟨p,hp⟩:=qX w.heap.size
 have Hp:=qH hp
 rw [hp] at hP hZ ⊢
 have hpr:p≠p+1:=by omega
 have hrge:p≤p+1:=by omega
 clear hp
 generalize p+1=r at hZ hpr hrge ⊢
 have k43:W1.cell? ⟨p,43,none⟩=some (.slice Q.A Q.n Q.c):=hP.cell 43 (by kernel_rfl)
 have hsz1:=hbel.size
 go_upto_region 2 with (first | (go_at_call 155;refine (zjb base Q.A Q.n Q.c (s.q.flatMap So.postL) _ (HL.out.q.keep hbel) (zfj _ zhC _) hQn).mono ?_;rintro e w2 ⟨A1,c1,rfl,hq1,hb2⟩;have hbel:=zb hbel hb2;have hP:=hP.keep hb2;have hZ:=hZ.keep hb2;have k43:=hP.cell 43 (v:=Value.slice Q.A Q.n Q.c) (by kernel_rfl);have f43:=hP.free 43) | fail)
 have hP2:=hP.set 43 (.slice A1 Q.n c1)
 rw [zpz] at hP2
 have hKp:Kept (fun k=>k=p) w2 (w2.setCell ⟨p,43,none⟩ (.slice A1 Q.n c1)):=(Kept.refl (fun k=>k=p) w2).set (p:=⟨p,43,none⟩) (fun _=>rfl) _
 have hZ2:=hZ.kept hKp (Ne.symm hpr)
 have hq2:=hq1.kept hKp (fun b hb e=>hq1.far hP (by decide) (e ▸ hb))
 have hbel2:=hbel.setCell (p:=⟨p,43,none⟩) (by show w.heap.size≤p;have:=Hp.out;omega) (.slice A1 Q.n c1)
 generalize w2.setCell ⟨p,43,none⟩ (.slice A1 Q.n c1)=W3 at hP2 hZ2 hq2 hbel2 hKp ⊢
 have hq0:=hq2.low hsz1
 have hLW:=HL.out.i.keep hbel2
 have k136:W3.cell? ⟨p,136,none⟩=some (.slice I.A I.n I.c):=hP2.cell 136 (by kernel_rfl)
 have hsz3:=hbel2.size
 clear hP hZ hq1 hq2 hbel k43 f43 hsz1
 go_upto_region 3 with (first | (go_at_call 156;refine (zkD base I.A I.n I.c (zbJ Rs) _ hLW (zkH Rs) hIn).mono ?_;rintro e w4 ⟨A2,c2,rfl,hi1,hb4⟩;have hbel4:=zb hbel2 hb4;have hP4:=hP2.keep hb4;have hZ4:=hZ2.keep hb4;have hq4:=hq0.keep hb4;have k136:=hP4.cell 136 (v:=Value.slice I.A I.n I.c) (by kernel_rfl);have f136:=hP4.free 136) | fail)
 have hP5:=hP4.set 136 (.slice A2 I.n c2)
 rw [zpA] at hP5
 have hKp5:Kept (fun k=>k=p) w4 (w4.setCell ⟨p,136,none⟩ (.slice A2 I.n c2)):=(Kept.refl (fun k=>k=p) w4).set (p:=⟨p,136,none⟩) (fun _=>rfl) _
 have hZ5:=hZ4.kept hKp5 (Ne.symm hpr)
 have hq5:=hq4.kept hKp5 (fun b hb e=>hq4.far hP4 (by decide) (e ▸ hb))
 have hi5:=(hi1.low hsz3).kept hKp5 (fun b hb e=>hi1.far hP4 (by decide) (e ▸ hb))
 have hbel5:=hbel4.setCell (p:=⟨p,136,none⟩) (by show w.heap.size≤p;have:=Hp.out;omega) (.slice A2 I.n c2)
 generalize w4.setCell ⟨p,136,none⟩ (.slice A2 I.n c2)=W5 at hP5 hZ5 hq5 hbel5 hi5 hKp5 ⊢
 have k136:W5.cell? ⟨p,136,none⟩=some (.slice A2 I.n c2):=hP5.cell 136 (by kernel_rfl)
 clear hP4 hZ4 hq4 hi1 hbel4 hP2 hZ2 hq0 hLW hbel2 hKp hKp5 f136 hb2 hb4 hsz3
 go_wp2_with fail
 go_loopw [3,20] (fun _ i wr=>∃ (k:Nat) (Rs1:List (So.Req×So.Hdr)),k≤I.n∧i=.int .i64 k∧Blk wr p (So.stL s ⟨A1,Q.n,c1⟩ ⟨A2,I.n,c2⟩).toArray 93∧Blk wr r (So.stL So.zState nilH nilH).toArray 93∧RowE wr w.heap.size 188 4 A1 Q.n c1 (s.q.flatMap So.postL)∧RowE wr w.heap.size 287 6 A2 I.n c2 (zbJ Rs1)∧Rs1.map (·.1)=s.b.ins∧(∀ j x,j<k→Rs1[j]?=some x→zau wr w.heap.size x)∧(∀ j,k≤j→Rs1[j]?=Rs[j]?)∧Below w.heap.size w wr) (fun _ i _=>I.n-(intOf i).toNat)
 case atStart=>exact ⟨0,Rs,Nat.zero_le _,rfl,hP5,hZ5,hq5,hi5,HL.out.ins,fun j x hj=>absurd hj (Nat.not_lt_zero _),fun j _=>rfl,hbel5⟩
 case round =>
  obtain ⟨k,Rs1,hk,rfl,hP6,hZ6,hq6,hi6,hins,hdone,hrest,hbel6⟩:=hrel
  clear hP5 hZ5 hq5 hi5 hbel5 k136
  by_cases hlt:k<I.n
  ·
   have hlt':(k:Int)<(I.n:Int):=by omega
   have hk0:(0:Int)≤(k:Int):=by omega
   obtain ⟨x,hx⟩:∃ x,Rs[k]?=some x:=⟨_,List.getElem?_eq_getElem (by rw [←HL.out.rn];exact hlt)⟩
   have hx1:Rs1[k]?=some x:=by rw [hrest k (Nat.le_refl _)];exact hx
   obtain ⟨gi,rfl,hgb,hgl,hfz,hrg⟩:=hi6.form (by omega)
   have hcell:wr.cell? ⟨gi,k*6+5,none⟩=some (.slice x.2.A x.2.n x.2.c):=by
    have:=hrg (k*6+5) _ (zbF (fun r:So.Req×So.Hdr=>So.reqL r.1 r.2) 6 (fun _=>rfl) Rs1 k x hx1 5 _ rfl)
    rwa [Nat.zero_add] at this
   have hseg:=(HL.out.seg x (List.mem_of_getElem? hx))
   have hseg6:zau wr base x:=hseg.kept (S:=fun _=>False) (Kept.of_below hbel6) (fun _ _ h=>h)
   have hxl:x.2.n≤549755813888:=by rw [hseg.2];exact HB3.out x.1 (by rw [←HL.out.ins];exact List.mem_map_of_mem (List.mem_of_getElem? hx))
   have hgp:gi≠p:=fun e=>hi6.far hP6 (by decide) (by rw [e];rfl)
   have hgr:gi≠r:=fun e=>hi6.far hZ6 (by decide) (by rw [e];rfl)
   have hsw:=hbel6.size
   have HX1:=qH hx1
   have HIN:=qH hins
   have HD:=qH hdone
   have HRE:=qH hrest
   have HXL:=qH hxl
   clear hx hx1 hseg hxl hins hdone hrest hrg
   go_upto_region 6 with (fail)
   refine zc (by kernel_rfl) (fun X=>⟨#[.agg (So.stL s Q I).toArray,.pointer (some ⟨p,0,none⟩),.pointer (some ⟨r,0,none⟩),.int .i64 ↑k,.pointer (some ⟨p,43,none⟩),.pointer (some ⟨p,43,none⟩),.slice Q.A Q.n Q.c,.slice A1 Q.n c1,.pointer (some ⟨p,43,none⟩),.pointer (some ⟨p,43,none⟩),.pointer (some ⟨p,112,none⟩),.pointer (some ⟨p,136,none⟩),.slice I.A I.n I.c,.slice (some { block:=gi,off:=0 }) I.n c2,.pointer (some ⟨p,112,none⟩),.pointer (some ⟨p,136,none⟩),.pointer (some ⟨p,112,none⟩),.pointer (some ⟨p,136,none⟩),.slice (some { block:=gi,off:=0 }) I.n c2,.int .i64 ↑I.n,.int .i64 ↑k,.bool true,.int .i64 ↑k,X 0,X 1,X 2,X 3,X 4,X 5,X 6,X 7,X 8,X 9,X 10,X 11,X 12,X 13,u37,undef],[]⟩) (Kept (fun b=>b=gi)) (fun i v w=>match i with | 0=>(v=.pointer (some ⟨p,112,none⟩)) | 1=>(v=.pointer (some ⟨p,136,none⟩)) | 2=>(v=.slice (some ⟨gi,0,none⟩) I.n c2) | 3=>(v=.int .i64 (k:Int)) | 4=>(v=.pointer (some ⟨p,112,none⟩)) | 5=>(v=.pointer (some ⟨p,136,none⟩)) | 6=>(v=.slice (some ⟨gi,0,none⟩) I.n c2) | 7=>(v=.int .i64 (k:Int)) | 8=>(v=.pointer (some ⟨gi,k*6,none⟩)) | 9=>(v=.pointer (some ⟨gi,k*6+5,none⟩)) | 10=>(v=.slice x.2.A x.2.n x.2.c) | 12=>(v=.pointer (some ⟨gi,k*6,none⟩)) | 13=>(v=.pointer (some ⟨gi,k*6+5,none⟩)) | _=>True) (fun i=>([0,0,0,0,0,0,0,0,0,0,0,1,0,0,2]:List Nat).getD i 0) 2 (ownS w.heap.size base gi I.n c2 (k*6+5) (zbJ Rs1) x) _ (fun i=>if i=0 then u23 else if i=1 then u24 else if i=2 then u25 else if i=3 then u26 else if i=4 then u27 else if i=5 then u28 else if i=6 then u29 else if i=7 then u30 else if i=8 then u31 else if i=9 then u32 else if i=10 then u33 else if i=11 then u34 else if i=12 then u35 else if i=13 then u36 else undef) (fun u v w a b=>a.trans b) ?_ (by kernel_rfl) (by kernel_rfl) ((Kept.refl _ _).drew) ((show RowE _ _ 287 6 _ I.n c2 (zbJ Rs1)∧zau _ base x from ⟨hi6.keep (zr (Below.refl _ _)),hseg6.kept (S:=fun _=>False) (Kept.of_below (zr (Below.refl _ _))) (fun _ _ h=>h)⟩)) ?_ ?_
   ·
    intro i v w w' h hb
    match i,h with
    | 0,h=>exact h
    | 1,h=>exact h
    | 2,h=>exact h
    | 3,h=>exact h
    | 4,h=>exact h
    | 5,h=>exact h
    | 6,h=>exact h
    | 7,h=>exact h
    | 8,h=>exact h
    | 9,h=>exact h
    | 10,h=>exact h
    | 12,h=>exact h
    | 13,h=>exact h
    | 11,h=>exact trivial
    | 14,h=>exact trivial
    | _+15,h=>exact trivial
   ·
    refine cQ 0 ?_ ?_
    ·
     intro X w hR ψ χ K HK
     go_simp
     exact HK.out _ _ _ rfl (Kept.refl _ _) rfl (fun kk _ h=>zat 0 _ (by decide) h)
    refine cQ 1 ?_ ?_
    ·
     intro X w hR ψ χ K HK
     have e0:X 0=.pointer (some ⟨p,112,none⟩):=(pR ψ 0 .data 0 :)
     go_simp
     exact HK.out _ _ _ (by (try simp only [e0])<;>rfl) (Kept.refl _ _) rfl (fun kk _ h=>zat 1 _ (by decide) h)
    refine cQ 2 ?_ ?_
    ·
     intro X w hR ψ χ K HK
     have e1:X 1=.pointer (some ⟨p,136,none⟩):=(pR ψ 1 .data 0 :)
     have c2:=(hP6.kept hR (fun e=>hgp e.symm)).cell 136 (v:=Value.slice (some ⟨gi,0,none⟩) I.n c2) (by kernel_rfl)
     go_simp
     exact HK.out _ _ _ (by (try simp only [e1])<;>rfl) (Kept.refl _ _) rfl (fun kk _ h=>zat 2 _ (by decide) h)
    refine cQ 3 ?_ ?_
    ·
     intro X w hR ψ χ K HK
     go_simp
     exact HK.out _ _ _ rfl (Kept.refl _ _) rfl (fun kk _ h=>zat 3 _ (by decide) h)
    refine cQ 4 ?_ ?_
    ·
     intro X w hR ψ χ K HK
     go_simp
     exact HK.out _ _ _ rfl (Kept.refl _ _) rfl (fun kk _ h=>zat 4 _ (by decide) h)
    refine cQ 5 ?_ ?_
    ·
     intro X w hR ψ χ K HK
     have e4:X 4=.pointer (some ⟨p,112,none⟩):=(pR ψ 4 .data 0 :)
     go_simp
     exact HK.out _ _ _ (by (try simp only [e4])<;>rfl) (Kept.refl _ _) rfl (fun kk _ h=>zat 5 _ (by decide) h)
    refine cQ 6 ?_ ?_
    ·
     intro X w hR ψ χ K HK
     have e5:X 5=.pointer (some ⟨p,136,none⟩):=(pR ψ 5 .data 0 :)
     have c6:=(hP6.kept hR (fun e=>hgp e.symm)).cell 136 (v:=Value.slice (some ⟨gi,0,none⟩) I.n c2) (by kernel_rfl)
     go_simp
     exact HK.out _ _ _ (by (try simp only [e5])<;>rfl) (Kept.refl _ _) rfl (fun kk _ h=>zat 6 _ (by decide) h)
    refine cQ 7 ?_ ?_
    ·
     intro X w hR ψ χ K HK
     go_simp
     exact HK.out _ _ _ rfl (Kept.refl _ _) rfl (fun kk _ h=>zat 7 _ (by decide) h)
    refine cQ 8 ?_ ?_
    ·
     intro X w hR ψ χ K HK
     have e6:X 6=.slice (some ⟨gi,0,none⟩) I.n c2:=(pR ψ 6 .data 0 :)
     have e7:X 7=.int .i64 (k:Int):=(pR ψ 7 .data 1 :)
     go_simp
     exact HK.out _ _ _ (by (try simp only [e6,e7])<;>rfl) (Kept.refl _ _) rfl (fun kk _ h=>zat 8 _ (by decide) h)
    refine cQ 9 ?_ ?_
    ·
     intro X w hR ψ χ K HK
     have e8:X 8=.pointer (some ⟨gi,k*6,none⟩):=(pR ψ 8 .data 0 :)
     go_simp
     exact HK.out _ _ _ (by (try simp only [e8])<;>rfl) (Kept.refl _ _) rfl (fun kk _ h=>zat 9 _ (by decide) h)
    refine zi.cons (k:=10) (fun X v=>rfl) (zad.late rfl ?_) ?_
    ·
     intro X w hR hpre hini hcur K hK
     obtain ⟨nS,hnS,hStS⟩:=hcur 11 _ rfl (by decide) ⟨⟨10,.data⟩,Array.mem_of_getElem? (i:=0) rfl,by kernel_rfl,rfl⟩
     obtain ⟨hr0,_⟩:=zoJ hStS hnS
     obtain ⟨g0,eg0,_,_,_,hrg⟩:=hr0.form (by omega)
     obtain rfl:gi=g0:=by simpa using eg0
     have c10:w.cell? ⟨gi,k*6+5,none⟩=some (Value.slice x.2.A x.2.n x.2.c):=by
      have:=hrg (k*6+5) _ (zbF (fun r:So.Req×So.Hdr=>So.reqL r.1 r.2) 6 (fun _=>rfl) Rs1 k x HX1.out 5 _ rfl)
      rwa [Nat.zero_add] at this
     have e9:X 9=.pointer (some ⟨gi,k*6+5,none⟩):=hpre ⟨9,.data⟩ (Array.mem_of_getElem? (i:=0) rfl) (by kernel_rfl)
     have HK:=qH hK
     clear hK hpre hini hcur
     go_simp
     exact HK.out _ _ _ (by (try simp only [e9])<;>rfl) (Kept.refl _ _) rfl (fun kk _ h=>zat 10 _ (by decide) h)
    refine cS 11 0 ?_ ?_
    ·
     intro X w hR ψ χ hst K HK
     have e10:X 10=.slice x.2.A x.2.n x.2.c:=(pR ψ 10 .data 0 :)
     obtain ⟨hrow,hsg⟩:RowE w _ 287 6 _ I.n c2 (zbJ Rs1)∧zau w base x:=hst
     go_simp
     go_at_call 157
     refine (zkC base x.2.A x.2.n x.2.c (x.1.l.flatMap So.segL) w hsg.1 (zfj _ zmg _) HXL.out).mono ?_
     rintro e w2 ⟨A9,c9,rfl,hq9,hb9⟩
     go_simp
     exact HK.out _ _ _ (by (try simp only [e10])<;>rfl) (Kept.of_below hb9) trivial ⟨hrow.keep hb9,A9,c9,rfl,hq9.low (Nat.le_trans hsw hR.size)⟩
    refine cQ 12 ?_ ?_
    ·
     intro X w hR ψ χ K HK
     have e2:X 2=.slice (some ⟨gi,0,none⟩) I.n c2:=(pR ψ 2 .data 0 :)
     have e3:X 3=.int .i64 (k:Int):=(pR ψ 3 .data 1 :)
     go_simp
     exact HK.out _ _ _ (by (try simp only [e2,e3])<;>rfl) (Kept.refl _ _) rfl (fun kk _ h=>zat 12 _ (by decide) h)
    refine cQ 13 ?_ ?_
    ·
     intro X w hR ψ χ K HK
     have e12:X 12=.pointer (some ⟨gi,k*6,none⟩):=(pR ψ 12 .data 0 :)
     go_simp
     exact HK.out _ _ _ (by (try simp only [e12])<;>rfl) (Kept.refl _ _) rfl (fun kk _ h=>zat 13 _ (by decide) h)
    refine cS 14 1 ?_ ?_
    ·
     intro X w hR ψ χ hst K HK
     skip
     have e13:X 13=.pointer (some ⟨gi,k*6+5,none⟩):=(pR ψ 13 .data 0 :)
     obtain ⟨hrow,A9,c9,e11,hsg⟩:RowE w _ 287 6 _ I.n c2 (zbJ Rs1)∧∃ A c,X 11=.slice A x.2.n c∧RowE w _ 288 3 A x.2.n c (x.1.l.flatMap So.segL):=hst
     obtain ⟨g0,eg0,_,_,hf0,hrg⟩:=hrow.form (by omega)
     obtain rfl:gi=g0:=by simpa using eg0
     have f14:=hf0 (k*6+5)
     have c14:w.cell? ⟨gi,k*6+5,none⟩=some (Value.slice x.2.A x.2.n x.2.c):=by
      have:=hrg (k*6+5) _ (zbF (fun r:So.Req×So.Hdr=>So.reqL r.1 r.2) 6 (fun _=>rfl) Rs1 k x HX1.out 5 _ rfl)
      rwa [Nat.zero_add] at this
     go_simp
     exact HK.out undef _ _ (by (try simp only [e13,e11])<;>rfl) ((Kept.refl (fun b=>b=gi) w).set (p:=⟨gi,k*6+5,none⟩) (fun _=>rfl) _) trivial ⟨A9,c9,⟨(hrow.own.stored (k*6+5) (.slice A9 x.2.n c9)).1⟩,hsg.kept ((Kept.refl (fun b=>b=gi) w).set (p:=⟨gi,k*6+5,none⟩) (fun _=>rfl) _) (fun b hb e=>hrow.off hsg (by decide) b hb e)⟩
    exact zi.nil
   ·
    intro X1 wE1 hR1 hall1 hS1
    obtain ⟨A9,c9,hrow9,hsg9⟩:∃ A c,RowE wE1 w.heap.size 287 6 (some ⟨gi,0,none⟩) I.n c2 ((zbJ Rs1).set (k*6+5) (.slice A x.2.n c))∧RowE wE1 w.heap.size 288 3 A x.2.n c (x.1.l.flatMap So.segL):=hS1
    clear hall1 hcell hfz
    go_wp2_with fail
    go_roundw
    case rel =>
     refine ⟨k+1,Rs1.set k (x.1,⟨A9,x.2.n,c9⟩),by omega,by go_num,hP6.kept hR1 (fun e=>hgp e.symm),hZ6.kept hR1 (fun e=>hgr e.symm),hq6.kept hR1 (fun b hb e=>hi6.off hq6 (by decide) b hb e),?_,?_,?_,?_,zQ hbel6 hR1 (fun i hi e=>by have e:i=gi:=e;omega)⟩
     ·
      have e:=zhR (fun r:So.Req×So.Hdr=>So.reqL r.1 r.2) 6 (fun _=>rfl) 5 (.slice A9 x.2.n c9) (by decide) Rs1 k x (x.1,⟨A9,x.2.n,c9⟩) HX1.out rfl
      have e':zbJ (Rs1.set k (x.1,⟨A9,x.2.n,c9⟩))=(zbJ Rs1).set (k*6+5) (.slice A9 x.2.n c9):=e.symm
      rw [e']
      exact hrow9
     ·
      rw [List.map_set,HIN.out]
      refine zmh ?_
      rw [←HIN.out,List.getElem?_map,HX1.out]
      rfl
     ·
      intro j y hj hy
      by_cases e:j=k
      ·
       subst e
       rw [List.getElem?_set_self (by have:=(List.getElem?_eq_some_iff.1 HX1.out).1;exact this)] at hy
       obtain rfl:=Option.some.inj hy
       exact ⟨hsg9,hseg6.2⟩
      ·
       rw [List.getElem?_set_ne (fun h=>e h.symm)] at hy
       have h9:=HD.out j y (by omega) hy
       exact h9.kept hR1 (fun b hb e=>hi6.off h9.1 (by decide) b hb e)
     ·
      intro j hj
      rw [List.getElem?_set_ne (by omega)]
      exact HRE.out j (by omega)
    case measure =>
     simp only [intOf]
     omega
  ·
   have hk':k=I.n:=by omega
   have hnl:¬ (k:Int)<(I.n:Int):=by omega
   have HD:=qH hdone
   have HI:=qH hins
   clear hdone hrest hins
   have hrg:=zw hP6
   have hTh:=hZ6.there 0 160 (by rw [zv];decide)
   go_wp2_with (first | (refine wpList_load_mid rfl 93 (.tmp 1) rfl p 0 rfl (So.stL s ⟨A1,Q.n,c1⟩ ⟨A2,I.n,c2⟩) _ hrg Tryz.underlying93 rfl (by kernel_rfl) ?_) | (refine wpList_store_mid rfl 93 (.tmp 2) (.tmp 38) rfl r 0 (So.stL s ⟨A1,Q.n,c1⟩ ⟨A2,I.n,c2⟩).toArray rfl rfl hTh (by kernel_rfl) (by kernel_rfl) ?_) | fail)
   have hKr:Kept (fun b=>b=r) wr (wr.setCells r 0 (So.stL s ⟨A1,Q.n,c1⟩ ⟨A2,I.n,c2⟩)):=Kept.setCells (S:=fun b=>b=r) rfl _ 0 wr (Kept.refl _ _)
   have hB9:=hZ6.setMid (So.stL s ⟨A1,Q.n,c1⟩ ⟨A2,I.n,c2⟩) 0
   rw [zS _ 0 _ (by rw [zv,So.stL_len])] at hB9
   have hln:Rs1.length=I.n:=by
    have h1:=congrArg List.length HI.out
    rw [List.length_map,←HL.out.ins,List.length_map] at h1
    rw [h1,HL.out.rn]
   refine bodyPost_ret (v:=.agg (So.stL s ⟨A1,Q.n,c1⟩ ⟨A2,I.n,c2⟩).toArray) (znU hB9 rfl) rfl ?_
   exact ⟨⟨A1,Q.n,c1⟩,⟨A2,I.n,c2⟩,Rs1,rfl,⟨hq6.kept hKr (fun b hb e=>hq6.far hZ6 (by decide) (e ▸ hb)),HL.out.qn,hi6.kept hKr (fun b hb e=>hi6.far hZ6 (by decide) (e ▸ hb)),HI.out,hln.symm,fun y hy=>by
    obtain ⟨j,hj⟩:=List.getElem?_of_mem hy
    have h9:=HD.out j y (by have:=(List.getElem?_eq_some_iff.1 hj).1;omega) hj
    exact h9.kept hKr (fun b hb e=>h9.1.far hZ6 (by decide) (e ▸ hb))⟩,zQ hbel6 hKr (fun i hi e=>by have e:i=r:=e;have:=Hp.out;omega)⟩
theorem zkI {w:World} {r:Nat} {s:So.State} {Q I:So.Hdr} {tmps:Array Value} (hB:Blk w r (So.stL s Q I).toArray 93) (h2:tmps.getD 2 undef=.pointer (some ⟨r,0,none⟩)∨tmps.getD 2 undef=.pointer (some ⟨r,0,none⟩)):(results Tryz.f23 tmps).run Tryz.prog w=.ok (.agg (So.stL s Q I).toArray) w:=by
 have h2:tmps.getD 2 undef=.pointer (some ⟨r,0,none⟩):=h2.elim id id
 have e1:=run_loadVar_mid (P:=Tryz.prog) w r 0 93 (So.stL s Q I) _ (zw hB) Tryz.underlying93 rfl rfl
 rw [Array.getD_eq_getD_getElem?] at h2
 simp [results,Tryz.results23,h2,asAddr,e1]
theorem ListsAt.off {w w1:World} {base r:Nat} {s:So.State} {Q I:So.Hdr} {Rs:List (So.Req×So.Hdr)} (h:ListsAt w base s Q I Rs) (k:Kept (fun b=>b=r) w w1) {cs:Array Value} {T:TypeId} (hZ:Blk w r cs T) (h1:T≠188) (h2:T≠287) (h3:T≠288):ListsAt w1 base s Q I Rs :=
 ⟨h.q.kept k (fun b hb e=>h.q.far hZ h1 (e ▸ hb)),h.qn,h.i.kept k (fun b hb e=>h.i.far hZ h2 (e ▸ hb)),h.ins,h.rn,fun y hy=>(h.seg y hy).kept k (fun b hb e=>(h.seg y hy).1.far hZ h3 (e ▸ hb))⟩
theorem ListsAt.low {w:World} {b1 b2:Nat} {s:So.State} {Q I:So.Hdr} {Rs:List (So.Req×So.Hdr)} (h:ListsAt w b1 s Q I Rs) (hb:b2≤b1):ListsAt w b2 s Q I Rs :=
 ⟨h.q.low hb,h.qn,h.i.low hb,h.ins,h.rn,fun y hy=>⟨(h.seg y hy).1.low hb,(h.seg y hy).2⟩⟩
def zg1 (s:So.State):Prop:=s.q.length≤549755813888∧s.b.ins.length≤549755813888∧∀ r∈s.b.ins,r.l.length≤549755813888
theorem zhS {w:World} {base x:Nat} {c:So.Config} {s:So.State} {Q I:So.Hdr} {Rs:List (So.Req×So.Hdr)} {G:RamG} {M:RamM} (h:MachAt w base x c s Q I Rs G M) (hs:zg1 s):Calls Tryz.prog 23 #[.pointer (some ⟨x,0,none⟩)] w (zoK w s):=by
 have HL:=qH h.lists
 have HS:=qH hs
 have hX:=h.blk
 have hxl:=hX.lt
 clear h hs
 go_enter Tryz.func23,Tryz.ntmps23
 go_upto_region 1 with (fail)
 have hZ:=Blk.new w Tryz.zeroCells93 93
 have hX1:=hX.alloc (.cells Tryz.zeroCells93 93)
 have hbel:=za (Below.refl w.heap.size w) (.cells Tryz.zeroCells93 93)
 generalize w.alloc (.cells Tryz.zeroCells93 93)=W1 at hZ hX1 hbel ⊢
 rw [zbf] at hZ
 have hge:w.heap.size≤w.heap.size:=Nat.le_refl _
 obtain ⟨r,hr⟩:=qX w.heap.size
 have Hr:=qH hr
 rw [hr] at hZ ⊢
 clear hr
 have hrg:W1.rangeAt x 2 (So.stL s Q I):=zd hX1 2 160 (by kernel_rfl)
 have hsz:=hbel.size
 go_wp2_with (first | (refine wpList_load_mid rfl 93 (.tmp 8) rfl x 2 rfl (So.stL s Q I) _ hrg Tryz.underlying93 rfl (by kernel_rfl) ?_) | (go_at_call 87;refine (zm0 base s Q I Rs _ (HL.out.keep hbel) HS.out.1 HS.out.2.1 HS.out.2.2).mono ?_;rintro e w2 ⟨Q2,I2,Rs2,rfl,hl2,hb2⟩;have hZ2:=hZ.keep hb2;have hT:=hZ2.there 0 160 (by rw [zv];decide)) | (refine wpList_store_mid rfl 93 (.tmp 2) (.tmp 10) rfl r 0 (So.stL s Q2 I2).toArray rfl rfl hT (by kernel_rfl) (by kernel_rfl) ?_) | fail)
 have hKr:Kept (fun b=>b=r) w2 (w2.setCells r 0 (So.stL s Q2 I2)):=Kept.setCells (S:=fun b=>b=r) rfl _ 0 w2 (Kept.refl _ _)
 have hB9:=hZ2.setMid (So.stL s Q2 I2) 0
 rw [zS _ 0 _ (by rw [zv,So.stL_len])] at hB9
 refine bodyPost_ret (v:=.agg (So.stL s Q2 I2).toArray) (zkI hB9 (.inl rfl)) rfl ?_
 exact ⟨Q2,I2,Rs2,rfl,(hl2.off hKr hZ2 (by decide) (by decide) (by decide)).low hsz,zQ (zb hbel hb2) hKr (fun i hi e=>by have e:i=r:=e;have:=Hr.out;omega)⟩
theorem zjc (c:So.Config) (s:So.State) (Q I:So.Hdr) (p:Nat) (W:World):(Instr.build 212 #[(0,Value.agg (So.configL c).toArray),(1,Value.agg (So.stL s Q I).toArray),(2,Value.pointer (some ⟨p,0,none⟩))]).run Tryz.prog W=.ok (.agg (zbh c s Q I p).toArray) W:=run_build W 212 _ _ (by kernel_rfl)
def zpB (w:World) (c:So.Config) (s:So.State) (G:RamG) (M:RamM) (e:Ending) (w':World):Prop:=∃ x Q I Rs,e=.returned (.tuple #[.pointer (some ⟨x,0,none⟩),.nilIface])∧MachAt w' w.heap.size x c s Q I Rs G M∧w.heap.size≤x∧Below w.heap.size w w'
theorem znV (base:Nat) (c:So.Config) (s:So.State) (Q I:So.Hdr) (Rs:List (So.Req×So.Hdr)) (G:RamG) (M:RamM) (w:World) (hR:RegW w) (hco:c.Ok) (hok:s.Ok) (hL:ListsAt w base s Q I Rs) (hsh:zg1 s) (hM:RamAt w G M) (hp:(M.n:Int)=c.pages) (hB:So.stateB c s=true):Calls Tryz.prog 74 #[.agg (So.configL c).toArray,.agg (So.stL s Q I).toArray,.pointer (some ⟨G.p,0,none⟩)] w (zpB w c s G M):=by
 have HRW:=qH hR
 have HOK:=qH hok
 have HL:=qH hL
 have HSH:=qH hsh
 have HM:=qH hM
 have HBB:=qH hB
 have HP:=qH hp
 have HI:=qH (hL.insAt (by have:=hsh.2.1;omega) (fun r hr=>by have:=hsh.2.2 r hr;omega) hok)
 have hqn:Q.n≤4398046511104:=by have:=hsh.1;have:=hL.qn;omega
 clear hR hok hL hsh hM hB hp
 go_enter Tryz.func74,Tryz.ntmps74
 go_upto_region 1 with (fail)
 obtain ⟨W0,hW0⟩:=qX (w.alloc (.cells (So.configL c).toArray 68))
 have hA:=Blk.new w (So.configL c).toArray 68
 have hbA:=za (Below.refl w.heap.size w) (.cells (So.configL c).toArray 68)
 rw [hW0] at hA hbA
 have hs0:W0.heap.size=w.heap.size+1:=by rw [←hW0];simp
 obtain ⟨W1,hW1⟩:=qX (W0.alloc (.cells (So.stL s Q I).toArray 93))
 have hS:=Blk.new W0 (So.stL s Q I).toArray 93
 have hC:=hA.alloc (.cells (So.stL s Q I).toArray 93)
 have hbel:=za hbA (.cells (So.stL s Q I).toArray 93)
 rw [hW1,hs0] at hS
 rw [hW1] at hC hbel
 rw [hW0,hW1]
 clear hW0 hW1 hs0 hA hbA
 obtain ⟨g,hg⟩:=qX w.heap.size
 rw [hg] at hS hC ⊢
 clear hg
 generalize g+1=q at hS ⊢
 refine zE (by kernel_rfl) (fun X=>⟨#[.agg (So.configL c).toArray,.agg (So.stL s Q I).toArray,.pointer (some ⟨G.p,0,none⟩),.pointer (some ⟨g,0,none⟩),.pointer (some ⟨q,0,none⟩),undef,.pointer none,.nilIface,X 0,X 1,X 2,X 3,X 4,X 5,X 6,X 7,X 8,X 9,X 10,X 11,X 12,X 13,X 14,undef,undef,undef,undef,undef,undef,undef],[]⟩) (fun u v=>Below u.heap.size u v) (fun i v w=>match i with | 0=>(v=.agg (So.configL c).toArray) | 1=>(v=.agg (So.stL s Q I).toArray) | 2=>(v=.nilIface) | 3=>(v=.bool false) | 4=>(v=.bool false) | 5=>(v=.pointer (some ⟨G.p,0,none⟩)) | 6=>(v=.bool false) | 7=>(v=.bool false) | 8=>(v=.bool false) | 9=>(v=.pointer (some ⟨G.p,0,none⟩)) | 10=>(v=.int .i64 (M.n:Int)) | 11=>(v=.pointer (some ⟨g,0,none⟩)) | 12=>(v=.int .i64 c.pages) | 13=>(v=.bool false) | 14=>(v=.bool false) | _=>True) _ (fun _=>undef) (fun u v w a b=>zb a b) ?_ (by kernel_rfl) (zr (Below.refl _ _)) ?_ ?_
 ·
  intro i v w w' h hb
  match i,h with
  | 0,h=>exact h
  | 1,h=>exact h
  | 2,h=>exact h
  | 3,h=>exact h
  | 4,h=>exact h
  | 5,h=>exact h
  | 6,h=>exact h
  | 7,h=>exact h
  | 8,h=>exact h
  | 9,h=>exact h
  | 10,h=>exact h
  | 11,h=>exact h
  | 12,h=>exact h
  | 13,h=>exact h
  | 14,h=>exact h
  | _+15,h=>exact trivial
 ·
  refine fQ 0 ?_ ?_
  ·
   intro X w hR ψ K HK
   rw [if_pos (zo rfl)]
   refine wp_load_mid 68 (.tmp 3) rfl g 0 rfl (So.configL c) _ (zd (hC.keep hR) 0 2 rfl) Tryz.underlying68 rfl (by kernel_rfl) ?_
   exact HK.out _ _ _ rfl (Below.refl _ _) rfl
  refine fQ 1 ?_ ?_
  ·
   intro X w hR ψ K HK
   rw [if_pos (zo rfl)]
   refine wp_load_mid 93 (.tmp 4) rfl q 0 rfl (So.stL s Q I) _ (zd (hS.keep hR) 0 160 rfl) Tryz.underlying93 rfl (by kernel_rfl) ?_
   exact HK.out _ _ _ rfl (Below.refl _ _) rfl
  refine fQ 2 ?_ ?_
  ·
   intro X w hR ψ K HK
   have e0:X 0=.agg (So.configL c).toArray:=(pR ψ 0 .data 0 :)
   have e1:X 1=.agg (So.stL s Q I).toArray:=(pR ψ 1 .data 1 :)
   go_simp
   go_at_call 21
   refine (zdr c s Q I Rs w (HRW.out.keep (zb hbel hR)) hco HOK.out HL.out.qn.symm hqn HL.out.q.cap ((HL.out.q.elems (fun p=>rfl) HL.out.qn.symm).keep (zb hbel hR)) (HI.out.keep (zb hbel hR))).mono ?_
   rintro e w2 ⟨rfl,hb2⟩
   rw [HBB.out,zgW]
   go_simp
   exact HK.out _ _ _ (by (try simp only [e0,e1])<;>rfl) hb2 rfl
  refine fQ 3 ?_ ?_
  ·
   intro X w hR ψ K HK
   have e2:X 2=.nilIface:=(pR ψ 2 .data 0 :)
   go_simp
   exact HK.out _ _ _ (by (try simp only [e2])<;>rfl) (Below.refl _ _) rfl
  refine fQ 4 ?_ ?_
  ·
   intro X w hR ψ K HK
   have e3:X 3=.bool false:=(pR ψ 3 .data 0 :)
   go_simp
   exact HK.out _ _ _ (by (try simp only [e3])<;>rfl) (Below.refl _ _) rfl
  refine fQ 5 ?_ ?_
  ·
   intro X w hR ψ K HK
   have e4:X 4=.bool false:=(pR ψ 4 .guard 0 :)
   go_simp
   exact HK.out _ _ _ (by (try simp only [e4])<;>rfl) (Below.refl _ _) rfl
  refine fQ 6 ?_ ?_
  ·
   intro X w hR ψ K HK
   have e5:X 5=.pointer (some ⟨G.p,0,none⟩):=(pR ψ 5 .data 0 :)
   have e4:X 4=.bool false:=(pR ψ 4 .guard 1 :)
   go_simp
   exact HK.out _ _ _ (by (try simp only [e5,e4])<;>rfl) (Below.refl _ _) rfl
  refine fQ 7 ?_ ?_
  ·
   intro X w hR ψ K HK
   have e4:X 4=.bool false:=(pR ψ 4 .data 0 :)
   have e6:X 6=.bool false:=(pR ψ 6 .data 1 :)
   go_simp
   exact HK.out _ _ _ (by (try simp only [e4,e6])<;>rfl) (Below.refl _ _) rfl
  refine fQ 8 ?_ ?_
  ·
   intro X w hR ψ K HK
   have e7:X 7=.bool false:=(pR ψ 7 .data 0 :)
   go_simp
   exact HK.out _ _ _ (by (try simp only [e7])<;>rfl) (Below.refl _ _) rfl
  refine fQ 9 ?_ ?_
  ·
   intro X w hR ψ K HK
   have e8:X 8=.bool false:=(pR ψ 8 .guard 0 :)
   go_simp
   exact HK.out _ _ _ (by (try simp only [e8])<;>rfl) (Below.refl _ _) rfl
  refine fQ 10 ?_ ?_
  ·
   intro X w hR ψ K HK
   have e9:X 9=.pointer (some ⟨G.p,0,none⟩):=(pR ψ 9 .data 0 :)
   have e8:X 8=.bool false:=(pR ψ 8 .chain 1 :)
   go_simp
   go_at_call 98
   refine (zfG G M w (HM.out.keep (zb hbel hR))).mono ?_
   rintro e w2 ⟨rfl,rfl⟩
   go_simp
   exact HK.out _ _ _ (by (try simp only [e9,e8])<;>rfl) (Below.refl _ _) rfl
  refine fQ 11 ?_ ?_
  ·
   intro X w hR ψ K HK
   have e8:X 8=.bool false:=(pR ψ 8 .guard 0 :)
   go_simp
   exact HK.out _ _ _ (by (try simp only [e8])<;>rfl) (Below.refl _ _) rfl
  refine fQ 12 ?_ ?_
  ·
   intro X w hR ψ K HK
   have e11:X 11=.pointer (some ⟨g,0,none⟩):=(pR ψ 11 .data 0 :)
   have e8:X 8=.bool false:=(pR ψ 8 .guard 1 :)
   have c12:=(hC.keep hR).cell 0 (v:=Value.int .i64 c.pages) rfl
   go_simp
   exact HK.out _ _ _ (by (try simp only [e11,e8])<;>rfl) (Below.refl _ _) rfl
  refine fQ 13 ?_ ?_
  ·
   intro X w hR ψ K HK
   have e10:X 10=.int .i64 (M.n:Int):=(pR ψ 10 .data 0 :)
   have e12:X 12=.int .i64 c.pages:=(pR ψ 12 .data 1 :)
   have e8:X 8=.bool false:=(pR ψ 8 .guard 2 :)
   have hp13:((M.n:Int) != c.pages)=false:=by simp [HP.out]
   go_simp
   exact HK.out _ _ _ (by (try simp only [e10,e12,e8])<;>rfl) (Below.refl _ _) rfl
  refine fQ 14 ?_ ?_
  ·
   intro X w hR ψ K HK
   have e8:X 8=.bool false:=(pR ψ 8 .data 0 :)
   have e13:X 13=.bool false:=(pR ψ 13 .data 1 :)
   go_simp
   exact HK.out _ _ _ (by (try simp only [e8,e13])<;>rfl) (Below.refl _ _) rfl
  exact zF.nil
 ·
  intro X1 W2 hR1 hall
  have e14:X1 14=.bool false:=hall 14 (by decide)
  have hC1:=hC.keep hR1
  have hS1:=hS.keep hR1
  have hbel1:=zb hbel hR1
  clear hall hC hS hbel hR1
  rw [e14]
  clear e14
  go_upto_region 3 with (fail)
  obtain ⟨w0,hw0⟩:∃ w0,w0=w:=⟨_,rfl⟩
  have hsz1:w0.heap.size≤W2.heap.size:=by rw [hw0];exact hbel1.size
  have Hw0:=qH hw0
  clear hw0
  refine zE (by kernel_rfl) (fun X=>⟨#[.agg (So.configL c).toArray,.agg (So.stL s Q I).toArray,.pointer (some ⟨G.p,0,none⟩),.pointer (some ⟨g,0,none⟩),.pointer (some ⟨q,0,none⟩),undef,X 6,X 7,X1 0,X1 1,X1 2,X1 3,X1 4,X1 5,X1 6,X1 7,X1 8,X1 9,X1 10,X1 11,X1 12,X1 13,.bool false,undef,X 0,X 1,X 2,X 3,X 4,X 5],[]⟩) (fun u v=>Below u.heap.size u v) (fun i v w=>match i with | 0=>(v=.agg (So.configL c).toArray) | 1=>(v=.agg (So.stL s Q I).toArray) | 2=>(∃ Q2 I2 Rs2,v=.agg (So.stL s Q2 I2).toArray∧ListsAt w w0.heap.size s Q2 I2 Rs2) | 3=>(v=.pointer (some ⟨G.p,0,none⟩)) | 4=>(∃ Q2 I2 Rs2,v=.agg (zbh c s Q2 I2 G.p).toArray∧ListsAt w w0.heap.size s Q2 I2 Rs2) | 5=>(∃ x Q2 I2 Rs2,v=.pointer (some ⟨x,0,none⟩)∧Blk w x (zbh c s Q2 I2 G.p).toArray 212∧ListsAt w w0.heap.size s Q2 I2 Rs2∧w0.heap.size≤x) | 6=>(∃ x Q2 I2 Rs2,v=.pointer (some ⟨x,0,none⟩)∧Blk w x (zbh c s Q2 I2 G.p).toArray 212∧ListsAt w w0.heap.size s Q2 I2 Rs2∧w0.heap.size≤x) | 7=>(v=.nilIface) | _=>True) _ (fun i=>if i=6 then .pointer none else if i=7 then .nilIface else undef) (fun u v w a b=>zb a b) ?_ (by kernel_rfl) (zr (Below.refl _ _)) ?_ ?_
  ·
   intro i v w w' h hb
   match i,h with
   | 0,h=>exact h
   | 1,h=>exact h
   | 2,h=>exact (let ⟨Q2,I2,Rs2,e,h1⟩:=h;⟨Q2,I2,Rs2,e,h1.keep hb⟩)
   | 3,h=>exact h
   | 4,h=>exact (let ⟨Q2,I2,Rs2,e,h1⟩:=h;⟨Q2,I2,Rs2,e,h1.keep hb⟩)
   | 5,h=>exact (let ⟨x,Q2,I2,Rs2,e,h1,h2,h3⟩:=h;⟨x,Q2,I2,Rs2,e,h1.keep hb,h2.keep hb,h3⟩)
   | 6,h=>exact (let ⟨x,Q2,I2,Rs2,e,h1,h2,h3⟩:=h;⟨x,Q2,I2,Rs2,e,h1.keep hb,h2.keep hb,h3⟩)
   | 7,h=>exact h
   | _+8,h=>exact trivial
  ·
   refine fQ 0 ?_ ?_
   ·
    intro X w hR ψ K HK
    rw [if_pos (zo rfl)]
    refine wp_load_mid 68 (.tmp 3) rfl g 0 rfl (So.configL c) _ (zd (hC1.keep hR) 0 2 rfl) Tryz.underlying68 rfl (by kernel_rfl) ?_
    exact HK.out _ _ _ rfl (Below.refl _ _) rfl
   refine fQ 1 ?_ ?_
   ·
    intro X w hR ψ K HK
    rw [if_pos (zo rfl)]
    refine wp_load_mid 93 (.tmp 4) rfl q 0 rfl (So.stL s Q I) _ (zd (hS1.keep hR) 0 160 rfl) Tryz.underlying93 rfl (by kernel_rfl) ?_
    exact HK.out _ _ _ rfl (Below.refl _ _) rfl
   refine fQ 2 ?_ ?_
   ·
    intro X w hR ψ K HK
    have e1:X 1=.agg (So.stL s Q I).toArray:=(pR ψ 1 .data 0 :)
    go_simp
    go_at_call 87
    refine (zm0 base s Q I Rs w (HL.out.keep (zb hbel1 hR)) HSH.out.1 HSH.out.2.1 HSH.out.2.2).mono ?_
    rintro e w2 ⟨Q2,I2,Rs2,rfl,hl2,hb2⟩
    go_simp
    exact HK.out _ _ _ (by (try simp only [e1])<;>rfl) hb2 ⟨Q2,I2,Rs2,rfl,hl2.low (Nat.le_trans hsz1 hR.size)⟩
   refine fQ 3 ?_ ?_
   ·
    intro X w hR ψ K HK
    go_simp
    exact HK.out _ _ _ rfl (Below.refl _ _) rfl
   refine fQ 4 ?_ ?_
   ·
    intro X w hR ψ K HK
    have e0:X 0=.agg (So.configL c).toArray:=(pR ψ 0 .data 0 :)
    obtain ⟨Q2,I2,Rs2,e2,hl2⟩:∃ Q2 I2 Rs2,X 2=Value.agg (So.stL s Q2 I2).toArray∧ListsAt w w0.heap.size s Q2 I2 Rs2:=(pR ψ 2 .data 1 :)
    have e3:X 3=.pointer (some ⟨G.p,0,none⟩):=(pR ψ 3 .data 2 :)
    rw [if_pos (zo rfl)]
    refine zdd 212 _ rfl #[(0,Value.agg (So.configL c).toArray),(1,Value.agg (So.stL s Q2 I2).toArray),(2,Value.pointer (some ⟨G.p,0,none⟩))] (by simp [Act.eval,e0,e2,e3]) _ (zjc c s Q2 I2 G.p w) ?_
    exact HK.out _ _ _ (by (try simp only [e0,e2,e3])<;>rfl) (Below.refl _ _) ⟨Q2,I2,Rs2,rfl,hl2⟩
   refine fQ 5 ?_ ?_
   ·
    intro X w hR ψ K HK
    obtain ⟨Q2,I2,Rs2,e4,hl2⟩:∃ Q2 I2 Rs2,X 4=Value.agg (zbh c s Q2 I2 G.p).toArray∧ListsAt w w0.heap.size s Q2 I2 Rs2:=(pR ψ 4 .data 0 :)
    go_simp
    exact HK.out _ _ _ (by (try simp only [e4])<;>rfl) (za (Below.refl _ _) _) ⟨_,Q2,I2,Rs2,rfl,Blk.new _ _ _,hl2.keep (za (Below.refl _ _) _),Nat.le_trans hsz1 hR.size⟩
   refine fQ 6 ?_ ?_
   ·
    intro X w hR ψ K HK
    obtain ⟨x,Q2,I2,Rs2,e5,hb2,hl2,hx2⟩:∃ x Q2 I2 Rs2,X 5=Value.pointer (some ⟨x,0,none⟩)∧Blk w x (zbh c s Q2 I2 G.p).toArray 212∧ListsAt w w0.heap.size s Q2 I2 Rs2∧w0.heap.size≤x:=(pR ψ 5 .data 0 :)
    go_simp
    exact HK.out _ _ _ (by (try simp only [e5])<;>rfl) (Below.refl _ _) ⟨x,Q2,I2,Rs2,rfl,hb2,hl2,hx2⟩
   refine fQ 7 ?_ ?_
   ·
    intro X w hR ψ K HK
    go_simp
    exact HK.out _ _ _ rfl (Below.refl _ _) rfl
   exact zF.nil
  ·
   intro X3 W3 hR3 hall3
   obtain ⟨x,Q2,I2,Rs2,e6,hb6,hl6,hx6⟩:∃ x Q2 I2 Rs2,X3 6=Value.pointer (some ⟨x,0,none⟩)∧Blk W3 x (zbh c s Q2 I2 G.p).toArray 212∧ListsAt W3 w0.heap.size s Q2 I2 Rs2∧w0.heap.size≤x:=hall3 6 (by decide)
   have e7:X3 7=.nilIface:=hall3 7 (by decide)
   clear hall3
   go_wp2_with fail
   go_ret2
   rw [Hw0.out] at hl6 hx6
   refine ⟨x,Q2,I2,Rs2,?_,⟨hb6,hl6,HM.out.keep (zb hbel1 hR3)⟩,hx6,zb hbel1 hR3⟩
   first | rfl | (rw [e6,e7];rfl)
def st0 (c:So.Config):So.State:={ So.zState with h:=zb3,b:={ So.zState.b with sectors:=c.sectors } }
def NewP (w:World) (c:So.Config) (e:Ending) (w':World):Prop:=∃ x G M,e=.returned (.tuple #[.pointer (some ⟨x,0,none⟩),.nilIface])∧MachAt w' w.heap.size x c (st0 c) nilH nilH [] G M∧(M.n:Int)=c.pages∧(∀ i,M.pg i=none)∧Below w.heap.size w w'∧w.heap.size≤G.p
theorem zkJ (c:So.Config) (p:Nat) (W:World):(Instr.build 212 #[(0,Value.agg (So.configL c).toArray),(2,Value.pointer (some ⟨p,0,none⟩))]).run Tryz.prog W=.ok (.agg (zbh c So.zState nilH nilH p).toArray) W:=run_build W 212 _ _ (by kernel_rfl)
theorem zpC (n sc p:Nat):((Tryz.zeroCells212.setIfInBounds 0 (Value.int .i64 (n:Int))).setIfInBounds 1 (Value.int .u32 (sc:Int))).setIfInBounds 162 (Value.pointer (some ⟨p,0,none⟩))=(zbh ⟨(n:Int),sc⟩ So.zState nilH nilH p).toArray:=by kernel_rfl
theorem zoL (c:So.Config) (p:Nat):setMid (zbh c So.zState nilH nilH p).toArray 3 (So.hartL zb3)=(zbh c { So.zState with h:=zb3 } nilH nilH p).toArray:=by kernel_rfl
theorem zoM (n sc p:Nat):(zbh ⟨(n:Int),sc⟩ { So.zState with h:=zb3 } nilH nilH p).toArray.setIfInBounds 135 (Value.int .u32 (sc:Int))=(zbh ⟨(n:Int),sc⟩ (st0 ⟨(n:Int),sc⟩) nilH nilH p).toArray:=by kernel_rfl
theorem zkK:∀ v∈So.hartL zb3,v.oneCell'=true:=by
 have h:(So.hartL zb3).all (·.oneCell')=true:=by kernel_rfl
 exact fun v hv=>List.all_eq_true.1 h v hv
theorem zkL (n sc:Nat) (hn1:1≤n) (hn2:n≤16384) (hsc:sc≤1048576) (w:World):Calls Tryz.prog 20 #[.agg (So.configL ⟨(n:Int),sc⟩).toArray,.slice none 0 0] w (NewP w ⟨(n:Int),sc⟩):=by
 have HMB:Hid (So.mayB ⟨(n:Int),sc⟩=true):=qH (by unfold So.mayB;rw [decide_eq_true (show (1:Int)≤(n:Int) by omega),decide_eq_true (show (n:Int)≤16384 by omega),decide_eq_true hsc];rfl)
 have HNM:=qH (fun W=>zcF n hn1 hn2 W)
 have e1:IntKind.i64.wrap ((n:Int)*4096)=(n:Int)*4096:=by rw [IntKind.wrap_i64];omega
 have e2:((n:Int)*4096).tdiv 4=(n:Int)*1024:=by rw [Int.tdiv_eq_ediv_of_nonneg (by omega)];omega
 have e3:¬ (n:Int)*1024<0:=by omega
 have e4:decide ((n:Int)*1024<0)=false:=decide_eq_false e3
 clear hsc
 go_enter Tryz.func20,Tryz.ntmps20
 go_upto_region 1 with (fail)
 have hC:=Blk.new w (So.configL ⟨(n:Int),sc⟩).toArray 68
 have hbel:=za (Below.refl w.heap.size w) (.cells (So.configL ⟨(n:Int),sc⟩).toArray 68)
 generalize w.alloc (.cells (So.configL ⟨(n:Int),sc⟩).toArray 68)=W1 at hC hbel ⊢
 obtain ⟨g,hg⟩:=qX w.heap.size
 have Hg:=qH hg
 rw [hg] at hC ⊢
 clear hg
 have k0:W1.cell? ⟨g,0,none⟩=some (.int .i64 (n:Int)):=hC.cell 0 rfl
 have k1:W1.cell? ⟨g,1,none⟩=some (.int .u32 (sc:Int)):=hC.cell 1 rfl
 go_upto_if 23 with (first | (go_at_call 76;refine (za3 ⟨(n:Int),sc⟩ _).mono ?_;rintro e w2 ⟨rfl,hb2⟩;rw [HMB.out];have hbel2:=zb hbel hb2;have hC2:=hC.keep hb2;clear k0 k1 hb2;have k0:=hC2.cell 0 (v:=Value.int .i64 (n:Int)) rfl;have k1:=hC2.cell 1 (v:=Value.int .u32 (sc:Int)) rfl) | fail)
 clear hC hbel
 go_upto_region 6 with (first | (go_at_call 25;refine (HNM.out _).mono ?_;rintro e w3 ⟨G,rfl,hRam,hp,hpb,hdb,hb3⟩;have hbel3:=zb hbel2 hb3;have hC3:=hC2.keep hb3;clear k0 k1;have k1:=hC3.cell 1 (v:=Value.int .u32 (sc:Int)) rfl;have k0:=hC3.cell 0 (v:=Value.int .i64 (n:Int)) rfl) | fail)
 have hsz2:=hbel2.size
 clear hC2 hbel2 hb3
 go_wp2_with fail
 go_loopw [8,9,10,36] (fun _ _ _ i wr=>i=.int .i64 0∧w3=wr) (fun _ _ _ _ _=>0)
 case atStart=>exact ⟨rfl,rfl⟩
 case round =>
  obtain ⟨rfl,rfl⟩:=hrel
  go_upto_region 14 with (first | (refine zch rfl 212 _ rfl #[(0,Value.agg (So.configL ⟨(n:Int),sc⟩).toArray),(2,Value.pointer (some ⟨G.p,0,none⟩))] rfl _ (zkJ ⟨(n:Int),sc⟩ G.p _) ?_) | fail)
  have hX:=Blk.new w3 (zbh ⟨(n:Int),sc⟩ So.zState nilH nilH G.p).toArray 212
  have hR4:=hRam.keep (za (Below.refl _ _) (.cells (zbh ⟨(n:Int),sc⟩ So.zState nilH nilH G.p).toArray 212))
  have hC4:=hC3.alloc (.cells (zbh ⟨(n:Int),sc⟩ So.zState nilH nilH G.p).toArray 212)
  have hbel4:=za hbel3 (.cells (zbh ⟨(n:Int),sc⟩ So.zState nilH nilH G.p).toArray 212)
  have hsz3:=hbel3.size
  rw [zpC]
  generalize w3.alloc (.cells (zbh ⟨(n:Int),sc⟩ So.zState nilH nilH G.p).toArray 212)=W4 at hX hR4 hC4 hbel4 ⊢
  have hxG:w3.heap.size≠G.db:=fun e=>by have:=hRam.has_lt (j:=G.db) (.inr (.inr (.inl rfl)));omega
  have hgG:g≠G.db:=fun e=>by
   have h1:=hRam.dirty.at_
   have h2:=hC3.at_
   rw [e] at h2
   have:=h1.symm.trans h2
   simp only [Option.some.injEq,Obj.cells.injEq] at this
   exact absurd this.2.1 (by decide)
  have hhas:∀ i,G.has (RamM.zero n) i→i<w3.heap.size:=fun i hi=>hRam.has_lt hi
  have hgx:g<w3.heap.size:=hC3.lt
  clear hC3 hbel3 hRam k0 k1
  obtain ⟨x,hx⟩:=qX w3.heap.size
  rw [hx] at hX hxG hsz3 hhas hgx ⊢
  clear hx
  have k162:W4.cell? ⟨x,162,none⟩=some (.pointer (some ⟨G.p,0,none⟩)):=hX.cell 162 (by kernel_rfl)
  go_upto_region 15 with (first | (go_at_call 77;refine (zd2 G _ _ hR4).mono ?_;rintro e w5 ⟨A5,c5,rfl,hR5,hk5⟩) | fail)
  have hX5:=hX.kept hk5 hxG
  have hC5:=hC4.kept hk5 hgG
  have hbel5:=zQ hbel4 hk5 (fun i hi e=>by have e:i=G.db:=e;omega)
  clear hX hR4 hC4 hbel4 k162 hk5
  have hT5:=hX5.there 3 42 (by rw [List.size_toArray,zf1];decide)
  go_upto_region 16 with (first | (go_at_call 78;refine (zkG _).mono ?_;rintro e w6 ⟨rfl,hb6⟩;have hX6:=hX5.keep hb6;have hT6:=hX6.there 3 42 (by rw [List.size_toArray,zf1];decide)) | (refine wpList_store_mid rfl 71 (.tmp 64) (.tmp 61) rfl x 3 (So.hartL zb3).toArray rfl rfl hT6 (by kernel_rfl) (all_oneCell_toArray zkK) ?_) | fail)
  have hX7:=hX6.setMid (So.hartL zb3) 3
  rw [zoL] at hX7
  have hKx:Kept (fun b=>b=x) w6 (w6.setCells x 3 (So.hartL zb3)):=Kept.setCells (S:=fun b=>b=x) rfl _ 3 w6 (Kept.refl _ _)
  have hC7:=(hC5.keep hb6).kept hKx (by omega)
  have hR7:=(hR5.keep hb6).kept hKx (fun i hi e=>by have e:i=x:=e;have:=hhas i hi;omega)
  have hbel7:=zQ (zb hbel5 hb6) hKx (fun i hi e=>by have e:i=x:=e;omega)
  generalize w6.setCells x 3 (So.hartL zb3)=W7 at hX7 hC7 hR7 hbel7 hKx ⊢
  have k1:W7.cell? ⟨g,1,none⟩=some (.int .u32 (sc:Int)):=hC7.cell 1 rfl
  have c135:W7.cell? ⟨x,135,none⟩=some (.int .u32 0):=hX7.cell 135 (by kernel_rfl)
  have f135:=hX7.free 135
  clear hX5 hC5 hR5 hbel5 hT5 hX6 hT6 hb6 hKx hC7
  go_wp2_with fail
  go_ret2
  have hX8:=hX7.set 135 (.int .u32 (sc:Int))
  rw [zoM] at hX8
  have hK8:Kept (fun b=>b=x) W7 (W7.setCell ⟨x,135,none⟩ (.int .u32 (sc:Int))):=(Kept.refl (fun b=>b=x) W7).set (p:=⟨x,135,none⟩) (fun _=>rfl) _
  exact ⟨x,G,_,rfl,⟨hX8,⟨RowE.nil _ _ _ _,rfl,RowE.nil _ _ _ _,rfl,rfl,fun r hr=>by cases hr⟩,hR7.kept hK8 (fun i hi e=>by have e:i=x:=e;have:=hhas i hi;omega)⟩,rfl,fun _=>rfl,zQ hbel7 hK8 (fun i hi e=>by have e:i=x:=e;omega),Nat.le_trans hsz2 hp⟩
theorem zhT {α:Type} {w:World} {base:Nat} {e:TypeId} {A:Option Addr} {n c k:Nat} {f:α→List Value} {L:List α} (h:RowE w base e k A n c (L.flatMap f)) (hf:∀ x,(f x).length=k) (hn:L.length=n) (j:Nat) (x:α) (hx:L[j]?=some x):∃ b,A=some ⟨b,0,none⟩∧w.rangeAt b (0+j*k) (f x):=by
 have hj':=(List.getElem?_eq_some_iff.1 hx).1
 obtain ⟨b,e,hr⟩:=h.range (by omega)
 refine ⟨b,e,fun i v hv=>?_⟩
 have:=hr (j*k+i) v (zbF f k hf L j x hx i v hv)
 rw [show 0+j*k+i=0+(j*k+i) by omega]
 exact this
theorem zau.segs {w:World} {base:Nat} {r:So.Req×So.Hdr} (h:zau w base r) (hm:r.1.l.length≤4398046511104):Segs w r.2.A r.2.n r.2.c r.1.l :=
 ⟨h.2.symm,h.1.cap,by rw [h.2];exact hm,fun j s hj=>by
  obtain ⟨b,e,hr⟩:=zhT h.1 (fun _=>rfl) h.2.symm j s hj
  exact ⟨b,0,e,hr⟩⟩
theorem ListsAt.reqs {w:World} {base:Nat} {s:So.State} {Q I:So.Hdr} {Rs:List (So.Req×So.Hdr)} (h:ListsAt w base s Q I Rs) (hs:zg1 s):Reqs w I.A I.n I.c s.b.ins:=by
 have hl:s.b.ins.length=I.n:=by rw [←h.ins,List.length_map,h.rn]
 refine ⟨hl,h.i.cap,by have:=hs.2.1;omega,fun j r hj=>?_⟩
 rw [←h.ins,List.getElem?_map] at hj
 cases hx:Rs[j]? with
 | none=>rw [hx] at hj;cases hj
 | some x =>
  rw [hx] at hj
  have hj:x.1=r:=Option.some.inj hj
  subst hj
  have hmem:=List.mem_of_getElem? hx
  obtain ⟨b,e,hr⟩:=zhT (f:=fun r:So.Req×So.Hdr=>So.reqL r.1 r.2) (L:=Rs) h.i (fun _=>rfl) h.rn.symm j x hx
  refine ⟨b,0,x.2,e,hr,(h.seg x hmem).segs ?_⟩
  have:=hs.2.2 x.1 (by rw [←h.ins];exact List.mem_map_of_mem hmem)
  omega
theorem ListsAt.posts {w:World} {base:Nat} {s:So.State} {Q I:So.Hdr} {Rs:List (So.Req×So.Hdr)} (h:ListsAt w base s Q I Rs) (hs:zg1 s):Posts w Q.A Q.n Q.c s.q:=h.q.posts h.qn.symm (by have:=hs.1;have:=h.qn;omega)
theorem zg2 (v:Value) (w:World):Calls Tryz.prog 24 #[.pointer none,v] w fun e w'=>e=.returned (.tuple #[.pointer none,.iface 149 (.int .i64 1)])∧w=w':=by
 go_enter Tryz.func24,Tryz.ntmps24
 go_wp2
 go_ret2
 exact ⟨rfl,rfl⟩
end Go.Proofs.YtdffbihilhkkjaaGreatDoor
