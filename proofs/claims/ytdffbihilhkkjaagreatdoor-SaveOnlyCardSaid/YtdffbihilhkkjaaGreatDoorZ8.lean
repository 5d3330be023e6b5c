import Derived.Test.YtdffbihilhkkjaaGreatDoorZ2
import Derived.Test.YtdffbihilhkkjaaGreatDoorZ4
import Derived.Test.YtdffbihilhkkjaaGreatDoorZ6
import Derived.Test.YtdffbihilhkkjaaGreatDoorZ7
import Derived.Deep.MidRow
import Derived.RegionTactic
import Derived.Deep.DeepCutAuto
import Derived.Lib.SlBytesConst
import Derived.Deep.RegionHeld3
import Derived.Laws.Cover3
namespace Go.Proofs.YtdffbihilhkkjaaGreatDoor
open Go.RowKit
set_option linter.unusedVariables false
set_option linter.unusedSimpArgs false
set_option maxRecDepth 100000
set_option maxHeartbeats 8000000
namespace So
structure Hdr where
 A:Option Addr
 n:Nat
 c:Nat
def csrL (c:Csr):List Value:=[.int .u32 c.status,.int .u32 c.enable,.int .u32 c.vector,.int .u32 c.scratch,.int .u32 c.epc,.int .u32 c.cause,.int .u32 c.value,.int .u64 c.count]
def hartL (h:Hart):List Value:=.int .u32 h.pc::((List.range 32).map (fun i=>Value.int .u32 (h.x i)) ++ .bool h.wait::csrL h.c)
def postL (p:Post):List Value:=[.int .i64 p.dev,.int .u32 p.at_,.int .i64 p.n,.int .u32 p.value]
def clintL (c:Clint):List Value:=[.int .u32 c.soft,.int .u64 c.time,.int .u64 c.cmp]
def plicL (p:Plic):List Value:=(List.range 8).map (fun i=>Value.int .u32 (p.pri i))++[.int .u32 p.enable,.int .u32 p.threshold,.int .u32 p.pending,.int .u32 p.busy]
def fifoL (f:Fifo):List Value:=(List.range 16).map (fun i=>Value.int .u8 (f.b i))++[.int .i64 f.n]
def uartL (u:Uart):List Value:=fifoL u.rx++(fifoL u.tx++[.int .u8 u.ier,.int .u8 u.lcr,.int .u8 u.mcr,.int .u8 u.scr,.int .u8 u.dll,.int .u8 u.dlm,.bool u.over,.int .i64 u.wait])
def dmaL (d:Dma):List Value:=[.int .u32 d.code,.int .u32 d.head,.int .u32 d.at_,.int .u32 d.steps,.int .u32 d.moved,.bool d.have_,.int .u32 d.from_,.int .u32 d.to,.int .u32 d.left,.int .u32 d.next,.bool d.asks]
def queL (q:Que):List Value:=[.bool q.ready,.int .i64 q.size,.int .u32 q.desc,.int .u32 q.avail,.int .u32 q.used,.int .u16 q.last,.int .u16 q.put]
def virtL (p:Virt):List Value:=[.int .u32 p.status,.int .u32 p.feat,.int .u32 p.drvsel,.int .u32 p.sel,.int .u32 p.irq,.int .u32 p.drv0,.int .u32 p.drv1]++(queL p.q0++queL p.q1)
def segL (x:Seg):List Value:=[.int .u32 x.at_,.int .i64 x.n,.bool x.write]
def reqL (r:Req) (L:Hdr):List Value:=[.int .u32 r.id,.int .i64 r.head,.bool r.write,.int .u32 r.sector,.int .i64 r.n,.slice L.A L.n L.c]
def blkL (b:Blk) (I:Hdr):List Value:=virtL b.p++[.int .u32 b.sectors,.bool b.bell,.int .u32 b.next,.slice I.A I.n I.c]
def nicL (n:Nic):List Value:=virtL n.p++[.bool n.bell,.int .u32 n.lost]
def stL (s:State) (Q I:Hdr):List Value:=.int .u64 s.ticks::(hartL s.h++(.slice Q.A Q.n Q.c::(clintL s.c++(plicL s.p++(uartL s.u++(dmaL s.d++(blkL s.b I++nicL s.n)))))))
def configL (c:Config):List Value:=[.int .i64 c.pages,.int .u32 c.sectors]
theorem stL_len (s:State) (Q I:Hdr):(stL s Q I).length=160:=rfl
example (s:State) (Q I:Hdr) (v:Nat):(stL s Q I).set 35 (.int .u32 v)=stL { s with h:={ s.h with c:={ s.h.c with status:=v } } } Q I:=rfl
end So
structure Outs (B:Nat) (u v:World):Prop where
 os:v.os=u.os
 tape:v.tape=u.tape
 output:v.output=u.output
 size:u.heap.size≤v.heap.size
 block:∀ k,k<u.heap.size→(k<B∨∀ cs fr,u.heap[k]?≠some (.cells cs 281 fr)∧u.heap[k]?≠some (.cells cs 5 fr))→v.heap[k]?=u.heap[k]?
theorem Outs.refl (B:Nat) (u:World):Outs B u u:=⟨rfl,rfl,rfl,Nat.le_refl _,fun _ _ _=>rfl⟩
theorem Outs.trans {B:Nat} {u v w:World} (h:Outs B u v) (k:Outs B v w):Outs B u w :=
 ⟨k.os.trans h.os,k.tape.trans h.tape,k.output.trans h.output,Nat.le_trans h.size k.size,fun i hi hn=>by
  have e:=h.block i hi hn
  exact (k.block i (Nat.lt_of_lt_of_le hi h.size) (by rw [e];exact hn)).trans e⟩
theorem Outs.of_below {B:Nat} {u v:World} (h:Below u.heap.size u v):Outs B u v:=⟨h.os,h.tape,h.output,h.size,fun k hk _=>h.block k hk⟩
theorem Outs.drew {B:Nat} (u:World):Outs B u u.drew:=Outs.of_below (zr (Below.refl _ _))
theorem Outs.alloc {B:Nat} (u:World) (o:Obj):Outs B u (u.alloc o):=Outs.of_below (za (Below.refl _ _) _)
theorem Outs.below {B:Nat} {u v:World} (h:Outs B u v) (hB:B≤u.heap.size):Below B u v:=⟨h.os,h.tape,h.output,h.size,fun k hk=>h.block k (by omega) (.inl hk)⟩
theorem Outs.blk {B:Nat} {u v:World} (h:Outs B u v) {s:Nat} {cs:Array Value} {T:TypeId} (hb:Blk u s cs T) (h1:T≠281) (h2:T≠5):Blk v s cs T:=by
 refine ⟨(h.block s hb.lt (.inr fun cs' fr=>?_)).trans hb.at_⟩
 rw [hb.at_]
 constructor
 ·
  intro e
  simp only [Option.some.injEq,Obj.cells.injEq] at e
  exact h1 e.2.1
 ·
  intro e
  simp only [Option.some.injEq,Obj.cells.injEq] at e
  exact h2 e.2.1
theorem Outs.low {B:Nat} {u v:World} (h:Outs B u v) {s:Nat} {cs:Array Value} {T:TypeId} (hb:Blk u s cs T) (hs:s<B):Blk v s cs T:=⟨(h.block s hb.lt (.inl hs)).trans hb.at_⟩
theorem Outs.of_kept {B base g:Nat} {r:Option Nat} {l:List Nat} {u v:World} (hO:OutAt u base g r l) (k:Kept (inOut g r) u v) (hB:B≤base):Outs B u v:=by
 obtain ⟨A,n,c,hb,hown,hA⟩:=hO.at_
 refine ⟨k.os,k.tape,k.output,k.size,fun i hi hn=>k.block i hi ?_⟩
 rintro (rfl | e)
 ·
  rcases hn with h | h
  ·
   have:=hO.ge
   omega
  · exact (h _ _).1 hb.at_
 ·
  rcases hn with h | h
  ·
   have:=(hO.rlt i e).1
   omega
  ·
   rcases hown.own.2 with ⟨he,_⟩ | ⟨q,cap,cur,he,_,hg,_⟩
   ·
    simp only [Value.slice.injEq] at he
    rw [←hA,he.1] at e
    cases e
   ·
    simp only [Value.slice.injEq] at he
    rw [←hA,he.1] at e
    simp only [Option.map_some,Option.some.injEq] at e
    subst e
    exact (h _ _).2 hg
def OutV (B:Nat) (l:List Nat) (v:Value) (w:World):Prop:=∃ g r,v=.pointer (some ⟨g,0,none⟩)∧OutAt w B g r l
theorem OutV.keep {B:Nat} {l:List Nat} {v:Value} {w w1:World} (h:OutV B l v w) (hb:Below w.heap.size w w1):OutV B l v w1:=by
 obtain ⟨g,r,e,hO⟩:=h
 exact ⟨g,r,e,hO.keep hb⟩
theorem OutV.small {B:Nat} {l:List Nat} {v:Value} {w:World} (h:OutV B l v w):∀ x∈l,x<256:=by
 obtain ⟨g,r,e,hO⟩:=h
 exact hO.small
theorem zay (B:Nat) (w:World) (hB:B≤w.heap.size):Calls Tryz.prog 48 #[] w fun e w'=>∃ v,e=.returned v∧OutV B [] v w'∧Outs B w w' :=
 (zeD w).mono (by
  rintro e w' ⟨rfl,rfl⟩
  exact ⟨_,rfl,⟨_,_,rfl,OutAt.new w B hB⟩,Outs.alloc _ _⟩)
theorem zO {B : Nat} {l : List Nat} {v : Value} {w : World} (h : OutV B l v w) (x m : Nat) (hx : x < 18446744073709551616) (h1 : 1 ≤ m) (h8 : m ≤ 8) (hn : l.length + m ≤ 140737488355328) :
    Calls Tryz.prog 50 #[v,.int .u64 x,.int .i64 m] w fun e w'=>e=.returned v∧OutV B (l++Tl.le m x) v w'∧Outs B w w':=by
  obtain ⟨g,r,rfl,hO⟩:=h
  refine (zdA B g r l x m w hO hx h1 h8 hn).mono ?_
  rintro e w' ⟨r',rfl,hO',hk,_⟩
  exact ⟨rfl,⟨g,r',rfl,hO'⟩,Outs.of_kept hO hk (Nat.le_refl _)⟩
theorem zai {B : Nat} {l : List Nat} {v : Value} {w : World} (h : OutV B l v w) :
    Calls Tryz.prog 49 #[v] w fun e w'=>∃ A c,e=.returned (.slice A l.length c)∧Bs w' A l.length c l∧Outs B w w':=by
  obtain ⟨g,r,rfl,hO⟩:=h
  refine (zdN B g r l w hO).mono ?_
  rintro e w' ⟨A,c,rfl,hown,hb⟩
  exact ⟨A,c,rfl,hown.bs,Outs.of_below hb⟩
theorem zhp {B : Nat} {l : List Nat} {v : Value} {w : World} (h : OutV B l v w) (A : Option Addr) (n c : Nat) (l' : List Nat) (hb : Bs w A n c l') (hfar : 0 < n → ∃ q cs T, A.map (·.block) = some q ∧ Blk w q cs T ∧ T ≠ 281 ∧ T ≠ 5) (hn : l.length + 4 + n ≤ 140737488355328) :
    Calls Tryz.prog 132 #[v,.slice A n c] w fun e w'=>e=.returned v∧OutV B (l++So.run l') v w'∧Outs B w w':=by
  obtain ⟨g,r,rfl,hO⟩:=h
  refine (zid B g r l A n c l' w hO hb (fun h0=>?_) hn).mono ?_
  · obtain ⟨q, cs, T, e, hq, h1, h2⟩ := hfar h0
    obtain ⟨A1,n1,c1,hB1,hown,hA⟩:=hO.at_
    rw [e]
    refine ⟨fun er=>?_,fun eg=>?_⟩
    · rcases hown.own.2 with ⟨he, _⟩ | ⟨q', cap, cur, he, _, hg, _⟩
      · simp only [Value.slice.injEq] at he
        rw [←hA,he.1] at er
        cases er
      · simp only [Value.slice.injEq] at he
        rw [←hA,he.1] at er
        simp only [Option.map_some,Option.some.injEq] at er
        subst er
        have:=hq.at_
        rw [hg] at this
        simp only [Option.some.injEq,Obj.cells.injEq] at this
        exact h2 this.2.1.symm
    · simp only [Option.some.injEq] at eg
      subst eg
      have:=hq.at_
      rw [hB1.at_] at this
      simp only [Option.some.injEq,Obj.cells.injEq] at this
      exact h1 this.2.1.symm
  · rintro e w' ⟨r', rfl, hO', hk, _⟩
    refine ⟨rfl,⟨g,r',rfl,?_⟩,Outs.of_kept hO hk (Nat.le_refl _)⟩
    unfold So.run
    rw [hb.len,←List.append_assoc]
    exact hO'
theorem OutV.cast {B:Nat} {l l':List Nat} {v:Value} {w:World} (h:OutV B l v w) (e:l=l'):OutV B l' v w:=e ▸ h
def MkB (w:World) (l:List Nat) (e:Ending) (w':World):Prop:=∃ A k,e=.returned (.slice A l.length k)∧Bs w' A l.length k l∧Below w.heap.size w w'
theorem zY (x:Nat) (h:x<18446744073709551616):IntKind.u64.wrap (x:Int)=(x:Int):=by rw [IntKind.wrap_u64];omega
theorem zdO (x:Int):IntKind.u64.wrap x=((So.w64 x:Nat):Int):=by rw [IntKind.wrap_u64];unfold So.w64;omega
theorem w64_lt (x:Int):So.w64 x<18446744073709551616:=by unfold So.w64;omega
theorem zgn (x:Int):IntKind.u32.wrap x=((So.w32 x:Nat):Int):=by rw [IntKind.wrap_u32];unfold So.w32;omega
theorem w32_lt (x:Int):So.w32 x<4294967296:=by unfold So.w32;omega
def upd (X:Nat→Value) (i:Nat) (v:Value):Nat→Value:=fun j=>if j=i then v else X j
theorem zhq (X:Nat→Value) (i:Nat) (v:Value):upd X i v i=v:=if_pos rfl
theorem zav (X:Nat→Value) {i j:Nat} (v:Value) (h:j≠i):upd X i v j=X j:=if_neg h
def acyc (ops:Array Oper):Bool:=(List.range ops.size).all fun i=>((ops[i]?).map fun o=>o.after.all fun e=>!(Region.binds .any e)||decide (e.on<i)).getD false
theorem zdP {ops:Array Oper} (h:acyc ops=true) {i:Nat} {o:Oper} (ho:ops[i]?=some o):∀ e∈o.after,Region.binds .any e=true→e.on<i:=by
 have hi:i<ops.size:=(Array.getElem?_eq_some_iff.1 ho).1
 have:=List.all_eq_true.1 h i (List.mem_range.2 hi)
 rw [ho] at this
 simp only [Option.map_some,Option.getD_some] at this
 intro e he hb
 have:=(Array.all_eq_true_iff_forall_mem.1 this) e he
 rw [hb] at this
 simpa using this
theorem zcl {p q:Nat→Bool} (hpq:∀ j,q j=true→p j=true) {i:Nat} (hp:p i=true) (hq:q i=false):∀ {l:List Nat},i∈l→l.countP q+1≤l.countP p
 | x::l,h=>by
  have hle:l.countP q≤l.countP p:=List.countP_mono_left fun j _ hj=>hpq j hj
  rw [List.countP_cons,List.countP_cons]
  by_cases hx:x=i
  ·
   subst hx
   simp only [hp,hq,if_true]
   simp
   omega
  ·
   have hi:i∈l:=by
    rcases List.mem_cons.1 h with e | e
    · exact absurd e.symm hx
    · exact e
   have:=zcl hpq hp hq hi
   cases hqx:q x with
   | false=>simp;split<;>omega
   | true=>simp [hpq x hqx];omega
section
variable {P:Program} {ops:Array Oper} {Q:Exit→Act→World→Prop}
def zdQ (P:Program) (ops:Array Oper) (Q:Exit→Act→World→Prop) (F:(Nat→Value)→Act) (R:World→World→Prop) (Φ:Nat→Value→World→Prop) (w0:World) (i:Nat) (o:Oper):Prop :=
 ∀ X w,R w0 w→(∀ e∈o.after,Region.binds .any e=true→Φ e.on (X e.on) w)→∀ K:Act→World→Prop,(∀ v a' w',a'=(F X).put o.dst v→R w w'→Φ i v w'→K a' w') →
  if Region.wanted o (yielded ops (F X).tmps)=true then Oper.wp P o (F X) w K Q else K ((F X).put o.dst undef) w
def zcm (P:Program) (ops:Array Oper) (Q:Exit→Act→World→Prop) (F:(Nat→Value)→Act) (R:World→World→Prop) (Φ:Nat→Value→World→Prop) (w0:World) (is:List Nat):Prop :=
 ∀ i∈is,∀ o,ops[i]?=some o→(∀ X v,(F X).put o.dst v=F (upd X i v))∧zdQ P ops Q F R Φ w0 i o
theorem zcm.nil {F:(Nat→Value)→Act} {R:World→World→Prop} {Φ:Nat→Value→World→Prop} {w0:World} : zcm P ops Q F R Φ w0 []:=fun _ h=>by cases h
theorem zcm.cons {F:(Nat→Value)→Act} {R:World→World→Prop} {Φ:Nat→Value→World→Prop} {w0:World} {i:Nat} {o:Oper} {is:List Nat} (ho:ops[i]?=some o) (hp:∀ X v,(F X).put o.dst v=F (upd X i v)) (h:zdQ P ops Q F R Φ w0 i o) (hs:zcm P ops Q F R Φ w0 is):zcm P ops Q F R Φ w0 (i::is):=fun j hj o' ho'=>by
 rcases List.mem_cons.1 hj with rfl | hj
 ·
  obtain rfl:o=o':=Option.some.inj (ho.symm.trans ho')
  exact ⟨hp,h⟩
 · exact hs j hj o' ho'
theorem zjD {F : (Nat → Value) → Act} {R : World → World → Prop} {Φ : Nat → Value → World → Prop} {w0 : World} (htr : ∀ u v w, R u v → R v w → R u w) (hΦ : ∀ i v w w', Φ i v w → R w w' → Φ i v w') (hac : acyc ops = true)
    (hall:zcm P ops Q F R Φ w0 (List.range ops.size)) (hend:∀ X w,R w0 w→(∀ i,i<ops.size→Φ i (X i) w)→Q .normal (F X) w) :
    ∀ (fuel:Nat) (listed:Array Bool) (X:Nat→Value) (w:World),listed.size=ops.size→(List.range ops.size).countP (fun i=>!listed.getD i true)≤fuel→R w0 w→(∀ i,i<ops.size→listed.getD i true=true→Φ i (X i) w)→wpAny P .any ops Q fuel listed (F X) w
  | 0, listed, X, w, hsz, hc, hR, hf => by
    have hl : ∀ i, i < ops.size → listed.getD i true = true := fun i hi => by
      have h0:=List.countP_eq_zero.1 (Nat.le_zero.1 hc) i (List.mem_range.2 hi)
      cases h:listed.getD i true with
      | true=>rfl
      | false=>rw [h] at h0;simp at h0
    refine ⟨?_,hend X w hR fun i hi=>hf i hi (hl i hi)⟩
    unfold Region.ready
    rw [List.filter_eq_nil_iff]
    intro i hi
    rw [hl i (List.mem_range.1 hi)]
    simp
  | fuel + 1, listed, X, w, hsz, hc, hR, hf => by
    have hgd : ∀ j, j < ops.size → listed.getD j true = listed.getD j false := fun j hj => by
      rw [Array.getD_eq_getD_getElem?,Array.getD_eq_getD_getElem?,Array.getElem?_eq_getElem (by omega)]
      rfl
    refine ⟨fun hr=>hend X w hR fun i hi=>hf i hi ?_,fun i hi=>?_⟩
    · have key : ∀ n i, i < n → i < ops.size → listed.getD i true = true := by
        intro n
        induction n with
        | zero=>intro i h;omega
        | succ n ih =>
          intro i hin hi
          cases hlist:listed.getD i true with
          | true=>rfl
          | false =>
            exfalso
            have hmem : i ∈ Region.ready .any ops listed := by
              unfold Region.ready
              rw [List.mem_filter]
              refine ⟨List.mem_range.2 hi,?_⟩
              rw [hlist,Array.getElem?_eq_getElem hi]
              simp only [Bool.not_false,Bool.true_and,Option.map_some,Option.getD_some]
              rw [Array.all_eq_true_iff_forall_mem]
              intro e he
              cases hbe:Region.binds .any e with
              | false=>simp
              | true =>
                have hlt:=zdP hac (Array.getElem?_eq_getElem hi) e he hbe
                have:=ih e.on (by omega) (by omega)
                rw [hgd _ (by omega)] at this
                rw [this]
                simp
            rw [hr] at hmem
            cases hmem
      exact key (i+1) i (by omega) hi
    · unfold Region.ready at hi
      rw [List.mem_filter] at hi
      obtain ⟨hi,hrd⟩:=hi
      have hi:=List.mem_range.1 hi
      rw [Array.getElem?_eq_getElem hi] at hrd
      simp only [Option.map_some,Option.getD_some,Bool.and_eq_true,Bool.not_eq_true'] at hrd
      obtain ⟨hun,haft⟩:=hrd
      rw [Array.all_eq_true_iff_forall_mem] at haft
      have ho:ops[i]?=some ops[i]:=Array.getElem?_eq_getElem hi
      obtain ⟨hput,hone⟩:=hall i (List.mem_range.2 hi) _ ho
      refine wpOp_step ho fun K hK=>?_
      refine hone X w hR (fun e he hb=>?_) K (fun v a' w' ha hRw hv=>hK _ _ ?_)
      · have hlt := zdP hac ho e he hb
        have h1:=haft e he
        rw [hb] at h1
        simp only [Bool.not_true,Bool.false_or] at h1
        exact hf e.on (by omega) (by rw [hgd _ (by omega)];exact h1)
      · rw [ha, hput]
        have hset : ∀ j, (listed.setIfInBounds i true).getD j true = if j = i then true else listed.getD j true := fun j => by
          rw [Array.getD_eq_getD_getElem?,Array.getElem?_setIfInBounds]
          by_cases hj:j=i
          · subst hj
            rw [if_pos rfl,if_pos (by omega),if_pos rfl]
            rfl
          · rw [if_neg (fun e=>hj e.symm),if_neg hj,Array.getD_eq_getD_getElem?]
        refine zjD htr hΦ hac hall hend fuel _ _ _ (by simpa using hsz) ?_ (htr _ _ _ hR hRw) (fun j hj hl=>?_)
        · have := zcl (p := fun j => !listed.getD j true) (q := fun j => !(listed.setIfInBounds i true).getD j true) (fun j hj => by
            simp only [hset] at hj
            by_cases hji:j=i
            · rw [if_pos hji] at hj;simp at hj
            · rw [if_neg hji] at hj;exact hj) (i:=i) (by simp [hun]) (by simp [hset]) (List.mem_range.2 hi)
          omega
        · rw [hset] at hl
          by_cases hji:j=i
          · subst hji
            rw [zhq]
            exact hv
          · rw [if_neg hji] at hl
            rw [zav _ _ hji]
            exact hΦ _ _ _ _ (hf j hj hl) hRw
def zF (P:Program) (ops:Array Oper) (Q:Exit→Act→World→Prop) (F:(Nat→Value)→Act) (R:World→World→Prop) (Φ:Nat→Value→World→Prop) (w0:World) (k:Nat):List Oper→Prop
 | []=>True
 | o::l=>(∀ X v,(F X).put o.dst v=F (upd X k v))∧zdQ P ops Q F R Φ w0 k o∧zF P ops Q F R Φ w0 (k+1) l
theorem zF.nil {F:(Nat→Value)→Act} {R:World→World→Prop} {Φ:Nat→Value→World→Prop} {w0:World} {k:Nat} : zF P ops Q F R Φ w0 k []:=trivial
theorem zF.cons {F:(Nat→Value)→Act} {R:World→World→Prop} {Φ:Nat→Value→World→Prop} {w0:World} {k:Nat} {o:Oper} {l:List Oper} (hp:∀ X v,(F X).put o.dst v=F (upd X k v)) (h:zdQ P ops Q F R Φ w0 k o) (hs:zF P ops Q F R Φ w0 (k+1) l):zF P ops Q F R Φ w0 k (o::l):=⟨hp,h,hs⟩
@[reducible] def pt (b o:Nat):Value:=.pointer (some ⟨b,o,none⟩)
theorem iD {α:Sort _} {β:α→Prop} {p:α→Prop} : ∀ k,β k→p k→p k:=fun _ _ h=>h
theorem fQ (k:Nat) {F:(Nat→Value)→Act} {R:World→World→Prop} {Φ:Nat→Value→World→Prop} {w0:World} {o:Oper} {l:List Oper} (h:∀ X w,R w0 w→Hid (∀ e∈o.after,Region.binds .any e=true→Φ e.on (X e.on) w)→∀ K:Act→World→Prop,Hid (∀ v a' w',a'=(F X).put o.dst v→R w w'→Φ k v w'→K a' w')→if Region.wanted o (yielded ops (F X).tmps)=true then Oper.wp P o (F X) w K Q else K ((F X).put o.dst undef) w) (hs:zF P ops Q F R Φ w0 (k+1) l) (hp:∀ X v,(F X).put o.dst v=F (upd X k v):=by intros;rfl):zF P ops Q F R Φ w0 k (o::l):=⟨hp,fun X w hR hpre K hK=>h X w hR (Lib.hid hpre) K (Lib.hid hK),hs⟩
theorem pR {af:Array Edge} {Ψ:Edge→Prop} (h:Hid (∀ e∈af,Region.binds .any e=true→Ψ e)) (n:Nat) (g:Ground) (m:Nat) (he:af[m]?=some ⟨n,g⟩:=by rfl) (hb:Region.binds .any ⟨n,g⟩=true:=by kernel_rfl):Ψ ⟨n,g⟩:=h.out ⟨n,g⟩ (Array.mem_of_getElem? he) hb
theorem pS {af:Array Edge} {Ψ:Edge→Prop} (h:Hid (∀ e∈af,Region.binds .any e=true→Ψ e)) (n:Nat) (g:Ground) (he:(⟨n,g⟩:Edge)∈af:=by first | exact Array.mem_of_getElem? (i:=0) rfl | exact Array.mem_of_getElem? (i:=1) rfl | exact Array.mem_of_getElem? (i:=2) rfl | exact Array.mem_of_getElem? (i:=3) rfl | exact Array.mem_of_getElem? (i:=4) rfl | exact Array.mem_of_getElem? (i:=5) rfl | exact Array.mem_of_getElem? (i:=6) rfl | exact Array.mem_of_getElem? (i:=7) rfl | exact Array.mem_of_getElem? (i:=8) rfl | exact Array.mem_of_getElem? (i:=9) rfl | exact Array.mem_of_getElem? (i:=10) rfl | exact Array.mem_of_getElem? (i:=11) rfl | exact Array.mem_of_getElem? (i:=12) rfl | exact Array.mem_of_getElem? (i:=13) rfl | exact Array.mem_of_getElem? (i:=14) rfl | exact Array.mem_of_getElem? (i:=15) rfl | simp) (hb:Region.binds .any ⟨n,g⟩=true:=by kernel_rfl):Ψ ⟨n,g⟩:=h.out ⟨n,g⟩ he hb
theorem zF.at_ {F:(Nat→Value)→Act} {R:World→World→Prop} {Φ:Nat→Value→World→Prop} {w0:World} : ∀ {l:List Oper} {k:Nat},zF P ops Q F R Φ w0 k l→∀ (j:Nat) (o:Oper),l[j]?=some o→(∀ X v,(F X).put o.dst v=F (upd X (k+j) v))∧zdQ P ops Q F R Φ w0 (k+j) o
 | [],k,h,j,o,hj=>by simp at hj
 | x::l,k,h,0,o,hj=>by
  obtain rfl:x=o:=by simpa using hj
  exact ⟨h.1,h.2.1⟩
 | x::l,k,h,j+1,o,hj=>by
  have:=zF.at_ h.2.2 j o (by simpa using hj)
  rw [show k+(j+1)=k+1+j by omega]
  exact this
theorem zF.all {F:(Nat→Value)→Act} {R:World→World→Prop} {Φ:Nat→Value→World→Prop} {w0:World} (h:zF P ops Q F R Φ w0 0 ops.toList):zcm P ops Q F R Φ w0 (List.range ops.size):=fun i hi o ho=>by
 have:=h.at_ i o (by rw [Array.getElem?_toList];exact ho)
 rw [Nat.zero_add] at this
 exact this
theorem zE {id : Nat} (hm : P.follows .mixedOrders = true) (F : (Nat → Value) → Act) (R : World → World → Prop) (Φ : Nat → Value → World → Prop) (w0 : World) (X0 : Nat → Value)
    (htr:∀ u v w,R u v→R v w→R u w) (hΦ:∀ i v w w',Φ i v w→R w w'→Φ i v w') (hac:acyc ops=true) (h0:R w0 w0.drew)
    (hall:zF P ops Q F R Φ w0 0 ops.toList) (hend:∀ X w,R w0 w→(∀ i,i<ops.size→Φ i (X i) w)→Q .normal (F X) w):(Code.region id ops true).wp P Q (F X0) w0 :=
  wp_region_any hm (zjD htr hΦ hac hall.all hend ops.size _ X0 w0.drew (by simp) (Nat.le_trans List.countP_le_length (by simp)) h0 (fun i hi hl => by
    rw [Array.getD_eq_getD_getElem?,Array.getElem?_replicate,if_pos hi] at hl
    cases hl))
end
def ze0 (ops:Array Oper) (stg:Nat→Nat) (m:Nat):Bool :=
 ((List.range ops.size).all fun i=>decide (stg i≤m)&&(decide (stg i≤1)||((ops[i]?).map fun o=>o.after.any fun e=>Region.binds .any e&&decide (e.on<ops.size)&&decide (stg e.on+1=stg i)).getD false)&&(List.range ops.size).all fun j=>decide (stg i=0∨stg i≠stg j∨i=j))
 && (decide (m=0)||(List.range ops.size).any fun i=>decide (stg i=m))
theorem zfx {ops : Array Oper} {stg : Nat → Nat} {m : Nat} (h : ze0 ops stg m = true) :
    (∀ i,i<ops.size→stg i≤m)∧(∀ i o,ops[i]?=some o→2≤stg i→∃ e∈o.after,Region.binds .any e=true∧e.on<ops.size∧stg e.on+1=stg i)∧(∀ i j,i<ops.size→j<ops.size→stg i≠0→stg i=stg j→i=j)∧(m=0∨∃ i,i<ops.size∧stg i=m):=by
  unfold ze0 at h
  rw [Bool.and_eq_true] at h
  obtain ⟨h1,h2⟩:=h
  have h1:=List.all_eq_true.1 h1
  refine ⟨fun i hi=>?_,fun i o ho h2=>?_,fun i j hi hj h0 he=>?_,?_⟩
  · have := h1 i (List.mem_range.2 hi)
    simp only [Bool.and_eq_true,decide_eq_true_eq] at this
    exact this.1.1
  · have hi : i < ops.size := (Array.getElem?_eq_some_iff.1 ho).1
    have:=h1 i (List.mem_range.2 hi)
    simp only [Bool.and_eq_true,decide_eq_true_eq,Bool.or_eq_true] at this
    rcases this.1.2 with h | h
    · omega
    · rw [ho] at h
      simp only [Option.map_some,Option.getD_some,Array.any_eq_true] at h
      obtain ⟨k,hk,h⟩:=h
      simp only [Bool.and_eq_true,decide_eq_true_eq] at h
      exact ⟨o.after[k],Array.getElem_mem hk,h.1.1,h.1.2,h.2⟩
  · have := h1 i (List.mem_range.2 hi)
    simp only [Bool.and_eq_true,decide_eq_true_eq] at this
    have:=List.all_eq_true.1 this.2 j (List.mem_range.2 hj)
    simp only [decide_eq_true_eq] at this
    rcases this with h | h | h
    · exact absurd h h0
    · exact absurd he h
    · exact h
  · rw [Bool.or_eq_true] at h2
    rcases h2 with h | h
    · exact .inl (by simpa using h)
    · obtain ⟨i, hi, h⟩ := List.any_eq_true.1 h
      exact .inr ⟨i,List.mem_range.1 hi,by simpa using h⟩
section
variable {P:Program} {ops:Array Oper} {Q:Exit→Act→World→Prop}
def zad (P:Program) (ops:Array Oper) (Q:Exit→Act→World→Prop) (F:(Nat→Value)→Act) (R:World→World→Prop) (Φ:Nat→Value→World→Prop) (stg:Nat→Nat) (St:Nat→(Nat→Value)→World→Prop) (w0:World) (X0:Nat→Value) (i:Nat) (o:Oper):Prop :=
 ∀ X w,R w0 w→(∀ e∈o.after,Region.binds .any e=true→Φ e.on (X e.on) w)→(∀ k o',ops[k]?=some o'→(∃ e∈o'.after,Region.binds .any e=true∧e.on=i)→X k=X0 k)→(stg i≠0→St (stg i-1) X w)→(∀ j o',ops[j]?=some o'→stg j≠0→(∃ e∈o'.after,Region.binds .any e=true∧e.on=i)→∃ n,n<stg j∧St n X w)→∀ K:Act→World→Prop,
  (∀ v a' w',a'=(F X).put o.dst v→R w w'→Φ i v w'→(if stg i=0 then ∀ k,(∀ j o',ops[j]?=some o'→stg j=k→k≠0→∀ e∈o'.after,Region.binds .any e=true→e.on≠i)→St k X w→St k (upd X i v) w' else St (stg i) (upd X i v) w')→K a' w') →
  if Region.wanted o (yielded ops (F X).tmps)=true then Oper.wp P o (F X) w K Q else K ((F X).put o.dst undef) w
def zi (P:Program) (ops:Array Oper) (Q:Exit→Act→World→Prop) (F:(Nat→Value)→Act) (R:World→World→Prop) (Φ:Nat→Value→World→Prop) (stg:Nat→Nat) (St:Nat→(Nat→Value)→World→Prop) (w0:World) (X0:Nat→Value) (k:Nat):List Oper→Prop
 | []=>True
 | o::l=>(∀ X v,(F X).put o.dst v=F (upd X k v))∧zad P ops Q F R Φ stg St w0 X0 k o∧zi P ops Q F R Φ stg St w0 X0 (k+1) l
variable {F:(Nat→Value)→Act} {R:World→World→Prop} {Φ:Nat→Value→World→Prop} {stg:Nat→Nat} {St:Nat→(Nat→Value)→World→Prop} {w0:World} {X0:Nat→Value}
theorem zad.quiet {i:Nat} {o:Oper} (h0:stg i=0) (h:∀ X w,R w0 w→(∀ e∈o.after,Region.binds .any e=true→Φ e.on (X e.on) w)→(∀ k o',ops[k]?=some o'→(∃ e∈o'.after,Region.binds .any e=true∧e.on=i)→X k=X0 k)→∀ K:Act→World→Prop,(∀ v a' w',a'=(F X).put o.dst v→R w w'→Φ i v w'→(∀ k,(∀ j o',ops[j]?=some o'→stg j=k→k≠0→∀ e∈o'.after,Region.binds .any e=true→e.on≠i)→St k X w→St k (upd X i v) w')→K a' w') →
  if Region.wanted o (yielded ops (F X).tmps)=true then Oper.wp P o (F X) w K Q else K ((F X).put o.dst undef) w):zad P ops Q F R Φ stg St w0 X0 i o :=
 fun X w hR hpre hini _ _ K hK=>h X w hR hpre hini K fun v a' w' ha hw hv hS=>hK v a' w' ha hw hv (by rw [if_pos h0];exact hS)
theorem zad.late {i:Nat} {o:Oper} (h0:stg i=0) (h:∀ X w,R w0 w→(∀ e∈o.after,Region.binds .any e=true→Φ e.on (X e.on) w)→(∀ k o',ops[k]?=some o'→(∃ e∈o'.after,Region.binds .any e=true∧e.on=i)→X k=X0 k)→(∀ j o',ops[j]?=some o'→stg j≠0→(∃ e∈o'.after,Region.binds .any e=true∧e.on=i)→∃ n,n<stg j∧St n X w)→∀ K:Act→World→Prop,(∀ v a' w',a'=(F X).put o.dst v→R w w'→Φ i v w'→(∀ k,(∀ j o',ops[j]?=some o'→stg j=k→k≠0→∀ e∈o'.after,Region.binds .any e=true→e.on≠i)→St k X w→St k (upd X i v) w')→K a' w') →
  if Region.wanted o (yielded ops (F X).tmps)=true then Oper.wp P o (F X) w K Q else K ((F X).put o.dst undef) w):zad P ops Q F R Φ stg St w0 X0 i o :=
 fun X w hR hpre hini _ hcur K hK=>h X w hR hpre hini hcur K fun v a' w' ha hw hv hS=>hK v a' w' ha hw hv (by rw [if_pos h0];exact hS)
theorem zad.step {i:Nat} {o:Oper} (k:Nat) (h0:stg i=k+1) (h:∀ X w,R w0 w→(∀ e∈o.after,Region.binds .any e=true→Φ e.on (X e.on) w)→(∀ k o',ops[k]?=some o'→(∃ e∈o'.after,Region.binds .any e=true∧e.on=i)→X k=X0 k)→St k X w→∀ K:Act→World→Prop,(∀ v a' w',a'=(F X).put o.dst v→R w w'→Φ i v w'→St (k+1) (upd X i v) w'→K a' w') →
  if Region.wanted o (yielded ops (F X).tmps)=true then Oper.wp P o (F X) w K Q else K ((F X).put o.dst undef) w):zad P ops Q F R Φ stg St w0 X0 i o :=
 fun X w hR hpre hini hst _ K hK=>h X w hR hpre hini (by have:=hst (by omega);rwa [h0,Nat.add_sub_cancel] at this) K fun v a' w' ha hw hv hS=>hK v a' w' ha hw hv (by rw [if_neg (by omega),h0];exact hS)
theorem zi.nil {k:Nat} : zi P ops Q F R Φ stg St w0 X0 k []:=trivial
theorem zi.cons {k:Nat} {o:Oper} {l:List Oper} (hp:∀ X v,(F X).put o.dst v=F (upd X k v)) (h:zad P ops Q F R Φ stg St w0 X0 k o) (hs:zi P ops Q F R Φ stg St w0 X0 (k+1) l):zi P ops Q F R Φ stg St w0 X0 k (o::l):=⟨hp,h,hs⟩
theorem cQ (i:Nat) {o:Oper} {l:List Oper} (h:∀ X w,R w0 w→Hid (∀ e∈o.after,Region.binds .any e=true→Φ e.on (X e.on) w)→Hid (∀ k o',ops[k]?=some o'→(∃ e∈o'.after,Region.binds .any e=true∧e.on=i)→X k=X0 k)→∀ K:Act→World→Prop,Hid (∀ v a' w',a'=(F X).put o.dst v→R w w'→Φ i v w'→(∀ k,(∀ j o',ops[j]?=some o'→stg j=k→k≠0→∀ e∈o'.after,Region.binds .any e=true→e.on≠i)→St k X w→St k (upd X i v) w')→K a' w') →
  if Region.wanted o (yielded ops (F X).tmps)=true then Oper.wp P o (F X) w K Q else K ((F X).put o.dst undef) w) (hs:zi P ops Q F R Φ stg St w0 X0 (i+1) l) (hp:∀ X v,(F X).put o.dst v=F (upd X i v):=by intros;rfl) (h0:stg i=0:=by rfl):zi P ops Q F R Φ stg St w0 X0 i (o::l):=⟨hp,zad.quiet h0 (fun X w hR hpre hini K hK=>h X w hR (Lib.hid hpre) (Lib.hid hini) K (Lib.hid hK)),hs⟩
theorem cS (i k:Nat) {o:Oper} {l:List Oper} (h:∀ X w,R w0 w→Hid (∀ e∈o.after,Region.binds .any e=true→Φ e.on (X e.on) w)→Hid (∀ k o',ops[k]?=some o'→(∃ e∈o'.after,Region.binds .any e=true∧e.on=i)→X k=X0 k)→St k X w→∀ K:Act→World→Prop,Hid (∀ v a' w',a'=(F X).put o.dst v→R w w'→Φ i v w'→St (k+1) (upd X i v) w'→K a' w') →
  if Region.wanted o (yielded ops (F X).tmps)=true then Oper.wp P o (F X) w K Q else K ((F X).put o.dst undef) w) (hs:zi P ops Q F R Φ stg St w0 X0 (i+1) l) (hp:∀ X v,(F X).put o.dst v=F (upd X i v):=by intros;rfl) (h0:stg i=k+1:=by rfl):zi P ops Q F R Φ stg St w0 X0 i (o::l):=⟨hp,zad.step k h0 (fun X w hR hpre hini hst K hK=>h X w hR (Lib.hid hpre) (Lib.hid hini) hst K (Lib.hid hK)),hs⟩
theorem zi.at_:∀ {l:List Oper} {k:Nat},zi P ops Q F R Φ stg St w0 X0 k l→∀ (j:Nat) (o:Oper),l[j]?=some o→(∀ X v,(F X).put o.dst v=F (upd X (k+j) v))∧zad P ops Q F R Φ stg St w0 X0 (k+j) o
 | [],k,h,j,o,hj=>by simp at hj
 | x::l,k,h,0,o,hj=>by
  obtain rfl:x=o:=by simpa using hj
  exact ⟨h.1,h.2.1⟩
 | x::l,k,h,j+1,o,hj=>by
  have:=zi.at_ h.2.2 j o (by simpa using hj)
  rw [show k+(j+1)=k+1+j by omega]
  exact this
theorem zly {m : Nat} (htr : ∀ u v w, R u v → R v w → R u w) (hΦ : ∀ i v w w', Φ i v w → R w w' → Φ i v w') (hac : acyc ops = true) (hch : ze0 ops stg m = true)
    (hall:zi P ops Q F R Φ stg St w0 X0 0 ops.toList) (hend:∀ X w,R w0 w→(∀ i,i<ops.size→Φ i (X i) w)→St m X w→Q .normal (F X) w) :
    ∀ (fuel : Nat) (listed : Array Bool) (n : Nat) (X : Nat → Value) (w : World), listed.size = ops.size → (List.range ops.size).countP (fun i => !listed.getD i true) ≤ fuel → R w0 w → (∀ i, i < ops.size → listed.getD i true = true → Φ i (X i) w) →
      n≤m→(∀ i,i<ops.size→stg i≠0→(listed.getD i true=true↔stg i≤n))→St n X w→(∀ k o,ops[k]?=some o→listed.getD k true=true→∀ e∈o.after,Region.binds .any e=true→listed.getD e.on true=true)→(∀ k,k<ops.size→listed.getD k true=false→X k=X0 k)→wpAny P .any ops Q fuel listed (F X) w:=by
  obtain ⟨hc1,hc2,hc3,hc4⟩:=zfx hch
  have fin : ∀ (listed : Array Bool) (n : Nat) (X : Nat → Value) (w : World), R w0 w → (∀ i, i < ops.size → listed.getD i true = true → Φ i (X i) w) → n ≤ m → (∀ i, i < ops.size → stg i ≠ 0 → (listed.getD i true = true ↔ stg i ≤ n)) → St n X w → (∀ i, i < ops.size → listed.getD i true = true) → Q .normal (F X) w := by
    intro listed n X w hR hf hn hl hS hall'
    obtain rfl : n = m := by
      rcases hc4 with h | ⟨i,hi,h⟩
      · omega
      · by_cases h0 : stg i = 0
        · omega
        · have := (hl i hi h0).1 (hall' i hi)
          omega
    exact hend X w hR (fun i hi=>hf i hi (hall' i hi)) hS
  intro fuel
  induction fuel with
  | zero =>
    intro listed n X w hsz hc hR hf hn hl hS hdc hx0
    have hl' : ∀ i, i < ops.size → listed.getD i true = true := fun i hi => by
      have h0:=List.countP_eq_zero.1 (Nat.le_zero.1 hc) i (List.mem_range.2 hi)
      cases h:listed.getD i true with
      | true=>rfl
      | false=>rw [h] at h0;simp at h0
    refine ⟨?_,fin listed n X w hR hf hn hl hS hl'⟩
    unfold Region.ready
    rw [List.filter_eq_nil_iff]
    intro i hi
    rw [hl' i (List.mem_range.1 hi)]
    simp
  | succ fuel ih =>
    intro listed n X w hsz hc hR hf hn hl hS hdc hx0
    have hgd : ∀ j, j < ops.size → listed.getD j true = listed.getD j false := fun j hj => by
      rw [Array.getD_eq_getD_getElem?,Array.getD_eq_getD_getElem?,Array.getElem?_eq_getElem (by omega)]
      rfl
    refine ⟨fun hr=>fin listed n X w hR hf hn hl hS fun i hi=>?_,fun i hi=>?_⟩
    · have key : ∀ n i, i < n → i < ops.size → listed.getD i true = true := by
        intro n
        induction n with
        | zero=>intro i h;omega
        | succ n ih =>
          intro i hin hi
          cases hlist:listed.getD i true with
          | true=>rfl
          | false =>
            exfalso
            have hmem : i ∈ Region.ready .any ops listed := by
              unfold Region.ready
              rw [List.mem_filter]
              refine ⟨List.mem_range.2 hi,?_⟩
              rw [hlist,Array.getElem?_eq_getElem hi]
              simp only [Bool.not_false,Bool.true_and,Option.map_some,Option.getD_some]
              rw [Array.all_eq_true_iff_forall_mem]
              intro e he
              cases hbe:Region.binds .any e with
              | false=>simp
              | true =>
                have hlt:=zdP hac (Array.getElem?_eq_getElem hi) e he hbe
                have:=ih e.on (by omega) (by omega)
                rw [hgd _ (by omega)] at this
                rw [this]
                simp
            rw [hr] at hmem
            cases hmem
      exact key (i+1) i (by omega) hi
    · unfold Region.ready at hi
      rw [List.mem_filter] at hi
      obtain ⟨hi,hrd⟩:=hi
      have hi:=List.mem_range.1 hi
      rw [Array.getElem?_eq_getElem hi] at hrd
      simp only [Option.map_some,Option.getD_some,Bool.and_eq_true,Bool.not_eq_true'] at hrd
      obtain ⟨hun,haft⟩:=hrd
      rw [Array.all_eq_true_iff_forall_mem] at haft
      have ho:ops[i]?=some ops[i]:=Array.getElem?_eq_getElem hi
      have hat:=hall.at_ i _ (by rw [Array.getElem?_toList];exact ho)
      rw [Nat.zero_add] at hat
      obtain ⟨hput,hone⟩:=hat
      have hpre : ∀ e ∈ ops[i].after, Region.binds .any e = true → listed.getD e.on true = true := fun e he hb => by
        have hlt:=zdP hac ho e he hb
        have h1:=haft e he
        rw [hb] at h1
        simp only [Bool.not_true,Bool.false_or] at h1
        rw [hgd _ (by omega)]
        exact h1
      have hstage : stg i ≠ 0 → stg i - 1 = n := fun h0 => by
        have h1 : ¬ stg i ≤ n := fun h => by
          have:=(hl i hi h0).2 h
          rw [hun] at this
          cases this
        by_cases h2:2≤stg i
        · obtain ⟨e, he, hb, hlt, hst⟩ := hc2 i _ ho h2
          have:=(hl e.on hlt (by omega)).1 (hpre e he hb)
          omega
        · omega
      refine wpOp_step ho fun K hK=>?_
      refine hone X w hR (fun e he hb => hf e.on (by have := zdP hac ho e he hb; omega) (hpre e he hb)) (fun k o' ho' hk => hx0 k (Array.getElem?_eq_some_iff.1 ho').1 (by
        obtain ⟨e,he,hb,rfl⟩:=hk
        cases hlk:listed.getD k true with
        | false=>rfl
        | true=>have:=hdc k o' ho' hlk e he hb;rw [hun] at this;cases this)) (fun h0=>by rw [hstage h0];exact hS) (fun j o' ho' h0 hk=>⟨n,(by
        have hj:=(Array.getElem?_eq_some_iff.1 ho').1
        obtain ⟨e,he,hb,hei⟩:=hk
        have hnl : listed.getD j true = false := by
          cases hlk:listed.getD j true with
          | false=>rfl
          | true=>have:=hdc j o' ho' hlk e he hb;rw [hei,hun] at this;cases this
        rcases Nat.lt_or_ge n (stg j) with h | h
        · exact h
        · have := (hl j hj h0).2 h
          rw [hnl] at this
          cases this),hS⟩) K (fun v a' w' ha hRw hv hSt=>hK _ _ ?_)
      rw [ha,hput]
      have hset : ∀ j, (listed.setIfInBounds i true).getD j true = if j = i then true else listed.getD j true := fun j => by
        rw [Array.getD_eq_getD_getElem?,Array.getElem?_setIfInBounds]
        by_cases hj:j=i
        · subst hj
          rw [if_pos rfl,if_pos (by omega),if_pos rfl]
          rfl
        · rw [if_neg (fun e=>hj e.symm),if_neg hj,Array.getD_eq_getD_getElem?]
      have hcount : (List.range ops.size).countP (fun j => !(listed.setIfInBounds i true).getD j true) ≤ fuel := by
        have := zcl (p := fun j => !listed.getD j true) (q := fun j => !(listed.setIfInBounds i true).getD j true) (fun j hj => by
          simp only [hset] at hj
          by_cases hji:j=i
          · rw [if_pos hji] at hj;simp at hj
          · rw [if_neg hji] at hj;exact hj) (i:=i) (by simp [hun]) (by simp [hset]) (List.mem_range.2 hi)
        omega
      have hfact : ∀ j, j < ops.size → (listed.setIfInBounds i true).getD j true = true → Φ j (upd X i v j) w' := fun j hj hlj => by
        rw [hset] at hlj
        by_cases hji:j=i
        · subst hji
          rw [zhq]
          exact hv
        · rw [if_neg hji] at hlj
          rw [zav _ _ hji]
          exact hΦ _ _ _ _ (hf j hj hlj) hRw
      have hdc' : ∀ k o, ops[k]? = some o → (listed.setIfInBounds i true).getD k true = true → ∀ e ∈ o.after, Region.binds .any e = true → (listed.setIfInBounds i true).getD e.on true = true := fun k o hok hlk e he hb => by
        rw [hset] at hlk ⊢
        by_cases hei:e.on=i
        · rw [if_pos hei]
        · rw [if_neg hei]
          by_cases hki:k=i
          · subst hki
            obtain rfl:ops[k]=o:=Option.some.inj (ho.symm.trans hok)
            exact hpre e he hb
          · rw [if_neg hki] at hlk
            exact hdc k o hok hlk e he hb
      have hx' : ∀ k, k < ops.size → (listed.setIfInBounds i true).getD k true = false → upd X i v k = X0 k := fun k hk hlk => by
        rw [hset] at hlk
        by_cases hki:k=i
        · rw [if_pos hki] at hlk;cases hlk
        · rw [if_neg hki] at hlk
          rw [zav _ _ hki]
          exact hx0 k hk hlk
      by_cases h0:stg i=0
      · rw [if_pos h0] at hSt
        refine ih _ n _ _ (by simpa using hsz) hcount (htr _ _ _ hR hRw) hfact hn (fun j hj hj0 => ?_) (hSt n (fun j o' hj hjn hn0 e he hb hei => by
          have hjs:j<ops.size:=(Array.getElem?_eq_some_iff.1 hj).1
          have h1:=(hl j hjs (by omega)).2 (by omega)
          have h2:=hdc j o' hj h1 e he hb
          rw [hei,hun] at h2
          cases h2) hS) hdc' hx'
        rw [hset,if_neg (fun e=>hj0 (by rw [e];exact h0))]
        exact hl j hj hj0
      · rw [if_neg h0] at hSt
        have hsn:=hstage h0
        refine ih _ (stg i) _ _ (by simpa using hsz) hcount (htr _ _ _ hR hRw) hfact (hc1 i hi) (fun j hj hj0=>?_) hSt hdc' hx'
        rw [hset]
        by_cases hji:j=i
        · subst hji
          simp
        · rw [if_neg hji]
          have:=hl j hj hj0
          constructor
          · intro h
            have:=this.1 h
            omega
          · intro h
            refine this.2 ?_
            have:stg j≠stg i:=fun e=>hji (hc3 j i hj hi hj0 e)
            omega
theorem zc {id : Nat} (hm : P.follows .mixedOrders = true) (F : (Nat → Value) → Act) (R : World → World → Prop) (Φ : Nat → Value → World → Prop) (stg : Nat → Nat) (m : Nat) (St : Nat → (Nat → Value) → World → Prop) (w0 : World) (X0 : Nat → Value)
    (htr:∀ u v w,R u v→R v w→R u w) (hΦ:∀ i v w w',Φ i v w→R w w'→Φ i v w') (hac:acyc ops=true) (hch:ze0 ops stg m=true) (h0:R w0 w0.drew) (hS0:St 0 X0 w0.drew)
    (hall:zi P ops Q F R Φ stg St w0 X0 0 ops.toList) (hend:∀ X w,R w0 w→(∀ i,i<ops.size→Φ i (X i) w)→St m X w→Q .normal (F X) w):(Code.region id ops true).wp P Q (F X0) w0 :=
  wp_region_any hm (zly htr hΦ hac hch hall hend ops.size _ 0 X0 w0.drew (by simp) (Nat.le_trans List.countP_le_length (by simp)) h0 (fun i hi hl => by
    rw [Array.getD_eq_getD_getElem?,Array.getElem?_replicate,if_pos hi] at hl
    cases hl) (Nat.zero_le _) (fun i hi h0=>by
    rw [Array.getD_eq_getD_getElem?,Array.getElem?_replicate,if_pos hi]
    simp
    exact h0) hS0 (fun k o ho hl=>by
    rw [Array.getD_eq_getD_getElem?,Array.getElem?_replicate,if_pos (Array.getElem?_eq_some_iff.1 ho).1] at hl
    cases hl) (fun _ _ _=>rfl))
end
theorem zdl (b:Bool):So.one b<18446744073709551616:=by cases b<;>decide
theorem zbK (b:Bool) (w:World):Calls Tryz.prog 131 #[.bool b] w fun e w'=>e=.returned (.int .u64 ((So.one b:Nat):Int))∧w=w':=by
 cases b with
 | true =>
  go_enter Tryz.func131,Tryz.ntmps131
  go_wp2
  go_ret
  exact ⟨rfl,rfl⟩
 | false =>
  go_enter Tryz.func131,Tryz.ntmps131
  go_wp2
  go_ret
  exact ⟨rfl,rfl⟩
theorem zlz (l:List Nat):(Tl.row (l.map fun x=>(4,x))).length=4*l.length:=by
 induction l with
 | nil=>rfl
 | cons x l ih=>simp only [List.map_cons,Tl.row,List.length_append,Tl.le_length,ih,List.length_cons];omega
theorem za7 {α:Type} (l:List α) (m:Nat) (f:α→Nat):(Tl.row (l.map fun x=>(m,f x))).length=m*l.length:=by
 induction l with
 | nil=>rfl
 | cons x l ih=>simp only [List.map_cons,Tl.row,List.length_append,Tl.le_length,ih,List.length_cons,Nat.mul_add];omega
theorem zdB (l:List (Nat×Nat)) (x:Nat×Nat):Tl.row (l++[x])=Tl.row l++Tl.le x.1 x.2:=by
 rw [Tl.row_append];simp [Tl.row]
def zhr (l:List Nat):Array Value:=(l.map fun x=>Value.int .u32 ((x:Nat):Int)).toArray
theorem zie (l:List Nat) (k:Nat) (h:k<l.length):(zhr l)[k]?=some (.int .u32 ((l[k]:Nat):Int)):=by simp [zhr,h]
theorem zlA {B : Nat} {l : List Nat} {v : Value} {w : World} (h : OutV B l v w) (s n c : Nat) (vs : List Nat) (hs : Blk w s (zhr vs) 22) (hn : vs.length = n) (hv : ∀ x ∈ vs, x < 4294967296) (hl : l.length + 4 * n ≤ 140737488355328) :
    Calls Tryz.prog 47 #[v,.slice (some ⟨s,0,none⟩) n c] w fun e w'=>e=.returned v∧OutV B (l++Tl.row (vs.map fun x=>(4,x))) v w'∧Outs B w w':=by
  subst hn
  go_enter Tryz.func47,Tryz.ntmps47
  go_wp2_with fail
  go_loopw [6,9] (fun _ i wr=>∃ k:Nat,k≤vs.length∧i=.int .i64 k∧OutV B (l++Tl.row ((vs.take k).map fun x=>(4,x))) v wr∧Outs B w wr) (fun _ i _=>vs.length-(intOf i).toNat)
  case atStart=>exact ⟨0,Nat.zero_le _,rfl,by simpa [Tl.row] using h,Outs.refl _ _⟩
  case round =>
    obtain ⟨k,hk,rfl,hO,hR⟩:=hrel
    have hS:=hR.blk hs (by decide) (by decide)
    by_cases hlt:k<vs.length
    · have hc := hS.cell k (zie vs k hlt)
      have hx:=hv _ (List.getElem_mem hlt)
      have hsn : l ++ Tl.row ((vs.take (k + 1)).map fun x => (4, x)) = (l ++ Tl.row ((vs.take k).map fun x => (4, x))) ++ Tl.le 4 vs[k] := by
        rw [List.take_succ_eq_append_getElem hlt,List.map_append,List.map_cons,List.map_nil,zdB,List.append_assoc]
      have hln : (l ++ Tl.row ((vs.take k).map fun x => (4, x))).length + 4 ≤ 140737488355328 := by
        rw [List.length_append,zlz,List.length_take];omega
      have Hsn:=qH hsn
      have Hln:=qH hln
      have hlk:(k:Int)<(vs.length:Int):=by omega
      generalize vs[k]=x at hc hx Hsn
      clear hsn hln
      have hq:=zY x (by omega)
      go_wp2_with (go_at_call 50;refine (zO hO x 4 (by omega) (by omega) (by omega) Hln.out).mono ?_;rintro e w2 ⟨rfl,ho,hr⟩)
      go_roundw
      case rel=>exact ⟨k+1,by omega,by go_num,by rw [Hsn.out];exact ho,hR.trans hr⟩
      case measure=>simp [intOf];omega
    · have hk' : k = vs.length := by omega
      subst hk'
      clear hlt
      go_wp2_with fail
      go_ret
      rw [List.take_of_length_le (Nat.le_refl _)] at hO
      exact ⟨rfl,hO,hR⟩
theorem za8 {B : Nat} {l : List Nat} {v : Value} {w : World} (h : OutV B l v w) (s n c : Nat) (vs : List Nat) {cs : Array Value} (hs : Blk w s cs 22) (hcs : cs = zhr vs) (hv : ∀ x ∈ vs, x < 4294967296) (hl : l.length + 4 * vs.length ≤ 140737488355328) (hn : vs.length = n := by rfl) :
    Calls Tryz.prog 47 #[v,.slice (some ⟨s,0,none⟩) n c] w fun e w'=>e=.returned v∧OutV B (l++Tl.row (vs.map fun x=>(4,x))) v w'∧Outs B w w':=by
  subst hn
  subst hcs
  exact zlA h s _ c vs hs rfl hv hl
theorem zcY {w w1:World} {b o:Nat} {cs:List Value} (h:w.rangeAt b o cs) (hb:Below w.heap.size w w1):w1.rangeAt b o cs:=fun j v hv=>zm (h j v hv) hb
theorem zdR {α:Type} (f:α→List Nat) (q:List α) (k:Nat) (x:α) (h:q[k]?=some x):(q.take (k+1)).flatMap f=(q.take k).flatMap f++f x:=by
 obtain ⟨hk,rfl⟩:=List.getElem?_eq_some_iff.1 h
 rw [List.take_succ_eq_append_getElem hk,List.flatMap_append]
 simp
theorem zhs {α:Type} (f:α→List Nat) (m:Nat):∀ (q:List α),(∀ x∈q,(f x).length≤m)→(q.flatMap f).length≤m*q.length
 | [],_=>by simp
 | x::q,h=>by
  have h1:=h x (by simp)
  have h2:=zhs f m q (fun y hy=>h y (by simp [hy]))
  simp only [List.flatMap_cons,List.length_append,List.length_cons,Nat.mul_add]
  omega
theorem zlB (q:List So.Post) (k:Nat):((q.take k).flatMap So.sPost).length≤10*k:=by
 have:=zhs So.sPost 10 (q.take k) (fun x _=>by simp [So.sPost,Tl.row,Tl.le_length])
 have h2:(q.take k).length≤k:=List.length_take_le _ _
 omega
structure Posts (w:World) (A:Option Addr) (n c:Nat) (L:List So.Post):Prop where
 len:L.length=n
 cap:n≤c
 max:n≤4398046511104
 cells:∀ (j:Nat) (s:So.Post),L[j]?=some s→∃ b off,A=some ⟨b,off,none⟩∧w.rangeAt b (off+j*4) (So.postL s)
theorem Posts.keep {w w1:World} {A:Option Addr} {n c:Nat} {L:List So.Post} (h:Posts w A n c L) (hb:Below w.heap.size w w1):Posts w1 A n c L :=
 ⟨h.len,h.cap,h.max,fun j s hj=>by
  obtain ⟨b,off,e,hr⟩:=h.cells j s hj
  exact ⟨b,off,e,zcY hr hb⟩⟩
theorem Posts.at_ {w:World} {A:Option Addr} {n c:Nat} {L:List So.Post} (h:Posts w A n c L) (k:Nat) (hk:k<n):∃ (s:So.Post) (b off:Nat),L[k]?=some s∧A=some ⟨b,off,none⟩∧w.cell? ⟨b,off+k*4,none⟩=some (.int .i64 s.dev)∧w.cell? ⟨b,off+k*4+1,none⟩=some (.int .u32 ((s.at_:Nat):Int))∧w.cell? ⟨b,off+k*4+2,none⟩=some (.int .i64 s.n)∧w.cell? ⟨b,off+k*4+3,none⟩=some (.int .u32 ((s.value:Nat):Int)):=by
 have hlt:k<L.length:=by rw [h.len];exact hk
 obtain ⟨b,off,e,hr⟩:=h.cells k _ (List.getElem?_eq_getElem hlt)
 exact ⟨_,b,off,List.getElem?_eq_getElem hlt,e,hr 0 _ rfl,hr 1 _ rfl,hr 2 _ rfl,hr 3 _ rfl⟩
theorem Posts.nil (w:World):Posts w none 0 0 []:=⟨rfl,Nat.le_refl _,by omega,fun j s h=>by simp at h⟩
structure Segs (w:World) (A:Option Addr) (n c:Nat) (L:List So.Seg):Prop where
 len:L.length=n
 cap:n≤c
 max:n≤4398046511104
 cells:∀ (j:Nat) (s:So.Seg),L[j]?=some s→∃ b off,A=some ⟨b,off,none⟩∧w.rangeAt b (off+j*3) (So.segL s)
theorem Segs.keep {w w1:World} {A:Option Addr} {n c:Nat} {L:List So.Seg} (h:Segs w A n c L) (hb:Below w.heap.size w w1):Segs w1 A n c L :=
 ⟨h.len,h.cap,h.max,fun j s hj=>by
  obtain ⟨b,off,e,hr⟩:=h.cells j s hj
  exact ⟨b,off,e,zcY hr hb⟩⟩
theorem Segs.at_ {w:World} {A:Option Addr} {n c:Nat} {L:List So.Seg} (h:Segs w A n c L) (k:Nat) (hk:k<n):∃ (s:So.Seg) (b off:Nat),L[k]?=some s∧A=some ⟨b,off,none⟩∧w.cell? ⟨b,off+k*3,none⟩=some (.int .u32 ((s.at_:Nat):Int))∧w.cell? ⟨b,off+k*3+1,none⟩=some (.int .i64 s.n)∧w.cell? ⟨b,off+k*3+2,none⟩=some (.bool s.write):=by
 have hlt:k<L.length:=by rw [h.len];exact hk
 obtain ⟨b,off,e,hr⟩:=h.cells k _ (List.getElem?_eq_getElem hlt)
 exact ⟨_,b,off,List.getElem?_eq_getElem hlt,e,hr 0 _ rfl,hr 1 _ rfl,hr 2 _ rfl⟩
theorem Segs.nil (w:World):Segs w none 0 0 []:=⟨rfl,Nat.le_refl _,by omega,fun j s h=>by simp at h⟩
structure Reqs (w:World) (A:Option Addr) (n c:Nat) (L:List So.Req):Prop where
 len:L.length=n
 cap:n≤c
 max:n≤4398046511104
 cells:∀ (j:Nat) (s:So.Req),L[j]?=some s→∃ b off D,A=some ⟨b,off,none⟩∧w.rangeAt b (off+j*6) (So.reqL s D)∧Segs w D.A D.n D.c s.l
theorem Reqs.keep {w w1:World} {A:Option Addr} {n c:Nat} {L:List So.Req} (h:Reqs w A n c L) (hb:Below w.heap.size w w1):Reqs w1 A n c L :=
 ⟨h.len,h.cap,h.max,fun j s hj=>by
  obtain ⟨b,off,D,e,hr,hs⟩:=h.cells j s hj
  exact ⟨b,off,D,e,zcY hr hb,hs.keep hb⟩⟩
theorem Reqs.at_ {w:World} {A:Option Addr} {n c:Nat} {L:List So.Req} (h:Reqs w A n c L) (k:Nat) (hk:k<n):∃ (s:So.Req) (b off:Nat) (B1:Option Addr) (n1 c1:Nat),L[k]?=some s∧A=some ⟨b,off,none⟩∧w.cell? ⟨b,off+k*6,none⟩=some (.int .u32 ((s.id:Nat):Int))∧w.cell? ⟨b,off+k*6+1,none⟩=some (.int .i64 s.head)∧w.cell? ⟨b,off+k*6+2,none⟩=some (.bool s.write)∧w.cell? ⟨b,off+k*6+3,none⟩=some (.int .u32 ((s.sector:Nat):Int))∧w.cell? ⟨b,off+k*6+4,none⟩=some (.int .i64 s.n)∧w.cell? ⟨b,off+k*6+5,none⟩=some (.slice B1 n1 c1)∧Segs w B1 n1 c1 s.l:=by
 have hlt:k<L.length:=by rw [h.len];exact hk
 obtain ⟨b,off,D,e,hr,hs⟩:=h.cells k _ (List.getElem?_eq_getElem hlt)
 exact ⟨_,b,off,D.A,D.n,D.c,List.getElem?_eq_getElem hlt,e,hr 0 _ rfl,hr 1 _ rfl,hr 2 _ rfl,hr 3 _ rfl,hr 4 _ rfl,hr 5 _ rfl,hs⟩
theorem Reqs.nil (w:World):Reqs w none 0 0 []:=⟨rfl,Nat.le_refl _,by omega,fun j s h=>by simp at h⟩
theorem zo {o:Oper} {y:Nat→Option Bool} (h:o.guard=none):Region.wanted o y=true:=by simp [Region.wanted,h]
def zM (l:List Nat):Array Value:=(l.map fun x=>Value.int .u8 ((x:Nat):Int)).toArray
theorem zeE (l:List Nat) (k:Nat) (h:k<l.length):(zM l)[k]?=some (.int .u8 ((l[k]:Nat):Int)):=by simp [zM,h]
theorem zlC {B g : Nat} {r : Option Nat} {l : List Nat} {w : World} (h : OutAt w B g r l) (s n c : Nat) (vs : List Nat) {cs : Array Value} (hs : Blk w s cs 5) (hcs : cs = zM vs) (hne : r ≠ some s) (hv : ∀ x ∈ vs, x < 256) (hl : l.length + vs.length ≤ 140737488355328) (hn : vs.length = n := by rfl) :
    Calls Tryz.prog 134 #[.pointer (some ⟨g,0,none⟩),.slice (some ⟨s,0,none⟩) n c] w fun e w'=>e=.returned (.pointer (some ⟨g,0,none⟩))∧OutV B (l++Tl.row (vs.map fun x=>(1,x))) (.pointer (some ⟨g,0,none⟩)) w'∧Outs B w w':=by
  subst hn
  subst hcs
  go_enter Tryz.func134,Tryz.ntmps134
  go_wp2_with fail
  go_loopw [6,9] (fun _ i wr=>∃ k:Nat,k≤vs.length∧i=.int .i64 k∧(∃ r',OutAt wr B g r' (l++Tl.row ((vs.take k).map fun x=>(1,x)))∧r'≠some s)∧Blk wr s (zM vs) 5∧Outs B w wr) (fun _ i _=>vs.length-(intOf i).toNat)
  case atStart=>exact ⟨0,Nat.zero_le _,rfl,⟨r,by simpa [Tl.row] using h,hne⟩,hs,Outs.refl _ _⟩
  case round =>
    obtain ⟨k,hk,rfl,⟨r',hO,hne'⟩,hS,hR⟩:=hrel
    by_cases hlt:k<vs.length
    · have hc := hS.cell k (zeE vs k hlt)
      have hx:=hv _ (List.getElem_mem hlt)
      have hsn : l ++ Tl.row ((vs.take (k + 1)).map fun x => (1, x)) = (l ++ Tl.row ((vs.take k).map fun x => (1, x))) ++ Tl.le 1 vs[k] := by
        rw [List.take_succ_eq_append_getElem hlt,List.map_append,List.map_cons,List.map_nil,zdB,List.append_assoc]
      have hln : (l ++ Tl.row ((vs.take k).map fun x => (1, x))).length + 1 ≤ 140737488355328 := by
        rw [List.length_append,za7 _ 1 (fun x=>x),List.length_take];omega
      have Hsn:=qH hsn
      have Hln:=qH hln
      have hlk:(k:Int)<(vs.length:Int):=by omega
      generalize vs[k]=x at hc hx Hsn
      clear hsn hln
      have hq:=zY x (by omega)
      have Hne:=qH hne'
      clear hne'
      go_wp2_with (go_at_call 50;refine (zdA B g r' _ x 1 _ hO (by omega) (by omega) (by omega) Hln.out).mono ?_;rintro e w2 ⟨r2,rfl,ho,hk2,hat⟩)
      have hSg : s ≠ g := fun e => by
        subst e
        obtain ⟨A,n,c,hB,_⟩:=hO.at_
        have:=hS.at_
        rw [hB.at_] at this
        simp only [Option.some.injEq,Obj.cells.injEq] at this
        exact absurd this.2.1 (by decide)
      have hS2:Blk w2 s (zM vs) 5:=hS.kept hk2 (by rintro (e | e);exact hSg e;exact Hne.out e)
      have hr2 : r2 ≠ some s := fun e => by
        rcases hat with e2 | e2
        · exact Hne.out (e2 ▸ e)
        · exact absurd (e2 s e) (by have:=hS.lt;omega)
      go_roundw
      case rel=>exact ⟨k+1,by omega,by go_num,⟨r2,by rw [Hsn.out];exact ho,hr2⟩,hS2,hR.trans (Outs.of_kept hO hk2 (Nat.le_refl _))⟩
      case measure=>simp [intOf];omega
    · have hk' : k = vs.length := by omega
      subst hk'
      clear hlt
      have Hne:=qH hne'
      clear hne'
      go_wp2_with fail
      go_ret
      rw [List.take_of_length_le (Nat.le_refl _)] at hO
      exact ⟨rfl,⟨g,r',rfl,hO⟩,hR⟩
def zpj (w:World) (f:So.Fifo) (e:Ending) (w':World):Prop:=∃ A n c,e=.returned (.slice A n c)∧Bs w' A n c (So.fifoB f)∧(0<n→∃ q cs,A.map (·.block)=some q∧Blk w' q cs 77)∧Below w.heap.size w w'
theorem znm (f:So.Fifo) (k:Nat) (hk:k<16):(So.fifoL f).toArray[0+k]?=some (.int .u8 ((f.b k:Nat):Int)):=by
 rw [List.getElem?_toArray]
 unfold So.fifoL
 rw [List.getElem?_append_left (by simp;omega)]
 simp [List.getElem?_range,hk]
theorem zeF (f:So.Fifo) (hok:f.Ok) (w:World):Calls Tryz.prog 133 #[.agg (So.fifoL f).toArray] w (zpj w f):=by
 by_cases h0:f.n<0
 ·
  go_enter Tryz.func133,Tryz.ntmps133
  go_upto_region 1 with (fail)
  have hB:=Blk.new w (So.fifoL f).toArray 77
  have hbel:=za (Below.refl w.heap.size w) (.cells (So.fifoL f).toArray 77)
  generalize w.alloc (.cells (So.fifoL f).toArray 77)=W1 at hB hbel ⊢
  have hc:W1.cell? ⟨w.heap.size,16,none⟩=some (.int .i64 f.n):=hB.cell 16 rfl
  go_wp2
  go_ret
  exact ⟨none,0,0,rfl,by unfold So.fifoB;rw [if_pos (.inl h0)];exact Bs.nil _ _ _,fun h=>absurd h (by omega),hbel⟩
 ·
  by_cases h1:16<f.n
  ·
   go_enter Tryz.func133,Tryz.ntmps133
   go_upto_region 1 with (fail)
   have hB:=Blk.new w (So.fifoL f).toArray 77
   have hbel:=za (Below.refl w.heap.size w) (.cells (So.fifoL f).toArray 77)
   generalize w.alloc (.cells (So.fifoL f).toArray 77)=W1 at hB hbel ⊢
   have hc:W1.cell? ⟨w.heap.size,16,none⟩=some (.int .i64 f.n):=hB.cell 16 rfl
   go_wp2
   go_ret
   exact ⟨none,0,0,rfl,by unfold So.fifoB;rw [if_pos (.inr h1)];exact Bs.nil _ _ _,fun h=>absurd h (by omega),hbel⟩
  ·
   obtain ⟨m,hm⟩:∃ m:Nat,f.n=m:=⟨f.n.toNat,by omega⟩
   have hm16:m≤16:=by omega
   have hfb:So.fifoB f=(List.range m).map f.b:=by unfold So.fifoB;rw [if_neg (by omega),hm];simp
   have Hfb:=qH hfb
   have hcn:(So.fifoL f).toArray[16]?=some (.int .i64 (m:Int)):=by rw [←hm];rfl
   have Hcn:=qH hcn
   clear hfb hcn h0 h1 hm
   have h0:(0:Int)≤(m:Int):=by omega
   have h1:(m:Int)≤16:=by omega
   go_enter Tryz.func133,Tryz.ntmps133
   go_upto_region 1 with (fail)
   have hB:=Blk.new w (So.fifoL f).toArray 77
   have hbel:=za (Below.refl w.heap.size w) (.cells (So.fifoL f).toArray 77)
   generalize w.alloc (.cells (So.fifoL f).toArray 77)=W1 at hB hbel ⊢
   generalize w.heap.size=g at hB ⊢
   have hc:=hB.cell 16 Hcn.out
   go_wp2
   go_ret
   refine ⟨some ⟨g,0,none⟩,m,16,rfl,?_,fun _=>⟨g,_,rfl,hB⟩,hbel⟩
   rw [Hfb.out]
   refine ⟨by simp,hm16,by omega,fun x hx=>?_,fun _=>⟨g,0,rfl,fun j hj=>?_⟩⟩
   ·
    obtain ⟨i,_,rfl⟩:=List.mem_map.1 hx
    exact hok i
   ·
    have:=hB.cell _ (znm f j (by omega))
    rw [this]
    simp [List.getD_eq_getElem?_getD,List.getElem?_range,hj]
theorem zdS (s : Nat) (w : World) (hs : s < 4294967296) (b0 b1 b2 b3 : Nat) (h : Crc.tail4 s = [b0, b1, b2, b3]) :
    Calls Tryz.prog 184 #[.int .u32 s] w fun e w'=>e=.returned (.agg #[.int .u8 (b0:Int),.int .u8 (b1:Int),.int .u8 (b2:Int),.int .u8 (b3:Int)])∧Below w.heap.size w w':=by
  simp only [Crc.tail4,List.cons.injEq,and_true] at h
  obtain ⟨h0,h1,h2,h3⟩:=h
  have e0:IntKind.u8.wrap ((s:Int) / 16777216)=(b0:Int):=by rw [IntKind.wrap_u8];omega
  have e1:IntKind.u8.wrap ((s:Int) / 65536)=(b1:Int):=by rw [IntKind.wrap_u8];omega
  have e2:IntKind.u8.wrap ((s:Int) / 256)=(b2:Int):=by rw [IntKind.wrap_u8];omega
  have e3:IntKind.u8.wrap (s:Int)=(b3:Int):=by rw [IntKind.wrap_u8];omega
  clear h0 h1 h2 h3
  go_enter Tryz.func184,Tryz.ntmps184
  go_wp2
  simp [bodyPost,results,Tryz.results184,go_sem]
  exact za (Below.refl _ _) _
theorem zgo (s:Nat):∃ b0 b1 b2 b3:Nat,Crc.tail4 s=[b0,b1,b2,b3]∧b0<256∧b1<256∧b2<256∧b3<256 :=
 ⟨_,_,_,_,rfl,by omega,by omega,by omega,by omega⟩
def ofN (l:List Nat):Nat:=Crc.sum 4294967295 l
theorem zfy (l:List Nat):ofN l<4294967296:=Crc.sum_lt l 4294967295 (by decide)
theorem zgp (A : Option Addr) (n c : Nat) (l : List Nat) (w : World) (hb : Bs w A n c l) (hT : TabW w) :
    Calls Tryz.prog 185 #[.slice A n c] w fun e w'=>e=.returned (.int .u32 (ofN l:Nat))∧w=w':=zoi A n c l w hb hT
def zab (l:List Nat):List Nat:=l++Crc.tail4 (ofN l)
theorem zht (A : Option Addr) (n c : Nat) (l : List Nat) (w : World) (hb : Bs w A n c l) (hT : TabW w) (hn : n + 4 ≤ 140737488355328) :
    Calls Tryz.prog 143 #[.slice A n c] w (zlu w (n+4) (zab l)):=by
  have hs:=zfy l
  obtain ⟨b0,b1,b2,b3,h4,q0,q1,q2,q3⟩:=zgo (ofN l)
  have ht:Hid (zab l=l++[b0,b1,b2,b3]):=qH (by unfold zab;rw [h4])
  have h4':=qH h4
  clear h4
  go_enter Tryz.func143,Tryz.ntmps143
  go_wp2_with (first | (go_at_call 185;refine (zgp A n c l _ hb hT).mono ?_;rintro e w' ⟨rfl,rfl⟩) | (go_at_call 184;refine (zdS _ _ hs b0 b1 b2 b3 h4'.out).mono ?_;rintro e w' ⟨rfl,hb53⟩))
  have hW:Below w.heap.size w (w'.alloc (Obj.cells #[Value.int IntKind.u8 ↑b0,Value.int IntKind.u8 ↑b1,Value.int IntKind.u8 ↑b2,Value.int IntKind.u8 ↑b3] 360)):=za hb53 _
  have hq:∀ x∈[b0,b1,b2,b3],x<256:=by simp;omega
  have hB4:Bs (w'.alloc (Obj.cells #[Value.int IntKind.u8 ↑b0,Value.int IntKind.u8 ↑b1,Value.int IntKind.u8 ↑b2,Value.int IntKind.u8 ↑b3] 360)) (some ⟨w'.heap.size,0,none⟩) 4 4 [b0,b1,b2,b3]:=Bs.lit w' 360 (0,0) [b0,b1,b2,b3] 4 rfl (by omega) hq
  have hbW:=hb.keep hW
  have hW2:=hW.size
  generalize w'.alloc (Obj.cells #[Value.int IntKind.u8 ↑b0,Value.int IntKind.u8 ↑b1,Value.int IntKind.u8 ↑b2,Value.int IntKind.u8 ↑b3] 360)=W at hW hB4 hbW hW2 ⊢
  generalize w'.heap.size=g at hB4 ⊢
  go_region_held3 (fun w'=>Bs w' (some ⟨g,0,none⟩) 4 4 [b0,b1,b2,b3]) ((first | exact hB4.drew | exact hB4.drew.keep hbel | exact hB4.drew.keep (zaJ hbel hg2 (fun k hk=>(hown.ge k hk).1)))) (first | (go_at_call 129;refine (zbs A n c l _ hbW.drew).mono ?_;rintro e w' ⟨A1,c1,rfl,hown,hbel⟩) | (refine zgg rfl _ _ 65 5 rfl Tryz.underlying65 Tryz.info5 _ A1 n c1 l (some ⟨g,0,none⟩) 4 4 [b0,b1,b2,b3] (n+4) rfl rfl rfl hown (by assumption) hbel.size hn ?_;intro A2 c2 w2 hown2 hg2 hat2) | fail)
  go_wp2
  go_ret
  exact ⟨A2,c2,rfl,by rw [ht.out];exact hown2.lower hW2,zb (zr hW) (zaJ hbel hg2 (fun k hk=>(hown.ge k hk).1))⟩
theorem zoo (v0 v1 v2 v3:Value) (w:World):(part 5 #[v0,v1,v2,v3] 0).run Tryz.prog w=.ok v0 w:=by kernel_rfl
theorem zop (v0 v1 v2 v3:Value) (w:World):(part 5 #[v0,v1,v2,v3] 1).run Tryz.prog w=.ok v1 w:=by kernel_rfl
theorem zoq (v0 v1 v2 v3:Value) (w:World):(part 5 #[v0,v1,v2,v3] 2).run Tryz.prog w=.ok v2 w:=by kernel_rfl
theorem zor (v0 v1 v2 v3:Value) (w:World):(part 5 #[v0,v1,v2,v3] 3).run Tryz.prog w=.ok v3 w:=by kernel_rfl
theorem zpk (w:World):(sizeOf 5).run Tryz.prog w=.ok 1 w:=by kernel_rfl
theorem eq4d (d : Nat) (w : World) (a0 a1 a2 a3 b0 b1 b2 b3 : Int) : (Op.equalIn (d + 2) 360 (.agg #[.int .u8 a0, .int .u8 a1, .int .u8 a2, .int .u8 a3]) (.agg #[.int .u8 b0, .int .u8 b1, .int .u8 b2, .int .u8 b3])).run Tryz.prog w
    = .ok (a0==b0&&(a1==b1&&(a2==b2&&a3==b3))) w:=by
  have h5:=fun a b=>run_equalIn_int (P:=Tryz.prog) w d 5 .u8 .u8 a b Tryz.underlying5
  unfold Op.equalIn
  simp only [Sem.run_bind,run_underlying Tryz.underlying360,Result.andThen_ok,zpk,Std.Legacy.Range.forIn_eq_forIn_range']
  simp only [Std.Legacy.Range.size,List.range',List.forIn_cons,List.forIn_nil,Nat.zero_mul,Nat.one_mul,Nat.zero_add,Nat.mul_one,Sem.run_bind,Result.andThen_ok,zoo,zop,zoq,zor,h5,Sem.run_pure,Sem.run_ite]
  simp [zoo,zop,zoq,zor,h5,List.range',Sem.run_ite]
  by_cases h0:a0=b0<;>by_cases h1:a1=b1<;>by_cases h2:a2=b2<;>by_cases h3:a3=b3<;>simp [h0,h1,h2,h3]
theorem eq4 (w : World) (l m : List Nat) (a0 a1 a2 a3 b0 b1 b2 b3 : Nat) (hl : l = [a0, a1, a2, a3]) (hm : m = [b0, b1, b2, b3]) : (Op.equalIn 10000 360 (.agg #[.int .u8 a0, .int .u8 a1, .int .u8 a2, .int .u8 a3]) (.agg #[.int .u8 b0, .int .u8 b1, .int .u8 b2, .int .u8 b3])).run Tryz.prog w
    = .ok (decide (l=m)) w:=by
  rw [eq4d 9998 w,hl,hm]
  congr 1
  rw [Bool.eq_iff_iff]
  simp
  omega
theorem TabW.drew {w:World} (h:TabW w):TabW w.drew:=⟨h.cell⟩
def zaI (l:List Nat):Bool:=decide (4≤l.length)&&decide (Crc.tail4 (ofN (l.take (l.length-4)))=l.drop (l.length-4))
theorem zjE (A : Option Addr) (n c : Nat) (l : List Nat) (w : World) (hb : Bs w A n c l) (hn : n < 4) :
    Calls Tryz.prog 182 #[.slice A n c] w fun e w'=>e=.returned (.tuple #[.slice none 0 0,.iface 149 (.int .i64 12)])∧w=w':=by
  go_enter Tryz.func182,Tryz.ntmps182
  go_wp2
  go_ret2
  exact ⟨rfl,rfl⟩
def Cuts (w:World) (n:Nat) (l:List Nat) (e:Ending) (w':World):Prop:=∃ A1 c1,e=.returned (.tuple #[.slice A1 n c1,.nilIface])∧Own w' w.heap.size 5 A1 n c1 l∧Below w.heap.size w w'
set_option maxRecDepth 100000 in
theorem cut_good (b off m c : Nat) (l : List Nat) (w : World) (hb : Bs w (some ⟨b, off, none⟩) (m + 4) c l) (hT : TabW w) (b0 b1 b2 b3 x0 x1 x2 x3 : Nat) (h4 : Hid (Crc.tail4 (ofN (l.take m)) = [b0, b1, b2, b3])) (hx : Hid (l.drop m = [x0, x1, x2, x3])) (hq : Hid (Crc.tail4 (ofN (l.take m)) = l.drop m)) :
    Calls Tryz.prog 182 #[.slice (some ⟨b,off,none⟩) (m+4:Nat) c] w (Cuts w m (l.take m)):=by
  have hs:=zfy (l.take m)
  have hcap:=hb.cap
  have hmax:=hb.max
  have hbt:=hb.take m (by omega)
  obtain ⟨b',off',e,hc⟩:=hb.cells (by omega)
  simp only [Option.some.injEq,Addr.mk.injEq,and_true] at e
  obtain ⟨rfl,rfl⟩:=e
  have cell : ∀ j x : Nat, (l.drop m)[j]? = some x → j < 4 → w.cell? ⟨b, off + (m + j), none⟩ = some (.int .u8 (x : Int)) := by
    intro j x hj hj4
    rw [hc (m+j) (by omega)]
    rw [List.getElem?_drop] at hj
    simp [List.getD_eq_getElem?_getD,hj]
  have k0:=cell 0 x0 (by rw [hx.out];rfl) (by omega)
  have k1:=cell 1 x1 (by rw [hx.out];rfl) (by omega)
  have k2:=cell 2 x2 (by rw [hx.out];rfl) (by omega)
  have k3:=cell 3 x3 (by rw [hx.out];rfl) (by omega)
  clear hc cell
  have hm0:(0:Int)≤(m:Int):=by omega
  have hm1:(m:Int)≤((m+4:Nat):Int):=by omega
  have hm2:m≤m+4:=by omega
  have hm3:m≤c:=by omega
  have hsl:=zmQ (P:=Tryz.prog) 65 5 .i64 Tryz.underlying65 Tryz.info5 b off (m+4) c m (by omega) (by omega)
  have harr:=fun (W:World)=>run_arrayAt (P:=Tryz.prog) (w:=W) 360 5 4 (some ⟨b,off+m,none⟩) 4 (c-m) Tryz.underlying360 (by omega)
  have hsub:m+4-m=4:=by omega
  rw [hsub] at hsl
  clear hsub
  have heq:=fun (W:World)=>(eq4 W _ _ b0 b1 b2 b3 x0 x1 x2 x3 h4.out hx.out).trans (by rw [decide_eq_true hq.out])
  go_enter Tryz.func182,Tryz.ntmps182
  go_wp2_with fail
  simp only [←Nat.add_assoc,Nat.add_zero] at k0 k1 k2 k3
  go_region_held3 (fun w'=>w'.cell? ⟨b,off+m,none⟩=some (.int .u8 (x0:Int))∧w'.cell? ⟨b,off+m+1,none⟩=some (.int .u8 (x1:Int))∧w'.cell? ⟨b,off+m+2,none⟩=some (.int .u8 (x2:Int))∧w'.cell? ⟨b,off+m+3,none⟩=some (.int .u8 (x3:Int))) ((first | exact ⟨k0,k1,k2,k3⟩ | exact ⟨zm (zal k0) hb53,zm (zal k1) hb53,zm (zal k2) hb53,zm (zal k3) hb53⟩)) (first | (go_at_call 185;refine (zgp _ m c (l.take m) _ hbt.drew hT.drew).mono ?_;rintro e w' ⟨rfl,rfl⟩) | (go_at_call 184;refine (zdS _ _ hs b0 b1 b2 b3 h4.out).mono ?_;rintro e w' ⟨rfl,hb53⟩) | fail)
  all_goals go_wp2_with (go_at_call 129;refine (zbs _ m c (l.take m) _ (hbt.drew.keep hb53)).mono ?_;rintro e w' ⟨A1,c1,rfl,hown,hbel⟩)
  all_goals go_ret2
  all_goals exact ⟨A1,c1,rfl,hown.lower (zb (zr (Below.refl _ _)) hb53).size,zb (zb (zr (Below.refl _ _)) hb53) hbel⟩
set_option maxRecDepth 100000 in
theorem cut_bad (b off m c : Nat) (l : List Nat) (w : World) (hb : Bs w (some ⟨b, off, none⟩) (m + 4) c l) (hT : TabW w) (b0 b1 b2 b3 x0 x1 x2 x3 : Nat) (h4 : Hid (Crc.tail4 (ofN (l.take m)) = [b0, b1, b2, b3])) (hx : Hid (l.drop m = [x0, x1, x2, x3])) (hq : Hid (¬ Crc.tail4 (ofN (l.take m)) = l.drop m)) :
    Calls Tryz.prog 182 #[.slice (some ⟨b,off,none⟩) (m+4:Nat) c] w fun e w'=>e=.returned (.tuple #[.slice none 0 0,.iface 149 (.int .i64 11)])∧Below w.heap.size w w':=by
  have hs:=zfy (l.take m)
  have hcap:=hb.cap
  have hmax:=hb.max
  have hbt:=hb.take m (by omega)
  obtain ⟨b',off',e,hc⟩:=hb.cells (by omega)
  simp only [Option.some.injEq,Addr.mk.injEq,and_true] at e
  obtain ⟨rfl,rfl⟩:=e
  have cell : ∀ j x : Nat, (l.drop m)[j]? = some x → j < 4 → w.cell? ⟨b, off + (m + j), none⟩ = some (.int .u8 (x : Int)) := by
    intro j x hj hj4
    rw [hc (m+j) (by omega)]
    rw [List.getElem?_drop] at hj
    simp [List.getD_eq_getElem?_getD,hj]
  have k0:=cell 0 x0 (by rw [hx.out];rfl) (by omega)
  have k1:=cell 1 x1 (by rw [hx.out];rfl) (by omega)
  have k2:=cell 2 x2 (by rw [hx.out];rfl) (by omega)
  have k3:=cell 3 x3 (by rw [hx.out];rfl) (by omega)
  clear hc cell
  have hm0:(0:Int)≤(m:Int):=by omega
  have hm1:(m:Int)≤((m+4:Nat):Int):=by omega
  have hm2:m≤m+4:=by omega
  have hm3:m≤c:=by omega
  have hsl:=zmQ (P:=Tryz.prog) 65 5 .i64 Tryz.underlying65 Tryz.info5 b off (m+4) c m (by omega) (by omega)
  have harr:=fun (W:World)=>run_arrayAt (P:=Tryz.prog) (w:=W) 360 5 4 (some ⟨b,off+m,none⟩) 4 (c-m) Tryz.underlying360 (by omega)
  have hsub:m+4-m=4:=by omega
  rw [hsub] at hsl
  clear hsub
  have heq:=fun (W:World)=>(eq4 W _ _ b0 b1 b2 b3 x0 x1 x2 x3 h4.out hx.out).trans (by rw [decide_eq_false hq.out])
  go_enter Tryz.func182,Tryz.ntmps182
  go_wp2_with fail
  simp only [←Nat.add_assoc,Nat.add_zero] at k0 k1 k2 k3
  go_region_held3 (fun w'=>w'.cell? ⟨b,off+m,none⟩=some (.int .u8 (x0:Int))∧w'.cell? ⟨b,off+m+1,none⟩=some (.int .u8 (x1:Int))∧w'.cell? ⟨b,off+m+2,none⟩=some (.int .u8 (x2:Int))∧w'.cell? ⟨b,off+m+3,none⟩=some (.int .u8 (x3:Int))) ((first | exact ⟨k0,k1,k2,k3⟩ | exact ⟨zm (zal k0) hb53,zm (zal k1) hb53,zm (zal k2) hb53,zm (zal k3) hb53⟩)) (first | (go_at_call 185;refine (zgp _ m c (l.take m) _ hbt.drew hT.drew).mono ?_;rintro e w' ⟨rfl,rfl⟩) | (go_at_call 184;refine (zdS _ _ hs b0 b1 b2 b3 h4.out).mono ?_;rintro e w' ⟨rfl,hb53⟩) | fail)
  all_goals go_wp2
  all_goals go_ret2
  all_goals exact ⟨rfl,zb (zr (Below.refl _ _)) hb53⟩
end Go.Proofs.YtdffbihilhkkjaaGreatDoor
