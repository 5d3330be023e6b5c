import Derived.Test.YtdffbihilhkkjaaGreatDoorZ2
import Derived.Test.YtdffbihilhkkjaaGreatDoorZ3
import Derived.Laws.BytesArg
import Derived.Laws.StructEq
namespace Go.Proofs.YtdffbihilhkkjaaGreatDoor
open Go.RowKit
set_option linter.unusedVariables false
set_option linter.unusedSimpArgs false
set_option maxRecDepth 100000
set_option maxHeartbeats 8000000
theorem zh7 (l:List Nat) (j x:Nat):(zA l).set j (.int .u8 (x:Int))=zA (l.set j x):=by simp [zA,List.map_set]
theorem Own.set {w:World} {base:Nat} {e:TypeId} {g n c:Nat} {l:List Nat} (h:Own w base e (some ⟨g,0,none⟩) n c l) (j x:Nat) (hx:x<256):Own (w.setCell ⟨g,j,none⟩ (.int .u8 (x:Int))) base e (some ⟨g,0,none⟩) n c (l.set j x):=by
 refine ⟨?_,?_,h.max⟩
 ·
  have:=(h.own.stored j (.int .u8 (x:Int))).1
  rwa [zh7] at this
 ·
  intro y hy
  rcases List.mem_or_eq_of_mem_set hy with hy | hy
  · exact h.small y hy
  · rw [hy];exact hx
theorem Own.form {w:World} {base:Nat} {e:TypeId} {A:Option Addr} {n c:Nat} {l:List Nat} (h:Own w base e A n c l) (hn:0<n):∃ g,A=some ⟨g,0,none⟩∧base≤g∧g<w.heap.size∧∀ j,w.frozen? ⟨g,j,none⟩=false:=by
 rcases h.own.2 with ⟨he,h0⟩ | ⟨g,cap,cur,he,hb,hg,_⟩
 · omega
 ·
  simp only [Value.slice.injEq,true_and] at he
  exact ⟨g,he.1,hb,(Array.getElem?_eq_some_iff.1 hg).1,fun j=>by simp [World.frozen?,hg]⟩
theorem Own.cell {w : World} {base : Nat} {e : TypeId} {g n c : Nat} {l : List Nat} (h : Own w base e (some ⟨g, 0, none⟩) n c l) (j : Nat) (hj : j < n) :
    w.cell? ⟨g,j,none⟩=some (.int .u8 ((l.getD j 0:Nat):Int))∧w.frozen? ⟨g,j,none⟩=false∧base≤g∧g<w.heap.size:=by
  obtain ⟨b,off,e1,hc⟩:=h.bs.cells (by omega)
  simp only [Option.some.injEq,Addr.mk.injEq,and_true] at e1
  obtain ⟨rfl,rfl⟩:=e1
  obtain ⟨g',e2,h1,h2,h3⟩:=h.form (by omega)
  simp only [Option.some.injEq,Addr.mk.injEq,and_true] at e2
  subst e2
  have:=hc j hj
  rw [Nat.zero_add] at this
  exact ⟨this,h3 j,h1,h2⟩
def strOf (l:List Nat):ByteArray:=strOfNums (l.map fun x:Nat=>(x:Int))
theorem zjA {l m:List Nat} (hl:∀ x∈l,x<256) (hm:∀ x∈m,x<256) (h:strOf l=strOf m):l=m:=by
 have h1:=congrArg (fun s=>s.data.toList) h
 simp only [strOf,strOfNums_data,List.map_map] at h1
 have key:∀ (l m:List Nat),(∀ x∈l,x<256)→(∀ x∈m,x<256)→l.map ((fun n:Int=>UInt8.ofNat n.toNat)∘fun x:Nat=>(x:Int))=m.map ((fun n:Int=>UInt8.ofNat n.toNat)∘fun x:Nat=>(x:Int))→l=m:=by
  intro l
  induction l with
  | nil=>intro m _ _ h;cases m with
   | nil=>rfl
   | cons c m=>simp at h
  | cons c l ih =>
   intro m hl hm h
   cases m with
   | nil=>simp at h
   | cons d m =>
    simp only [List.map_cons,List.cons.injEq,Function.comp_apply,Int.toNat_natCast] at h
    have h2:=congrArg UInt8.toNat h.1
    have:=hl c (by simp)
    have:=hm d (by simp)
    simp only [UInt8.toNat_ofNat'] at h2
    rw [ih m (fun x hx=>hl x (by simp [hx])) (fun x hx=>hm x (by simp [hx])) h.2]
    congr 1
    omega
 exact key l m hl hm h1
theorem zoj {l m:List Nat} (hl:∀ x∈l,x<256) (hm:∀ x∈m,x<256) (h:l≠m):((strOf l).toList==(strOf m).toList)=false:=by
 cases hb:((strOf l).toList==(strOf m).toList) with
 | false=>rfl
 | true =>
  rw [ByteArray.toList_eq,ByteArray.toList_eq] at hb
  exact absurd (zjA hl hm (ByteArray.ext (Array.toList_inj.1 (eq_of_beq hb)))) h
theorem zck {P : Program} (t e s : TypeId) (ht : P.underlying t = some (.slice e)) (he : P.underlying e = some (.int .u8)) (hs : P.underlying s = some .string) {w : World} {A : Option Addr} {n c : Nat} {l : List Nat} (h : Bs w A n c l) :
    (convert t s (.slice A n c)).run P w=.ok (.string (strOf l)) w:=by
  rcases Nat.eq_zero_or_pos n with h0 | h0
  · subst h0
    obtain rfl:l=[]:=List.eq_nil_of_length_eq_zero h.len
    cases A with
    | none=>exact run_convert_bytes_nil w t e ht he 0 c s hs
    | some ad =>
      have hl : (loadCells ad 0).run P w = .ok (([] : List Int).map (Value.int .u8)).toArray w := by
        have:=run_loadCells_list (P:=P) (w:=w) ad [] (fun j v hj=>by simp at hj)
        simpa using this
      rw [run_convert_bytes_string w t s e _ 0 c ht he hs,run_bytesToString w _ 0 c [] hl]
      rfl
  · obtain ⟨b, off, rfl, hc⟩ := h.cells h0
    exact run_convert_bytes_arg w t e ht he b off n c (l.map fun x : Nat => (x : Int)) (by simp [h.len]) (fun i hi => by
      rw [hc i hi]
      simp [List.getD_eq_getElem?_getD,List.getElem?_map,List.getElem?_eq_getElem (show i<l.length by rw [h.len];exact hi)]) s hs
structure Kept (S:Nat→Prop) (w w':World):Prop where
 os:w'.os=w.os
 tape:w'.tape=w.tape
 output:w'.output=w.output
 size:w.heap.size≤w'.heap.size
 block:∀ k,k<w.heap.size→¬ S k→w'.heap[k]?=w.heap[k]?
theorem Kept.refl (S:Nat→Prop) (w:World):Kept S w w:=⟨rfl,rfl,rfl,Nat.le_refl _,fun _ _ _=>rfl⟩
theorem Kept.then_ {S S':Nat→Prop} {a b c:World} (h:Kept S a b) (k:Kept S' b c) (hs:∀ i,i<a.heap.size→S' i→S i):Kept S a c :=
 ⟨k.os.trans h.os,k.tape.trans h.tape,k.output.trans h.output,Nat.le_trans h.size k.size,fun i hi hn =>
  (k.block i (Nat.lt_of_lt_of_le hi h.size) (fun h'=>hn (hs i hi h'))).trans (h.block i hi hn)⟩
theorem Kept.trans {S:Nat→Prop} {a b c:World} (h:Kept S a b) (k:Kept S b c):Kept S a c:=h.then_ k fun _ _ h=>h
theorem Kept.mono {S T:Nat→Prop} {a b:World} (h:Kept S a b) (hs:∀ i,i<a.heap.size→S i→T i):Kept T a b :=
 ⟨h.os,h.tape,h.output,h.size,fun i hi hn=>h.block i hi fun h'=>hn (hs i hi h')⟩
theorem Kept.of_below {S:Nat→Prop} {w w':World} (h:Below w.heap.size w w'):Kept S w w':=⟨h.os,h.tape,h.output,h.size,fun k hk _=>h.block k hk⟩
theorem Kept.of_grown {S:Nat→Prop} {w w':World} {row:Option Nat} (h:w.grownBy w' row) (hr:∀ k,k<w.heap.size→row=some k→S k):Kept S w w' :=
 ⟨h.os,h.tape,h.output,h.size,fun k hk hn=>h.block k hk fun e=>hn (hr k hk e.symm)⟩
theorem Kept.grown_ {S:Nat→Prop} {w W w':World} (k:Kept S w W) {row:Option Nat} (h:W.grownBy w' row) (hr:∀ k,k<w.heap.size→row=some k→S k):Kept S w w' :=
 k.then_ (S':=fun i=>row=some i) (Kept.of_grown h fun _ _ e=>e) hr
theorem Kept.below_ {S:Nat→Prop} {w W w':World} (k:Kept S w W) (h:Below W.heap.size W w'):Kept S w w':=k.then_ (S':=fun _=>False) (Kept.of_below h) (fun _ _ h=>h.elim)
theorem Kept.alloc {S:Nat→Prop} {w W:World} (k:Kept S w W) (o:Obj):Kept S w (W.alloc o):=k.below_ ((Below.refl _ _).alloc (Nat.le_refl _) _)
theorem Kept.drew {S:Nat→Prop} {w W:World} (k:Kept S w W):Kept S w W.drew:=⟨k.os,k.tape,k.output,k.size,k.block⟩
theorem Kept.drewN {S:Nat→Prop} {w W:World} (k:Kept S w W) (n:Nat):Kept S w (W.drewN n):=⟨k.os,k.tape,k.output,k.size,k.block⟩
theorem Kept.set {S:Nat→Prop} {w W:World} (k:Kept S w W) {p:Addr} (hp:p.block<w.heap.size→S p.block) (u:Value):Kept S w (W.setCell p u) :=
 ⟨k.os,k.tape,k.output,by simpa [World.setCell] using k.size,fun i hi hn=>(Below.heap_setCell W p u i (fun e=>hn (by rw [e] at hi ⊢;exact hp hi))).trans (k.block i hi hn)⟩
theorem Kept.below {S:Nat→Prop} {w w':World} (k:Kept S w w') {B:Nat} (hB:B≤w.heap.size) (hs:∀ i,i<B→¬ S i):Below B w w' :=
 ⟨k.os,k.tape,k.output,k.size,fun i hi=>k.block i (by omega) (hs i hi)⟩
theorem zQ {w W w1:World} (h:Below w.heap.size w W) {S:Nat→Prop} (k:Kept S W w1) (hs:∀ i,i<w.heap.size→¬ S i):Below w.heap.size w w1:=h.trans (k.below h.size hs)
theorem Kept.cell {S:Nat→Prop} {w w':World} (k:Kept S w w') {a:Addr} {v:Value} (h:w.cell? a=some v) (hn:¬ S a.block):w'.cell? a=some v :=
 (World.cell?_of_block (k.block _ (World.block_lt_of_cell? w a h) hn)).trans h
theorem Blk.kept {S:Nat→Prop} {w w1:World} {g:Nat} {cs:Array Value} {t:TypeId} (h:Blk w g cs t) (k:Kept S w w1) (hn:¬ S g):Blk w1 g cs t:=⟨(k.block g h.lt hn).trans h.at_⟩
theorem Bs.kept {S:Nat→Prop} {w w1:World} {A:Option Addr} {n c:Nat} {l:List Nat} (h:Bs w A n c l) (k:Kept S w w1) (hn:∀ b,A.map (·.block)=some b→¬ S b):Bs w1 A n c l :=
 ⟨h.len,h.cap,h.max,h.small,fun h0=>by
  obtain ⟨b,off,e,hc⟩:=h.cells h0
  exact ⟨b,off,e,fun j hj=>k.cell (hc j hj) (hn b (by rw [e];rfl))⟩⟩
theorem Own.kept {S:Nat→Prop} {w w1:World} {base:Nat} {e:TypeId} {A:Option Addr} {n c:Nat} {l:List Nat} (h:Own w base e A n c l) (k:Kept S w w1) (hn:∀ b,A.map (·.block)=some b→¬ S b):Own w1 base e A n c l :=
 ⟨⟨h.own.1,by
  rcases h.own.2 with h2 | ⟨g,cap,cur,he,hb,hg,hr⟩
  · exact .inl h2
  ·
   refine .inr ⟨g,cap,cur,he,hb,?_,hr⟩
   have hlt:=(Array.getElem?_eq_some_iff.1 hg).1
   have hA:A.map (·.block)=some g:=by
    simp only [Value.slice.injEq] at he
    rw [he.1];rfl
   exact (k.block g hlt (hn g hA)).trans hg⟩,h.small,h.max⟩
theorem Bs.apart {w:World} {A:Option Addr} {n c:Nat} {l:List Nat} (h:Bs w A n c l) {g:Nat} {cs:Array Value} {t:TypeId} (hg:Blk w g cs t) (hcs:∀ (i:Nat) (v:Value),cs[i]?=some v→∀ x:Int,v≠Value.int .u8 x) (hn:0<n):A.map (·.block)≠some g:=by
 obtain ⟨b,off,e,hc⟩:=h.cells hn
 intro h'
 rw [e] at h'
 simp only [Option.map_some,Option.some.injEq] at h'
 subst h'
 have h0:=hc 0 hn
 have h1:=cell_of_row w b (off+0) cs t (0,0) hg.at_
 rw [h1] at h0
 exact hcs _ _ h0 _ rfl
theorem Bs.far {w w1:World} {A:Option Addr} {n c:Nat} {l:List Nat} (h:Bs w A n c l) {S:Nat→Prop} (k:Kept S w w1) (hn:0<n→∀ b,A.map (·.block)=some b→¬ S b):Bs w1 A n c l :=
 ⟨h.len,h.cap,h.max,h.small,fun h0=>(h.kept k (hn h0)).cells h0⟩
def Ap (w:World) (base:Nat) (e:TypeId) (A:Option Addr) (n c:Nat) (l:List Nat):Prop:=Own w base e A n c l∨(Bs w A n c l∧n=c∧0<n)
theorem Own.ap {w:World} {base:Nat} {e:TypeId} {A:Option Addr} {n c:Nat} {l:List Nat} (h:Own w base e A n c l):Ap w base e A n c l:=.inl h
section
variable {P:Program} {ops:Array Oper} {rest:List Oper} {o:Oper} {a:Act} {Q:Exit→Act→World→Prop} {w:World}
theorem zeZ (t ty e : TypeId) (ht : P.underlying t = some (.slice e)) (hinfo : (P.info? e).map (fun i => (i.zero, i.size, i.bytes)) = some (some (.int .u8 0), 1, 1))
    (base:Nat) (A0:Option Addr) (n0 c0:Nat) (xs:List Nat) (A:Option Addr) (m c:Nat) (ys:List Nat) (n1:Nat) (hn1:n1=n0+m) (hm:0<m)
    (HO:Ap w base e A0 n0 c0 xs) (HR:Bs w A m c ys) (hbase:base≤w.heap.size) (hl:n0+m≤140737488355328) :
    ∃ A1 c1 w1,(Builtin.append_ #[t,t] ty #[.slice A0 n0 c0,.slice A m c]).run P w=.ok (.slice A1 n1 c1) w1∧Own w1 base e A1 n1 c1 (xs++ys)∧w.grownBy w1 (A0.map (·.block))∧(A1.map (·.block)=A0.map (·.block)∨A1.map (·.block)=some w.heap.size):=by
  rcases HO with HO | ⟨HB,hnc,hpos⟩
  · exact zcX t ty e ht hinfo base A0 n0 c0 xs A m c ys n1 hn1 HO HR hbase hl
  · subst hn1
    subst hnc
    obtain ⟨i0,hi,hzz⟩:=Option.map_eq_some_iff.1 hinfo
    simp only [Prod.mk.injEq] at hzz
    obtain ⟨hz0,hz1,hz2⟩:=hzz
    obtain ⟨b0,o0,rfl,hc0⟩:=HB.cells hpos
    obtain ⟨b,off,rfl,hc⟩:=HR.cells hm
    have get : ∀ (l : List Nat) (k : Nat) (bb oo : Nat), l.length = k → (∀ j, j < k → w.cell? ⟨bb, oo + j, none⟩ = some (.int .u8 ((l.getD j 0 : Nat) : Int))) → ∀ j v, (zA l)[j]? = some v → w.cell? ((⟨bb, oo, none⟩ : Addr).add j) = some v := by
      intro l k bb oo hlk h j v hv
      have hj : j < l.length := by
        rcases Nat.lt_or_ge j l.length with h' | h'
        · exact h'
        · simp [zA,List.getElem?_eq_none h'] at hv
      rw [zaK l j hj] at hv
      injection hv with hv
      subst hv
      rw [zah]
      exact h j (by omega)
    have hr := run_append_grow (P := P) w t ty e i0 (.int .u8 0) ht hi hz0 ⟨b0, o0, none⟩ n0 n0 (zA xs) (by simp [zA, HB.len, hz1]) (get xs n0 b0 o0 HB.len hc0) ⟨b, off, none⟩ m c (zA ys) (by simp [zA, HR.len, hz1]) (get ys m b off HR.len hc)
      (by omega) (by omega) (by rw [hz2];exact growslice_fits (by omega) (by omega))
    have hge:=grownCap_ge w (n0+m) n0 e
    have hcm:grownCap w (n0+m) n0 e≤maxLen:=grownCap_le_maxLen w (n0+m) n0 e (by simp only [maxLen];omega)
    have hz1':(Value.int IntKind.u8 0).cells.size=1:=rfl
    refine ⟨_,_,_,hr,⟨⟨by simp [zA,HB.len,HR.len],.inr ⟨w.heap.size,_,_,rfl,hbase,heap_alloc_new w.drew _,hge,hcm,?_,?_⟩⟩,?_,hl⟩,⟨rfl,rfl,rfl,by simp,fun k hk _=>Below.heap_alloc w.drew _ k hk⟩,.inr rfl⟩
    · simp only [Array.size_append, List.size_toArray, size_zeroCells, hz1', zW, HB.len, HR.len]
      omega
    · simp only [Array.toList_append, List.append_assoc, zbC]
      rw [←List.append_assoc,←zbC]
      have:(n0+m)*1=(zA (xs++ys)).length:=by simp [zA,HB.len,HR.len]
      rw [this]
      exact List.take_left
    · intro x hx
      rcases List.mem_append.1 hx with hx | hx
      · exact HB.small x hx
      · exact HR.small x hx
theorem zfw (hgd : o.guard = none) (s x : Operand) (t e : TypeId)
    (ho:o.op=.call { callee:=.builtin .append,args:=#[s,x],argTypes:=#[t,t] })
    (ht:P.underlying t=some (.slice e)) (hinfo:(P.info? e).map (fun i=>(i.zero,i.size,i.bytes))=some (some (.int .u8 0),1,1))
    (base:Nat) (A0:Option Addr) (n0 c0:Nat) (xs:List Nat) (A:Option Addr) (m c:Nat) (ys:List Nat) (n1:Nat) (hn1:n1=n0+m) (hm:0<m)
    (hs:a.eval s=.slice A0 n0 c0) (hx:a.eval x=.slice A m c)
    (HO:Ap w base e A0 n0 c0 xs) (HR:Bs w A m c ys) (hbase:base≤w.heap.size) (hl:n0+m≤140737488355328)
    (h:∀ A1 c1 w1,Own w1 base e A1 n1 c1 (xs++ys)→w.grownBy w1 (A0.map (·.block))→(A1.map (·.block)=A0.map (·.block)∨A1.map (·.block)=some w.heap.size)→wpList P ops Q rest (a.put o.dst (.slice A1 n1 c1)) w1) :
    wpList P ops Q (o::rest) a w:=by
  obtain ⟨A1,c1,w1,hr,hown,hg,hat⟩:=zeZ (P:=P) t o.type e ht hinfo base A0 n0 c0 xs A m c ys n1 hn1 hm HO HR hbase hl
  refine wpList_plain hgd fun K hK=>?_
  unfold Oper.wp execOp
  simp only [ho,resolve,invoke,builtin,Sem.run_bind,Sem.run_pure,Result.andThen_ok,List.map_toArray,List.map_cons,List.map_nil,hs,hx,hr]
  exact hK _ _ (h A1 c1 w1 hown hg hat)
end
theorem Ap.keep {w w1:World} {base:Nat} {e:TypeId} {A:Option Addr} {n c:Nat} {l:List Nat} (h:Ap w base e A n c l) (hb:Below w.heap.size w w1):Ap w1 base e A n c l:=by
 rcases h with h | ⟨h,h1,h2⟩
 · exact .inl (h.keep hb)
 · exact .inr ⟨h.keep hb,h1,h2⟩
theorem zh8 (c k:Nat) (hc:c<256) (hk:k<8):c*2 ^ (8*k)<18446744073709551616:=by
 have h1:c*2 ^ (8*k)<256*2 ^ (8*k):=Nat.mul_lt_mul_of_pos_right hc (Nat.two_pow_pos _)
 have h2:256*2 ^ (8*k)≤2 ^ 64:=by
  rw [show (256:Nat)=2 ^ 8 from rfl,←Nat.pow_add]
  exact Nat.pow_le_pow_right (by decide) (by omega)
 exact Nat.lt_of_lt_of_le h1 h2
theorem zh9 (a c k:Nat) (ha:a<2 ^ (8*k)) (hc:c<256) (hk:k<8):bits .or .u64 (a:Int) (IntKind.u64.wrap ((c:Int)*2 ^ (8*k)))=((a ||| c*2 ^ (8*k):Nat):Int):=by
 have h3:=zh8 c k hc hk
 have e:((c:Int)*2 ^ (8*k))=((c*2 ^ (8*k):Nat):Int):=by simp
 rw [e,IntKind.wrap_u64,Int.emod_eq_of_lt (by omega) (by omega)]
 exact u64_or_nat a _ (Nat.lt_of_lt_of_le ha (Nat.pow_le_pow_right (n:=2) (by decide) (show 8*k≤64 by omega))) h3
theorem znf (v k:Nat):IntKind.u8.wrap ((v:Int) / 2 ^ (8*k))=((v / 256 ^ k%256:Nat):Int):=by
 rw [IntKind.wrap_u8,Tl.pow8]
 simp
theorem zap (A : Option Addr) (n c : Nat) (l : List Nat) (w : World) (hb : Bs w A n c l) (hn : n ≤ 8) :
    Calls Tryz.prog 141 #[.slice A n c] w fun e w'=>e=.returned (.int .u64 (Tl.num l:Nat))∧w=w':=by
  go_enter Tryz.func141,Tryz.ntmps141
  go_wp2
  go_loop [3,8] (fun v i=>∃ k:Nat,k≤n∧i=.int .i64 k∧v=.int .u64 (Tl.num (l.take k):Nat)) (fun _ i=>n-(intOf i).toNat)
  case atStart=>exact ⟨0,Nat.zero_le _,rfl,rfl⟩
  case round =>
    obtain ⟨k,hk,rfl,rfl⟩:=hrel
    by_cases hlt:k<n
    · obtain ⟨b, off, rfl, hc⟩ := hb.cells (by omega)
      have hck:=hc k hlt
      clear hc
      have hx:=zcW hb.small k
      have hst:=qH (Tl.num_or l hb.small k (by rw [hb.len];exact hlt))
      have ha:=Tl.num_take_lt l hb.small k
      rw [Tl.pow8] at ha
      generalize Tl.num (l.take k)=a at ha hst ⊢
      generalize l.getD k 0=x at hck hx hst
      have hor:=zh9 a x k ha hx (by omega)
      have hk8:k<8:=by omega
      clear ha
      go_wp2
      go_round
      case rel=>exact ⟨k+1,by omega,by go_num,by rw [hst.out]⟩
      case measure=>simp [intOf];omega
    · have : k = n := by omega
      subst this
      go_wp2
      go_ret
      exact ⟨zjx (by rw [List.take_of_length_le (by rw [hb.len];exact Nat.le_refl _)]),rfl⟩
def AtB (w:World) (A A1:Option Addr):Prop:=A1.map (·.block)=A.map (·.block)∨∀ k,A1.map (·.block)=some k→w.heap.size≤k
theorem AtB.refl (w:World) (A:Option Addr):AtB w A A:=.inl rfl
theorem AtB.step {w W:World} {A A1 A2:Option Addr} (h:AtB w A A1) (hs:w.heap.size≤W.heap.size) (hat:A2.map (·.block)=A1.map (·.block)∨A2.map (·.block)=some W.heap.size):AtB w A A2:=by
 rcases hat with e | e
 · unfold AtB;rw [e];exact h
 · exact .inr fun k hk=>by rw [e] at hk;cases hk;exact hs
theorem AtB.trans {w W:World} {A A1 A2:Option Addr} (h:AtB w A A1) (hs:w.heap.size≤W.heap.size) (k:AtB W A1 A2):AtB w A A2:=by
 rcases k with e | e
 · unfold AtB;rw [e];exact h
 · exact .inr fun i hi=>Nat.le_trans hs (e i hi)
abbrev inRow (A:Option Addr):Nat→Prop:=fun k=>A.map (·.block)=some k
theorem AtB.lt {w:World} {A A1:Option Addr} (h:AtB w A A1):∀ k,k<w.heap.size→A1.map (·.block)=some k→inRow A k:=by
 intro k hk e
 rcases h with h | h
 · exact h.symm.trans e
 · have:=h k e;omega
theorem Own.row_ge {w:World} {base B:Nat} {e:TypeId} {A:Option Addr} {n c:Nat} {l:List Nat} (h:Own w base e A n c l) (hB:B≤base):∀ i,i<B→¬ inRow A i:=fun i hi hr=>by
 have:=(h.ge i hr).1
 omega
def Adds (w:World) (base:Nat) (A:Option Addr) (n:Nat) (l:List Nat) (e:Ending) (w':World):Prop :=
 ∃ A1 c1,e=.returned (.slice A1 n c1)∧Own w' base 5 A1 n c1 l∧Kept (inRow A) w w'∧AtB w A A1
theorem zmR (base : Nat) (A : Option Addr) (n c : Nat) (l : List Nat) (v m : Nat) (w : World) (hO : Ap w base 5 A n c l) (hbase : base ≤ w.heap.size) (hv : v < 18446744073709551616) (hm1 : 1 ≤ m) (hm : m ≤ 8) (hn : n + m ≤ 140737488355328) :
    Calls Tryz.prog 130 #[.slice A n c,.int .u64 v,.int .i64 m] w (Adds w base A (n+m) (l++Tl.le m v)):=by
  go_enter Tryz.func130,Tryz.ntmps130
  go_wp2
  go_loopw [0,9] (fun x i wr=>∃ k:Nat,k≤m∧i=.int .i64 k∧∃ A1 c1,x=.slice A1 (n+k:Nat) c1∧Ap wr base 5 A1 (n+k) c1 (l++Tl.le k v)∧Hid (0<k→Own wr base 5 A1 (n+k) c1 (l++Tl.le k v))∧Kept (inRow A) w wr∧AtB w A A1) (fun _ i _=>m-(intOf i).toNat)
  case atStart=>exact ⟨0,Nat.zero_le _,rfl,A,c,rfl,by simpa [Tl.le] using hO,qH (fun h=>by omega),Kept.refl _ _,AtB.refl _ _⟩
  case round =>
    obtain ⟨k,hk,rfl,A1,c1,rfl,hown,hpos,hkept,hat⟩:=hrel
    by_cases hlt:k<m
    · have hst := qH (Tl.le_last k v)
      have hq:=znf v k
      obtain ⟨q,hq256,hqe⟩:∃ q:Nat,q<256∧v / 256 ^ k%256=q:=⟨_,by omega,rfl⟩
      rw [hqe] at hq hst
      clear hqe
      have hk8:k<8:=by omega
      have hbig:n+k+1≤140737488355328:=by omega
      have hsz:=hkept.size
      go_wp2_with (at_builtin;refine zfw rfl _ _ 65 5 rfl Tryz.underlying65 Tryz.info5 base A1 (n+k) c1 _ (some ⟨wr.heap.size,0,none⟩) 1 1 [q] (n+k+1) rfl (by decide) rfl rfl (hown.keep (za (Below.refl _ _) _)) (Bs.made wr 5 [q] 1 rfl (by omega) (by simp;omega)) (by simp;omega) hbig ?_;intro A2 c2 w2 hown2 hg2 hat2)
      go_roundw
      case rel=>exact ⟨k+1,by omega,by go_num,A2,c2,rfl,by rw [hst.out,←List.append_assoc];exact hown2.ap,qH (fun _=>by rw [hst.out,←List.append_assoc];exact hown2),(hkept.alloc _).grown_ hg2 hat.lt,hat.step (W:=wr.alloc _) (by simp;omega) hat2⟩
      case measure=>simp [intOf];omega
    · have : k = m := by omega
      subst this
      go_wp2
      go_ret
      exact ⟨A1,c1,rfl,hpos.out (by omega),hkept,hat⟩
theorem zdL (base : Nat) (A : Option Addr) (n c : Nat) (l : List Nat) (v m : Nat) (w : World) (hO : Own w base 5 A n c l) (hbase : base ≤ w.heap.size) (hv : v < 18446744073709551616) (hm1 : 1 ≤ m) (hm : m ≤ 8) (hn : n + m ≤ 140737488355328) :
    Calls Tryz.prog 130 #[.slice A n c,.int .u64 v,.int .i64 m] w (Adds w base A (n+m) (l++Tl.le m v)):=zmR base A n c l v m w hO.ap hbase hv hm1 hm hn
end Go.Proofs.YtdffbihilhkkjaaGreatDoor
