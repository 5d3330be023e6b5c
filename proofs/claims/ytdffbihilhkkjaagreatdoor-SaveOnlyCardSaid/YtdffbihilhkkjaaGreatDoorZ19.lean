import Derived.Test.YtdffbihilhkkjaaGreatDoorZ8
import Derived.Test.YtdffbihilhkkjaaGreatDoorZ16
namespace Go.Proofs.YtdffbihilhkkjaaGreatDoor
open Go.RowKit
set_option linter.unusedVariables false
set_option linter.unusedSimpArgs false
set_option maxRecDepth 100000
set_option maxHeartbeats 8000000
theorem zcL {α:Type} (t:Tl.In→Tl.In×α):∀ (k:Nat) (i:Tl.In),So.many t (k+1) i=((t (So.many t k i).1).1,(So.many t k i).2++[(t (So.many t k i).1).2])
 | 0,i=>rfl
 | k+1,i=>by
  rw [So.many,zcL t k]
  rfl
theorem zcs {α:Type} (t:Tl.In→Tl.In×α):∀ (k:Nat) (i:Tl.In),(So.many t k i).2.length=k
 | 0,i=>rfl
 | k+1,i=>by simp [So.many,zcs t k]
theorem zbv {α:Type} (t:Tl.In→Tl.In×α) (ht:∀ i,Tl.Small i.b→Tl.Small (t i).1.b):∀ (k:Nat) (i:Tl.In),Tl.Small i.b→Tl.Small (So.many t k i).1.b
 | 0,_,h=>h
 | k+1,i,h=>zbv t ht k _ (ht i h)
structure RowE (w:World) (base:Nat) (e:TypeId) (sz:Nat) (A:Option Addr) (n c:Nat) (xs:List Value):Prop where
 own:w.ownsRow base e sz (.slice A n c) n xs
theorem RowE.nil (w:World) (base:Nat) (e:TypeId) (sz:Nat):RowE w base e sz none 0 0 []:=⟨World.ownsRow_nil w base e sz⟩
theorem RowE.ge {w:World} {base:Nat} {e:TypeId} {sz:Nat} {A:Option Addr} {n c:Nat} {xs:List Value} (h:RowE w base e sz A n c xs):∀ k,A.map (·.block)=some k→base≤k∧k<w.heap.size:=by
 have:=h.own.lt
 rwa [zaH] at this
theorem RowE.far {w:World} {base:Nat} {e:TypeId} {sz:Nat} {A:Option Addr} {n c:Nat} {xs:List Value} (h:RowE w base e sz A n c xs) {p:Nat} {cs:Array Value} {T:TypeId} (hP:Blk w p cs T) (hT:T≠e):A.map (·.block)≠some p:=by
 rcases h.own.2 with ⟨he,_⟩ | ⟨g,cap,cur,he,hb,hg,_⟩
 ·
  simp only [Value.slice.injEq] at he
  rw [he.1]
  intro e
  cases e
 ·
  simp only [Value.slice.injEq,true_and] at he
  rw [he.1]
  intro e'
  have e':g=p:=Option.some.inj e'
  subst e'
  have:=hg.symm.trans hP.at_
  simp only [Option.some.injEq,Obj.cells.injEq] at this
  exact hT this.2.1.symm
theorem RowE.kept {w w1:World} {base:Nat} {e:TypeId} {sz:Nat} {A:Option Addr} {n c:Nat} {xs:List Value} (h:RowE w base e sz A n c xs) {S:Nat→Prop} (k:Kept S w w1) (hn:∀ b,A.map (·.block)=some b→¬ S b):RowE w1 base e sz A n c xs:=by
 refine ⟨⟨h.own.1,?_⟩⟩
 rcases h.own.2 with h2 | ⟨g,cap,cur,he,hb,hg,hr⟩
 · exact .inl h2
 ·
  refine .inr ⟨g,cap,cur,he,hb,?_,hr⟩
  have hlt:=(Array.getElem?_eq_some_iff.1 hg).1
  have hA:A.map (·.block)=some g:=by
   simp only [Value.slice.injEq] at he
   rw [he.1];rfl
  exact (k.block g hlt (hn g hA)).trans hg
theorem RowE.keep {w w1:World} {base:Nat} {e:TypeId} {sz:Nat} {A:Option Addr} {n c:Nat} {xs:List Value} (h:RowE w base e sz A n c xs) (hb:Below w.heap.size w w1):RowE w1 base e sz A n c xs:=h.kept (S:=fun _=>False) (Kept.of_below hb) (fun _ _ h=>h)
theorem RowE.cap {w:World} {base:Nat} {e:TypeId} {sz:Nat} {A:Option Addr} {n c:Nat} {xs:List Value} (h:RowE w base e sz A n c xs):n≤c:=by
 rcases h.own.2 with ⟨he,hn⟩ | ⟨g,cap,cur,he,hb,hg,hnc,_⟩
 · omega
 ·
  simp only [Value.slice.injEq,true_and] at he
  omega
theorem RowE.range {w:World} {base:Nat} {e:TypeId} {sz:Nat} {A:Option Addr} {n c:Nat} {xs:List Value} (h:RowE w base e sz A n c xs) (hn:0<n):∃ b,A=some ⟨b,0,none⟩∧w.rangeAt b 0 xs:=by
 rcases h.own.2 with ⟨he,h0⟩ | ⟨g,cap,cur,he,hb,hg,hr⟩
 · omega
 ·
  simp only [Value.slice.injEq,true_and] at he
  refine ⟨g,he.1,fun j v hv=>?_⟩
  have:=h.own.cells (g:=g) (by rw [he.1];rfl) j v hv
  rw [zah] at this
  exact this
section
variable {P:Program} {w:World}
theorem zgN (t ty e : TypeId) (z : Value) (sz by_ : Nat) (ht : P.underlying t = some (.slice e)) (hinfo : (P.info? e).map (fun i => (i.zero, i.size, i.bytes)) = some (some z, sz, by_)) (hzs : z.cells.size = sz) (hsz : 0 < sz)
    (base:Nat) (A0:Option Addr) (n0 c0:Nat) (xs:List Value) (g:Nat) (news:List Value)
    (HO:RowE w base e sz A0 n0 c0 xs) (hlen:news.length=sz) (hnews:∀ j u,news[j]?=some u→w.cell? ⟨g,j,none⟩=some u) (h1:∀ u∈news,u.oneCell'=true)
    (hbase:base≤w.heap.size) (hl:(n0+1)*by_≤140737488355328) (hm:n0+1≤4398046511104) :
    ∃ A1 c1 w1,(Builtin.append_ #[t,t] ty #[.slice A0 n0 c0,.slice (some ⟨g,0,none⟩) 1 1]).run P w=.ok (.slice A1 (n0+1) c1) w1∧RowE w1 base e sz A1 (n0+1) c1 (xs++news)∧Kept (fun k=>A0.map (·.block)=some k) w w1∧(A1.map (·.block)=A0.map (·.block)∨A1.map (·.block)=some w.heap.size):=by
  obtain ⟨i0,hi,hzz⟩:=Option.map_eq_some_iff.1 hinfo
  simp only [Prod.mk.injEq] at hzz
  obtain ⟨hz0,hz1,hz2⟩:=hzz
  obtain ⟨v1, w1, hr, h2, h3, _, h5⟩ := run_append_own_at (P := P) w base t ty e i0 _ sz by_ ht hi hz0 hz1 hz2 hzs hsz (.slice A0 n0 c0) n0 xs HO.own ⟨g, 0, none⟩ 1 1 news (by rw [Nat.one_mul]; exact hlen)
    (fun j u hu => by
      rw [zah,Nat.zero_add]
      exact hnews j u hu)
    h1 (by simp only [maxLen];omega) hl hbase
  have hform : ∃ A1 c1, v1 = .slice A1 (n0 + 1) c1 := by
    rcases h2.2 with ⟨rfl,hn⟩ | ⟨g,cap,cur,rfl,_⟩
    · omega
    · exact ⟨_,_,rfl⟩
  obtain ⟨A1,c1,rfl⟩:=hform
  rw [zaH] at h3
  rw [zaH,zaH] at h5
  exact ⟨A1,c1,w1,hr,⟨h2⟩,Kept.of_grown h3 (fun k _ e=>e),h5⟩
theorem zbU {ops : Array Oper} {o : Oper} {a : Act} {Q : Exit → Act → World → Prop} {K : Act → World → Prop} {E : Prop} (hgd : o.guard = none) (s' x' : Operand) (t e : TypeId)
    (ho:o.op=.call { callee:=.builtin .append,args:=#[s',x'],argTypes:=#[t,t] })
    (z:Value) (sz by_:Nat) (ht:P.underlying t=some (.slice e)) (hinfo:(P.info? e).map (fun i=>(i.zero,i.size,i.bytes))=some (some z,sz,by_)) (hzs:z.cells.size=sz) (hsz:0<sz)
    (base:Nat) (A0:Option Addr) (n0 c0:Nat) (xs:List Value) (g:Nat) (news:List Value)
    (hes:a.eval s'=.slice A0 n0 c0) (hex:a.eval x'=.slice (some ⟨g,0,none⟩) 1 1)
    (HO:RowE w base e sz A0 n0 c0 xs) (hlen:news.length=sz) (hnews:∀ j u,news[j]?=some u→w.cell? ⟨g,j,none⟩=some u) (h1:∀ u∈news,u.oneCell'=true)
    (hbase:base≤w.heap.size) (hl:(n0+1)*by_≤140737488355328) (hm:n0+1≤4398046511104)
    (h:∀ A1 c1 w1,RowE w1 base e sz A1 (n0+1) c1 (xs++news)→Kept (fun k=>A0.map (·.block)=some k) w w1→(A1.map (·.block)=A0.map (·.block)∨A1.map (·.block)=some w.heap.size)→K (a.put o.dst (.slice A1 (n0+1) c1)) w1) :
    if Region.wanted o (yielded ops a.tmps)=true then Oper.wp P o a w K Q else E:=by
  have hw:Region.wanted o (yielded ops a.tmps)=true:=by simp [Region.wanted,hgd]
  rw [if_pos hw]
  obtain ⟨A1,c1,w1,hr,hown,hg,hat⟩:=zgN (P:=P) t o.type e z sz by_ ht hinfo hzs hsz base A0 n0 c0 xs g news HO hlen hnews h1 hbase hl hm
  unfold Oper.wp execOp
  simp only [ho,resolve,invoke,builtin,Sem.run_bind,Sem.run_pure,Result.andThen_ok,List.map_toArray,List.map_cons,List.map_nil,hes,hex,hr]
  exact h A1 c1 w1 hown hg hat
end
theorem zbF {α:Type} (f:α→List Value) (m:Nat) (hf:∀ x,(f x).length=m):∀ (L:List α) (j:Nat) (x:α),L[j]?=some x→∀ (i:Nat) (v:Value),(f x)[i]?=some v→(L.flatMap f)[j*m+i]?=some v
 | [],j,x,h,i,v,hv=>by simp at h
 | y::L,0,x,h,i,v,hv=>by
  obtain rfl:y=x:=by simpa using h
  have hi:=(List.getElem?_eq_some_iff.1 hv).1
  rw [List.flatMap_cons,Nat.zero_mul,Nat.zero_add,List.getElem?_append_left hi]
  exact hv
 | y::L,j+1,x,h,i,v,hv=>by
  have ih:=zbF f m hf L j x (by simpa using h) i v hv
  rw [List.flatMap_cons,List.getElem?_append_right (by rw [hf,Nat.add_mul];omega),hf]
  rw [show (j+1)*m+i-m=j*m+i by rw [Nat.add_mul];omega]
  exact ih
theorem RowE.posts {w:World} {base:Nat} {e:TypeId} {A:Option Addr} {n c:Nat} {L:List So.Post} (h:RowE w base e 4 A n c (L.flatMap So.postL)) (hn:L.length=n) (hm:n≤4398046511104):Posts w A n c L:=by
 refine ⟨hn,h.cap,hm,fun j s hj=>?_⟩
 have hj':=(List.getElem?_eq_some_iff.1 hj).1
 obtain ⟨b,e,hr⟩:=h.range (by omega)
 refine ⟨b,0,e,fun i v hv=>?_⟩
 have:=hr (j*4+i) v (zbF So.postL 4 (fun _=>rfl) L j s hj i v hv)
 rw [show 0+j*4+i=0+(j*4+i) by omega]
 exact this
theorem zhC (p:So.Post):∀ v∈So.postL p,v.oneCell'=true:=by
 intro v hv
 unfold So.postL at hv
 simp only [List.mem_cons,List.not_mem_nil,or_false] at hv
 rcases hv with rfl | rfl | rfl | rfl<;>rfl
def zac:List (Nat×Nat):=[So.kB,So.kW,So.kB,So.kW]
def zeb (sr:Tl.In):So.Post:=⟨tkN sr zac 0,tkN sr zac 1,tkN sr zac 2,tkN sr zac 3⟩
theorem zhD (sr:Tl.In):So.tPost sr=(tkI sr zac 4,zeb sr):=rfl
theorem zfP:(Tryz.prog.info? 188).map (fun i=>(i.zero,i.size,i.bytes))=some (some (.agg #[.int .i64 0,.int .u32 0,.int .i64 0,.int .u32 0]),4,32):=by kernel_rfl
def rowS (g p:Nat) (A0:Option Addr):Nat→Prop:=fun b=>b=g∨b=p∨A0.map (·.block)=some b
def qSt (w0:World) (g p base:Nat) (sr:Tl.In) (cs:Array Value) (A0:Option Addr) (n c0:Nat) (xs:List Value):Nat→(Nat→Value)→World→Prop:=fun kk X w=>match kk with
 | 0=>InW w0 w g (tkI sr zac 0)∧Blk w p cs 93∧RowE w base 188 4 A0 n c0 xs
 | 1=>InW w0 w g (tkI sr zac 1)∧Blk w p cs 93∧RowE w base 188 4 A0 n c0 xs
 | 2=>InW w0 w g (tkI sr zac 2)∧Blk w p cs 93∧RowE w base 188 4 A0 n c0 xs
 | 3=>InW w0 w g (tkI sr zac 3)∧Blk w p cs 93∧RowE w base 188 4 A0 n c0 xs
 | 4=>InW w0 w g (tkI sr zac 4)∧Blk w p cs 93∧RowE w base 188 4 A0 n c0 xs
 | 5=>InW w0 w g (tkI sr zac 4)∧Blk w p cs 93∧∃ A1 c1,X 18=.slice A1 (n+1) c1∧RowE w base 188 4 A1 (n+1) c1 (xs++So.postL (zeb sr))
 | 6=>InW w0 w g (tkI sr zac 4)∧∃ A1 c1,Blk w p (cs.setIfInBounds 43 (.slice A1 (n+1) c1)) 93∧RowE w base 188 4 A1 (n+1) c1 (xs++So.postL (zeb sr))
 | _=>False
section
variable {w0 w w1:World} {g p base:Nat} {sr:Tl.In} {cs:Array Value} {A0:Option Addr} {n c0:Nat} {xs:List Value} {kk:Nat} {X:Nat→Value}
theorem znC (h:qSt w0 g p base sr cs A0 n c0 xs kk X w) (hk:kk<6):Blk w p cs 93:=by
 match kk,h,hk with
 | 0,h,_ | 1,h,_ | 2,h,_ | 3,h,_ | 4,h,_ | 5,h,_=>exact h.2.1
theorem zan (i:Nat) (v:Value) (hi:i≠18) (h:qSt w0 g p base sr cs A0 n c0 xs kk X w):qSt w0 g p base sr cs A0 n c0 xs kk (upd X i v) w:=by
 match kk,h with
 | 0,h | 1,h | 2,h | 3,h | 4,h | 6,h=>exact h
 | 5,h =>
  obtain ⟨h1,h2,A1,c1,e,h3⟩:=h
  exact ⟨h1,h2,A1,c1,(zav X v (fun e=>hi e.symm)).trans e,h3⟩
 | _+7,h=>exact h.elim
theorem zl1 (h:qSt w0 g p base sr cs A0 n c0 xs kk X w) (hb:Below w.heap.size w w1):qSt w0 g p base sr cs A0 n c0 xs kk X w1:=by
 match kk,h with
 | 0,h | 1,h | 2,h | 3,h | 4,h=>exact ⟨h.1.keep hb,h.2.1.keep hb,h.2.2.keep hb⟩
 | 5,h =>
  obtain ⟨h1,h2,A1,c1,e,h3⟩:=h
  exact ⟨h1.keep hb,h2.keep hb,A1,c1,e,h3.keep hb⟩
 | 6,h =>
  obtain ⟨h1,A1,c1,h2,h3⟩:=h
  exact ⟨h1.keep hb,A1,c1,h2.keep hb,h3.keep hb⟩
 | _+7,h=>exact h.elim
end
def zmV (w0 w:World) (g p:Nat) (i:Tl.In) (L:List So.Post) (cs:Array Value) (e:Ending) (w':World):Prop :=
 e=.returned (.tuple #[])∧InW w0 w' g i∧(∃ A c,Blk w' p (cs.setIfInBounds 43 (.slice A L.length c)) 93∧RowE w' w.heap.size 188 4 A L.length c (L.flatMap So.postL))∧Kept (inP g p) w w'
theorem zgO (g p:Nat) (s:Tl.In) (hsm:Tl.Small s.b) (cs:Array Value) (hsz:cs.size=160) (w0 w:World) (hI:InW w0 w g s) (hP:Blk w p cs 93) (hp:w0.heap.size≤p) (hq0:cs[43]?=some (.slice none 0 0)):Calls Tryz.prog 108 #[tkV g,Value.pointer (some ⟨p,0,none⟩)] w (zmV w0 w g p (So.tQueue s []).1 (So.tQueue s []).2 cs):=by
 have hpg:p≠g:=by
  obtain ⟨_,_,_,_,hG,_⟩:=hI.at_
  exact hP.apart hG (by decide)
 go_enter Tryz.func108,Tryz.ntmps108
 go_upto_region 1 with (fail)
 have hX:=Blk.new w #[Value.pointer (some ⟨g,0,none⟩)] 154
 have hI0:=zR hI (.cells #[Value.pointer (some ⟨g,0,none⟩)] 154)
 have hP0:=hP.alloc (.cells #[Value.pointer (some ⟨g,0,none⟩)] 154)
 have hK0:=(Kept.refl (inP g p) w).alloc (.cells #[Value.pointer (some ⟨g,0,none⟩)] 154)
 generalize w.alloc (.cells #[Value.pointer (some ⟨g,0,none⟩)] 154)=W1 at hX hI0 hP0 hK0 ⊢
 have Zcs:=qH hsz
 clear hsz
 have hXn:w.heap.size≠g:=Nat.ne_of_gt hI.lt
 have hXm:w.heap.size≠p:=Nat.ne_of_gt hP.lt
 have hbx:w.heap.size≤W1.heap.size:=hK0.size
 have hw0:w0.heap.size≤w.heap.size:=hI.bel.size
 have hgw:=hI.lt
 have hpw:=hP.lt
 have hQP:Hid (∀ e w',(e=.returned (.tuple #[])∧InW w0 w' g (So.tQueue s []).1∧(∃ A c,Blk w' p (cs.setIfInBounds 43 (.slice A (So.tQueue s []).2.length c)) 93∧RowE w' w.heap.size 188 4 A (So.tQueue s []).2.length c ((So.tQueue s []).2.flatMap So.postL))∧Kept (inP g p) w w')→zmV w0 w g p (So.tQueue s []).1 (So.tQueue s []).2 cs e w'):=qH (fun _ _ h=>h)
 obtain ⟨x,hx⟩:=qX w.heap.size
 rw [hx] at hX hXn hXm hbx hw0 hQP ⊢
 have Hx:=qH hx
 clear hx
 have hle8:(Tl.takeN s 1 8).2≤8:=za0 s 1 8
 have hN:=zbk g s 1 8 w0 W1 hI0 (by decide)
 unfold zc4 at hN
 obtain ⟨i1,hi1⟩:=qX ((Tl.takeN s 1 8).1)
 obtain ⟨n,hn⟩:=qX ((Tl.takeN s 1 8).2)
 have hsm1:Tl.Small i1.b:=by rw [←hi1];exact zbc hsm
 rw [hi1,hn] at hN
 rw [hn] at hle8
 have htq:(So.tQueue s []).1=(So.many So.tPost n i1).1∧(So.tQueue s []).2=(So.many So.tPost n i1).2:=by
  unfold So.tQueue
  simp only [hi1,hn,List.nil_append,and_self]
 have HT:=qH htq
 have HN:=qH hN
 clear hi1 hn hN htq
 have hx0:=hX.cell 0 rfl
 go_wp2_with (first | (go_at_call 93;refine (HN.out).mono ?_;rintro e w2 ⟨rfl,h1,h2⟩) | fail)
 have hP2:=hP0.kept h2 hpg
 have hX2:=hX.kept h2 hXn
 have hK2:=hK0.trans h2.inP
 have hb2:x≤w2.heap.size:=Nat.le_trans hbx h2.size
 have hc43:cs.setIfInBounds 43 (.slice none 0 0)=cs:=by
  apply Array.ext_getElem?
  intro j
  by_cases hj:j=43
  ·
   subst hj
   rw [Array.getElem?_setIfInBounds_self_of_lt (by rw [Zcs.out];decide),hq0]
  · rw [Array.getElem?_setIfInBounds_ne (fun e=>hj e.symm)]
 have Hc43:=qH hc43
 clear hI0 hP0 hX hK0 hx0 hc43
 generalize w2=W2 at h1 hP2 hX2 hK2 hb2 ⊢
 go_loopw [7] (fun i wr=>∃ k:Nat,k≤n∧i=.int .u64 k∧InW w0 wr g (So.many So.tPost k i1).1∧(∃ A c,Blk wr p (cs.setIfInBounds 43 (.slice A k c)) 93∧RowE wr x 188 4 A k c ((So.many So.tPost k i1).2.flatMap So.postL))∧Kept (inP g p) w wr∧Blk wr x #[Value.pointer (some ⟨g,0,none⟩)] 154∧x≤wr.heap.size) (fun i _=>n-(intOf i).toNat)
 case atStart=>exact ⟨0,Nat.zero_le _,rfl,h1,⟨none,0,by rw [Hc43.out];exact hP2,RowE.nil _ _ _ _⟩,hK2,hX2,hb2⟩
 case round =>
  obtain ⟨k,hk,rfl,hIr,⟨A0,c0,hPr,hRow⟩,hKr,hXr,hbr⟩:=hrel
  by_cases hlt:k<n
  ·
   have hkn:(k:Int)<(n:Int):=by omega
   have hsn:=zcL So.tPost k i1
   rw [zhD] at hsn
   obtain ⟨sr,hsr⟩:=qX ((So.many So.tPost k i1).1)
   obtain ⟨xs,hxs⟩:=qX ((So.many So.tPost k i1).2.flatMap So.postL)
   have hsnx:(So.many So.tPost (k+1) i1).2.flatMap So.postL=xs++So.postL (zeb sr):=by rw [hsn,←hsr,←hxs];simp
   have hsni:(So.many So.tPost (k+1) i1).1=tkI sr zac 4:=by rw [hsn,hsr]
   have hsmr:Tl.Small sr.b:=by rw [←hsr];exact zbv So.tPost (fun i h=>by rw [zhD];exact zaQ i h zac 4) k i1 hsm1
   rw [hsr] at hIr
   rw [hxs] at hRow
   have hIr:InW w0 wr g (tkI sr zac 0):=hIr
   obtain ⟨D,hD⟩:=qX (cs.setIfInBounds 43 (.slice A0 k c0))
   have hDs:D.size=160:=by rw [←hD];simp [Zcs.out]
   have hD43:D[43]?=some (.slice A0 k c0):=by rw [←hD,Array.getElem?_setIfInBounds_self_of_lt (by rw [Zcs.out];decide)]
   have hDn:∀ v,D.setIfInBounds 43 v=cs.setIfInBounds 43 v:=fun v=>by rw [←hD];simp
   rw [hD] at hPr
   have Hi:=qH hsni
   have Hxn:=qH hsnx
   have ZD:=qH hDs
   have HD43:=qH hD43
   have HDn:=qH hDn
   have hgr:=hIr.lt
   have hpr:=hPr.lt
   have hAg:∀ b,A0.map (·.block)=some b→b≠g∧b≠p∧b<wr.heap.size∧x≤b∧b≠x:=fun b hb=>by
    obtain ⟨_,_,_,_,hG,_⟩:=hIr.at_
    refine ⟨fun e=>hRow.far hG (by decide) (e ▸ hb),fun e=>hRow.far hPr (by decide) (e ▸ hb),(hRow.ge b hb).2,(hRow.ge b hb).1,fun e=>hRow.far hXr (by decide) (e ▸ hb)⟩
   have HAg:=qH hAg
   clear hsn hsr hxs hsnx hsni hD hDs hD43 hDn hlt hAg
   go_wp2_with fail
   refine zc (by kernel_rfl) (fun X=>⟨#[tkV g,.pointer (some ⟨p,0,none⟩),.pointer (some ⟨x,0,none⟩),undef,.pointer (some ⟨x,0,none⟩),.pointer (some ⟨g,0,none⟩),.int .u64 ↑n,.int .u64 ↑k,.bool true,X 0,X 1,X 2,X 3,X 4,X 5,X 6,X 7,X 8,X 9,X 10,X 11,X 12,X 13,X 14,X 15,X 16,X 17,X 18,X 19,X 20,X 21,u31],[]⟩) (Kept (rowS g p A0)) (fun i v w=>match i with | 0=>(v=.pointer (some ⟨p,0,none⟩)) | 1=>(v=.pointer (some ⟨p,0,none⟩)) | 2=>(v=.pointer (some ⟨p,0,none⟩)) | 3=>(v=.pointer (some ⟨p,43,none⟩)) | 4=>(v=.pointer (some ⟨p,43,none⟩)) | 5=>(v=.slice A0 k c0) | 6=>(v=tkV g) | 7=>(v=.int .u8 ((tkN sr zac 0:Nat):Int)) | 8=>(v=.int .i64 ((tkN sr zac 0:Nat):Int)) | 9=>(v=tkV g) | 10=>(v=.int .u32 ((tkN sr zac 1:Nat):Int)) | 11=>(v=tkV g) | 12=>(v=.int .u8 ((tkN sr zac 2:Nat):Int)) | 13=>(v=.int .i64 ((tkN sr zac 2:Nat):Int)) | 14=>(v=tkV g) | 15=>(v=.int .u32 ((tkN sr zac 3:Nat):Int)) | 16=>(v=.agg (So.postL (zeb sr)).toArray) | 17=>(∃ b,v=.slice (some ⟨b,0,none⟩) 1 1∧Blk w b (So.postL (zeb sr)).toArray 188∧b≠g∧b≠p∧A0.map (·.block)≠some b) | 19=>(v=.pointer (some ⟨p,0,none⟩)) | 20=>(v=.pointer (some ⟨p,43,none⟩)) | 21=>(v=.pointer (some ⟨p,43,none⟩)) | _=>True) (fun i=>([0,0,0,0,0,0,0,1,0,0,2,0,3,0,0,4,0,0,5,0,0,0,6]:List Nat).getD i 0) 6 (qSt w0 g p x sr D A0 k c0 xs) _ (fun i=>if i=0 then u9 else if i=1 then u10 else if i=2 then u11 else if i=3 then u12 else if i=4 then u13 else if i=5 then u14 else if i=6 then u15 else if i=7 then u16 else if i=8 then u17 else if i=9 then u18 else if i=10 then u19 else if i=11 then u20 else if i=12 then u21 else if i=13 then u22 else if i=14 then u23 else if i=15 then u24 else if i=16 then u25 else if i=17 then u26 else if i=18 then u27 else if i=19 then u28 else if i=20 then u29 else if i=21 then u30 else undef) (fun u v w a b=>a.trans b) ?_ (by kernel_rfl) (by kernel_rfl) ((Kept.refl _ _).drew) ((show InW w0 _ g (tkI sr zac 0)∧Blk _ p D _∧RowE _ x 188 4 A0 k c0 xs from ⟨hIr.keep (zr (Below.refl _ _)),hPr.keep (zr (Below.refl _ _)),hRow.keep (zr (Below.refl _ _))⟩)) ?_ ?_
   ·
    intro i v w w' h hb
    match i,h with
    | 0,h=>exact h
    | 1,h=>exact h
    | 2,h=>exact h
    | 3,h=>exact h
    | 4,h=>exact h
    | 5,h=>exact h
    | 6,h=>exact h
    | 7,h=>exact h
    | 8,h=>exact h
    | 9,h=>exact h
    | 10,h=>exact h
    | 11,h=>exact h
    | 12,h=>exact h
    | 13,h=>exact h
    | 14,h=>exact h
    | 15,h=>exact h
    | 16,h=>exact h
    | 17,h=>exact (let ⟨b,e,hb1,h1,h2,h3⟩:=h;⟨b,e,hb1.kept hb (fun e=>e.elim h1 (fun e=>e.elim h2 h3)),h1,h2,h3⟩)
    | 19,h=>exact h
    | 20,h=>exact h
    | 21,h=>exact h
    | 18,h=>exact trivial
    | 22,h=>exact trivial
    | _+23,h=>exact trivial
   ·
    refine cQ 0 ?_ ?_
    ·
     intro X w hR ψ χ K HK
     go_simp
     exact HK.out _ _ _ rfl (Kept.refl _ _) rfl (fun kk _ h=>zan 0 _ (by decide) h)
    refine cQ 1 ?_ ?_
    ·
     intro X w hR ψ χ K HK
     go_simp
     exact HK.out _ _ _ rfl (Kept.refl _ _) rfl (fun kk _ h=>zan 1 _ (by decide) h)
    refine cQ 2 ?_ ?_
    ·
     intro X w hR ψ χ K HK
     have e1:X 1=.pointer (some ⟨p,0,none⟩):=(pR ψ 1 .data 0 :)
     go_simp
     exact HK.out _ _ _ (by (try simp only [e1])<;>rfl) (Kept.refl _ _) rfl (fun kk _ h=>zan 2 _ (by decide) h)
    refine cQ 3 ?_ ?_
    ·
     intro X w hR ψ χ K HK
     have e2:X 2=.pointer (some ⟨p,0,none⟩):=(pR ψ 2 .data 0 :)
     go_simp
     exact HK.out _ _ _ (by (try simp only [e2])<;>rfl) (Kept.refl _ _) rfl (fun kk _ h=>zan 3 _ (by decide) h)
    refine cQ 4 ?_ ?_
    ·
     intro X w hR ψ χ K HK
     have e3:X 3=.pointer (some ⟨p,43,none⟩):=(pR ψ 3 .data 0 :)
     go_simp
     exact HK.out _ _ _ (by (try simp only [e3])<;>rfl) (Kept.refl _ _) rfl (fun kk _ h=>zan 4 _ (by decide) h)
    refine zi.cons (k:=5) (fun X v=>rfl) (zad.late rfl ?_) ?_
    ·
     intro X w hR hpre hini hcur K hK
     obtain ⟨nS,hnS,hStS⟩:=hcur 22 _ rfl (by decide) ⟨⟨5,.phase⟩,Array.mem_of_getElem? (i:=8) rfl,by kernel_rfl,rfl⟩
     have hPL:=znC hStS hnS
     have c5:=hPL.cell 43 HD43.out
     have e4:X 4=.pointer (some ⟨p,43,none⟩):=hpre ⟨4,.data⟩ (Array.mem_of_getElem? (i:=0) rfl) (by kernel_rfl)
     have HK:=qH hK
     clear hK hpre hini hcur
     go_simp
     exact HK.out _ _ _ (by (try simp only [e4])<;>rfl) (Kept.refl _ _) rfl (fun kk _ h=>zan 5 _ (by decide) h)
    refine cQ 6 ?_ ?_
    ·
     intro X w hR ψ χ K HK
     have c6:=(hXr.kept hR (fun e=>e.elim hXn (fun e=>e.elim hXm (fun e=>(HAg.out x e).2.2.2.2 rfl)))).cell 0 rfl
     go_simp
     exact HK.out _ _ _ rfl (Kept.refl _ _) rfl (fun kk _ h=>zan 6 _ (by decide) h)
    refine cS 7 0 ?_ ?_
    ·
     intro X w hR ψ χ hst K HK
     have e6:X 6=tkV g:=(pR ψ 6 .data 0 :)
     have hst:InW w0 w g (tkI sr zac 0)∧Blk w p D 93∧RowE w x 188 4 A0 k c0 xs:=hst
     go_simp
     go_at_call 169
     refine (zdq 0 hst.1).mono ?_
     rintro e w2 ⟨rfl,h1,h2⟩
     go_simp
     exact HK.out _ _ _ (by (try simp only [e6])<;>rfl) (h2.mono (fun i _ e=>.inl e)) rfl ⟨h1,hst.2.1.kept h2 hpg,hst.2.2.kept h2 (fun b hb e=>(HAg.out b hb).1 e)⟩
    refine cQ 8 ?_ ?_
    ·
     intro X w hR ψ χ K HK
     have e7:X 7=.int IntKind.u8 ((tkN sr zac 0:Nat):Int):=(pR ψ 7 .data 0 :)
     have q8:=zcI sr hsmr zac 0 _ rfl
     have u8:IntKind.i64.wrap ((tkN sr zac 0:Nat):Int)=((tkN sr zac 0:Nat):Int):=by rw [IntKind.wrap_i64];simp only [So.kB,So.kW,So.kH,So.kD,So.p1,So.p2,So.p4,So.p8] at q8;omega
     go_simp
     exact HK.out _ _ _ (by (try simp only [e7])<;>rfl) (Kept.refl _ _) rfl (fun kk _ h=>zan 8 _ (by decide) h)
    refine cQ 9 ?_ ?_
    ·
     intro X w hR ψ χ K HK
     have c9:=(hXr.kept hR (fun e=>e.elim hXn (fun e=>e.elim hXm (fun e=>(HAg.out x e).2.2.2.2 rfl)))).cell 0 rfl
     go_simp
     exact HK.out _ _ _ rfl (Kept.refl _ _) rfl (fun kk _ h=>zan 9 _ (by decide) h)
    refine cS 10 1 ?_ ?_
    ·
     intro X w hR ψ χ hst K HK
     skip
     have e9:X 9=tkV g:=(pR ψ 9 .data 0 :)
     have hst:InW w0 w g (tkI sr zac 1)∧Blk w p D 93∧RowE w x 188 4 A0 k c0 xs:=hst
     go_simp
     go_at_call 104
     refine (zaF 1 hst.1).mono ?_
     rintro e w2 ⟨rfl,h1,h2⟩
     go_simp
     exact HK.out _ _ _ (by (try simp only [e9])<;>rfl) (h2.mono (fun i _ e=>.inl e)) rfl ⟨h1,hst.2.1.kept h2 hpg,hst.2.2.kept h2 (fun b hb e=>(HAg.out b hb).1 e)⟩
    refine cQ 11 ?_ ?_
    ·
     intro X w hR ψ χ K HK
     have c11:=(hXr.kept hR (fun e=>e.elim hXn (fun e=>e.elim hXm (fun e=>(HAg.out x e).2.2.2.2 rfl)))).cell 0 rfl
     go_simp
     exact HK.out _ _ _ rfl (Kept.refl _ _) rfl (fun kk _ h=>zan 11 _ (by decide) h)
    refine cS 12 2 ?_ ?_
    ·
     intro X w hR ψ χ hst K HK
     skip
     have e11:X 11=tkV g:=(pR ψ 11 .data 0 :)
     have hst:InW w0 w g (tkI sr zac 2)∧Blk w p D 93∧RowE w x 188 4 A0 k c0 xs:=hst
     go_simp
     go_at_call 169
     refine (zdq 2 hst.1).mono ?_
     rintro e w2 ⟨rfl,h1,h2⟩
     go_simp
     exact HK.out _ _ _ (by (try simp only [e11])<;>rfl) (h2.mono (fun i _ e=>.inl e)) rfl ⟨h1,hst.2.1.kept h2 hpg,hst.2.2.kept h2 (fun b hb e=>(HAg.out b hb).1 e)⟩
    refine cQ 13 ?_ ?_
    ·
     intro X w hR ψ χ K HK
     have e12:X 12=.int IntKind.u8 ((tkN sr zac 2:Nat):Int):=(pR ψ 12 .data 0 :)
     have q13:=zcI sr hsmr zac 2 _ rfl
     have u13:IntKind.i64.wrap ((tkN sr zac 2:Nat):Int)=((tkN sr zac 2:Nat):Int):=by rw [IntKind.wrap_i64];simp only [So.kB,So.kW,So.kH,So.kD,So.p1,So.p2,So.p4,So.p8] at q13;omega
     go_simp
     exact HK.out _ _ _ (by (try simp only [e12])<;>rfl) (Kept.refl _ _) rfl (fun kk _ h=>zan 13 _ (by decide) h)
    refine cQ 14 ?_ ?_
    ·
     intro X w hR ψ χ K HK
     have c14:=(hXr.kept hR (fun e=>e.elim hXn (fun e=>e.elim hXm (fun e=>(HAg.out x e).2.2.2.2 rfl)))).cell 0 rfl
     go_simp
     exact HK.out _ _ _ rfl (Kept.refl _ _) rfl (fun kk _ h=>zan 14 _ (by decide) h)
    refine cS 15 3 ?_ ?_
    ·
     intro X w hR ψ χ hst K HK
     skip
     have e14:X 14=tkV g:=(pR ψ 14 .data 0 :)
     have hst:InW w0 w g (tkI sr zac 3)∧Blk w p D 93∧RowE w x 188 4 A0 k c0 xs:=hst
     go_simp
     go_at_call 104
     refine (zaF 3 hst.1).mono ?_
     rintro e w2 ⟨rfl,h1,h2⟩
     go_simp
     exact HK.out _ _ _ (by (try simp only [e14])<;>rfl) (h2.mono (fun i _ e=>.inl e)) rfl ⟨h1,hst.2.1.kept h2 hpg,hst.2.2.kept h2 (fun b hb e=>(HAg.out b hb).1 e)⟩
    refine cQ 16 ?_ ?_
    ·
     intro X w hR ψ χ K HK
     have e8:X 8=.int IntKind.i64 ((tkN sr zac 0:Nat):Int):=(pR ψ 8 .data 0 :)
     have e10:X 10=.int IntKind.u32 ((tkN sr zac 1:Nat):Int):=(pR ψ 10 .data 1 :)
     have e13:X 13=.int IntKind.i64 ((tkN sr zac 2:Nat):Int):=(pR ψ 13 .data 2 :)
     have e15:X 15=.int IntKind.u32 ((tkN sr zac 3:Nat):Int):=(pR ψ 15 .data 3 :)
     go_simp
     exact HK.out _ _ _ (by (try simp only [e8,e10,e13,e15])<;>rfl) (Kept.refl _ _) rfl (fun kk _ h=>zan 16 _ (by decide) h)
    refine cQ 17 ?_ ?_
    ·
     intro X w hR ψ χ K HK
     have e16:X 16=.agg (So.postL (zeb sr)).toArray:=(pR ψ 16 .data 0 :)
     go_simp
     exact HK.out _ _ _ (by (try simp only [e16])<;>rfl) ((Kept.refl _ _).alloc _) ⟨_,rfl,Blk.new _ _ _,Nat.ne_of_gt (Nat.lt_of_lt_of_le hgr hR.size),Nat.ne_of_gt (Nat.lt_of_lt_of_le hpr hR.size),fun e=>Nat.ne_of_gt (Nat.lt_of_lt_of_le (HAg.out _ e).2.2.1 hR.size) rfl⟩ (fun kk _ h=>zan 17 _ (by decide) (zl1 h (za (Below.refl _ _) _)))
    refine cS 18 4 ?_ ?_
    ·
     intro X w hR ψ χ hst K HK
     skip
     have e5:X 5=.slice A0 k c0:=(pR ψ 5 .data 0 :)
     obtain ⟨b17,e17,hb17,_,_,hbA17⟩:∃ b,X 17=Value.slice (some ⟨b,0,none⟩) 1 1∧Blk w b (So.postL (zeb sr)).toArray 188∧b≠g∧b≠p∧A0.map (·.block)≠some b:=(pR ψ 17 .data 1 :)
     have hst:InW w0 w g (tkI sr zac 4)∧Blk w p D 93∧RowE w x 188 4 A0 k c0 xs:=hst
     refine zbU rfl (.tmp 14) (.tmp 26) 72 188 rfl _ 4 32 Tryz.underlying72 zfP rfl (by decide) x A0 k c0 xs b17 (So.postL (zeb sr)) (show X 5=_ from e5) (show X 17=_ from e17) hst.2.2 rfl (fun j u hu=>hb17.cell j (by rw [List.getElem?_toArray];exact hu)) (zhC _) (Nat.le_trans hbr hR.size) (by omega) (by omega) ?_
     intro A1 c1 w2 hrow hk2 hat
     exact HK.out _ _ _ (by (try simp only [e5,e17])<;>rfl) (hk2.mono (fun i _ e=>.inr (.inr e))) trivial ⟨hst.1.kept hk2 (fun e=>(HAg.out g e).1 rfl) (fun i hi e=>by have:=(HAg.out i e).2.2.2.1;omega),hst.2.1.kept hk2 (fun e=>(HAg.out p e).2.1 rfl),A1,c1,rfl,hrow⟩
    refine cQ 19 ?_ ?_
    ·
     intro X w hR ψ χ K HK
     have e0:X 0=.pointer (some ⟨p,0,none⟩):=(pR ψ 0 .data 0 :)
     go_simp
     exact HK.out _ _ _ (by (try simp only [e0])<;>rfl) (Kept.refl _ _) rfl (fun kk _ h=>zan 19 _ (by decide) h)
    refine cQ 20 ?_ ?_
    ·
     intro X w hR ψ χ K HK
     have e19:X 19=.pointer (some ⟨p,0,none⟩):=(pR ψ 19 .data 0 :)
     go_simp
     exact HK.out _ _ _ (by (try simp only [e19])<;>rfl) (Kept.refl _ _) rfl (fun kk _ h=>zan 20 _ (by decide) h)
    refine cQ 21 ?_ ?_
    ·
     intro X w hR ψ χ K HK
     have e20:X 20=.pointer (some ⟨p,43,none⟩):=(pR ψ 20 .data 0 :)
     go_simp
     exact HK.out _ _ _ (by (try simp only [e20])<;>rfl) (Kept.refl _ _) rfl (fun kk _ h=>zan 21 _ (by decide) h)
    refine cS 22 5 ?_ ?_
    ·
     intro X w hR ψ χ hst K HK
     skip
     have e21:X 21=.pointer (some ⟨p,43,none⟩):=(pR ψ 21 .data 0 :)
     obtain ⟨h1,hB,A1,c1,e18,hrow⟩:InW w0 w g (tkI sr zac 4)∧Blk w p D 93∧∃ A1 c1,X 18=.slice A1 (k+1) c1∧RowE w x 188 4 A1 (k+1) c1 (xs++So.postL (zeb sr)):=hst
     have hf22:=hB.free 43
     obtain ⟨_,hc22⟩:=hB.some 43 (by rw [ZD.out];decide)
     go_simp
     exact HK.out undef _ _ (by (try simp only [e21,e18])<;>rfl) ((Kept.refl (rowS g p A0) w).set (p:=⟨p,43,none⟩) (fun _=>.inr (.inl rfl)) _) trivial ⟨h1.set hB (by decide) hp _ _,A1,c1,hB.set _ _,hrow.kept ((Kept.refl (fun b=>b=p) w).set (p:=⟨p,43,none⟩) (fun _=>rfl) _) (fun b hb e=>hrow.far hB (by decide) (e ▸ hb))⟩
    exact zi.nil
   ·
    intro X1 wE1 hR1 hall1 hS1
    obtain ⟨hI1,A1,c1,hB1,hrow1⟩:InW w0 wE1 g (tkI sr zac 4)∧∃ A1 c1,Blk wE1 p (D.setIfInBounds 43 (.slice A1 (k+1) c1)) 93∧RowE wE1 x 188 4 A1 (k+1) c1 (xs++So.postL (zeb sr)):=hS1
    clear hall1
    go_wp2_with fail
    go_roundw
    case rel=>exact ⟨k+1,by omega,by go_num,by rw [Hi.out];exact hI1,⟨A1,c1,by rw [←HDn.out];exact hB1,by rw [Hxn.out];exact hrow1⟩,hKr.then_ hR1 (fun i hi e=>e.elim .inl (fun e=>e.elim .inr (fun e=>by have:=(HAg.out i e).2.2.2.1;have:=Hx.out;omega))),hXr.kept hR1 (fun e=>e.elim hXn (fun e=>e.elim hXm (fun e=>(HAg.out x e).2.2.2.2 rfl))),Nat.le_trans hbr hR1.size⟩
    case measure=>simp [intOf];omega
  ·
   obtain rfl:k=n:=by omega
   clear hlt
   have hml:=zcs So.tPost k i1
   have Hml:=qH hml
   clear hml
   go_wp2_with fail
   go_end0
   refine hQP.out _ _ ⟨rfl,?_,⟨A0,c0,?_,?_⟩,hKr⟩
   · rw [HT.out.1];exact hIr
   · rw [HT.out.2,Hml.out];exact hPr
   · rw [HT.out.2,Hml.out];exact hRow
def rowT (g p:Nat) (A0:Option Addr):Nat→Prop:=fun b=>b=g∨b=p∨A0.map (·.block)=some b
structure ApSt (w0:World) (g p:Nat) (T:TypeId) (base:Nat) (E:TypeId) (sz cell nc xi:Nat) (sr:Tl.In) (K:List (Nat×Nat)) (cs:Array Value) (A0:Option Addr) (n c0:Nat) (xs news:List Value) (kk:Nat) (X:Nat→Value) (w:World):Prop where
 a:kk≤nc→InW w0 w g (tkI sr K kk)∧Blk w p cs T∧RowE w base E sz A0 n c0 xs
 b:kk=nc+1→InW w0 w g (tkI sr K nc)∧Blk w p cs T∧∃ A1 c1,X xi=.slice A1 (n+1) c1∧RowE w base E sz A1 (n+1) c1 (xs++news)
 c:kk=nc+2→InW w0 w g (tkI sr K nc)∧∃ A1 c1,Blk w p (cs.setIfInBounds cell (.slice A1 (n+1) c1)) T∧RowE w base E sz A1 (n+1) c1 (xs++news)
 le:kk≤nc+2
section
variable {w0 w w1:World} {g p base cell nc xi:Nat} {T E:TypeId} {sz:Nat} {sr:Tl.In} {K:List (Nat×Nat)} {cs:Array Value} {A0:Option Addr} {n c0:Nat} {xs news:List Value} {kk:Nat} {X:Nat→Value}
theorem ApSt.blk (h:ApSt w0 g p T base E sz cell nc xi sr K cs A0 n c0 xs news kk X w) (hk:kk<nc+2):Blk w p cs T:=by
 by_cases h1:kk≤nc
 · exact (h.a h1).2.1
 · exact (h.b (by omega)).2.1
theorem ApSt.upd (i:Nat) (v:Value) (hi:i≠xi) (h:ApSt w0 g p T base E sz cell nc xi sr K cs A0 n c0 xs news kk X w):ApSt w0 g p T base E sz cell nc xi sr K cs A0 n c0 xs news kk (upd X i v) w :=
 ⟨h.a,fun e=>by
  obtain ⟨h1,h2,A1,c1,e,h3⟩:=h.b e
  exact ⟨h1,h2,A1,c1,(zav X v (fun e=>hi e.symm)).trans e,h3⟩,h.c,h.le⟩
theorem ApSt.keep (h:ApSt w0 g p T base E sz cell nc xi sr K cs A0 n c0 xs news kk X w) (hb:Below w.heap.size w w1):ApSt w0 g p T base E sz cell nc xi sr K cs A0 n c0 xs news kk X w1 :=
 ⟨fun e=>by
  obtain ⟨h1,h2,h3⟩:=h.a e
  exact ⟨h1.keep hb,h2.keep hb,h3.keep hb⟩,fun e=>by
  obtain ⟨h1,h2,A1,c1,e,h3⟩:=h.b e
  exact ⟨h1.keep hb,h2.keep hb,A1,c1,e,h3.keep hb⟩,fun e=>by
  obtain ⟨h1,A1,c1,h2,h3⟩:=h.c e
  exact ⟨h1.keep hb,A1,c1,h2.keep hb,h3.keep hb⟩,h.le⟩
theorem ApSt.mk0 (hk:kk≤nc) (h:InW w0 w g (tkI sr K kk)∧Blk w p cs T∧RowE w base E sz A0 n c0 xs):ApSt w0 g p T base E sz cell nc xi sr K cs A0 n c0 xs news kk X w:=⟨fun _=>h,fun e=>by omega,fun e=>by omega,by omega⟩
theorem ApSt.mk1 (hk:kk=nc+1) (h:InW w0 w g (tkI sr K nc)∧Blk w p cs T∧∃ A1 c1,X xi=.slice A1 (n+1) c1∧RowE w base E sz A1 (n+1) c1 (xs++news)):ApSt w0 g p T base E sz cell nc xi sr K cs A0 n c0 xs news kk X w:=⟨fun e=>by omega,fun _=>h,fun e=>by omega,by omega⟩
theorem ApSt.mk2 (hk:kk=nc+2) (h:InW w0 w g (tkI sr K nc)∧∃ A1 c1,Blk w p (cs.setIfInBounds cell (.slice A1 (n+1) c1)) T∧RowE w base E sz A1 (n+1) c1 (xs++news)):ApSt w0 g p T base E sz cell nc xi sr K cs A0 n c0 xs news kk X w:=⟨fun e=>by omega,fun e=>by omega,fun _=>h,by omega⟩
end
theorem zhE:(Tryz.prog.info? 288).map (fun i=>(i.zero,i.size,i.bytes))=some (some (.agg #[.int .u32 0,.int .i64 0,.bool false]),3,24):=by kernel_rfl
theorem zhF:(Tryz.prog.info? 287).map (fun i=>(i.zero,i.size,i.bytes))=some (some (.agg #[.int .u32 0,.int .i64 0,.bool false,.int .u32 0,.int .i64 0,.slice none 0 0]),6,56):=by kernel_rfl
theorem znD (s:So.Seg):∀ v∈So.segL s,v.oneCell'=true:=by
 intro v hv
 unfold So.segL at hv
 simp only [List.mem_cons,List.not_mem_nil,or_false] at hv
 rcases hv with rfl | rfl | rfl<;>rfl
theorem zkc (r:So.Req) (L:So.Hdr):∀ v∈So.reqL r L,v.oneCell'=true:=by
 intro v hv
 unfold So.reqL at hv
 simp only [List.mem_cons,List.not_mem_nil,or_false] at hv
 rcases hv with rfl | rfl | rfl | rfl | rfl | rfl<;>rfl
def kSeg:List (Nat×Nat):=[So.kW,So.kW]
def segN (sr:Tl.In):So.Seg:=⟨tkN sr kSeg 0,tkN sr kSeg 1,true⟩
theorem zgP (sr:Tl.In):So.tSeg sr=(tkI sr kSeg 2,segN sr):=rfl
def kReq:List (Nat×Nat):=[So.kW,So.kH,So.kT,So.kW,So.kW]
def reqN (sr:Tl.In) (l:List So.Seg):So.Req:=⟨tkN sr kReq 0,tkN sr kReq 1,tkN sr kReq 2==1,tkN sr kReq 3,tkN sr kReq 4,l⟩
theorem zkd (sr:Tl.In):So.tReq sr=((So.many So.tSeg (Tl.takeN (tkI sr kReq 5) 2 256).2 (Tl.takeN (tkI sr kReq 5) 2 256).1).1,reqN sr (So.many So.tSeg (Tl.takeN (tkI sr kReq 5) 2 256).2 (Tl.takeN (tkI sr kReq 5) 2 256).1).2):=rfl
structure KeptT (S:Nat→Prop) (T:TypeId) (n:Nat) (u v:World):Prop where
 kept:Kept S u v
 row:∀ q cs,Blk u q cs T→cs.size=n→∃ cs',Blk v q cs' T∧cs'.size=n
theorem KeptT.trans {S:Nat→Prop} {T:TypeId} {n:Nat} {u v w:World} (h:KeptT S T n u v) (k:KeptT S T n v w):KeptT S T n u w :=
 ⟨h.kept.trans k.kept,fun q cs hq hs=>by
  obtain ⟨c1,h1,h2⟩:=h.row q cs hq hs
  exact k.row q c1 h1 h2⟩
theorem KeptT.below {S:Nat→Prop} {T:TypeId} {n:Nat} {u v:World} (h:Below u.heap.size u v):KeptT S T n u v:=⟨Kept.of_below h,fun q cs hq hs=>⟨cs,hq.keep h,hs⟩⟩
theorem KeptT.in_ {S:Nat→Prop} {T:TypeId} {n g:Nat} {u v:World} {cs:Array Value} (hG:Blk u g cs 256) (hT:T≠256) (hS:S g) (h:Kept (inIn g) u v):KeptT S T n u v :=
 ⟨h.mono (fun i _ e=>e ▸ hS),fun q cs hq hs=>⟨cs,hq.kept h (hq.apart hG hT),hs⟩⟩
theorem KeptT.cells {S:Nat→Prop} {T:TypeId} {n q:Nat} {u:World} {cs:Array Value} (hQ:Blk u q cs T) (hS:S q) (vs:List Value) (o:Nat):KeptT S T n u (u.setCells q o vs) :=
 ⟨Kept.setCells hS vs o u (Kept.refl _ _),fun r ds hr hs=>by
  by_cases e:r=q
  ·
   subst e
   exact ⟨_,hr.setMid vs o,by rw [zl];exact hs⟩
  · exact ⟨ds,hr.kept (Kept.setCells (S:=fun k=>k=q) rfl vs o u (Kept.refl _ _)) e,hs⟩⟩
end Go.Proofs.YtdffbihilhkkjaaGreatDoor
