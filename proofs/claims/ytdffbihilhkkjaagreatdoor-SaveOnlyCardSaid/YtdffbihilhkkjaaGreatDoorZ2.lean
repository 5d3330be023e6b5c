import Derived.Test.YtdffbihilhkkjaaGreatDoorZ1
import Derived.WalkKit
import Derived.WalkSpells
import Derived.WalkLawsBesides
import Derived.Deep.RegionHeld3
import Derived.Below
import Derived.Lib.Hide
import Derived.KernelRfl
import Derived.Laws.BitsAllLaws
import Derived.Maps.AppendAt
import Derived.Laws.OwnMore
import Derived.Test.YtdffbihilhkkjaaGreatDoorProg
namespace Go.Proofs.YtdffbihilhkkjaaGreatDoor
open Go.RowKit
set_option linter.unusedVariables false
set_option linter.unusedSimpArgs false
set_option maxRecDepth 100000
set_option maxHeartbeats 8000000
theorem qX {α:Sort _} (a:α):∃ b,a=b:=⟨_,rfl⟩
theorem qH {p:Prop} (h:p):Hid p:=Lib.hid h
theorem zjx {k:IntKind} {a b:Int} (h:a=b):Ending.returned (.int k a)=.returned (.int k b):=by rw [h]
theorem za {w W:World} (h:Below w.heap.size w W) (o:Obj):Below w.heap.size w (W.alloc o):=h.alloc h.size o
theorem zb {w W w1:World} (h:Below w.heap.size w W) (k:Below W.heap.size W w1):Below w.heap.size w w1:=h.trans (k.mono h.size)
theorem zr {B:Nat} {w W:World} (h:Below B w W):Below B w W.drew:=h.drew
theorem zI {B:Nat} {w W:World} (h:Below B w W) (n:Nat):Below B w (W.drewN n):=⟨h.os,h.tape,h.output,h.size,h.block⟩
theorem zaJ {w W w1:World} (h:Below w.heap.size w W) {row:Option Nat} (hg:W.grownBy w1 row) (hr:∀ k,row=some k→w.heap.size≤k):Below w.heap.size w w1:=h.grown hg h.size hr
theorem zfv {w W:World} (h:Below w.heap.size w W) {p:Addr} (hp:w.heap.size≤p.block) (u:Value):Below w.heap.size w (W.setCell p u):=h.setCell hp u
theorem zax (w:World) (cs:Array Value) (t:TypeId) (i:Nat) (v:Value) (h:cs[i]?=some v):(w.alloc (.cells cs t)).cell? ⟨w.heap.size,i,none⟩=some v:=by
 rw [←h]
 exact cell_of_row _ _ i cs t (0,0) (heap_alloc_new w (.cells cs t))
theorem zjy (w:World) (cs:Array Value) (t:TypeId) (fr:Nat×Nat) (i:Nat) (v:Value) (h:cs[i]?=some v):(w.alloc (.cells cs t fr)).cell? ⟨w.heap.size,i,none⟩=some v:=by
 rw [←h]
 exact cell_of_row _ _ i cs t fr (heap_alloc_new w (.cells cs t fr))
theorem zao {w:World} {a:Addr} {v:Value} (h:w.cell? a=some v) (o:Obj):(w.alloc o).cell? a=some v :=
 (World.cell?_alloc_lt _ _ _ (World.block_lt_of_cell? w a h)).trans h
theorem zm {w w1:World} {a:Addr} {v:Value} (h:w.cell? a=some v) (hb:Below w.heap.size w w1):w1.cell? a=some v:=(hb.cell (World.block_lt_of_cell? w a h)).trans h
theorem zal {w:World} {a:Addr} {v:Value} (h:w.cell? a=some v):w.drew.cell? a=some v:=h
structure Blk (w:World) (g:Nat) (cs:Array Value) (t:TypeId):Prop where
 at_:w.heap[g]?=some (.cells cs t (0,0))
theorem Blk.new (w:World) (cs:Array Value) (t:TypeId):Blk (w.alloc (.cells cs t)) w.heap.size cs t:=⟨heap_alloc_new w _⟩
theorem Blk.lt {w:World} {g:Nat} {cs:Array Value} {t:TypeId} (h:Blk w g cs t):g<w.heap.size:=(Array.getElem?_eq_some_iff.1 h.at_).1
theorem Blk.alloc {w:World} {g:Nat} {cs:Array Value} {t:TypeId} (h:Blk w g cs t) (o:Obj):Blk (w.alloc o) g cs t:=⟨(Below.heap_alloc w o g h.lt).trans h.at_⟩
theorem Blk.keep {w w1:World} {g:Nat} {cs:Array Value} {t:TypeId} (h:Blk w g cs t) (hb:Below w.heap.size w w1):Blk w1 g cs t:=⟨(hb.block g h.lt).trans h.at_⟩
theorem Blk.grown {w w1:World} {g:Nat} {cs:Array Value} {t:TypeId} (h:Blk w g cs t) {row:Option Nat} (hg:w.grownBy w1 row) (hne:row≠some g):Blk w1 g cs t:=⟨(hg.block g h.lt (fun e=>hne e.symm)).trans h.at_⟩
theorem Blk.drew {w:World} {g:Nat} {cs:Array Value} {t:TypeId} (h:Blk w g cs t):Blk w.drew g cs t:=⟨h.at_⟩
theorem Blk.drewN {w:World} {g:Nat} {cs:Array Value} {t:TypeId} (h:Blk w g cs t) (n:Nat):Blk (w.drewN n) g cs t:=⟨h.at_⟩
theorem Blk.set {w:World} {g:Nat} {cs:Array Value} {t:TypeId} (h:Blk w g cs t) (i:Nat) (u:Value):Blk (w.setCell ⟨g,i,none⟩ u) g (cs.setIfInBounds i u) t:=by
 refine ⟨?_⟩
 have:=h.at_
 simp [World.setCell,Array.getElem?_modify,this]
theorem Blk.far {w:World} {g:Nat} {cs:Array Value} {t:TypeId} (h:Blk w g cs t) {p:Addr} (hp:g≠p.block) (u:Value):Blk (w.setCell p u) g cs t:=⟨(Below.heap_setCell w p u g hp).trans h.at_⟩
theorem Blk.cell {w:World} {g:Nat} {cs:Array Value} {t:TypeId} (h:Blk w g cs t) (i:Nat) {v:Value} (hv:cs[i]?=some v):w.cell? ⟨g,i,none⟩=some v:=(cell_of_row w g i cs t (0,0) h.at_).trans hv
theorem Blk.free {w:World} {g:Nat} {cs:Array Value} {t:TypeId} (h:Blk w g cs t) (i:Nat):w.frozen? ⟨g,i,none⟩=false:=by simp [World.frozen?,h.at_]
def zA (l:List Nat):List Value:=l.map fun x=>.int .u8 ((x:Nat):Int)
theorem zW (l:List Nat):(zA l).length=l.length:=by simp [zA]
theorem zbC (l m:List Nat):zA (l++m)=zA l++zA m:=by simp [zA]
theorem zaK (l:List Nat) (j:Nat) (h:j<l.length):(zA l)[j]?=some (.int .u8 ((l.getD j 0:Nat):Int)):=by
 simp [zA,List.getElem?_eq_getElem h,List.getD_eq_getElem?_getD]
theorem zeA (l:List Nat):∀ u∈zA l,u.oneCell'=true:=by
 intro u hu
 simp only [zA,List.mem_map] at hu
 obtain ⟨q,_,rfl⟩:=hu
 rfl
theorem zcW {l:List Nat} (h:∀ x∈l,x<256) (k:Nat):l.getD k 0<256:=by
 rw [List.getD_eq_getElem?_getD]
 cases hk:l[k]? with
 | none=>simp
 | some x=>exact h x (List.mem_of_getElem? hk)
theorem zet (l:List Nat) (k:Nat) (h:k<l.length):l.take (k+1)=l.take k++[l.getD k 0]:=by
 rw [List.take_succ_eq_append_getElem h];simp [List.getD_eq_getElem?_getD,h]
structure Bs (w:World) (A:Option Addr) (n c:Nat) (l:List Nat):Prop where
 len:l.length=n
 cap:n≤c
 max:n≤140737488355328
 small:∀ x∈l,x<256
 cells:0<n→∃ b off,A=some ⟨b,off,none⟩∧∀ j,j<n→w.cell? ⟨b,off+j,none⟩=some (.int .u8 ((l.getD j 0:Nat):Int))
theorem Bs.keep {w w1:World} {A:Option Addr} {n c:Nat} {l:List Nat} (h:Bs w A n c l) (hb:Below w.heap.size w w1):Bs w1 A n c l :=
 ⟨h.len,h.cap,h.max,h.small,fun hn=>by
  obtain ⟨b,off,e,hc⟩:=h.cells hn
  exact ⟨b,off,e,fun j hj=>zm (hc j hj) hb⟩⟩
theorem Bs.drew {w:World} {A:Option Addr} {n c:Nat} {l:List Nat} (h:Bs w A n c l):Bs w.drew A n c l:=⟨h.len,h.cap,h.max,h.small,h.cells⟩
theorem Bs.drewN {w:World} {A:Option Addr} {n c:Nat} {l:List Nat} (h:Bs w A n c l) (k:Nat):Bs (w.drewN k) A n c l:=⟨h.len,h.cap,h.max,h.small,h.cells⟩
theorem Bs.grown {w w1:World} {A:Option Addr} {n c:Nat} {l:List Nat} (h:Bs w A n c l) {row:Option Nat} (hg:w.grownBy w1 row) (hne:∀ k,row=some k→A.map (·.block)≠some k):Bs w1 A n c l :=
 ⟨h.len,h.cap,h.max,h.small,fun hn=>by
  obtain ⟨b,off,e,hc⟩:=h.cells hn
  refine ⟨b,off,e,fun j hj=>hg.cell (hc j hj) ?_⟩
  intro hr
  have:=hne b hr.symm
  rw [e] at this
  exact this rfl⟩
theorem Bs.nil (w:World) (A:Option Addr) (c:Nat):Bs w A 0 c []:=⟨rfl,Nat.zero_le _,by omega,(fun _ h=>by cases h),fun h=>absurd h (by omega)⟩
theorem Bs.lt {w:World} {A:Option Addr} {n c:Nat} {l:List Nat} (h:Bs w A n c l) (hn:0<n):∃ b off,A=some ⟨b,off,none⟩∧b<w.heap.size:=by
 obtain ⟨b,off,e,hc⟩:=h.cells hn
 exact ⟨b,off,e,World.block_lt_of_cell? w _ (hc 0 hn)⟩
theorem zah (b off j:Nat):(⟨b,off,none⟩:Addr).add j=⟨b,off+j,none⟩:=by unfold Addr.add;split<;>simp_all
theorem Bs.made (w:World) (e:TypeId) (l:List Nat) (n:Nat) (hn:n=l.length) (hm:n≤140737488355328) (hl:∀ x∈l,x<256):Bs (w.alloc (.cells (zA l).toArray e)) (some ⟨w.heap.size,0,none⟩) n n l:=by
 subst hn
 exact ⟨rfl,Nat.le_refl _,hm,hl,fun _=>⟨w.heap.size,0,rfl,fun j hj=>by rw [Nat.zero_add];exact zax _ _ _ _ _ (by simpa using zaK l j hj)⟩⟩
theorem Bs.lit (w:World) (e:TypeId) (fr:Nat×Nat) (l:List Nat) (n:Nat) (hn:n=l.length) (hm:n≤140737488355328) (hl:∀ x∈l,x<256):Bs (w.alloc (.cells (zA l).toArray e fr)) (some ⟨w.heap.size,0,none⟩) n n l:=by
 subst hn
 exact ⟨rfl,Nat.le_refl _,hm,hl,fun _=>⟨w.heap.size,0,rfl,fun j hj=>by rw [Nat.zero_add];exact zjy _ _ _ _ _ _ (by simpa using zaK l j hj)⟩⟩
theorem Bs.take {w:World} {A:Option Addr} {n c:Nat} {l:List Nat} (h:Bs w A n c l) (k:Nat) (hk:k≤n):Bs w A k c (l.take k) :=
 ⟨by rw [List.length_take,h.len];omega,Nat.le_trans hk h.cap,Nat.le_trans hk h.max,fun x hx=>h.small x (List.mem_of_mem_take hx),fun h0=>by
  obtain ⟨b,off,e,hc⟩:=h.cells (by omega)
  refine ⟨b,off,e,fun j hj=>?_⟩
  rw [hc j (by omega)]
  simp [List.getD_eq_getElem?_getD,List.getElem?_take,hj]⟩
theorem Bs.drop {w:World} {b off n c:Nat} {l:List Nat} (h:Bs w (some ⟨b,off,none⟩) n c l) (k:Nat) (hk:k≤n):Bs w (some ⟨b,off+k,none⟩) (n-k) (c-k) (l.drop k) :=
 ⟨by rw [List.length_drop,h.len],by have:=h.cap;omega,by have:=h.max;omega,fun x hx=>h.small x (List.mem_of_mem_drop hx),fun h0=>by
  obtain ⟨b',off',e,hc⟩:=h.cells (by omega)
  simp only [Option.some.injEq,Addr.mk.injEq,and_true] at e
  obtain ⟨rfl,rfl⟩:=e
  refine ⟨b,off+k,rfl,fun j hj=>?_⟩
  rw [Nat.add_assoc,hc (k+j) (by omega)]
  simp [List.getD_eq_getElem?_getD]⟩
structure Own (w:World) (base:Nat) (e:TypeId) (A:Option Addr) (n c:Nat) (l:List Nat):Prop where
 own:w.ownsRow base e 1 (.slice A n c) n (zA l)
 small:∀ x∈l,x<256
 max:n≤140737488355328
theorem Own.len {w:World} {base:Nat} {e:TypeId} {A:Option Addr} {n c:Nat} {l:List Nat} (h:Own w base e A n c l):l.length=n:=by
 have:=h.own.1
 simpa [zA] using this
theorem Own.bs {w:World} {base:Nat} {e:TypeId} {A:Option Addr} {n c:Nat} {l:List Nat} (h:Own w base e A n c l):Bs w A n c l:=by
 rcases h.own.2 with ⟨he,hn⟩ | ⟨g,cap,cur,he,hb,hg,hnc,hcm,hcs,htake⟩
 ·
  simp only [Value.slice.injEq] at he
  obtain ⟨rfl,rfl,rfl⟩:=he
  obtain rfl:l=[]:=List.eq_nil_of_length_eq_zero h.len
  exact Bs.nil _ _ _
 ·
  simp only [Value.slice.injEq,true_and] at he
  obtain ⟨rfl,rfl⟩:=he
  refine ⟨h.len,hnc,h.max,h.small,fun _=>⟨g,0,rfl,fun j hj=>?_⟩⟩
  have:=h.own.cells (g:=g) rfl j _ (zaK l j (by rw [h.len];exact hj))
  rwa [zah] at this
theorem Own.nil (w:World) (base:Nat) (e:TypeId):Own w base e none 0 0 []:=⟨World.ownsRow_nil w base e 1,(fun _ h=>by cases h),by omega⟩
theorem Own.made (w:World) (base:Nat) (e:TypeId) (l:List Nat) (n:Nat) (hn:n=l.length) (hm:n≤140737488355328) (hl:∀ x∈l,x<256) (hb:base≤w.heap.size):Own (w.alloc (.cells (zA l).toArray e)) base e (some ⟨w.heap.size,0,none⟩) n n l:=by
 subst hn
 have:=World.ownsRow_lit (size:=1) (e:=e) w (zA l).toArray l.length hb (by simp only [maxLen];omega) (by simp [zA])
 exact ⟨by simpa using this,hl,hm⟩
theorem zaH (A:Option Addr) (n c:Nat):(Value.slice A n c).ownBlock=A.map (·.block):=by cases A<;>rfl
theorem Own.ge {w:World} {base:Nat} {e:TypeId} {A:Option Addr} {n c:Nat} {l:List Nat} (h:Own w base e A n c l):∀ k,A.map (·.block)=some k→base≤k∧k<w.heap.size:=by
 intro k hk
 exact h.own.lt k (by rw [zaH];exact hk)
theorem Own.drew {w:World} {base:Nat} {e:TypeId} {A:Option Addr} {n c:Nat} {l:List Nat} (h:Own w base e A n c l):Own w.drew base e A n c l:=⟨h.own,h.small,h.max⟩
theorem Own.keep {w w1:World} {base:Nat} {e:TypeId} {A:Option Addr} {n c:Nat} {l:List Nat} (h:Own w base e A n c l) (hb:Below w.heap.size w w1):Own w1 base e A n c l :=
 ⟨h.own.kept (row:=none) ⟨hb.os,hb.tape,hb.output,hb.size,fun k hk _=>hb.block k hk⟩ (by rw [zaH];cases A<;>simp),h.small,h.max⟩
theorem Own.other {w w1:World} {base:Nat} {e:TypeId} {A:Option Addr} {n c:Nat} {l:List Nat} (h:Own w base e A n c l) {row:Option Nat} (hg:w.grownBy w1 row) (hne:∀ k,row=some k→A.map (·.block)≠some k):Own w1 base e A n c l :=
 ⟨h.own.kept hg (by
  rw [zaH]
  cases hA:A.map (·.block) with
  | none=>exact .inl rfl
  | some k =>
   refine .inr fun e=>?_
   exact hne k e.symm hA),h.small,h.max⟩
theorem Own.lower {w:World} {base base':Nat} {e:TypeId} {A:Option Addr} {n c:Nat} {l:List Nat} (h:Own w base e A n c l) (hb:base'≤base):Own w base' e A n c l:=by
 refine ⟨⟨h.own.1,?_⟩,h.small,h.max⟩
 rcases h.own.2 with hn | ⟨g,cap,cur,he,hg,rest⟩
 · exact .inl hn
 · exact .inr ⟨g,cap,cur,he,Nat.le_trans hb hg,rest⟩
section
variable {P:Program} {ops:Array Oper} {rest:List Oper} {o:Oper} {a:Act} {Q:Exit→Act→World→Prop} {w:World}
theorem zcX (t ty e : TypeId) (ht : P.underlying t = some (.slice e)) (hinfo : (P.info? e).map (fun i => (i.zero, i.size, i.bytes)) = some (some (.int .u8 0), 1, 1))
    (base:Nat) (A0:Option Addr) (n0 c0:Nat) (xs:List Nat) (A:Option Addr) (m c:Nat) (ys:List Nat) (n1:Nat) (hn1:n1=n0+m)
    (HO:Own w base e A0 n0 c0 xs) (HR:Bs w A m c ys) (hbase:base≤w.heap.size) (hl:n0+m≤140737488355328) :
    ∃ A1 c1 w1,(Builtin.append_ #[t,t] ty #[.slice A0 n0 c0,.slice A m c]).run P w=.ok (.slice A1 n1 c1) w1∧Own w1 base e A1 n1 c1 (xs++ys)∧w.grownBy w1 (A0.map (·.block))∧(A1.map (·.block)=A0.map (·.block)∨A1.map (·.block)=some w.heap.size):=by
  subst hn1
  obtain ⟨i0,hi,hzz⟩:=Option.map_eq_some_iff.1 hinfo
  simp only [Prod.mk.injEq] at hzz
  obtain ⟨hz0,hz1,hz2⟩:=hzz
  have hsm:∀ x∈xs++ys,x<256:=fun x hx=>(List.mem_append.1 hx).elim (HO.small x) (HR.small x)
  have hrun : ∃ v1 w1, (Builtin.append_ #[t, t] ty #[.slice A0 n0 c0, .slice A m c]).run P w = .ok v1 w1 ∧ w1.ownsRow base e 1 v1 (n0 + m) (zA (xs ++ ys)) ∧ w.grownBy w1 (Value.slice A0 n0 c0).ownBlock ∧ (v1.ownBlock = (Value.slice A0 n0 c0).ownBlock ∨ v1.ownBlock = some w.heap.size) := by
    rcases Nat.eq_zero_or_pos m with h0 | h0
    · subst h0
      obtain rfl:ys=[]:=List.eq_nil_of_length_eq_zero HR.len
      cases A with
      | none =>
        refine ⟨.slice A0 n0 c0,w,?_,by simpa using HO.own,⟨rfl,rfl,rfl,Nat.le_refl _,fun _ _ _=>rfl⟩,.inl rfl⟩
        have:=run_append_owned_none (P:=P) (w:=w) base t ty e i0 1 ht hi (.slice A0 n0 c0) n0 (zA xs) HO.own
        rcases HO.own.2 with ⟨he,hn⟩ | ⟨g,cap,cur,he,_,_,hnc,_⟩
        · simp only [Value.slice.injEq] at he
          obtain ⟨rfl,rfl,rfl⟩:=he
          simp [Builtin.append_,run_underlying ht,sizeOf,typeInfo,hi,Builtin.lenOf,Builtin.firstCells]
        · simp only [Value.slice.injEq, true_and] at he
          obtain ⟨rfl,rfl⟩:=he
          simp [Builtin.append_,run_underlying ht,sizeOf,typeInfo,hi,Builtin.lenOf,Builtin.firstCells,hnc,storeCells]
      | some ad =>
        obtain ⟨v1, w1, hr, h2, h3, _, h5⟩ := run_append_own_at (P := P) w base t ty e i0 (.int .u8 0) 1 1 ht hi hz0 hz1 hz2 rfl (by omega) (.slice A0 n0 c0) n0 (zA xs) HO.own ad 0 c [] (by simp) (fun j u h => by simp at h)
          (by intro u hu;cases hu) (by simp only [maxLen];omega) (by omega) hbase
        exact ⟨v1,w1,hr,by simpa using h2,h3,h5⟩
    · obtain ⟨b, off, rfl, hc⟩ := HR.cells h0
      obtain ⟨v1, w1, hr, h2, h3, _, h5⟩ := run_append_own_at (P := P) w base t ty e i0 (.int .u8 0) 1 1 ht hi hz0 hz1 hz2 rfl (by omega) (.slice A0 n0 c0) n0 (zA xs) HO.own ⟨b, off, none⟩ m c (zA ys) (by simp [zA, HR.len])
        (fun j u hu => by
          have hj : j < ys.length := by
            rcases Nat.lt_or_ge j ys.length with h | h
            · exact h
            · simp [zA,List.getElem?_eq_none h] at hu
          rw [zaK ys j hj] at hu
          injection hu with hu
          subst hu
          rw [zah]
          exact hc j (by rw [←HR.len];exact hj))
        (zeA ys) (by simp only [maxLen];omega) (by omega) hbase
      exact ⟨v1,w1,hr,by rw [zbC];exact h2,h3,h5⟩
  obtain ⟨v1,w1,hr,hown,hg,hat⟩:=hrun
  have hform : ∃ A1 c1, v1 = .slice A1 (n0 + m) c1 := by
    rcases hown.2 with ⟨rfl,hn⟩ | ⟨g,cap,cur,rfl,_⟩
    · exact ⟨none,0,by rw [hn]⟩
    · exact ⟨_,_,rfl⟩
  obtain ⟨A1,c1,rfl⟩:=hform
  rw [zaH] at hg
  rw [zaH,zaH] at hat
  exact ⟨A1,c1,w1,hr,⟨hown,hsm,hl⟩,hg,hat⟩
theorem zaO (hgd : o.guard = none) (s x : Operand) (t e : TypeId)
    (ho:o.op=.call { callee:=.builtin .append,args:=#[s,x],argTypes:=#[t,t] })
    (ht:P.underlying t=some (.slice e)) (hinfo:(P.info? e).map (fun i=>(i.zero,i.size,i.bytes))=some (some (.int .u8 0),1,1))
    (base:Nat) (A0:Option Addr) (n0 c0:Nat) (xs:List Nat) (A:Option Addr) (m c:Nat) (ys:List Nat) (n1:Nat) (hn1:n1=n0+m)
    (hs:a.eval s=.slice A0 n0 c0) (hx:a.eval x=.slice A m c)
    (HO:Own w base e A0 n0 c0 xs) (HR:Bs w A m c ys) (hbase:base≤w.heap.size) (hl:n0+m≤140737488355328)
    (h:∀ A1 c1 w1,Own w1 base e A1 n1 c1 (xs++ys)→w.grownBy w1 (A0.map (·.block))→(A1.map (·.block)=A0.map (·.block)∨A1.map (·.block)=some w.heap.size)→wpList P ops Q rest (a.put o.dst (.slice A1 n1 c1)) w1) :
    wpList P ops Q (o::rest) a w:=by
  obtain ⟨A1,c1,w1,hr,hown,hg,hat⟩:=zcX (P:=P) t o.type e ht hinfo base A0 n0 c0 xs A m c ys n1 hn1 HO HR hbase hl
  refine wpList_plain hgd fun K hK=>?_
  unfold Oper.wp execOp
  simp only [ho,resolve,invoke,builtin,Sem.run_bind,Sem.run_pure,Result.andThen_ok,List.map_toArray,List.map_cons,List.map_nil,hs,hx,hr]
  exact hK _ _ (h A1 c1 w1 hown hg hat)
theorem zgg {K : Act → World → Prop} {E : Prop} (hgd : o.guard = none) (s x : Operand) (t e : TypeId)
    (ho:o.op=.call { callee:=.builtin .append,args:=#[s,x],argTypes:=#[t,t] })
    (ht:P.underlying t=some (.slice e)) (hinfo:(P.info? e).map (fun i=>(i.zero,i.size,i.bytes))=some (some (.int .u8 0),1,1))
    (base:Nat) (A0:Option Addr) (n0 c0:Nat) (xs:List Nat) (A:Option Addr) (m c:Nat) (ys:List Nat) (n1:Nat) (hn1:n1=n0+m)
    (hs:a.eval s=.slice A0 n0 c0) (hx:a.eval x=.slice A m c)
    (HO:Own w base e A0 n0 c0 xs) (HR:Bs w A m c ys) (hbase:base≤w.heap.size) (hl:n0+m≤140737488355328)
    (h:∀ A1 c1 w1,Own w1 base e A1 n1 c1 (xs++ys)→w.grownBy w1 (A0.map (·.block))→(A1.map (·.block)=A0.map (·.block)∨A1.map (·.block)=some w.heap.size)→K (a.put o.dst (.slice A1 n1 c1)) w1) :
    if Region.wanted o (yielded ops a.tmps)=true then Oper.wp P o a w K Q else E:=by
  have hw:Region.wanted o (yielded ops a.tmps)=true:=by simp [Region.wanted,hgd]
  rw [if_pos hw]
  obtain ⟨A1,c1,w1,hr,hown,hg,hat⟩:=zcX (P:=P) t o.type e ht hinfo base A0 n0 c0 xs A m c ys n1 hn1 HO HR hbase hl
  unfold Oper.wp execOp
  simp only [ho,resolve,invoke,builtin,Sem.run_bind,Sem.run_pure,Result.andThen_ok,List.map_toArray,List.map_cons,List.map_nil,hs,hx,hr]
  exact h A1 c1 w1 hown hg hat
end
section
variable {P:Program}
theorem zdK {e:TypeId} {z:Value} {size bytes:Nat} (h:(P.info? e).map (fun i=>(i.zero,i.size,i.bytes))=some (some z,size,bytes)):∃ i,P.info? e=some i∧i.size=size:=by
 obtain ⟨i0,hi,hzz⟩:=Option.map_eq_some_iff.1 h
 simp only [Prod.mk.injEq] at hzz
 exact ⟨i0,hi,hzz.2.1⟩
theorem Bs.from_ {w:World} {A:Option Addr} {n c:Nat} {l:List Nat} (h:Bs w A n c l) (k:Nat) (hk:k≤n):Bs w (if c=k then A else A.map (·.add k)) (n-k) (c-k) (l.drop k):=by
 rcases Nat.eq_zero_or_pos (n-k) with h0 | h0
 ·
  have:l.drop k=[]:=List.drop_eq_nil_of_le (by rw [h.len];omega)
  rw [this,h0]
  exact Bs.nil _ _ _
 ·
  obtain ⟨b,off,rfl,hc⟩:=h.cells (by omega)
  have hcap:=h.cap
  rw [if_neg (by omega)]
  simp only [Option.map_some,zah]
  exact h.drop k hk
theorem zbD (t e : TypeId) (kl : IntKind) (ht : P.underlying t = some (.slice e)) (hinfo : (P.info? e).map (fun i => (i.zero, i.size, i.bytes)) = some (some (.int .u8 0), 1, 1)) (A : Option Addr) (n c m : Nat) (hm : m ≤ n) :
    ∃ A' : Option Addr, (∀ W : World, (Instr.slice t (.slice A n c) (some (.int kl (m : Int))) none none).run P W = .ok (.slice A' (n - m) (c - m)) W) ∧
      ∀ (w:World) (l:List Nat),Bs w A n c l→Bs w A' (n-m) (c-m) (l.drop m):=by
  obtain ⟨i,hi,hsz⟩:=zdK hinfo
  refine ⟨if c=m then A else A.map (·.add m),fun W=>?_,fun w l h=>h.from_ m hm⟩
  have hel:P.elem t=e:=by simp [Program.elem,ht]
  have hu:P.underlying t=some (.slice (P.elem t)):=by rw [hel];exact ht
  rw [run_slice_l W t A n c hu kl (m:Int) (Int.natCast_nonneg _) (by omega),hel]
  simp [sizeOf,typeInfo,hi,hsz,sliced,Result.andThen]
theorem zmQ (t e : TypeId) (kl : IntKind) (ht : P.underlying t = some (.slice e)) (hinfo : (P.info? e).map (fun i => (i.zero, i.size, i.bytes)) = some (some (.int .u8 0), 1, 1)) (b off n c m : Nat) (hm : m ≤ n) (hc : m < c) (W : World) :
    (Instr.slice t (.slice (some ⟨b,off,none⟩) n c) (some (.int kl (m:Int))) none none).run P W=.ok (.slice (some ⟨b,off+m,none⟩) (n-m) (c-m)) W:=by
  obtain ⟨i,hi,hsz⟩:=zdK hinfo
  have hel:P.elem t=e:=by simp [Program.elem,ht]
  have hu:P.underlying t=some (.slice (P.elem t)):=by rw [hel];exact ht
  rw [run_slice_l W t _ n c hu kl (m:Int) (Int.natCast_nonneg _) (by omega),hel]
  simp [sizeOf,typeInfo,hi,hsz,sliced,Result.andThen,zah]
  omega
theorem zbE (t e : TypeId) (kl kh : IntKind) (ht : P.underlying t = some (.slice e)) (hinfo : (P.info? e).map (fun i => (i.zero, i.size, i.bytes)) = some (some (.int .u8 0), 1, 1)) (A : Option Addr) (n c a b : Nat) (hab : a ≤ b) (hb : b ≤ n) (hnc : n ≤ c) :
    ∃ A' : Option Addr, (∀ W : World, (Instr.slice t (.slice A n c) (some (.int kl (a : Int))) (some (.int kh (b : Int))) none).run P W = .ok (.slice A' (b - a) (c - a)) W) ∧
      ∀ (w:World) (l:List Nat),Bs w A n c l→Bs w A' (b-a) (c-a) ((l.take b).drop a):=by
  obtain ⟨i,hi,hsz⟩:=zdK hinfo
  refine ⟨if c=a then A else A.map (·.add a),fun W=>?_,fun w l h=>(h.take b hb).from_ a hab⟩
  have hel:P.elem t=e:=by simp [Program.elem,ht]
  have hu:P.underlying t=some (.slice (P.elem t)):=by rw [hel];exact ht
  rw [run_slice_lh W t A n c hu kl kh (a:Int) (b:Int) (Int.natCast_nonneg _) (by omega) (by omega),hel]
  simp [sizeOf,typeInfo,hi,hsz,sliced,Result.andThen]
end
structure TabW (w:World):Prop where
 cell:∀ i,i<16→w.cell? ⟨2,i,none⟩=some (.int .u32 ((Crc.tab.getD i 0:Nat):Int))
theorem TabW.keep {w w1:World} (h:TabW w) (hb:Below w.heap.size w w1):TabW w1 :=
 ⟨fun i hi=>(hb.cell (World.block_lt_of_cell? w _ (h.cell i hi))).trans (h.cell i hi)⟩
theorem zjz (a b:Nat) (ha:a<4294967296) (hb:b<4294967296):bits .xor .u32 (a:Int) (b:Int)=((a^^^b:Nat):Int):=u32_xor_nat a b ha hb
theorem zlr (x:Nat) (h:x<256):bits .and .u8 (x:Int) 15=((x%16:Nat):Int):=by
 have:=u8_and_nat x 15 h (by decide)
 rw [nat_mask4] at this
 exact this
theorem zpc (s:Nat):(s:Int) / 268435456=((s / 268435456:Nat):Int):=by omega
theorem shl4 (s:Nat):(s:Int)*16%4294967296=((s*16%4294967296:Nat):Int):=by omega
theorem zhk (s n:Nat) (hs:s<4294967296) (hn:n<16):∃ i t:Nat,i<16∧t=Crc.tab.getD i 0 ∧
  bits .xor .u32 ((s:Int) / 268435456) (n:Int)=(i:Int)∧bits .xor .u32 ((s:Int)*16%4294967296) (t:Int)=((Crc.nib s n:Nat):Int):=by
 have hi:s / 268435456^^^n<16:=Nat.xor_lt_two_pow (n:=4) (by omega) (by omega)
 refine ⟨s / 268435456^^^n,_,hi,rfl,?_,?_⟩
 · rw [zpc];exact zjz _ _ (by omega) (by omega)
 · rw [shl4];exact zjz _ _ (by omega) (Crc.tab_lt _)
theorem zls (s:Nat) (l:List Nat) (k:Nat) (h:k<l.length):Crc.sum s (l.take (k+1))=Crc.byte (Crc.sum s (l.take k)) (l.getD k 0):=by
 rw [zet l k h,Crc.sum_append];rfl
theorem zlt (s : Nat) (A : Option Addr) (n c : Nat) (l : List Nat) (w : World) (hs : s < 4294967296) (hb : Bs w A n c l) (hT : TabW w) :
    Calls Tryz.prog 208 #[.int .u32 s,.slice A n c] w fun e w'=>e=.returned (.int .u32 (Crc.sum s l:Nat))∧w=w':=by
  have hm:=hb.max
  go_enter Tryz.func208,Tryz.ntmps208
  go_wp2
  go_loop [0,9] (fun v i=>∃ k:Nat,k≤n∧i=.int .i64 k∧v=.int .u32 (Crc.sum s (l.take k):Nat)) (fun _ i=>n-(intOf i).toNat)
  case atStart=>exact ⟨0,Nat.zero_le _,rfl,rfl⟩
  case round =>
    obtain ⟨k,hk,rfl,rfl⟩:=hrel
    by_cases hlt:k<n
    · obtain ⟨b, off, rfl, hc⟩ := hb.cells (by omega)
      have hck:=hc k hlt
      clear hc
      have hs1:=Crc.sum_lt (l.take k) s hs
      have hx:=zcW hb.small k
      have hst:=qH (zls s l k (by rw [hb.len];exact hlt))
      generalize Crc.sum s (l.take k)=s1 at hs1 hst ⊢
      generalize l.getD k 0=x at hck hx hst
      obtain ⟨q,hq,hq'⟩:∃ q:Nat,q<16∧x / 16=q:=⟨_,by omega,rfl⟩
      obtain ⟨r,hr,hr'⟩:∃ r:Nat,r<16∧x%16=r:=⟨_,by omega,rfl⟩
      have e0:(x:Int) / 16=(q:Int):=by omega
      have e1:bits .and .u8 (x:Int) 15=(r:Int):=by rw [zlr x hx,hr']
      obtain ⟨i1,t1,hi1,ht1,x1,x2⟩:=zhk s1 q hs1 hq
      have hs2:=Crc.nib_lt s1 q
      have hfin:Hid (Crc.nib (Crc.nib s1 q) r=Crc.sum s (l.take (k+1))):=qH (by rw [hst.out];unfold Crc.byte;rw [hq',hr'])
      generalize Crc.nib s1 q=s2 at x2 hs2 hfin
      obtain ⟨i2,t2,hi2,ht2,x3,x4⟩:=zhk s2 r hs2 hr
      generalize Crc.nib s2 r=s3 at x4 hfin
      have c1:=hT.cell i1 hi1
      have c2:=hT.cell i2 hi2
      rw [←ht1] at c1
      rw [←ht2] at c2
      clear hr' hq' ht1 ht2 hst
      have i1b:(i1:Int)<16:=by omega
      have i2b:(i2:Int)<16:=by omega
      go_wp2
      go_round
      case rel=>exact ⟨k+1,by omega,by go_num,by rw [←hfin.out]⟩
      case measure=>simp [intOf];omega
    · have : k = n := by omega
      subst this
      go_wp2
      go_ret
      exact ⟨zjx (by rw [List.take_of_length_le (by rw [hb.len];exact Nat.le_refl _)]),rfl⟩
theorem zoi (A : Option Addr) (n c : Nat) (l : List Nat) (w : World) (hb : Bs w A n c l) (hT : TabW w) :
    Calls Tryz.prog 185 #[.slice A n c] w fun e w'=>e=.returned (.int .u32 (Crc.sum 4294967295 l:Nat))∧w=w':=by
  go_enter Tryz.func185,Tryz.ntmps185
  go_wp2_with (go_at_call 208;refine (zlt 4294967295 A n c l _ (by decide) hb hT).mono ?_;rintro e w' ⟨rfl,rfl⟩)
  go_ret
  exact ⟨rfl,rfl⟩
def zlu (w:World) (n:Nat) (l:List Nat) (e:Ending) (w':World):Prop:=∃ A1 c1,e=.returned (.slice A1 n c1)∧Own w' w.heap.size 5 A1 n c1 l∧Below w.heap.size w w'
theorem Tryz.info5:(Tryz.prog.info? 5).map (fun i=>(i.zero,i.size,i.bytes))=some (some (.int .u8 0),1,1):=by kernel_rfl
theorem zbs (A : Option Addr) (n c : Nat) (l : List Nat) (w : World) (hb : Bs w A n c l) :
    Calls Tryz.prog 129 #[.slice A n c] w (zlu w n l):=by
  have hm:=hb.max
  have q23:∀ (w:World) (a:Option Addr) (n c n' c':Nat),(binOp .eql 65 (.slice a n c) (.slice none n' c')).run Tryz.prog w=.ok (.bool a.isNone) w:=fun w a n c n' c'=>Lib.run_eql_slice_nil w _ _ a n c n' c' Tryz.underlying65
  cases A with
  | none =>
    have h0 : n = 0 := by
      rcases Nat.eq_zero_or_pos n with h | h
      · exact h
      · obtain ⟨b, off, e, _⟩ := hb.cells h
        cases e
    subst h0
    obtain rfl:l=[]:=List.eq_nil_of_length_eq_zero hb.len
    go_enter Tryz.func129,Tryz.ntmps129
    go_wp2
    go_ret
    exact ⟨none,0,rfl,Own.nil _ _ _,Below.refl _ _⟩
  | some a =>
    go_enter Tryz.func129,Tryz.ntmps129
    go_wp2_with (at_builtin;refine zaO rfl _ _ 65 5 rfl Tryz.underlying65 Tryz.info5 w.heap.size (some ⟨w.heap.size,0,none⟩) 0 0 [] (some a) n c l n (by omega) rfl rfl (Own.made _ _ _ [] 0 rfl (by omega) (fun _ h=>by cases h) (Nat.le_refl _)) (hb.keep ((Below.refl _ _).alloc (Nat.le_refl _) _)) (by simp) (by omega) ?_;intro A1 c1 w1 hown hg hat)
    go_ret
    refine ⟨A1,c1,rfl,by simpa using hown,?_⟩
    exact zaJ ((Below.refl _ _).alloc (Nat.le_refl _) _) hg (by intro k hk;simp at hk;omega)
end Go.Proofs.YtdffbihilhkkjaaGreatDoor
