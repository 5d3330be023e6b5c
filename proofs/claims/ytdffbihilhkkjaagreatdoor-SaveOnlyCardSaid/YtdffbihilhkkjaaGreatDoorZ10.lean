import Derived.Test.YtdffbihilhkkjaaGreatDoorZ4
import Derived.Test.YtdffbihilhkkjaaGreatDoorZ6
import Derived.Test.YtdffbihilhkkjaaGreatDoorZ8
import Derived.Test.YtdffbihilhkkjaaGreatDoorZ9
import Derived.BigQuiet
import Derived.Lib.SlBytesConst
import Derived.Deep.OwnRows
import Derived.Tactics
import Derived.Tactics2
import Derived.Defers
import Derived.Laws.Pointers
import Derived.Laws.LoneSync
import Derived.RegionTactic
import Derived.RegionCalls
import Derived.ChangeAlike
import Derived.Laws.NewBlocks
namespace Go.Proofs.YtdffbihilhkkjaaGreatDoor
open Go.RowKit
set_option linter.unusedVariables false
set_option linter.unusedSimpArgs false
set_option maxRecDepth 100000
set_option maxHeartbeats 8000000
structure SecV where
 tag:Nat
 A:Option Addr
 n:Nat
 c:Nat
 b:List Nat
def SecV.sec (s:SecV):Tl.Sec:=⟨s.tag,s.b⟩
def secL (L:List SecV):List Tl.Sec:=L.map SecV.sec
structure Secs (w:World) (A:Option Addr) (n c:Nat) (L:List SecV):Prop where
 len:L.length=n
 cap:n≤c
 max:n≤4398046511104
 ok:∀ s∈L,s.tag<4294967296∧Bs w s.A s.n s.c s.b
 cells:∀ (j:Nat) (s:SecV),L[j]?=some s→∃ b off,A=some ⟨b,off,none⟩∧w.cell? ⟨b,off+j*2,none⟩=some (.int .u32 s.tag)∧w.cell? ⟨b,off+j*2+1,none⟩=some (.slice s.A s.n s.c)
theorem Secs.keep {w w1:World} {A:Option Addr} {n c:Nat} {L:List SecV} (h:Secs w A n c L) (hb:Below w.heap.size w w1):Secs w1 A n c L :=
 ⟨h.len,h.cap,h.max,fun s hs=>⟨(h.ok s hs).1,(h.ok s hs).2.keep hb⟩,fun j s hj=>by
  obtain ⟨b,off,e,h1,h2⟩:=h.cells j s hj
  exact ⟨b,off,e,zm h1 hb,zm h2 hb⟩⟩
theorem Secs.nil (w:World):Secs w none 0 0 []:=⟨rfl,Nat.le_refl _,by omega,(fun s h=>by cases h),(fun j s h=>by simp at h)⟩
theorem Secs.at_ {w:World} {A:Option Addr} {n c:Nat} {L:List SecV} (h:Secs w A n c L) (k:Nat) (hk:k<n):∃ s b off,L[k]?=some s∧A=some ⟨b,off,none⟩∧w.cell? ⟨b,off+k*2,none⟩=some (.int .u32 s.tag)∧w.cell? ⟨b,off+k*2+1,none⟩=some (.slice s.A s.n s.c)∧s.tag<4294967296∧Bs w s.A s.n s.c s.b:=by
 have hlt:k<L.length:=by rw [h.len];exact hk
 obtain ⟨b,off,e,h1,h2⟩:=h.cells k _ (List.getElem?_eq_getElem hlt)
 have:=h.ok _ (List.getElem_mem hlt)
 exact ⟨_,b,off,List.getElem?_eq_getElem hlt,e,h1,h2,this.1,this.2⟩
theorem zaP {L:List SecV} {k:Nat} {s:SecV} (h:L[k]?=some s):Tl.tagAt (secL L) k=s.tag:=by
 simp [Tl.tagAt,secL,List.getD_eq_getElem?_getD,List.getElem?_map,h]
 rfl
theorem zae (L:List SecV):(secL L).length=L.length:=by simp [secL]
def sizeTo (L:List SecV) (k:Nat):Nat:=Tl.size (secL (L.take k))
theorem zdT:∀ (l:List Tl.Sec) (s:Tl.Sec),Tl.size (l++[s])=Tl.size l+12+s.b.length
 | [],s=>by simp [Tl.size];omega
 | t::l,s=>by simp only [List.cons_append,Tl.size,zdT l s];omega
theorem zdU {L:List SecV} {k:Nat} {s:SecV} (h:L[k]?=some s):sizeTo L (k+1)=sizeTo L k+12+s.b.length:=by
 obtain ⟨hk,e⟩:=List.getElem?_eq_some_iff.1 h
 subst e
 unfold sizeTo
 rw [List.take_succ_eq_append_getElem hk]
 simp only [secL,List.map_append,List.map_cons,List.map_nil,zdT,SecV.sec]
theorem zfD:∀ (l m:List Tl.Sec),Tl.size l≤Tl.size (l++m)
 | [],m=>by have:=Tl.body_length m;simp [Tl.size];omega
 | t::l,m=>by have:=zfD l m;simp only [List.cons_append,Tl.size];omega
theorem zdV (L:List SecV) (k:Nat):sizeTo L k≤Tl.size (secL L):=by
 unfold sizeTo
 have h:=zfD (secL (L.take k)) (secL (L.drop k))
 rwa [show secL (L.take k)++secL (L.drop k)=secL L by simp [secL,←List.map_append]] at h
theorem zeI (L:List SecV) (k:Nat) (h:L.length≤k):sizeTo L k=Tl.size (secL L):=by unfold sizeTo;rw [List.take_of_length_le h]
theorem zeJ {l:List Tl.Sec} {k:Nat} (h:Tl.Rises l k) (hk:0<k→Tl.tagAt l (k-1)<Tl.tagAt l k):Tl.Rises l (k+1):=by
 intro j h0 hj
 by_cases e:j=k
 · subst e;exact hk h0
 · exact h j h0 (by omega)
theorem zfE:∀ (l:List Tl.Sec) (s:Tl.Sec),Tl.body (l++[s])=Tl.body l++Tl.secBytes s
 | [],s=>by simp [Tl.body]
 | t::l,s=>by simp only [List.cons_append,Tl.body,zfE l s,List.append_assoc]
theorem zjK {L:List SecV} {k:Nat} {s:SecV} (h:L[k]?=some s):Tl.body (secL (L.take (k+1)))=Tl.body (secL (L.take k))++Tl.secBytes s.sec:=by
 obtain ⟨hk,e⟩:=List.getElem?_eq_some_iff.1 h
 subst e
 rw [List.take_succ_eq_append_getElem hk]
 simp only [secL,List.map_append,List.map_cons,List.map_nil,zfE]
theorem zgv (l:List Tl.Sec):16≤Tl.size l:=by have:=Tl.body_length l;omega
theorem zos {w W:World} {g:Nat} {a b:Value} (h:w.cell? ⟨g,0,none⟩=some a∧w.cell? ⟨g,1,none⟩=some b) {S:Nat→Prop} (k:Kept S w W) (hn:¬ S g):W.cell? ⟨g,0,none⟩=some a∧W.cell? ⟨g,1,none⟩=some b :=
 ⟨k.cell h.1 hn,k.cell h.2 hn⟩
theorem Kept.none_below {w w1:World} (k:Kept (inRow none) w w1):Below w.heap.size w w1:=k.below (Nat.le_refl _) (fun i hi h=>by cases h)
def EncP (w:World) (v:Nat) (l:List Tl.Sec) (e:Ending) (w':World):Prop :=
 (Tl.encE l=0∧∃ A1 c1,e=.returned (.tuple #[.slice A1 (Tl.size l) c1,.nilIface])∧Own w' w.heap.size 5 A1 (Tl.size l) c1 (Tl.file v l)∧Below w.heap.size w w') ∨
 (Tl.encE l≠0∧e=.returned (.tuple #[.slice none 0 0,.iface 149 (.int .i64 (Tl.encE l:Nat))])∧Below w.heap.size w w')
theorem EncP.bad {w w':World} {v:Nat} {l:List Tl.Sec} {x:Nat} (h:Tl.encE l=x) (hx:x≠0) (hb:Below w.heap.size w w'):EncP w v l (.returned (.tuple #[.slice none 0 0,.iface 149 (.int .i64 (x:Nat))])) w' :=
 .inr ⟨by rw [h];exact hx,by rw [h],hb⟩
theorem zil (v : Nat) (A : Option Addr) (n c : Nat) (L : List SecV) (w : World) (hS : Secs w A n c L) (hT : TabW w) (hv : v < 4294967296) (hsz : Tl.size (secL L) ≤ 1099511627776) :
    Calls Tryz.prog 75 #[.int .u32 v,.slice A n c] w (EncP w v (secL L)):=by
  have hmax:=hS.max
  have hln:=hS.len
  have kc:=fun (w:World) (C:Array Value) (n c:Nat)=>Lib.run_convert_bytes_const (P:=Tryz.prog) w 65 5 C n c Tryz.underlying65 Tryz.underlying5
  go_enter Tryz.func75,Tryz.ntmps75
  go_wp2_with fail
  go_loopw [6,15] (fun x i wr=>∃ k:Nat,k≤n∧i=.int .i64 k∧x=.int .i64 (sizeTo L k:Nat)∧Tl.Rises (secL L) k∧Below w.heap.size w wr) (fun _ i _=>n-(intOf i).toNat)
  case atStart=>exact ⟨0,Nat.zero_le _,rfl,rfl,(fun j h0 hj=>by omega),Below.refl _ _⟩
  case round =>
    obtain ⟨k,hk,rfl,rfl,hri,hbel⟩:=hrel
    by_cases hlt:k<n
    · obtain ⟨s, b, off, hs, rfl, hc0, hc1, htag, hbs⟩ := (hS.keep hbel).at_ k hlt
      have hst:=qH (zdU hs)
      have hle:=zdV L (k+1)
      rw [hst.out] at hle
      have htk:=qH (zaP hs)
      have hbl:=hbs.len
      generalize sizeTo L k=z at hst hle ⊢
      rcases Nat.eq_zero_or_pos k with h0 | h0
      · subst h0
        simp only [Nat.zero_mul,Nat.add_zero] at hc0 hc1
        go_wp2_with fail
        go_quiet (fail)
        go_wp2_with fail
        go_roundw
        case rel=>exact ⟨1,by omega,rfl,by rw [hst.out,hbl];go_num,zeJ hri (fun h=>by omega),zI (za hbel _) _⟩
        case measure=>simp [intOf]<;>omega
      · obtain ⟨j, hj⟩ : ∃ j, k = j + 1 := ⟨k - 1, by omega⟩
        obtain ⟨s',b',off',hs',e',hc0',hc1',htag',hbs'⟩:=(hS.keep hbel).at_ j (by omega)
        simp only [Option.some.injEq,Addr.mk.injEq,and_true] at e'
        obtain ⟨rfl,rfl⟩:=e'
        have htk':=qH (zaP hs')
        have ej:IntKind.i64.wrap ((k:Int)-1)=(j:Int):=by rw [IntWalk.i64_in _ (by omega)];omega
        have hk0:(0:Int)<(k:Int):=by omega
        have hj0:(0:Int)≤(j:Int):=by omega
        have hjn:(j:Int)<(n:Int):=by omega
        have hk1:(k-1:Nat)=j:=by omega
        have hk1':=qH hk1
        clear hj hk1
        have hc0a:=fun o=>zao hc0' o
        clear hc0' hc1'
        by_cases hle':s.tag≤s'.tag
        · have hleb : (s.tag : Int) ≤ (s'.tag : Int) := by omega
          have hno : Hid (Tl.encE (secL L) = 31) := qH (by
            unfold Tl.encE
            rw [if_neg]
            intro h
            have:=h k h0 (by rw [zae];omega)
            rw [hk1'.out,htk.out,htk'.out] at this
            omega)
          go_wp2_with fail
          go_quiet (fail)
          go_wp2_with fail
          go_ret2
          exact EncP.bad hno.out (by decide) (zI (za hbel _) _)
        · have hleb : ¬ (s.tag : Int) ≤ (s'.tag : Int) := by omega
          have hri':=zeJ hri (fun h=>by rw [hk1'.out,htk.out,htk'.out];omega)
          go_wp2_with fail
          go_quiet (fail)
          go_wp2_with fail
          go_roundw
          case rel=>exact ⟨k+1,by omega,by go_num,by rw [hst.out,hbl];go_num,hri',zI (za hbel _) _⟩
          case measure=>simp [intOf]<;>omega
    · have : k = n := by omega
      subst this
      have hri':Tl.Rises (secL L) (secL L).length:=by rw [zae,hln];exact hri
      have hse:=zeI L k (by omega)
      rw [hse]
      clear hse hri
      by_cases hbad:4096<k∨134217728<Tl.size (secL L)
      · have hno : Hid (Tl.encE (secL L) = 2) := qH (by unfold Tl.encE; rw [if_pos hri', zae, hln, if_pos hbad])
        generalize Tl.size (secL L)=z at hbad hsz ⊢
        by_cases h1:4096<k
        · have h1' : (4096 : Int) < (k : Int) := by omega
          go_wp2_with fail
          go_ret2
          exact EncP.bad hno.out (by decide) hbel
        · have h1' : ¬ (4096 : Int) < (k : Int) := by omega
          have h2':(134217728:Int)<(z:Int):=by omega
          go_wp2_with fail
          go_ret2
          exact EncP.bad hno.out (by decide) hbel
      · have hyes : Hid (Tl.encE (secL L) = 0) := qH (by unfold Tl.encE; rw [if_pos hri', zae, hln, if_neg hbad])
        have hz:=qH (show Tl.size (secL L)≤134217728 by omega)
        have hz':=hz.out
        have hk4:¬ (4096:Int)<(k:Int):=by omega
        have hz4:¬ (134217728:Int)<(Tl.size (secL L):Int):=by omega
        have hlist:=qH (show ∀ x∈Tl.magic,x<256 by decide)
        clear hbad
        have hB0:=Bs.lit wr 5 (4,5) Tl.magic 4 rfl (by decide) hlist.out
        have hb0:=za hbel (.cells (zA Tl.magic).toArray 5 (4,5))
        go_wp2_with fail
        refine (zmR w.heap.size _ 4 4 Tl.magic v 4 _ (.inr ⟨hB0,rfl,by decide⟩) hb0.size (by omega) (by decide) (by decide) (by decide)).mono ?_
        rintro e w1 ⟨A1,c1,rfl,hown1,hk1,hat1⟩
        have hb1:=zQ hb0 hk1 (fun i hi hr=>by have h3:=hbel.size;have h4:wr.heap.size=i:=Option.some.inj hr;omega)
        clear hB0 hb0 hk1 hat1 hlist
        go_wp2_with fail
        refine (zdL w.heap.size A1 (4+4) c1 _ k 4 _ hown1 hb1.size (by omega) (by decide) (by decide) (by decide)).mono ?_
        rintro e w2 ⟨A2,c2,rfl,hown2,hk2,hat2⟩
        have hb2:=zQ hb1 hk2 (hown1.row_ge (Nat.le_refl _))
        clear hown1 hk2 hat2 hb1
        go_wp2_with fail
        go_loopw [9,60] (fun x i wr=>∃ j:Nat,j≤k∧i=.int .i64 j∧∃ A1 c1,x=.slice A1 (sizeTo L j-4:Nat) c1∧Own wr w.heap.size 5 A1 (sizeTo L j-4) c1 (Tl.head v k++Tl.body (secL (L.take j)))∧Below w.heap.size w wr) (fun _ i _=>k-(intOf i).toNat)
        case atStart=>exact ⟨0,Nat.zero_le _,rfl,A2,c2,rfl,by simpa [Tl.head,Tl.body,secL,sizeTo,Tl.size] using hown2,hb2⟩
        case round =>
          obtain ⟨j,hj,rfl,A1,c1,rfl,hown,hbel1⟩:=hrel
          by_cases hlt1:j<k
          · obtain ⟨s, b, off, hs, rfl, hc0, hc1, htag, hbs⟩ := (hS.keep hbel1).at_ j hlt1
            have hbl:=hbs.len
            have hst:=qH (zdU hs)
            have hle:=zdV L (j+1)
            rw [hst.out] at hle
            have hbd:=qH (zjK hs)
            have h16:16≤sizeTo L j:=zgv _
            generalize sizeTo L j=z at hst hle hown h16 ⊢
            have hTr:=hT.keep hbel1
            have hn4:s.n<18446744073709551616:=by omega
            have ht4:s.tag<18446744073709551616:=by omega
            have hw1:IntKind.u64.wrap (s.tag:Int)=(s.tag:Int):=by rw [IntKind.wrap_u64];omega
            have hw2:IntKind.u64.wrap (s.n:Int)=(s.n:Int):=by rw [IntKind.wrap_u64];omega
            have hba:=za (Below.refl wr.heap.size wr) (Obj.cells #[.int .u32 s.tag,.slice s.A s.n s.c] 150)
            have hcell0:(wr.alloc (Obj.cells #[.int .u32 s.tag,.slice s.A s.n s.c] 150)).cell? ⟨wr.heap.size,0,none⟩=some (.int .u32 s.tag):=zax _ _ _ _ _ rfl
            have hcell1:(wr.alloc (Obj.cells #[.int .u32 s.tag,.slice s.A s.n s.c] 150)).cell? ⟨wr.heap.size,1,none⟩=some (.slice s.A s.n s.c):=zax _ _ _ _ _ rfl
            have hsz:(wr.alloc (Obj.cells #[.int .u32 s.tag,.slice s.A s.n s.c] 150)).heap.size=wr.heap.size+1:=by simp
            go_wp2_with fail
            generalize wr.alloc (Obj.cells #[.int .u32 s.tag,.slice s.A s.n s.c] 150)=W at hba hcell0 hcell1 hsz ⊢
            have hB0:=zr hba
            go_region_held3 (fun w'=>w'.cell? ⟨wr.heap.size,0,none⟩=some (.int .u32 s.tag)∧w'.cell? ⟨wr.heap.size,1,none⟩=some (.slice s.A s.n s.c)) ((first | exact ⟨hcell0,hcell1⟩ | exact hq2 | exact hq1)) (first | (go_at_call_of 130 (Value.slice none 0 0);refine (zdL (wr.heap.size+1) none 0 0 [] s.tag 4 W.drew (Own.nil _ _ _) (by show _≤W.heap.size;omega) ht4 (by decide) (by decide) (by decide)).mono ?_;rintro e x1 ⟨A3,c3,rfl,hown3,hk3,hat3⟩;have hq1:=zos ⟨zal hcell0,zal hcell1⟩ hk3 (fun h=>by cases h);have hB1:=zb hB0 hk3.none_below) | (go_at_call 130;refine (zdL (wr.heap.size+1) A3 4 c3 _ s.n 4 x1 hown3 (by have:=hk3.size;have h9:W.drew.heap.size=W.heap.size:=rfl;omega) hn4 (by decide) (by decide) (by decide)).mono ?_;rintro e x2 ⟨A4,c4,rfl,hown4,hk4,hat4⟩;have hq2:=zos hq1 hk4 (hown3.row_ge (Nat.le_refl _) _ (Nat.lt_succ_self _));have hB2:=zQ hB1 hk4 (fun i hi=>hown3.row_ge (Nat.le_refl _) i (by omega))) | fail)
            clear hw1 hw2
            have hb4:=hbs.keep hB2
            have hq21:=hq2.2
            have hn8:4+4+s.n≤140737488355328:=by omega
            simp only [List.nil_append] at hown4
            have hsx:wr.heap.size+1≤x2.heap.size:=by have h1:=hba.size;have h2:=hk3.size;have h3:=hk4.size;have h9:W.drew.heap.size=W.heap.size:=rfl;omega
            have hown4':Own x2 (wr.heap.size+1) 5 A4 8 c4 (Tl.secHead s.sec):=by unfold Tl.secHead;rw [show s.sec.b.length=s.n from hbl];exact hown4
            clear hown4
            have hn8':8+s.n≤140737488355328:=by omega
            have hout:∀ x:World,Below wr.heap.size wr x→Own x w.heap.size 5 A1 (z-4) c1 (Tl.head v k++Tl.body (secL (L.take j))):=fun x h=>hown.keep h
            have hout':=qH hout
            clear hout
            have hz12:8+s.n+4≤140737488355328:=by omega
            have hz13:(z-4)+(8+s.n+4)≤140737488355328:=by omega
            have hws:=hbel1.size
            go_wp2_with (first
              | (at_builtin;refine zaO rfl _ _ 65 5 rfl Tryz.underlying65 Tryz.info5 (wr.heap.size+1) A4 8 c4 _ s.A s.n s.c s.b (8+s.n) rfl rfl rfl hown4' hb4 hsx hn8' ?_;intro A5 c5 x3 hown5 hg5 hat5;have hB3:=zaJ hB2 hg5 (fun q hq=>Nat.le_of_succ_le (hown4'.ge q hq).1);have hT3:=hTr.keep hB3;have hb5:=hown5.bs)
              | (go_at_call 143;refine (zht A5 (8+s.n) c5 _ _ hb5 hT3 hz12).mono ?_;rintro e x4 ⟨A6,c6,rfl,hown6,hbt⟩;have hB4:=zb hB3 hbt;have hO4:=hout'.out x4 hB4;have hb6:=hown6.bs;have hs4:=Nat.le_trans hws hB4.size)
              | (at_builtin;refine zaO rfl _ _ 65 5 rfl Tryz.underlying65 Tryz.info5 w.heap.size A1 (z-4) c1 _ A6 (8+s.n+4) c6 _ (z-4+(8+s.n+4)) rfl rfl rfl hO4 hb6 hs4 hz13 ?_;intro A7 c7 x5 hown7 hg7 hat7))
            go_roundw
            case rel =>
              have hzz:z-4+(8+s.n+4)=sizeTo L (j+1)-4:=by rw [hst.out,hbl];omega
              refine ⟨j+1,by omega,by go_num,A7,c7,by rw [hzz],?_,(hbel1.trans (hB4.mono hws)).grown hg7 hs4 (fun q hq=>(hO4.ge q hq).1)⟩
              rw [←hzz,hbd.out,←List.append_assoc]
              exact hown7
            case measure=>simp [intOf]<;>omega
          · have : j = k := by omega
            subst this
            have hz4':sizeTo L j-4+4≤140737488355328:=by have:=zdV L j;omega
            have hse:=qH (zeI L j (by omega))
            have hfl : Hid (zab (Tl.head v j ++ Tl.body (secL (L.take j))) = Tl.file v (secL L)) := qH (by
              unfold Tl.file
              rw [zae,hln,List.take_of_length_le (by omega)])
            have hTr:=hT.keep hbel1
            have hbs1:=hown.bs
            have h16:16≤sizeTo L j:=zgv _
            go_wp2_with (go_at_call 143;refine (zht A1 (sizeTo L j-4) c1 _ _ hbs1 hTr hz4').mono ?_;rintro e x4 ⟨A6,c6,rfl,hown6,hbt⟩)
            go_ret2
            refine .inl ⟨hyes.out,A6,c6,?_,?_,zb hbel1 hbt⟩
            · rw [← hse.out, show sizeTo L j - 4 + 4 = sizeTo L j by omega]
              rfl
            · rw [← hse.out, ← hfl.out]
              have:=hown6.lower hbel1.size
              rwa [show sizeTo L j-4+4=sizeTo L j by omega] at this
def SecV.cells (s:SecV):List Value:=[.int .u32 (s.tag:Nat),.slice s.A s.n s.c]
def zX (L:List SecV):List Value:=L.flatMap SecV.cells
theorem zcE (s:SecV) (L:List SecV):zX (s::L)=.int .u32 (s.tag:Nat) :: .slice s.A s.n s.c::zX L:=rfl
theorem zdW (L M:List SecV):zX (L++M)=zX L++zX M:=by simp [zX]
theorem zbM:∀ L:List SecV,(zX L).length=L.length*2
 | []=>rfl
 | s::L=>by rw [zcE];simp only [List.length_cons,zbM L];omega
theorem zbN:∀ (L:List SecV) (k:Nat) (s:SecV),L[k]?=some s→(zX L)[k*2]?=some (.int .u32 (s.tag:Nat))∧(zX L)[k*2+1]?=some (.slice s.A s.n s.c)
 | [],k,s,h=>by simp at h
 | t::L,0,s,h=>by simp at h;subst h;exact ⟨rfl,rfl⟩
 | t::L,k+1,s,h=>by
  have:=zbN L k s (by simpa using h)
  rw [zcE,show (k+1)*2=k*2+1+1 by omega]
  simpa using this
theorem zfF (L:List SecV):∀ u∈zX L,u.oneCell'=true:=by
 intro u hu
 simp only [zX,List.mem_flatMap,SecV.cells,List.mem_cons,List.not_mem_nil,or_false] at hu
 obtain ⟨s,_,rfl | rfl⟩:=hu<;>rfl
structure OwnS (w:World) (base:Nat) (e:TypeId) (A:Option Addr) (n c:Nat) (L:List SecV):Prop where
 own:w.ownsRow base e 2 (.slice A n c) n (zX L)
 ok:∀ s∈L,s.tag<4294967296∧Bs w s.A s.n s.c s.b
 far:∀ s∈L,0<s.n→∀ g,A.map (·.block)=some g→s.A.map (·.block)≠some g
 max:n≤4398046511104
theorem OwnS.len {w:World} {base:Nat} {e:TypeId} {A:Option Addr} {n c:Nat} {L:List SecV} (h:OwnS w base e A n c L):L.length=n:=by
 have:=h.own.1
 rw [zbM] at this
 omega
theorem OwnS.nil (w:World) (base:Nat) (e:TypeId):OwnS w base e none 0 0 []:=⟨World.ownsRow_nil w base e 2,(fun s h=>by cases h),(fun s h=>by cases h),by omega⟩
theorem OwnS.ge {w:World} {base:Nat} {e:TypeId} {A:Option Addr} {n c:Nat} {L:List SecV} (h:OwnS w base e A n c L):∀ k,A.map (·.block)=some k→base≤k∧k<w.heap.size:=by
 intro k hk
 exact h.own.lt k (by rw [zaH];exact hk)
theorem OwnS.keep {w w1:World} {base:Nat} {e:TypeId} {A:Option Addr} {n c:Nat} {L:List SecV} (h:OwnS w base e A n c L) (hb:Below w.heap.size w w1):OwnS w1 base e A n c L :=
 ⟨h.own.kept (row:=none) ⟨hb.os,hb.tape,hb.output,hb.size,fun k hk _=>hb.block k hk⟩ (by rw [zaH];cases A<;>simp),fun s hs=>⟨(h.ok s hs).1,(h.ok s hs).2.keep hb⟩,h.far,h.max⟩
theorem OwnS.lower {w:World} {base base':Nat} {e:TypeId} {A:Option Addr} {n c:Nat} {L:List SecV} (h:OwnS w base e A n c L) (hb:base'≤base):OwnS w base' e A n c L:=by
 refine ⟨⟨h.own.1,?_⟩,h.ok,h.far,h.max⟩
 rcases h.own.2 with h2 | ⟨g,cap,cur,he,hbg,hr⟩
 · exact .inl h2
 · exact .inr ⟨g,cap,cur,he,Nat.le_trans hb hbg,hr⟩
theorem OwnS.secs {w:World} {base:Nat} {e:TypeId} {A:Option Addr} {n c:Nat} {L:List SecV} (h:OwnS w base e A n c L):Secs w A n c L:=by
 have hcap:n≤c:=by
  rcases h.own.2 with ⟨he,hn⟩ | ⟨g,cap,cur,he,hb,hg,hnc,_⟩
  · omega
  ·
   simp only [Value.slice.injEq,true_and] at he
   omega
 refine ⟨h.len,hcap,h.max,h.ok,fun j s hj=>?_⟩
 rcases h.own.2 with ⟨he,hn⟩ | ⟨g,cap,cur,he,hb,hg,hnc,_⟩
 ·
  have:=h.len
  have hj':=(List.getElem?_eq_some_iff.1 hj).1
  omega
 ·
  simp only [Value.slice.injEq,true_and] at he
  obtain ⟨rfl,rfl⟩:=he
  obtain ⟨c0,c1⟩:=zbN L j s hj
  have h0:=h.own.cells (g:=g) rfl _ _ c0
  have h1:=h.own.cells (g:=g) rfl _ _ c1
  rw [zah] at h0 h1
  exact ⟨g,0,rfl,h0,by rw [Nat.add_assoc];exact h1⟩
section
variable {P:Program} {ops:Array Oper} {rest:List Oper} {o:Oper} {a:Act} {Q:Exit→Act→World→Prop} {w:World}
theorem zdX (t ty e : TypeId) (ht : P.underlying t = some (.slice e)) (hinfo : (P.info? e).map (fun i => (i.zero, i.size, i.bytes)) = some (some (.agg #[.int .u32 0, .slice none 0 0]), 2, 32))
    (base:Nat) (A0:Option Addr) (n0 c0:Nat) (L:List SecV) (g:Nat) (s:SecV) (n1:Nat) (hn1:n1=n0+1)
    (HO:OwnS w base e A0 n0 c0 L) (hc0:w.cell? ⟨g,0,none⟩=some (.int .u32 (s.tag:Nat))) (hc1:w.cell? ⟨g,1,none⟩=some (.slice s.A s.n s.c)) (hs:s.tag<4294967296) (hb:Bs w s.A s.n s.c s.b) (hfar:0<s.n→∀ k,A0.map (·.block)=some k→s.A.map (·.block)≠some k)
    (hbase:base≤w.heap.size) (hl:n0+1≤4398046511104) :
    ∃ A1 c1 w1,(Builtin.append_ #[t,t] ty #[.slice A0 n0 c0,.slice (some ⟨g,0,none⟩) 1 1]).run P w=.ok (.slice A1 n1 c1) w1∧OwnS w1 base e A1 n1 c1 (L++[s])∧w.grownBy w1 (A0.map (·.block))∧(A1.map (·.block)=A0.map (·.block)∨A1.map (·.block)=some w.heap.size):=by
  subst hn1
  obtain ⟨i0,hi,hzz⟩:=Option.map_eq_some_iff.1 hinfo
  simp only [Prod.mk.injEq] at hzz
  obtain ⟨hz0,hz1,hz2⟩:=hzz
  obtain ⟨v1, w1, hr, h2, h3, _, h5⟩ := run_append_own_at (P := P) w base t ty e i0 _ 2 32 ht hi hz0 hz1 hz2 rfl (by omega) (.slice A0 n0 c0) n0 (zX L) HO.own ⟨g, 0, none⟩ 1 1 (zX [s]) rfl
    (fun j u hu => by
      rw [zah,Nat.zero_add]
      match j,hu with
      | 0,hu=>simp [zX,SecV.cells] at hu;subst hu;exact hc0
      | 1,hu=>simp [zX,SecV.cells] at hu;subst hu;exact hc1
      | j+2,hu=>simp [zX,SecV.cells] at hu)
    (zfF [s]) (by simp only [maxLen];omega) (by omega) hbase
  have hform : ∃ A1 c1, v1 = .slice A1 (n0 + 1) c1 := by
    rcases h2.2 with ⟨rfl,hn⟩ | ⟨g,cap,cur,rfl,_⟩
    · omega
    · exact ⟨_,_,rfl⟩
  obtain ⟨A1,c1,rfl⟩:=hform
  rw [zaH] at h3
  rw [zaH,zaH] at h5
  have hlt : ∀ (x : SecV), Bs w x.A x.n x.c x.b → 0 < x.n → ∀ k, x.A.map (·.block) = some k → k < w.heap.size := by
    intro x hx h0 k hk
    obtain ⟨b,off,e,hlt⟩:=hx.lt h0
    rw [e] at hk
    simp at hk
    omega
  have hall : ∀ x ∈ L ++ [s], x.tag < 4294967296 ∧ Bs w x.A x.n x.c x.b ∧ (0 < x.n → ∀ k, A0.map (·.block) = some k → x.A.map (·.block) ≠ some k) := by
    intro x hx
    rcases List.mem_append.1 hx with hx | hx
    · exact ⟨(HO.ok x hx).1,(HO.ok x hx).2,HO.far x hx⟩
    · obtain rfl := List.mem_singleton.1 hx
      exact ⟨hs,hb,hfar⟩
  refine ⟨A1,c1,w1,hr,⟨by rw [zdW];exact h2,fun x hx=>⟨(hall x hx).1,?_⟩,fun x hx h0 k hk=>?_,hl⟩,h3,h5⟩
  · obtain ⟨_, hbx, hfx⟩ := hall x hx
    refine ⟨hbx.len,hbx.cap,hbx.max,hbx.small,fun h0=>?_⟩
    exact (hbx.grown h3 (fun k hk e=>hfx h0 k hk e)).cells h0
  · obtain ⟨_, hbx, hfx⟩ := hall x hx
    intro e
    rcases h5 with h5 | h5
    · rw [h5] at hk;exact hfx h0 k hk e
    · rw [h5] at hk
      have:=hlt x hbx h0 k e
      simp at hk
      omega
theorem zeK (hgd : o.guard = none) (s' x' : Operand) (t e : TypeId)
    (ho:o.op=.call { callee:=.builtin .append,args:=#[s',x'],argTypes:=#[t,t] })
    (ht:P.underlying t=some (.slice e)) (hinfo:(P.info? e).map (fun i=>(i.zero,i.size,i.bytes))=some (some (.agg #[.int .u32 0,.slice none 0 0]),2,32))
    (base:Nat) (A0:Option Addr) (n0 c0:Nat) (L:List SecV) (g:Nat) (s:SecV) (n1:Nat) (hn1:n1=n0+1)
    (hes:a.eval s'=.slice A0 n0 c0) (hex:a.eval x'=.slice (some ⟨g,0,none⟩) 1 1)
    (HO:OwnS w base e A0 n0 c0 L) (hc0:w.cell? ⟨g,0,none⟩=some (.int .u32 (s.tag:Nat))) (hc1:w.cell? ⟨g,1,none⟩=some (.slice s.A s.n s.c)) (hs:s.tag<4294967296) (hb:Bs w s.A s.n s.c s.b) (hfar:0<s.n→∀ k,A0.map (·.block)=some k→s.A.map (·.block)≠some k)
    (hbase:base≤w.heap.size) (hl:n0+1≤4398046511104)
    (h:∀ A1 c1 w1,OwnS w1 base e A1 n1 c1 (L++[s])→w.grownBy w1 (A0.map (·.block))→(A1.map (·.block)=A0.map (·.block)∨A1.map (·.block)=some w.heap.size)→wpList P ops Q rest (a.put o.dst (.slice A1 n1 c1)) w1) :
    wpList P ops Q (o::rest) a w:=by
  obtain ⟨A1,c1,w1,hr,hown,hg,hat⟩:=zdX (P:=P) t o.type e ht hinfo base A0 n0 c0 L g s n1 hn1 HO hc0 hc1 hs hb hfar hbase hl
  refine wpList_plain hgd fun K hK=>?_
  unfold Oper.wp execOp
  simp only [ho,resolve,invoke,builtin,Sem.run_bind,Sem.run_pure,Result.andThen_ok,List.map_toArray,List.map_cons,List.map_nil,hes,hex,hr]
  exact hK _ _ (h A1 c1 w1 hown hg hat)
theorem zdm {K : Act → World → Prop} {E : Prop} (hgd : o.guard = none) (s' x' : Operand) (t e : TypeId)
    (ho:o.op=.call { callee:=.builtin .append,args:=#[s',x'],argTypes:=#[t,t] })
    (ht:P.underlying t=some (.slice e)) (hinfo:(P.info? e).map (fun i=>(i.zero,i.size,i.bytes))=some (some (.agg #[.int .u32 0,.slice none 0 0]),2,32))
    (base:Nat) (A0:Option Addr) (n0 c0:Nat) (L:List SecV) (g:Nat) (s:SecV) (n1:Nat) (hn1:n1=n0+1)
    (hes:a.eval s'=.slice A0 n0 c0) (hex:a.eval x'=.slice (some ⟨g,0,none⟩) 1 1)
    (HO:OwnS w base e A0 n0 c0 L) (hc0:w.cell? ⟨g,0,none⟩=some (.int .u32 (s.tag:Nat))) (hc1:w.cell? ⟨g,1,none⟩=some (.slice s.A s.n s.c)) (hs:s.tag<4294967296) (hb:Bs w s.A s.n s.c s.b) (hfar:0<s.n→∀ k,A0.map (·.block)=some k→s.A.map (·.block)≠some k)
    (hbase:base≤w.heap.size) (hl:n0+1≤4398046511104)
    (h:∀ A1 c1 w1,OwnS w1 base e A1 n1 c1 (L++[s])→w.grownBy w1 (A0.map (·.block))→(A1.map (·.block)=A0.map (·.block)∨A1.map (·.block)=some w.heap.size)→K (a.put o.dst (.slice A1 n1 c1)) w1) :
    if Region.wanted o (yielded ops a.tmps)=true then Oper.wp P o a w K Q else E:=by
  have hw:Region.wanted o (yielded ops a.tmps)=true:=by simp [Region.wanted,hgd]
  rw [if_pos hw]
  obtain ⟨A1,c1,w1,hr,hown,hg,hat⟩:=zdX (P:=P) t o.type e ht hinfo base A0 n0 c0 L g s n1 hn1 HO hc0 hc1 hs hb hfar hbase hl
  unfold Oper.wp execOp
  simp only [ho,resolve,invoke,builtin,Sem.run_bind,Sem.run_pure,Result.andThen_ok,List.map_toArray,List.map_cons,List.map_nil,hes,hex,hr]
  exact h A1 c1 w1 hown hg hat
end
theorem Tryz.info150:(Tryz.prog.info? 150).map (fun i=>(i.zero,i.size,i.bytes))=some (some (.agg #[.int .u32 0,.slice none 0 0]),2,32):=by kernel_rfl
def BV (w:World) (l:List Nat) (v:Value):Prop:=∃ A c,v=.slice A l.length c∧Bs w A l.length c l
theorem BV.keep {w w1:World} {l:List Nat} {v:Value} (h:BV w l v) (hb:Below w.heap.size w w1):BV w1 l v:=by
 obtain ⟨A,c,e,hB⟩:=h
 exact ⟨A,c,e,hB.keep hb⟩
def BVL (w:World):List Value→List (List Nat)→Prop
 | [],[]=>True
 | v::vs,l::ls=>BV w l v∧BVL w vs ls
 | _,_=>False
theorem BVL.keep {w w1:World} : ∀ {vs:List Value} {ls:List (List Nat)},BVL w vs ls→Below w.heap.size w w1→BVL w1 vs ls
 | [],[],_,_=>trivial
 | v::vs,l::ls,h,hb=>⟨h.1.keep hb,BVL.keep h.2 hb⟩
 | [],_::_,h,_=>h.elim
 | _::_,[],h,_=>h.elim
theorem BVL.length {w:World} : ∀ {vs:List Value} {ls:List (List Nat)},BVL w vs ls→vs.length=ls.length
 | [],[],_=>rfl
 | v::vs,l::ls,h=>by simp [BVL.length h.2]
 | [],_::_,h=>h.elim
 | _::_,[],h=>h.elim
theorem BVL.at_ {w:World} : ∀ {vs:List Value} {ls:List (List Nat)},BVL w vs ls→∀ (k:Nat) (l:List Nat),ls[k]?=some l→∃ v,vs[k]?=some v∧BV w l v
 | [],[],_,k,l,h=>by simp at h
 | v::vs,l'::ls,h,0,l,hk=>by
  obtain rfl:l'=l:=by simpa using hk
  exact ⟨v,rfl,h.1⟩
 | v::vs,l'::ls,h,k+1,l,hk=>BVL.at_ h.2 k l (by simpa using hk)
 | [],_::_,h,_,_,_=>h.elim
 | _::_,[],h,_,_,_=>h.elim
theorem BV.one {w:World} {l:List Nat} {v:Value} (h:BV w l v):v.oneCell'=true:=by
 obtain ⟨A,c,rfl,_⟩:=h
 rfl
def zc0 (w:World) (B:Nat) (l:List Nat) (v:Value):Prop:=∃ A c,v=.slice A l.length c∧Bs w A l.length c l∧(0<l.length→∀ q,A.map (·.block)=some q→q<B)
theorem BV.low {w w1:World} {l:List Nat} {v:Value} (h:BV w l v) (hb:Below w.heap.size w w1):zc0 w1 w.heap.size l v:=by
 obtain ⟨A,c,e,hB⟩:=h
 refine ⟨A,c,e,hB.keep hb,fun h0 q hq=>?_⟩
 obtain ⟨b,off,rfl,hlt⟩:=hB.lt h0
 obtain rfl:b=q:=Option.some.inj hq
 exact hlt
theorem zc0.keep {w w1:World} {B:Nat} {l:List Nat} {v:Value} (h:zc0 w B l v) (hb:Below w.heap.size w w1):zc0 w1 B l v:=by
 obtain ⟨A,c,e,hB,hl⟩:=h
 exact ⟨A,c,e,hB.keep hb,hl⟩
theorem zc0.outs {w w1:World} {B:Nat} {l:List Nat} {v:Value} (h:zc0 w B l v) (hB:B≤w.heap.size) (ho:Outs B w w1):zc0 w1 B l v:=by
 obtain ⟨A,c,e,hb,hl⟩:=h
 have hbl:=ho.below hB
 refine ⟨A,c,e,hb.far (S:=fun k=>B≤k) ⟨hbl.os,hbl.tape,hbl.output,hbl.size,fun k _ hk=>hbl.block k (by omega)⟩ (fun h0 q hq=>by rw [hb.len] at hl;have:=hl h0 q hq;omega),hl⟩
theorem zc0.bv {w:World} {B:Nat} {l:List Nat} {v:Value} (h:zc0 w B l v):BV w l v:=by
 obtain ⟨A,c,e,hb,hl⟩:=h
 exact ⟨A,c,e,hb⟩
def NoU8 (cs:Array Value):Prop:=∀ (i:Nat) (v:Value),cs[i]?=some v→∀ x:Int,v≠Value.int .u8 x
structure OutsT (B:Nat) (T:TypeId) (n:Nat) (u v:World):Prop where
 os:v.os=u.os
 tape:v.tape=u.tape
 output:v.output=u.output
 size:u.heap.size≤v.heap.size
 block:∀ k,k<u.heap.size→(k<B∨∀ cs fr,u.heap[k]?≠some (.cells cs 281 fr)∧u.heap[k]?≠some (.cells cs 5 fr)∧u.heap[k]?≠some (.cells cs T fr))→v.heap[k]?=u.heap[k]?
 row:∀ (k:Nat) (cs:Array Value),u.heap[k]?=some (Obj.cells cs T (0,0))→cs.size=n→NoU8 cs→∃ cs':Array Value,v.heap[k]?=some (Obj.cells cs' T (0,0))∧cs'.size=n∧NoU8 cs'
theorem OutsT.trans {B:Nat} {T:TypeId} {n:Nat} {u v w:World} (h:OutsT B T n u v) (k:OutsT B T n v w):OutsT B T n u w :=
 ⟨k.os.trans h.os,k.tape.trans h.tape,k.output.trans h.output,Nat.le_trans h.size k.size,fun i hi hn=>by
  have e:=h.block i hi hn
  exact (k.block i (Nat.lt_of_lt_of_le hi h.size) (by rw [e];exact hn)).trans e,fun i cs hc hs hn=>by
  obtain ⟨cs',h1,h2,h3⟩:=h.row i cs hc hs hn
  exact k.row i cs' h1 h2 h3⟩
theorem Outs.base {B B2:Nat} {u v:World} (h:Outs B2 u v) (hB:B≤B2):Outs B u v :=
 ⟨h.os,h.tape,h.output,h.size,fun k hk hn=>h.block k hk (hn.imp (fun h=>by omega) id)⟩
theorem Outs.t {B:Nat} {u v:World} (h:Outs B u v) {T:TypeId} (h1:T≠281) (h2:T≠5) (n:Nat):OutsT B T n u v :=
 ⟨h.os,h.tape,h.output,h.size,fun k hk hn=>h.block k hk (hn.imp id fun hn cs fr=>⟨(hn cs fr).1,(hn cs fr).2.1⟩),fun k cs hc hs hno=>by
  have hk:k<u.heap.size:=(Array.getElem?_eq_some_iff.1 hc).1
  refine ⟨cs,(h.block k hk (.inr fun cs' fr=>?_)).trans hc,hs,hno⟩
  rw [hc]
  constructor
  ·
   intro e
   simp only [Option.some.injEq,Obj.cells.injEq] at e
   exact h1 e.2.1
  ·
   intro e
   simp only [Option.some.injEq,Obj.cells.injEq] at e
   exact h2 e.2.1⟩
theorem OutsT.refl (B:Nat) {T:TypeId} (h1:T≠281) (h2:T≠5) (n:Nat) (u:World):OutsT B T n u u:=(Outs.refl B u).t h1 h2 n
theorem OutsT.below {B:Nat} {T:TypeId} {n:Nat} {u v:World} (h:OutsT B T n u v) (hB:B≤u.heap.size):Below B u v:=⟨h.os,h.tape,h.output,h.size,fun k hk=>h.block k (by omega) (.inl hk)⟩
theorem OutsT.blk {B:Nat} {T:TypeId} {n:Nat} {u v:World} (h:OutsT B T n u v) {s:Nat} {cs:Array Value} {U:TypeId} (hb:Blk u s cs U) (h1:U≠281) (h2:U≠5) (h3:U≠T):Blk v s cs U:=by
 refine ⟨(h.block s hb.lt (.inr fun cs' fr=>?_)).trans hb.at_⟩
 rw [hb.at_]
 refine ⟨fun e=>?_,fun e=>?_,fun e=>?_⟩<;>simp only [Option.some.injEq,Obj.cells.injEq] at e
 · exact h1 e.2.1
 · exact h2 e.2.1
 · exact h3 e.2.1
theorem zd {w:World} {g:Nat} {cs:List Value} {T:TypeId} (h:Blk w g cs.toArray T) (off n:Nat) {l:List Value} (e:(cs.drop off).take n=l):w.rangeAt g off l:=fun j v hv=>by
 refine h.cell (off+j) ?_
 rw [List.getElem?_toArray]
 rw [←e,List.getElem?_take] at hv
 split at hv
 ·
  rw [List.getElem?_drop] at hv
  exact hv
 · cases hv
theorem MkB.bv {w w':World} {l:List Nat} {e:Ending} (h:MkB w l e w'):∃ v,e=.returned v∧BV w' l v∧Below w.heap.size w w':=by
 obtain ⟨A,k,he,hb,hbl⟩:=h
 exact ⟨_,he,⟨A,k,rfl,hb⟩,hbl⟩
structure RamG where
 p:Nat
 pb:Nat
 db:Nat
 q:Nat→Nat
 z:Nat
structure RamM where
 n:Nat
 pg:Nat→Option (List Nat)
 dirty:Nat→Bool
 wr:Int
 done:Bool
def zba (G:RamG) (M:RamM) (i:Nat):Value:=if (M.pg i).isSome then .slice (some ⟨G.q i,0,none⟩) 4096 4096 else .slice none 0 0
def zaE (M:RamM) (i:Nat):Value:=.int .i64 (if M.dirty i then 1 else 0)
def ramV (G:RamG) (M:RamM):Array Value:=#[.slice (some ⟨G.pb,0,none⟩) M.n M.n,.slice (some ⟨G.db,0,none⟩) M.n M.n,.int .i64 M.wr,.int .u32 (if M.done then 1 else 0),.int .i32 0,.int .u32 0,if M.done then .slice (some ⟨G.z,0,none⟩) 4096 4096 else .slice none 0 0]
def noughts:List Nat:=List.replicate 4096 0
structure RamAt (w:World) (G:RamG) (M:RamM):Prop where
 ram:Blk w G.p (ramV G M) 240
 pages:Blk w G.pb ((List.range M.n).map (zba G M)).toArray 238
 dirty:Blk w G.db ((List.range M.n).map (zaE M)).toArray 3
 page:∀ i l,i<M.n→M.pg i=some l→Blk w (G.q i) (zM l) 5∧l.length=4096∧∀ x∈l,x<256
 blank:M.done=true→Blk w G.z (zM noughts) 5
 sep:∀ i j,i<M.n→j<M.n→(M.pg i).isSome=true→(M.pg j).isSome=true→i≠j→G.q i≠G.q j
 sepz:M.done=true→∀ i,i<M.n→(M.pg i).isSome=true→G.q i≠G.z
 pos:1≤M.n
 max:M.n≤16384
def RamG.has (G:RamG) (M:RamM) (k:Nat):Prop:=k=G.p∨k=G.pb∨k=G.db∨(M.done=true∧k=G.z)∨∃ i,i<M.n∧(M.pg i).isSome=true∧k=G.q i
theorem RamAt.kept {S:Nat→Prop} {w w1:World} {G:RamG} {M:RamM} (h:RamAt w G M) (k:Kept S w w1) (hn:∀ i,G.has M i→¬ S i):RamAt w1 G M :=
 ⟨h.ram.kept k (hn _ (.inl rfl)),h.pages.kept k (hn _ (.inr (.inl rfl))),h.dirty.kept k (hn _ (.inr (.inr (.inl rfl)))),fun i l hi hl=>by
  obtain ⟨h1,h2⟩:=h.page i l hi hl
  exact ⟨h1.kept k (hn _ (.inr (.inr (.inr (.inr ⟨i,hi,by rw [hl];rfl,rfl⟩))))),h2⟩,fun hd=>(h.blank hd).kept k (hn _ (.inr (.inr (.inr (.inl ⟨hd,rfl⟩))))),h.sep,h.sepz,h.pos,h.max⟩
theorem RamAt.keep {w w1:World} {G:RamG} {M:RamM} (h:RamAt w G M) (hb:Below w.heap.size w w1):RamAt w1 G M:=h.kept (S:=fun _=>False) (Kept.of_below hb) (fun _ _ h=>h)
theorem zdY (G:RamG) (M:RamM) (i:Nat) (hi:i<M.n):((List.range M.n).map (zba G M)).toArray[i]?=some (zba G M i):=by simp [hi]
theorem zdC (M:RamM) (i:Nat) (hi:i<M.n):((List.range M.n).map (zaE M)).toArray[i]?=some (zaE M i):=by simp [hi]
theorem zfG (G:RamG) (M:RamM) (w:World) (h:RamAt w G M):Calls Tryz.prog 98 #[.pointer (some ⟨G.p,0,none⟩)] w fun e w'=>e=.returned (.int .i64 (M.n:Int))∧w=w':=by
 have hc:w.cell? ⟨G.p,0,none⟩=some (.slice (some ⟨G.pb,0,none⟩) M.n M.n):=h.ram.cell 0 rfl
 have hm:=h.max
 go_enter Tryz.func98,Tryz.ntmps98
 go_wp2
 go_ret
 exact ⟨rfl,rfl⟩
theorem zmT (G:RamG) (M:RamM) (i:Nat) (hi:i<M.n) (w:World) (h:RamAt w G M):Calls Tryz.prog 161 #[.pointer (some ⟨G.p,0,none⟩),.int .i64 (i:Int)] w fun e w'=>e=.returned .nilIface∧w=w':=by
 have hc:w.cell? ⟨G.p,0,none⟩=some (.slice (some ⟨G.pb,0,none⟩) M.n M.n):=h.ram.cell 0 rfl
 have hm:=h.max
 have h0:(0:Int)≤(i:Int):=by omega
 have h1:(i:Int)<(M.n:Int):=by omega
 go_enter Tryz.func161,Tryz.ntmps161
 go_wp2
 go_ret
 exact ⟨rfl,rfl⟩
theorem zpl (G:RamG) (M:RamM) (i:Int) (hi:i<0∨(M.n:Int)≤i) (w:World) (h:RamAt w G M):Calls Tryz.prog 161 #[.pointer (some ⟨G.p,0,none⟩),.int .i64 i] w fun e w'=>e=.returned (.iface 149 (.int .i64 4))∧w=w':=by
 have hc:w.cell? ⟨G.p,0,none⟩=some (.slice (some ⟨G.pb,0,none⟩) M.n M.n):=h.ram.cell 0 rfl
 have hm:=h.max
 by_cases h0:i<0
 ·
  clear hi
  go_enter Tryz.func161,Tryz.ntmps161
  go_wp2
  go_ret
  exact ⟨rfl,rfl⟩
 ·
  have h1:(M.n:Int)≤i:=by omega
  clear hi
  go_enter Tryz.func161,Tryz.ntmps161
  go_wp2
  go_ret
  exact ⟨rfl,rfl⟩
def RamM.at_ (M:RamM) (i:Nat):List Nat:=(M.pg i).getD noughts
theorem zc1 {w:World} {g:Nat} {l:List Nat} {e:TypeId} (h:Blk w g (zM l) e) (n:Nat) (hl:l.length=n) (hn:n≤140737488355328) (hs:∀ x∈l,x<256):Bs w (some ⟨g,0,none⟩) n n l :=
 ⟨hl,Nat.le_refl _,hn,hs,fun _=>⟨g,0,rfl,fun j hj=>by
  rw [Nat.zero_add,h.cell j (zeE l j (by omega))]
  simp [List.getD_eq_getElem?_getD,show j<l.length by omega]⟩⟩
theorem zhu (w:World):(callFunc 227 #[]).run Tryz.prog w=.ok (.value (.tuple #[])) w:=run_call_mark0 Tryz.func227 (by kernel_rfl) (by kernel_rfl) (by kernel_rfl) .disable (by kernel_rfl) w
theorem zjL (w:World):(callFunc 229 #[]).run Tryz.prog w=.ok (.value (.tuple #[])) w:=run_call_mark0 Tryz.func229 (by kernel_rfl) (by kernel_rfl) (by kernel_rfl) .enable (by kernel_rfl) w
theorem zlE (a:Addr) (w:World):(callFunc 230 #[.pointer (some a)]).run Tryz.prog w=.ok (.value (.tuple #[])) w:=run_call_marked Tryz.func230 (by kernel_rfl) (by kernel_rfl) (by kernel_rfl) .acquire (by kernel_rfl) a w
theorem zlF (a:Addr) (w:World):(callFunc 232 #[.pointer (some a)]).run Tryz.prog w=.ok (.value (.tuple #[])) w:=run_call_marked Tryz.func232 (by kernel_rfl) (by kernel_rfl) (by kernel_rfl) .releaseMerge (by kernel_rfl) a w
theorem zev (a : Addr) (x : Value) (u : FrameMode) (w : World) (hc : w.cell? a = some x) (hz : w.frozen? a = false) :
    CallsD Tryz.prog 220 #[.pointer (some a),.bool true] u w fun e u' w'=>u'=u∧(e=.returned (.tuple #[])∧w'=w.drew.setCell a (.int .u32 1)):=by
  have hc':w.drew.cell? a=some x:=by go_simp
  have hz':w.drew.frozen? a=false:=by go_simp
  have hst:=run_call_store (P:=Tryz.prog) Tryz.func225 (by kernel_rfl) (by kernel_rfl) (by kernel_rfl) (by kernel_rfl) (k:=.u32) (y:=1) hc' hz'
  go_enter_d Tryz.func220,Tryz.ntmps220
  go_wp2
  go_region_calls
  all_goals (go_end0;exact ⟨rfl,rfl⟩)
theorem zdZ (a : Addr) (u : FrameMode) (w : World) (hc : w.cell? a = some (.int .i32 1)) (hz : w.frozen? a = false) :
    CallsD Tryz.prog 219 #[.pointer (some a)] u w fun e u' w'=>u'=u∧(e=.returned (.tuple #[])∧w'=w.setCell a (.int .i32 0)):=by
  have hd:=zhu
  have he:=zjL
  have hr:=zlF
  have hadd:=run_call_add (P:=Tryz.prog) Tryz.func233 (by kernel_rfl) (by kernel_rfl) (by kernel_rfl) .i32 (by kernel_rfl) (y:=-1) (s:=0) hc hz (by simp [go_sem];rfl)
  have hcv:=run_convert_to_unsafe (P:=Tryz.prog) (src:=405) (dst:=290) Tryz.underlying405 Tryz.underlying290 (by kernel_rfl) hc
  go_enter_d Tryz.func219,Tryz.ntmps219
  go_wp2
  go_end0
  go_wp2
  go_end0
  exact ⟨rfl,rfl⟩
theorem zjM (a : Addr) (w : World) (hc : w.cell? a = some (.int .i32 0)) (hz : w.frozen? a = false) :
    Calls Tryz.prog 218 #[.pointer (some a)] w fun e w'=>e=.returned (.tuple #[])∧w'=w.setCell a (.int .i32 1):=by
  have hd:=zhu
  have he:=zjL
  have ha:=zlE
  have hcas:=run_call_cas_hit (P:=Tryz.prog) Tryz.func228 (by kernel_rfl) (by kernel_rfl) (by kernel_rfl) .i32 (by kernel_rfl) (y:=1) hc hz
  have hc':(w.setCell a (.int .i32 1)).cell? a=some (.int .i32 1):=World.cell?_setCell_same w a _ hc
  have hcv:=run_convert_to_unsafe (P:=Tryz.prog) (src:=405) (dst:=290) Tryz.underlying405 Tryz.underlying290 (by kernel_rfl) hc'
  go_enter Tryz.func218,Tryz.ntmps218
  go_wp2
  first | go_end0 | (simp only [Exit.inBlock,Exit.then];refine bodyPost_ret (results_none rfl _ _ _) rfl ?_) | refine bodyPost_ret (results_none rfl _ _ _) rfl ?_
  go_wp2
  go_end0
  exact ⟨rfl,rfl⟩
theorem Tryz.info238':(Tryz.prog.info? 238).map (fun i=>(i.zero,i.size,i.bytes))=some (some (.slice none 0 0),1,24):=by kernel_rfl
theorem Tryz.info3':(Tryz.prog.info? 3).map (fun i=>(i.zero,i.size,i.bytes))=some (some (.int .i64 0),1,8):=by kernel_rfl
def RamM.zero (n:Nat):RamM:=⟨n,fun _=>none,fun _=>false,0,false⟩
theorem ze3 {v:Value} (n:Nat):madeCells #[v] n=((List.range n).map fun _=>v).toArray:=by
 have h:(fun x:Nat=>(#[v]:Array Value)[x%(#[v]:Array Value).size]!)=fun _=>v:=by funext x;simp [Nat.mod_one]
 unfold madeCells
 rw [h]
 apply Array.ext'
 simp
def zot (w:World) (n:Nat) (e:Ending) (w':World):Prop:=∃ G:RamG,e=.returned (.tuple #[.pointer (some ⟨G.p,0,none⟩),.nilIface])∧RamAt w' G (RamM.zero n)∧w.heap.size≤G.p∧w.heap.size≤G.pb∧w.heap.size≤G.db∧Below w.heap.size w w'
theorem zcF (n:Nat) (h1:1≤n) (h2:n≤16384) (w:World):Calls Tryz.prog 25 #[.int .i64 (n:Int)] w (zot w n):=by
 have hn1:¬ (n:Int)<1:=by omega
 have hn2:¬ (16384:Int)<(n:Int):=by omega
 have hn3:decide (n<1)=false:=by simp;omega
 have hn4:decide (16384<n)=false:=by simp;omega
 have hmk1:=qH (run_make_row' (P:=Tryz.prog) 223 238 (.slice none 0 0) 24 Tryz.underlying223 Tryz.info238' rfl .i64 .i64 n (by omega) (by omega))
 have hmk2:=qH (run_make_row' (P:=Tryz.prog) 132 3 (.int .i64 0) 8 Tryz.underlying132 Tryz.info3' rfl .i64 .i64 n (by omega) (by omega))
 go_enter Tryz.func25,Tryz.ntmps25
 go_wp2_with fail
 obtain ⟨W0,hW0⟩:∃ W0,W0=w.heap.size:=⟨_,rfl⟩
 refine zE (by kernel_rfl) (fun X=>⟨#[.int .i64 ↑n,undef,X 6,X 7,.int .i64 ↑n,.bool false,.bool false,.int .i64 ↑n,.bool false,.bool false,undef,X 0,X 1,X 2,X 3,X 4,X 5],[]⟩) (fun u v=>Below u.heap.size u v) (fun i v w=>match i with | 0=>(v=.int .i64 ↑n) | 1=>(∃ q1,v=.slice (some ⟨q1,0,none⟩) n n∧Blk w q1 (madeCells #[.slice none 0 0] n) 238∧W0≤q1) | 2=>(v=.int .i64 ↑n) | 3=>(∃ q2,v=.slice (some ⟨q2,0,none⟩) n n∧Blk w q2 (madeCells #[.int .i64 0] n) 3∧W0≤q2) | 4=>(∃ q1 q2,v=.agg #[.slice (some ⟨q1,0,none⟩) n n,.slice (some ⟨q2,0,none⟩) n n,.int .i64 0,.int .u32 0,.int .i32 0,.int .u32 0,.slice none 0 0]∧(Blk w q1 (madeCells #[.slice none 0 0] n) 238∧W0≤q1)∧(Blk w q2 (madeCells #[.int .i64 0] n) 3∧W0≤q2)) | 5=>(∃ p q1 q2,v=.pointer (some ⟨p,0,none⟩)∧(Blk w q1 (madeCells #[.slice none 0 0] n) 238∧W0≤q1)∧(Blk w q2 (madeCells #[.int .i64 0] n) 3∧W0≤q2)∧Blk w p #[.slice (some ⟨q1,0,none⟩) n n,.slice (some ⟨q2,0,none⟩) n n,.int .i64 0,.int .u32 0,.int .i32 0,.int .u32 0,.slice none 0 0] 240∧W0≤p) | 6=>(∃ p q1 q2,v=.pointer (some ⟨p,0,none⟩)∧(Blk w q1 (madeCells #[.slice none 0 0] n) 238∧W0≤q1)∧(Blk w q2 (madeCells #[.int .i64 0] n) 3∧W0≤q2)∧Blk w p #[.slice (some ⟨q1,0,none⟩) n n,.slice (some ⟨q2,0,none⟩) n n,.int .i64 0,.int .u32 0,.int .i32 0,.int .u32 0,.slice none 0 0] 240∧W0≤p) | 7=>(v=.nilIface) | _=>True) _ (fun i=>if i=6 then .pointer none else if i=7 then .nilIface else undef) (fun u v w a b=>zb a b) ?_ (by kernel_rfl) (zr (Below.refl _ _)) ?_ ?_
 ·
  intro i v w w' h hb
  match i,h with
  | 0,h=>exact h
  | 1,h=>exact (let ⟨q1,e,h1,h2⟩:=h;⟨q1,e,h1.keep hb,h2⟩)
  | 2,h=>exact h
  | 3,h=>exact (let ⟨q1,e,h1,h2⟩:=h;⟨q1,e,h1.keep hb,h2⟩)
  | 4,h=>exact (let ⟨q1,q2,e,⟨h1,h2⟩,h3,h4⟩:=h;⟨q1,q2,e,⟨h1.keep hb,h2⟩,h3.keep hb,h4⟩)
  | 5,h=>exact (let ⟨p,q1,q2,e,⟨h1,h2⟩,⟨h3,h4⟩,h5,h6⟩:=h;⟨p,q1,q2,e,⟨h1.keep hb,h2⟩,⟨h3.keep hb,h4⟩,h5.keep hb,h6⟩)
  | 6,h=>exact (let ⟨p,q1,q2,e,⟨h1,h2⟩,⟨h3,h4⟩,h5,h6⟩:=h;⟨p,q1,q2,e,⟨h1.keep hb,h2⟩,⟨h3.keep hb,h4⟩,h5.keep hb,h6⟩)
  | 7,h=>exact h
  | _+8,h=>exact trivial
 ·
  refine fQ 0 ?_ ?_
  ·
   intro X w hR ψ K HK
   go_simp
   exact HK.out _ _ _ rfl (Below.refl _ _) rfl
  refine fQ 1 ?_ ?_
  ·
   intro X w hR ψ K HK
   have e0:X 0=.int IntKind.i64 ↑n:=(pS ψ 0 .data :)
   have e0:X 0=.int IntKind.i64 ↑n:=(pS ψ 0 .data :)
   have m1:=hmk1.out w
   go_simp
   exact HK.out _ _ _ (by (try simp only [e0,e0])<;>rfl) (za (Below.refl _ _) _) ⟨_,rfl,Blk.new _ _ _,(by have:=hR.size;omega)⟩
  refine fQ 2 ?_ ?_
  ·
   intro X w hR ψ K HK
   go_simp
   exact HK.out _ _ _ rfl (Below.refl _ _) rfl
  refine fQ 3 ?_ ?_
  ·
   intro X w hR ψ K HK
   have e2:X 2=.int IntKind.i64 ↑n:=(pS ψ 2 .data :)
   have e2:X 2=.int IntKind.i64 ↑n:=(pS ψ 2 .data :)
   have m3:=hmk2.out w
   go_simp
   exact HK.out _ _ _ (by (try simp only [e2,e2])<;>rfl) (za (Below.refl _ _) _) ⟨_,rfl,Blk.new _ _ _,(by have:=hR.size;omega)⟩
  refine fQ 4 ?_ ?_
  ·
   intro X w hR ψ K HK
   obtain ⟨q1,e1,hq1,hw1⟩:∃ q1,X 1=Value.slice (some ⟨q1,0,none⟩) n n∧Blk w q1 (madeCells #[Value.slice none 0 0] n) 238∧W0≤q1:=(pS ψ 1 .data :)
   obtain ⟨q3,e3,hq3,hw3⟩:∃ q2,X 3=Value.slice (some ⟨q2,0,none⟩) n n∧Blk w q2 (madeCells #[Value.int .i64 0] n) 3∧W0≤q2:=(pS ψ 3 .data :)
   go_simp
   exact HK.out _ _ _ (by (try simp only [e1,e3])<;>rfl) (Below.refl _ _) ⟨_,_,rfl,⟨hq1,hw1⟩,hq3,hw3⟩
  refine fQ 5 ?_ ?_
  ·
   intro X w hR ψ K HK
   obtain ⟨q1,q2,e4,hp4,hd4⟩:∃ q1 q2,X 4=Value.agg #[Value.slice (some ⟨q1,0,none⟩) n n,Value.slice (some ⟨q2,0,none⟩) n n,Value.int .i64 0,Value.int .u32 0,Value.int .i32 0,Value.int .u32 0,Value.slice none 0 0]∧(Blk w q1 (madeCells #[Value.slice none 0 0] n) 238∧W0≤q1)∧(Blk w q2 (madeCells #[Value.int .i64 0] n) 3∧W0≤q2):=(pS ψ 4 .data :)
   go_simp
   exact HK.out _ _ _ (by (try simp only [e4])<;>rfl) (za (Below.refl _ _) _) ⟨_,_,_,rfl,⟨hp4.1.keep (za (Below.refl _ _) _),hp4.2⟩,⟨hd4.1.keep (za (Below.refl _ _) _),hd4.2⟩,Blk.new _ _ _,(by have:=hR.size;omega)⟩
  refine fQ 6 ?_ ?_
  ·
   intro X w hR ψ K HK
   obtain ⟨p,q1,q2,e5,hp5,hd5,hr5,hg5⟩:∃ p q1 q2,X 5=Value.pointer (some ⟨p,0,none⟩)∧(Blk w q1 (madeCells #[Value.slice none 0 0] n) 238∧W0≤q1)∧(Blk w q2 (madeCells #[Value.int .i64 0] n) 3∧W0≤q2)∧Blk w p #[Value.slice (some ⟨q1,0,none⟩) n n,Value.slice (some ⟨q2,0,none⟩) n n,Value.int .i64 0,Value.int .u32 0,Value.int .i32 0,Value.int .u32 0,Value.slice none 0 0] 240∧W0≤p:=(pS ψ 5 .data :)
   go_simp
   exact HK.out _ _ _ (by (try simp only [e5])<;>rfl) (Below.refl _ _) ⟨_,_,_,rfl,hp5,hd5,hr5,hg5⟩
  refine fQ 7 ?_ ?_
  ·
   intro X w hR ψ K HK
   go_simp
   exact HK.out _ _ _ rfl (Below.refl _ _) rfl
  exact zF.nil
 ·
  intro X1 wE hR hall
  obtain ⟨p,q1,q2,e6,hp,hd,hr,hg⟩:∃ p q1 q2,X1 6=Value.pointer (some ⟨p,0,none⟩)∧(Blk wE q1 (madeCells #[Value.slice none 0 0] n) 238∧W0≤q1)∧(Blk wE q2 (madeCells #[Value.int .i64 0] n) 3∧W0≤q2)∧Blk wE p #[Value.slice (some ⟨q1,0,none⟩) n n,Value.slice (some ⟨q2,0,none⟩) n n,Value.int .i64 0,Value.int .u32 0,Value.int .i32 0,Value.int .u32 0,Value.slice none 0 0] 240∧W0≤p:=hall 6 (by decide)
  have e7:X1 7=.nilIface:=hall 7 (by decide)
  clear hall
  go_wp2_with fail
  go_ret2
  refine ⟨⟨p,q1,q2,fun _=>0,0⟩,?_,⟨hr,by rw [ze3] at hp;exact hp.1,by rw [ze3] at hd;exact hd.1,(fun i l _ hl=>by cases hl),(fun h=>by cases h),(fun i j _ _ hi=>by cases hi),(fun h=>by cases h),h1,h2⟩,by rw [←hW0];exact hg,by rw [←hW0];exact hp.2,by rw [←hW0];exact hd.2,hR⟩
  first | (rw [e6,e7];rfl) | rfl
theorem zim (n:Nat):madeCells #[Value.int .u8 0] n=zM (List.replicate n 0):=by
 rw [ze3]
 unfold zM
 apply Array.ext'
 simp [List.map_const']
theorem zjN:∀ w:World,(Instr.makeSlice 238 (.int .i64 4096) (.int .i64 4096)).run Tryz.prog w=.ok (.slice (some ⟨w.heap.size,0,none⟩) 4096 4096) (w.alloc (.cells (zM noughts) 5)):=fun w=>by
 have h:=run_make_row' (P:=Tryz.prog) 238 5 (.int .u8 0) 1 Tryz.underlying238 Tryz.info5 rfl .i64 .i64 4096 (by decide) (by decide) w
 rw [zim] at h
 exact h
def zd0 (W0 p:Nat) (R:Array Value):Nat→(Nat→Value)→World→Prop:=fun k X w=>match k with
 | 0=>Blk w p R 240
 | 1=>∃ q,Blk w p (R.setIfInBounds 6 (.slice (some ⟨q,0,none⟩) 4096 4096)) 240∧Blk w q (zM noughts) 5∧W0≤q
 | _=>False
theorem zew (W0 p:Nat) (R:Array Value):∀ k X w w',zd0 W0 p R k X w→Below w.heap.size w w'→zd0 W0 p R k X w':=by
 intro k X w w' h hb
 match k,h with
 | 0,h=>exact Blk.keep h hb
 | 1,h=>exact (let ⟨q,h1,h2,h3⟩:=h;⟨q,h1.keep hb,h2.keep hb,h3⟩)
 | _+2,h=>exact h.elim
def znn (w:World) (p:Nat) (R:Array Value) (e:Ending) (w':World):Prop:=e=.returned (.tuple #[])∧∃ q,Blk w' p (R.setIfInBounds 6 (.slice (some ⟨q,0,none⟩) 4096 4096)) 240∧Blk w' q (zM noughts) 5∧w.heap.size≤q∧Kept (fun k=>k=p) w w'
theorem zgw (pl:Addr) (p:Nat) (R:Array Value) (x6:Value) (w:World) (hp:w.cell? pl=some (.pointer (some ⟨p,0,none⟩))) (hpl:pl.block≠p) (hR:Blk w p R 240) (h6:R[6]?=some x6):Calls Tryz.prog 200 #[.pointer (some pl)] w (znn w p R):=by
 have hmk:=qH zjN
 have hpW:=hR.lt
 have h6':=qH h6
 clear h6
 obtain ⟨W0,hW0⟩:=qX w.heap.size
 rw [hW0] at hpW
 have HW0:=qH hW0
 clear hW0
 have hRB:=hR
 clear hR
 go_enter Tryz.func200,Tryz.ntmps200
 go_wp2_with fail
 refine zc (by kernel_rfl) (fun X=>⟨#[.pointer (some pl),X 0,X 1,X 2,X 3],[]⟩) (fun u v=>Kept (fun k=>k=p) u v) (fun i v w=>match i with | 0=>(v=.pointer (some ⟨p,0,none⟩)) | 1=>(∃ q,v=.slice (some ⟨q,0,none⟩) 4096 4096∧Blk w q (zM noughts) 5∧W0≤q) | 2=>(v=.pointer (some ⟨p,0,none⟩)) | 3=>(v=.pointer (some ⟨p,6,none⟩)) | _=>True) (fun i=>([0,0,0,0,1]:List Nat).getD i 0) 1 (zd0 W0 p R) _ (fun _=>undef) (fun u v w a b=>a.trans b) ?_ (by kernel_rfl) (by kernel_rfl) ((Kept.refl _ _).drew) (hRB.drew) ?_ ?_
 ·
  intro i v w w' h hb
  match i,h with
  | 0,h=>exact h
  | 1,h=>exact (let ⟨q,e,h1,h2⟩:=h;⟨q,e,h1.kept hb (by omega),h2⟩)
  | 2,h=>exact h
  | 3,h=>exact h
  | 4,h=>exact trivial
  | _+5,h=>exact trivial
 ·
  refine cQ 0 ?_ ?_
  ·
   intro X w hR ψ χ K HK
   have c0:=hR.cell hp hpl
   go_simp
   exact HK.out _ _ _ rfl (Kept.refl _ _) rfl iD
  refine cQ 1 ?_ ?_
  ·
   intro X w hR ψ χ K HK
   have m1:=hmk.out w
   go_simp
   exact HK.out _ _ _ rfl (Kept.of_below (za (Below.refl _ _) _)) ⟨_,rfl,Blk.new _ _ _,by have:=hR.size;rw [HW0.out] at this;exact this⟩ (fun k _ h=>zew W0 p R _ _ _ _ h (za (Below.refl _ _) _))
  refine cQ 2 ?_ ?_
  ·
   intro X w hR ψ χ K HK
   have e0:X 0=.pointer (some ⟨p,0,none⟩):=(pS ψ 0 .data :)
   go_simp
   exact HK.out _ _ _ (by (try simp only [e0])<;>rfl) (Kept.refl _ _) rfl iD
  refine cQ 3 ?_ ?_
  ·
   intro X w hR ψ χ K HK
   have e2:X 2=.pointer (some ⟨p,0,none⟩):=(pS ψ 2 .data :)
   go_simp
   exact HK.out _ _ _ (by (try simp only [e2])<;>rfl) (Kept.refl _ _) rfl iD
  refine cS 4 0 ?_ ?_
  ·
   intro X w hR ψ χ hst K HK
   have e3:X 3=.pointer (some ⟨p,6,none⟩):=(pS ψ 3 .data :)
   obtain ⟨q1,e1,hq1,hw1⟩:∃ q,X 1=Value.slice (some ⟨q,0,none⟩) 4096 4096∧Blk w q (zM noughts) 5∧W0≤q:=(pS ψ 1 .data :)
   have hst:Blk w p R 240:=hst
   have c6:=hst.cell 6 h6'.out
   have f6:=hst.free 6
   go_simp
   exact HK.out undef _ _ (by (try simp only [e3,e1])<;>rfl) ((Kept.refl (fun k=>k=p) w).set (p:=⟨p,6,none⟩) (fun _=>rfl) _) trivial ⟨q1,hst.set 6 _,hq1.far (p:=⟨p,6,none⟩) (by show q1≠p;omega) _,hw1⟩
  exact zi.nil
 ·
  intro X1 wE hR1 hall hS1
  obtain ⟨q,h1,h2,h3⟩:∃ q,Blk wE p (R.setIfInBounds 6 (.slice (some ⟨q,0,none⟩) 4096 4096)) 240∧Blk wE q (zM noughts) 5∧W0≤q:=hS1
  clear hall
  go_wp2_with fail
  first | go_end0 | (simp only [Exit.inBlock,Exit.then];refine bodyPost_ret (results_none rfl _ _ _) rfl ?_) | refine bodyPost_ret (results_none rfl _ _ _) rfl ?_
  exact ⟨rfl,q,h1,h2,by rw [HW0.out];exact h3,hR1⟩
def zin (R:Array Value) (q:Nat):Array Value:=(((R.setIfInBounds 4 (.int .i32 1)).setIfInBounds 6 (.slice (some ⟨q,0,none⟩) 4096 4096)).setIfInBounds 3 (.int .u32 1)).setIfInBounds 4 (.int .i32 0)
def zou (w:World) (p:Nat) (R:Array Value) (e:Ending) (w':World):Prop:=e=.returned (.tuple #[])∧∃ q,Blk w' p (zin R q) 240∧Blk w' q (zM noughts) 5∧w.heap.size≤q∧Kept (fun k=>k=p) w w'
theorem Blk.drew1 {w:World} {p:Nat} {R:Array Value} {t:TypeId} (h:Blk w p R t):Blk w.drew p R t:=h.keep (Below.drew (Below.refl _ w))
theorem zlG (pl : Addr) (p : Nat) (R : Array Value) (x6 : Value) (w : World) (hp : w.cell? pl = some (.pointer (some ⟨p, 0, none⟩))) (hpl : pl.block ≠ p) (hR : Blk w p R 240) (h3 : R[3]? = some (.int .u32 0)) (h4 : R[4]? = some (.int .i32 0)) (h6 : R[6]? = some x6) :
    Calls Tryz.prog 213 #[.pointer (some ⟨p,3,none⟩),.func (.func 200) #[] #[.pointer (some pl)]] w (zou w p R):=by
  have l4 : 4 < R.size := by
    rcases Nat.lt_or_ge 4 R.size with h | h
    · exact h
    · rw [Array.getElem?_eq_none h] at h4;cases h4
  have c4:=hR.cell 4 h4
  have f4:=hR.free 4
  have hR1:Blk (w.setCell ⟨p,4,none⟩ (.int .i32 1)) p (R.setIfInBounds 4 (.int .i32 1)) 240:=hR.set 4 _
  have h13:(R.setIfInBounds 4 (.int .i32 1))[3]?=some (.int .u32 0):=by simp [h3]
  have h16:(R.setIfInBounds 4 (.int .i32 1))[6]?=some x6:=by simp [h6]
  have hp1:(w.setCell ⟨p,4,none⟩ (.int .i32 1)).cell? pl=some (.pointer (some ⟨p,0,none⟩)):=(World.cell?_setCell_other _ ⟨p,4,none⟩ pl _ (fun h=>hpl (by rw [←h]))).trans hp
  have hl:=run_call_load (P:=Tryz.prog) Tryz.func217 (by kernel_rfl) (by kernel_rfl) (by kernel_rfl) .u32 (by kernel_rfl) (w:=w.setCell ⟨p,4,none⟩ (.int .i32 1)) (a:=⟨p,3,none⟩) (x:=0) (hR1.cell 3 h13)
  have hnot:∀ (x:Bool) (w:World),(Op.unary .not (.bool x)).run Tryz.prog w=.ok (.bool (!x)) w:=fun _ _=>rfl
  go_enter_defers Tryz.func213,Tryz.ntmps213
  go_wp2_with (go_at_call 218;refine (zjM ⟨p,4,none⟩ _ (by go_simp) (by go_simp)).mono ?_;rintro e w' ⟨rfl,rfl⟩)
  go_wp2_with (first | (go_at_call 200;refine (zgw pl p _ x6 _ hp1 hpl hR1 h16).mono ?_;rintro e w2 ⟨rfl,q,hR2,hZ2,hq2,hk2⟩) | (go_at_call 212;go_in))
  go_wp2
  have hq3:w.heap.size≤q:=by simpa using hq2
  have hpq:q≠p:=by have:=hR.lt;omega
  refine leaves_cons (f:=220) (args:=#[.pointer (some ⟨p,3,none⟩),.bool true]) (by simp) (by simp [go_sem]) ?_
  refine (zev ⟨p,3,none⟩ (.int .u32 0) .returning _ (hR2.cell 3 (by simp [h3])) (hR2.free 3)).mono ?_
  rintro e u' w'' ⟨rfl,rfl,rfl⟩
  have hR3:=hR2.drew1.set 3 (.int .u32 1)
  refine leaves_cons (f:=219) (args:=#[.pointer (some ⟨p,4,none⟩)]) (by simp [settle]) (by simp [go_sem]) ?_
  refine (zdZ ⟨p,4,none⟩ _ _ (hR3.cell 4 (by simp [l4])) (hR3.free 4)).mono ?_
  rintro e u' w'' ⟨rfl,rfl,rfl⟩
  have hR4:=hR3.set 4 (.int .i32 0)
  have hZ4:Blk _ q (zM noughts) 5:=(hZ2.drew1.far (p:=⟨p,3,none⟩) hpq (.int .u32 1)).far (p:=⟨p,4,none⟩) hpq (.int .i32 0)
  have hk4:=(((((Kept.refl (fun k=>k=p) w).set (p:=⟨p,4,none⟩) (fun _=>rfl) (.int .i32 1)).trans hk2).drew).set (p:=⟨p,3,none⟩) (fun _=>rfl) (.int .u32 1)).set (p:=⟨p,4,none⟩) (fun _=>rfl) (.int .i32 0)
  simp only [Leaves,settle,results,Tryz.results213]
  exact ⟨.tuple #[],by simp,rfl,q,hR4,hZ4,hq3,hk4⟩
theorem zlH (pl : Addr) (p : Nat) (R : Array Value) (x6 : Value) (w : World) (hp : w.cell? pl = some (.pointer (some ⟨p, 0, none⟩))) (hpl : pl.block ≠ p) (hR : Blk w p R 240) (h3 : R[3]? = some (.int .u32 0)) (h4 : R[4]? = some (.int .i32 0)) (h6 : R[6]? = some x6) :
    Calls Tryz.prog 199 #[.pointer (some ⟨p,3,none⟩),.func (.func 200) #[] #[.pointer (some pl)]] w (zou w p R):=by
  have hl:=run_call_load (P:=Tryz.prog) Tryz.func217 (by kernel_rfl) (by kernel_rfl) (by kernel_rfl) .u32 (by kernel_rfl) (hR.cell 3 h3)
  have hnot:∀ (x:Bool) (w:World),(Op.unary .not (.bool x)).run Tryz.prog w=.ok (.bool (!x)) w:=fun _ _=>rfl
  go_enter Tryz.func199,Tryz.ntmps199
  go_wp2_with (first | (go_at_call 213;refine (zlG pl p R x6 _ hp hpl hR h3 h4 h6).mono ?_;rintro e w' ⟨rfl,hs⟩) | (go_at_call 212;go_in))
  go_end0
  exact ⟨rfl,hs⟩
theorem zno (a : Addr) (fv : Value) (w : World) (h0 : w.cell? a = some (.int .u32 1)) :
    Calls Tryz.prog 199 #[.pointer (some a),fv] w fun e w'=>e=.returned (.tuple #[])∧w'=w:=by
  have hl:=run_call_load (P:=Tryz.prog) Tryz.func217 (by kernel_rfl) (by kernel_rfl) (by kernel_rfl) .u32 (by kernel_rfl) h0
  have hnot:∀ (x:Bool) (w:World),(Op.unary .not (.bool x)).run Tryz.prog w=.ok (.bool (!x)) w:=fun _ _=>rfl
  go_enter Tryz.func199,Tryz.ntmps199
  go_wp2
  go_end0
  exact ⟨rfl,rfl⟩
def zov (w:World) (G:RamG) (M:RamM) (e:Ending) (w':World):Prop:=∃ z,e=.returned (.slice (some ⟨z,0,none⟩) 4096 4096)∧RamAt w' { G with z:=z } { M with done:=true }∧Kept (fun k=>k=G.p) w w'∧((M.done=true∧z=G.z)∨w.heap.size≤z)
theorem Blk.apart {w:World} {a b:Nat} {c d:Array Value} {s t:TypeId} (h:Blk w a c s) (k:Blk w b d t) (hst:s≠t):a≠b:=fun e=>by
 subst e
 have:=h.at_.symm.trans k.at_
 simp only [Option.some.injEq,Obj.cells.injEq] at this
 exact hst this.2.1
theorem RamAt.blanked {w w':World} {G:RamG} {M:RamM} {q:Nat} (h:RamAt w G M) (hd:M.done=false) (hR:Blk w' G.p (zin (ramV G M) q) 240) (hZ:Blk w' q (zM noughts) 5) (hq:w.heap.size≤q) (k:Kept (fun k=>k=G.p) w w'):RamAt w' { G with z:=q } { M with done:=true }:=by
 have e1:=h.pages.apart h.ram (by decide)
 have e2:=h.dirty.apart h.ram (by decide)
 refine ⟨?_,h.pages.kept k e1,h.dirty.kept k e2,fun i l hi hl=>?_,fun _=>hZ,h.sep,fun _ i hi hs e=>?_,h.pos,h.max⟩
 ·
  have:zin (ramV G M) q=ramV { G with z:=q } { M with done:=true }:=by
   simp [zin,ramV]
  rw [←this]
  exact hR
 ·
  obtain ⟨h1,h2⟩:=h.page i l hi hl
  exact ⟨h1.kept k (h1.apart h.ram (by decide)),h2⟩
 ·
  obtain ⟨l,hl⟩:=Option.isSome_iff_exists.1 hs
  have:=(h.page i l hi hl).1.lt
  have e:G.q i=q:=e
  omega
theorem zjO (G:RamG) (M:RamM) (w:World) (h:RamAt w G M):Calls Tryz.prog 159 #[.pointer (some ⟨G.p,0,none⟩)] w (zov w G M):=by
 have hmf:∀ (fn:Fn) (first cap:Array Value) (w:World),(Instr.makeFunc fn first cap).run Tryz.prog w=.ok (.func fn first cap) w:=fun _ _ _ _=>rfl
 have hlt:=h.ram.lt
 have kb:=za (Below.refl w.heap.size w) (.cells #[Value.pointer (some ⟨G.p,0,none⟩)] 122)
 have p0:(w.alloc (.cells #[Value.pointer (some ⟨G.p,0,none⟩)] 122)).cell? ⟨w.heap.size,0,none⟩=some (.pointer (some ⟨G.p,0,none⟩)):=by simp
 have hR1:=h.ram.keep kb
 cases hd:M.done with
 | true =>
  have c3:(w.alloc (.cells #[Value.pointer (some ⟨G.p,0,none⟩)] 122)).cell? ⟨G.p,3,none⟩=some (.int .u32 1):=hR1.cell 3 (by simp [ramV,hd])
  have c6:(w.alloc (.cells #[Value.pointer (some ⟨G.p,0,none⟩)] 122)).cell? ⟨G.p,6,none⟩=some (.slice (some ⟨G.z,0,none⟩) 4096 4096):=hR1.cell 6 (by simp [ramV,hd])
  go_enter Tryz.func159,Tryz.ntmps159
  go_wp2_with (go_at_call 199;refine (zno ⟨G.p,3,none⟩ _ _ c3).mono ?_;rintro e w' ⟨rfl,rfl⟩)
  go_ret
  have hb:=kb
  have hM:({ M with done:=true } : RamM)=M:=by cases M;cases hd;rfl
  refine ⟨G.z,rfl,?_,Kept.of_below hb,.inl ⟨hd,rfl⟩⟩
  rw [hM]
  exact h.keep hb
 | false =>
  have hp1:(⟨w.heap.size,0,none⟩:Addr).block≠G.p:=by show w.heap.size≠G.p;omega
  have r3:(ramV G M)[3]?=some (.int .u32 0):=by simp [ramV,hd]
  have r4:(ramV G M)[4]?=some (.int .i32 0):=rfl
  have r6:(ramV G M)[6]?=some (.slice none 0 0):=by simp [ramV,hd]
  have s6:∀ q,(zin (ramV G M) q)[6]?=some (.slice (some ⟨q,0,none⟩) 4096 4096):=fun q=>by simp [zin,ramV]
  have hD:=qH (zlH ⟨w.heap.size,0,none⟩ G.p (ramV G M) _ _ p0 hp1 hR1 r3 r4 r6)
  go_enter Tryz.func159,Tryz.ntmps159
  go_wp2_with (go_at_call 199;refine (hD.out).mono ?_;rintro e w2 ⟨rfl,q,hR2,hZ2,hq2,hk2⟩;have hpz:=hk2.cell p0 hp1;have c6:=hR2.cell 6 (s6 q))
  go_ret
  have hk:=(Kept.of_below kb).trans hk2
  exact ⟨q,rfl,h.blanked hd hR2 hZ2 (by have:=hq2;have:=kb.size;omega) hk,hk,.inr (by have:=hq2;have:=kb.size;omega)⟩
def AtP (w:World) (G:RamG) (M:RamM) (i:Nat) (e:Ending) (w':World):Prop:=∃ z d g,e=.returned (.slice (some ⟨g,0,none⟩) 4096 4096)∧RamAt w' { G with z:=z } { M with done:=d }∧Blk w' g (zM (M.at_ i)) 5∧Kept (fun k=>k=G.p) w w'∧(d=true→(M.done=true∧z=G.z)∨w.heap.size≤z)
theorem zmU (G:RamG) (M:RamM) (i:Nat) (hi:i<M.n) (w:World) (h:RamAt w G M):Calls Tryz.prog 92 #[.pointer (some ⟨G.p,0,none⟩),.int .i64 (i:Int)] w (AtP w G M i):=by
 have c0:w.cell? ⟨G.p,0,none⟩=some (.slice (some ⟨G.pb,0,none⟩) M.n M.n):=h.ram.cell 0 rfl
 have hB:=zjO G M
 have hi0:(0:Int)≤(i:Int):=by omega
 have hi1:(i:Int)<(M.n:Int):=by omega
 have hm:=h.max
 cases hg:M.pg i with
 | some l =>
  have c1:w.cell? ⟨G.pb,i,none⟩=some (.slice (some ⟨G.q i,0,none⟩) 4096 4096):=by
   rw [h.pages.cell i (zdY G M i hi)]
   simp [zba,hg]
  go_enter Tryz.func92,Tryz.ntmps92
  go_wp2
  go_ret
  have e:({ M with done:=M.done } : RamM)=M:=rfl
  exact ⟨G.z,M.done,G.q i,rfl,h,by rw [show M.at_ i=l by simp [RamM.at_,hg]];exact (h.page i l hi hg).1,Kept.refl _ _,fun hd=>.inl ⟨hd,rfl⟩⟩
 | none =>
  have c1:w.cell? ⟨G.pb,i,none⟩=some (.slice none 0 0):=by
   rw [h.pages.cell i (zdY G M i hi)]
   simp [zba,hg]
  go_enter Tryz.func92,Tryz.ntmps92
  go_wp2_with (go_at_call 159;refine (hB _ h).mono ?_;rintro e w2 ⟨z,rfl,hR2,hk2,hz2⟩)
  go_ret
  exact ⟨z,true,z,rfl,hR2,by rw [show M.at_ i=noughts by simp [RamM.at_,hg]];exact hR2.blank rfl,hk2,fun _=>hz2⟩
end Go.Proofs.YtdffbihilhkkjaaGreatDoor
