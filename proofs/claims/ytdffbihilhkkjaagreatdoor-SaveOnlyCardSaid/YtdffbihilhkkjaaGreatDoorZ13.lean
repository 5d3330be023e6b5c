import Derived.Test.YtdffbihilhkkjaaGreatDoorZ6
import Derived.Test.YtdffbihilhkkjaaGreatDoorZ11
import Derived.Test.YtdffbihilhkkjaaGreatDoorZ12
namespace Go.Proofs.YtdffbihilhkkjaaGreatDoor
open Go.RowKit
set_option linter.unusedVariables false
set_option linter.unusedSimpArgs false
set_option maxRecDepth 100000
set_option maxHeartbeats 8000000
theorem zc2 (A:Option Addr) (n c:Nat) (l:List Nat) (w:World) (hb:Bs w A n c l):Calls Tryz.prog 40 #[.slice A n c] w fun e w'=>∃ g,e=.returned (.pointer (some ⟨g,0,none⟩))∧InAt w' g ⟨l,0⟩∧Below w.heap.size w w'∧w.heap.size≤g:=by
 go_enter Tryz.func40,Tryz.ntmps40
 go_wp2
 go_ret
 exact ⟨_,rfl,⟨A,n,c,.nilIface,Blk.new _ _ _,hb.keep (za (Below.refl _ _) _),ErrN.none⟩,za (Below.refl _ _) _,Nat.le_refl _⟩
theorem znv {l:List Nat} (h:l.length=4) (hs:∀ x∈l,x<256):(Tl.takeN ⟨l,0⟩ 4 4294967295).2=Tl.num l∧Tl.num l<4294967296:=by
 have hlt:=Tl.num_lt l hs
 rw [h] at hlt
 have hlt:Tl.num l<4294967296:=hlt
 refine ⟨?_,hlt⟩
 have e:l.take (4:Int).toNat=l:=List.take_of_length_le (by rw [h];decide)
 unfold Tl.takeN
 simp only [e,h]
 rw [if_neg (by simp),if_neg (by omega),if_neg (by omega),if_neg (by omega)]
theorem inN4 (g:Nat) (l:List Nat) (w:World) (hI:InAt w g ⟨l,0⟩) (h:l.length=4):Calls Tryz.prog 93 #[.pointer (some ⟨g,0,none⟩),.int .i64 4,.int .u64 4294967295] w fun e w'=>e=.returned (.int .u64 ((Tl.num l:Nat):Int))∧Kept (inIn g) w w' :=
 (znl g ⟨l,0⟩ 4 4294967295 w hI (by decide)).mono (by
  rintro e w' ⟨rfl,h1,h2⟩
  rw [(znv h hI.small).1]
  exact ⟨rfl,h2⟩)
structure RamNew (w:World) (G:RamG) (M:RamM):Prop where
 p:w.heap.size≤G.p
 pb:w.heap.size≤G.pb
 db:w.heap.size≤G.db
 q:∀ i,i<M.n→(M.pg i).isSome=true→w.heap.size≤G.q i
theorem RamNew.set {w wr w':World} {G:RamG} {M:RamM} {i:Nat} (h:RamNew w G M) (hi:i<M.n) (hb:Below w.heap.size w wr) (k:Kept (SetS G M i) wr w'):Below w.heap.size w w' :=
 zQ hb k (fun j hj e=>by
  rcases e with e | e | e | ⟨hs,e⟩
  · have:=h.p;omega
  · have:=h.pb;omega
  · have:=h.db;omega
  · have:=h.q i hi hs;omega)
theorem RamNew.put {w wr:World} {G:RamG} {M:RamM} {i q:Nat} {l:List Nat} {s:Int} (h:RamNew w G M) (hb:w.heap.size≤wr.heap.size) (hq:wr.heap.size≤q∨(q=G.q i∧(M.pg i).isSome=true)) (hi:i<M.n):RamNew w (G.put i q) { (M.owned i).put i l with wr:=s }:=by
 refine ⟨h.p,h.pb,h.db,fun j hj hs=>?_⟩
 rcases Nat.decEq j i with hne | rfl
 ·
  have e:(G.put i q).q j=G.q j:=by simp [RamG.put,hne]
  rw [e]
  refine h.q j hj ?_
  simpa [RamM.put,RamM.owned,hne] using hs
 ·
  have e:(G.put j q).q j=q:=by simp [RamG.put]
  rw [e]
  rcases hq with hq | ⟨hq,hs⟩
  · omega
  · rw [hq];exact h.q j hi hs
def zjX (w:World) (e:Ending) (w':World):Prop:=e=.returned (.tuple #[.pointer none,.iface 149 (.int .i64 3)])∧Below w.heap.size w w'
def zoA (w:World) (n:Nat) (pg:Nat→Option (List Nat)) (e:Ending) (w':World):Prop:=∃ G M,e=.returned (.tuple #[.pointer (some ⟨G.p,0,none⟩),.nilIface])∧RamAt w' G M∧M.n=n∧M.pg=pg∧(∀ i,M.dirty i=false)∧RamNew w G M∧Below w.heap.size w w'
def zoB (w:World) (n:Nat) (r:Option (Nat→Option (List Nat))) (e:Ending) (w':World):Prop:=match r with | none=>zjX w e w' | some pg=>zoA w n pg e w'
def zhx:Value→Nat
 | .slice _ n _=>n
 | _=>0
theorem ziu (n:Nat) (h1:1≤n) (h2:n≤16384) (A:Option Addr) (m c k:Nat) (l:List Nat) (w:World) (hb:Bs w A m c l) (hm:m=4+4100*k) (hk:Tl.num (l.take 4)≠k):Calls Tryz.prog 28 #[.int .i64 (n:Int),.slice A m c] w (zjX w):=by
 have hN:=zcF n h1 h2 w
 have hn1:¬ (n:Int)<1:=by omega
 have hn2:¬ (16384:Int)<(n:Int):=by omega
 have hmx:=hb.max
 have hcp:=hb.cap
 obtain ⟨d,hd⟩:∃ d:Nat,m=d+4:=⟨m-4,by omega⟩
 have e1:(m:Int)-4=(d:Int):=by omega
 have e2:¬ (m:Int)<4:=by omega
 have e3:(d:Int).tmod 4100=0:=by
  rw [Int.tmod_eq_emod_of_nonneg (by omega)]
  omega
 have e8:(d:Int).tdiv 4100=(k:Int):=by
  rw [Int.tdiv_eq_ediv_of_nonneg (by omega)]
  omega
 have e9:(d:Int) / 4100=(k:Int):=by omega
 have e7:(d:Int)≤140737488355328:=by omega
 have hu:=zY k (by omega)
 have hb4:=hb.take 4 (by omega)
 have h4:(l.take 4).length=4:=hb4.len
 have h4c:(4:Int)≤(c:Int):=by omega
 have hlt:=(znv h4 hb4.small).2
 obtain ⟨x,hx⟩:=qX (Tl.num (l.take 4))
 rw [hx] at hlt hk
 have Hx:=qH hx
 have ek:((x:Int)==(k:Int))=false:=by simp;omega
 have ek2:((x:Int) != (k:Int))=true:=by simp;omega
 have ek3:¬ ((x:Int)=(k:Int)):=by omega
 have ek4:¬ (x=k):=hk
 have ek5:(x==k)=false:=by simp [hk]
 have Hd:=qH hd
 have Hm:=qH hm
 clear hx hd hm hk
 go_enter Tryz.func28,Tryz.ntmps28
 go_wp2_with (first | (go_at_call 25;refine hN.mono ?_;rintro e w1 ⟨G,rfl,hR,hp,hpb,hdb,hbel⟩) | (go_at_call 40;refine (zc2 A 4 c (l.take 4) _ (hb4.keep hbel)).mono ?_;rintro e w2 ⟨g,rfl,hI,hb2,hg⟩) | (go_at_call 93;refine (inN4 g (l.take 4) _ hI h4).mono ?_;rintro e w3 ⟨rfl,hk3⟩;rw [Hx.out]) | fail)
 go_ret2
 exact ⟨rfl,zQ (zb hbel hb2) hk3 (fun i hi e=>by have:=hbel.size;have e:i=g:=e;omega)⟩
structure InW (w0 w:World) (g:Nat) (s:Tl.In):Prop where
 at_:∃ A n c V,Blk w g #[.slice A n c,V] 256∧Bs w0 A n c s.b∧ErrN V s.e
 bel:Below w0.heap.size w0 w
 ge:w0.heap.size≤g
theorem InW.in_ {w0 w:World} {g:Nat} {s:Tl.In} (h:InW w0 w g s):InAt w g s:=by
 obtain ⟨A,n,c,V,hB,hs,hV⟩:=h.at_
 exact ⟨A,n,c,V,hB,hs.keep h.bel,hV⟩
theorem InW.lt {w0 w:World} {g:Nat} {s:Tl.In} (h:InW w0 w g s):g<w.heap.size:=h.in_.lt
theorem InW.kept {w0 w w1:World} {g:Nat} {s:Tl.In} (h:InW w0 w g s) {S:Nat→Prop} (k:Kept S w w1) (hn:¬ S g) (hS:∀ i,i<w0.heap.size→¬ S i):InW w0 w1 g s:=by
 obtain ⟨A,n,c,V,hB,hs,hV⟩:=h.at_
 exact ⟨⟨A,n,c,V,hB.kept k hn,hs,hV⟩,zQ h.bel k hS,h.ge⟩
theorem InW.keep {w0 w w1:World} {g:Nat} {s:Tl.In} (h:InW w0 w g s) (hb:Below w.heap.size w w1):InW w0 w1 g s:=h.kept (S:=fun _=>False) (Kept.of_below hb) (fun h=>h) (fun _ _ h=>h)
theorem InW.set {w0 w:World} {g p:Nat} {s:Tl.In} {cs:Array Value} {t:TypeId} (h:InW w0 w g s) (hP:Blk w p cs t) (ht:t≠256) (hp:w0.heap.size≤p) (i:Nat) (v:Value):InW w0 (w.setCell ⟨p,i,none⟩ v) g s:=by
 obtain ⟨A,n,c,V,hB,_,_⟩:=h.at_
 have hne:p≠g:=hP.apart hB ht
 exact h.kept ((Kept.refl (fun k=>k=p) w).set (p:=⟨p,i,none⟩) (fun _=>rfl) v) (fun e=>hne e.symm) (fun i hi e=>by have e:i=p:=e;omega)
theorem InW.new (A:Option Addr) (n c:Nat) (l:List Nat) (w0 w:World) (hb:Bs w0 A n c l) (hw:Below w0.heap.size w0 w):Calls Tryz.prog 40 #[.slice A n c] w fun e w'=>∃ g,e=.returned (.pointer (some ⟨g,0,none⟩))∧InW w0 w' g ⟨l,0⟩∧Below w.heap.size w w'∧w.heap.size≤g:=by
 go_enter Tryz.func40,Tryz.ntmps40
 go_wp2
 go_ret
 exact ⟨_,rfl,⟨⟨A,n,c,.nilIface,Blk.new _ _ _,hb,ErrN.none⟩,za hw _,hw.size⟩,za (Below.refl _ _) _,Nat.le_refl _⟩
theorem zc3 {w0 w : World} {g : Nat} {A : Option Addr} {n c : Nat} {V V' : Value} {l : List Nat} {e e' : Nat} (hw : Below w0.heap.size w0 w) (hg : w0.heap.size ≤ g) (hB : Blk w g #[.slice A n c, V] 256) (hs : Bs w0 A n c l) (hV : ErrN V e) (hV' : ErrN V' e') :
    InW w0 (w.setCell ⟨g,1,none⟩ V') g ⟨l,e'⟩∧Kept (inIn g) w (w.setCell ⟨g,1,none⟩ V') :=
  ⟨⟨⟨A,n,c,V',by simpa using hB.set 1 V',hs,hV'⟩,zfv hw hg _,hg⟩,zdM _ _ _ _⟩
theorem zjY {w0 w : World} {g : Nat} {A A' : Option Addr} {n c n' c' : Nat} {V : Value} {l' : List Nat} {e : Nat} (hw : Below w0.heap.size w0 w) (hg : w0.heap.size ≤ g) (hB : Blk w g #[.slice A n c, V] 256) (hV : ErrN V e) (hs' : Bs w0 A' n' c' l') :
    InW w0 (w.setCell ⟨g,0,none⟩ (.slice A' n' c')) g ⟨l',e⟩∧Kept (inIn g) w (w.setCell ⟨g,0,none⟩ (.slice A' n' c')) :=
  ⟨⟨⟨A',n',c',V,by simpa using hB.set 0 (.slice A' n' c'),hs',hV⟩,zfv hw hg _,hg⟩,zdM _ _ _ _⟩
def zlR (w0 w:World) (g:Nat) (s:Tl.In) (x:Nat) (e:Ending) (w':World):Prop :=
 e=.returned (.tuple #[.int .u64 0,.bool false])∧InW w0 w' g ⟨s.b,x⟩∧Kept (inIn g) w w'
theorem zcH (g : Nat) (s : Tl.In) (n : Int) (top ab : Nat) (w0 w : World) (hI : InW w0 w g s) (ht : top < 18446744073709551616) (hab : ab ≠ 0) (hx : z9 s n top ab ≠ 0) :
    Calls Tryz.prog 160 #[.pointer (some ⟨g,0,none⟩),.int .i64 n,.int .u64 top,.iface 149 (.int .i64 ab)] w (zlR w0 w g s (z9 s n top ab)):=by
  obtain ⟨A,m,c,V,hB,hs0,hV⟩:=hI.at_
  have hs:=hs0.keep hI.bel
  have hcap:=hs.cap
  have hln:=hs.len
  have hc0:=hB.cell 0 rfl
  have hc1:=hB.cell 1 rfl
  have hf:=hB.free 1
  rcases s with ⟨l,e⟩
  simp only at hs hs0 hV hln ⊢
  subst hln
  cases hV with
  | num x h0 =>
    have he:Hid (z9 ⟨l,e⟩ n top ab=e):=qH (by unfold z9;simp [h0])
    clear hx
    go_enter Tryz.func160,Tryz.ntmps160
    go_wp2
    go_ret2
    exact ⟨rfl,by rw [he.out];exact hI,Kept.refl _ _⟩
  | none =>
    by_cases h1:n<1
    · have he : Hid (z9 ⟨l, 0⟩ n top ab = 1) := qH (by unfold z9; simp [h1])
      clear hx
      go_enter Tryz.func160,Tryz.ntmps160
      go_wp2
      go_ret2
      have hi:=zc3 hI.bel hI.ge hB hs0 ErrN.none (ErrN.num 1 (by decide))
      exact ⟨rfl,by rw [he.out];exact hi.1,hi.2⟩
    · by_cases h8 : 8 < n
      · have he : Hid (z9 ⟨l, 0⟩ n top ab = 1) := qH (by unfold z9; simp [h8])
        clear hx
        go_enter Tryz.func160,Tryz.ntmps160
        go_wp2
        go_ret2
        have hi:=zc3 hI.bel hI.ge hB hs0 ErrN.none (ErrN.num 1 (by decide))
        exact ⟨rfl,by rw [he.out];exact hi.1,hi.2⟩
      · obtain ⟨k, rfl⟩ : ∃ k : Nat, n = (k : Int) := ⟨n.toNat, by omega⟩
        have h18:¬ ((k:Int)<1∨8<(k:Int)):=by omega
        by_cases hl:l.length<k
        · have he : Hid (z9 ⟨l, 0⟩ k top ab = 12) := qH (by unfold z9; simp only [ne_eq, not_true_eq_false, if_false, h18]; rw [if_pos (by omega)])
          clear hx h18
          have hl':(l.length:Int)<(k:Int):=by omega
          go_enter Tryz.func160,Tryz.ntmps160
          go_wp2
          go_ret2
          have hi:=zc3 hI.bel hI.ge hB hs0 ErrN.none (ErrN.num 12 (by decide))
          exact ⟨rfl,by rw [he.out];exact hi.1,hi.2⟩
        · have he0 : z9 ⟨l, 0⟩ k top ab = if top < Tl.num (l.take k) then ab else 0 := by unfold z9; simp only [ne_eq, not_true_eq_false, if_false, h18]; rw [if_neg (by omega)]; rfl
          have htop : top < Tl.num (l.take k) := by
            by_cases h:top<Tl.num (l.take k)
            · exact h
            · rw [he0,if_neg h] at hx;exact absurd rfl hx
          have he:Hid (z9 ⟨l,0⟩ k top ab=ab):=qH (by rw [he0,if_pos htop])
          clear hx h18 he0
          have hl':¬ (l.length:Int)<(k:Int):=by omega
          have hbt:=hs.take k (by omega)
          have hk8:k≤8:=by omega
          have hkc:(k:Int)≤(c:Int):=by omega
          have hkc':k≤c:=by omega
          have htop':(top:Int)<(Tl.num (l.take k):Int):=by omega
          clear htop
          go_enter Tryz.func160,Tryz.ntmps160
          go_wp2_with (go_at_call 141;refine (zap A k c _ _ hbt hk8).mono ?_;rintro e w1 ⟨rfl,rfl⟩)
          go_ret2
          have hi:=zc3 hI.bel hI.ge hB hs0 ErrN.none (ErrN.num ab hab)
          exact ⟨rfl,by rw [he.out];exact hi.1,hi.2⟩
def zc4 (w0 w:World) (g:Nat) (s:Tl.In) (n:Int) (top:Nat) (e:Ending) (w':World):Prop :=
 e=.returned (.int .u64 ((Tl.takeN s n top).2:Nat))∧InW w0 w' g (Tl.takeN s n top).1∧Kept (inIn g) w w'
theorem zbk (g : Nat) (s : Tl.In) (n : Int) (top : Nat) (w0 w : World) (hI : InW w0 w g s) (ht : top < 18446744073709551616) :
    Calls Tryz.prog 93 #[.pointer (some ⟨g,0,none⟩),.int .i64 n,.int .u64 top] w (zc4 w0 w g s n top):=by
  by_cases hx:z9 s n top 4=0
  · obtain ⟨h0, h1, h8, hl, htop, he⟩ := zho hx
    have he':=qH he
    rcases s with ⟨l,e⟩
    obtain ⟨k,rfl⟩:∃ k:Nat,n=(k:Int):=⟨n.toNat,by omega⟩
    simp only [Int.toNat_natCast] at h0 h1 h8 hl htop he'
    subst h0
    clear hx he
    obtain ⟨A,m,c,V,hB,hs0,hV⟩:=hI.at_
    have hs:=hs0.keep hI.bel
    have hcap:=hs.cap
    have hln:=hs.len
    have hc0:=hB.cell 0 rfl
    have hf:=hB.free 0
    simp only at hs hs0 hV hln
    subst hln
    obtain ⟨A',hA',hB'⟩:=zbD (P:=Tryz.prog) 65 5 .i64 Tryz.underlying65 Tryz.info5 A l.length c k (by omega)
    have hs':=hB' w0 l hs0
    have k1:1≤k:=by omega
    have k8:k≤8:=by omega
    have kl:k≤l.length:=by omega
    go_enter Tryz.func93,Tryz.ntmps93
    go_wp2_with (go_at_call 160;refine (zgj g l k top 4 _ hI.in_ ht k1 k8 kl htop).mono ?_;rintro e w1 ⟨rfl,rfl⟩)
    go_ret
    have hi:=zjY hI.bel hI.ge hB hV hs'
    unfold zc4
    rw [he'.out]
    exact ⟨rfl,hi.1,hi.2⟩
  · have he' := qH (takeN_bad hx)
    go_enter Tryz.func93,Tryz.ntmps93
    go_wp2_with (go_at_call 160;refine (zcH g s n top 4 _ _ hI ht (by decide) hx).mono ?_;rintro e w1 ⟨rfl,hi,hk⟩)
    go_ret
    unfold zc4
    rw [he'.out]
    exact ⟨rfl,hi,hk⟩
def zfI (w0 w:World) (g:Nat) (s:Tl.In) (top:Int) (e:Ending) (w':World):Prop :=
 ∃ A1 n1 c1,e=.returned (.slice A1 n1 c1)∧Own w' w.heap.size 5 A1 n1 c1 (Tl.takeRun s top).2∧InW w0 w' g (Tl.takeRun s top).1∧Kept (inIn g) w w'
theorem ziv (g : Nat) (s : Tl.In) (top : Int) (w0 w : World) (hI : InW w0 w g s) (ht : top ≤ 9223372036854775807) :
    Calls Tryz.prog 202 #[.pointer (some ⟨g,0,none⟩),.int .i64 top] w (zfI w0 w g s top):=by
  obtain ⟨A,m,c,V,hB,hs0,hV⟩:=hI.at_
  have hs:=hs0.keep hI.bel
  have hcap:=hs.cap
  have hmax:=hs.max
  have hln:=hs.len
  have hc0:=hB.cell 0 rfl
  have hc1:=hB.cell 1 rfl
  have hf:=hB.free 1
  rcases s with ⟨l,e⟩
  simp only at hs hs0 hV hln ⊢
  subst hln
  have hmx:=max2 top 0 #[3,3] 3
  cases hV with
  | num x h0 =>
    have he:=qH (zgk (l:=l) (top:=top) h0)
    have hpe:z9 ⟨l,e⟩ 4 (if top<0 then 0 else top).toNat 2=e:=by unfold z9;simp [h0]
    obtain ⟨t,ht',hte⟩:∃ t:Nat,t<18446744073709551616∧(if top<0 then 0 else top)=(t:Int):=⟨(if top<0 then 0 else top).toNat,by split<;>omega,by split<;>omega⟩
    rw [hte] at hmx hpe
    rw [Int.toNat_natCast] at hpe
    have hpe':=qH hpe
    clear hte hpe
    go_enter Tryz.func202,Tryz.ntmps202
    go_wp2_with (go_at_call 160;refine (zcH g ⟨l,e⟩ 4 t 2 _ _ hI ht' (by decide) (by rw [hpe'.out];exact h0)).mono ?_;rintro e w1 ⟨rfl,hi,hk⟩)
    go_ret
    refine ⟨none,0,0,rfl,?_,?_,hk⟩
    · rw [he.out];exact Own.nil _ _ _
    · rw [he.out];rw [hpe'.out] at hi;exact hi
  | none =>
    by_cases hneg:top<0
    · have he := qH (zgl (l := l) hneg)
      rw [if_pos hneg] at hmx
      have hi:=zc3 hI.bel hI.ge hB hs0 ErrN.none (ErrN.num 1 (by decide))
      have hi1:=hi.1
      have hi2:=hi.2
      clear hi
      have hpe':Hid (z9 ⟨l,1⟩ 4 0 2=1):=qH (by unfold z9;simp)
      go_enter Tryz.func202,Tryz.ntmps202
      go_wp2_with (go_at_call 160;refine (zcH g ⟨l,1⟩ 4 0 2 _ _ hi1 (by decide) (by decide) (by rw [hpe'.out];decide)).mono ?_;rintro e w1 ⟨rfl,hi,hk⟩)
      go_ret
      refine ⟨none,0,0,rfl,?_,?_,hi2.trans hk⟩
      · rw [he.out];exact Own.nil _ _ _
      · rw [he.out];rw [hpe'.out] at hi;exact hi
    · obtain ⟨t, rfl⟩ : ∃ t : Nat, top = (t : Int) := ⟨top.toNat, by omega⟩
      rw [if_neg hneg] at hmx
      have ht':t<18446744073709551616:=by omega
      by_cases hx:z9 ⟨l,0⟩ 4 t 2=0
      · obtain ⟨h4, htop, he⟩ := zic hx
        clear hx
        have hsm:Tl.num (l.take 4)<4294967296:=Tl.num_take_lt l hs.small 4
        have hpk:=fun (W:World) (h:InAt W g ⟨l,0⟩)=>zgj g l 4 t 2 W h ht' (by decide) (by decide) h4 htop
        generalize Tl.num (l.take 4)=q at htop he hsm hpk
        have hpk':=qH hpk
        clear hpk
        have h4i:(4:Int)≤(l.length:Int):=by omega
        by_cases hq:l.length-4<q
        · rw [if_pos hq] at he
          have he':=qH he
          clear he
          have hqi:(l.length:Int)-4<(q:Int):=by omega
          clear hq
          have hi:=zc3 hI.bel hI.ge hB hs0 ErrN.none (ErrN.num 12 (by decide))
          have hi1:=hi.1
          have hi2:=hi.2
          clear hi
          go_enter Tryz.func202,Tryz.ntmps202
          go_wp2_with (go_at_call 160;refine (hpk'.out _ hI.in_).mono ?_;rintro e w1 ⟨rfl,rfl⟩)
          go_ret
          refine ⟨none,0,0,rfl,?_,?_,hi2⟩
          · rw [he'.out];exact Own.nil _ _ _
          · rw [he'.out];exact hi1
        · rw [if_neg hq] at he
          have he':=qH he
          clear he
          have hqi:¬ (l.length:Int)-4<(q:Int):=by omega
          have hq4:4+q≤l.length:=by omega
          have hq4i:4+(q:Int)≤(l.length:Int):=by omega
          clear hq
          obtain ⟨A1,hA1,hB1⟩:=zbE (P:=Tryz.prog) 65 5 .i64 .u64 Tryz.underlying65 Tryz.info5 A l.length c 4 (4+q) (by omega) hq4 hcap
          obtain ⟨A2,hA2,hB2⟩:=zbD (P:=Tryz.prog) 65 5 .u64 Tryz.underlying65 Tryz.info5 A l.length c (4+q) hq4
          have hs1:=hB1 w l hs
          have hs2:=hB2 w0 l hs0
          clear hB1 hB2
          have e4:4+q-4=q:=by omega
          rw [List.drop_take] at hs1
          rw [e4] at hs1 hA1
          clear e4
          have c4:((4+q:Nat):Int)=4+(q:Int):=by omega
          rw [c4] at hA1 hA2
          clear c4
          simp only [show ((4:Nat):Int)=4 from rfl] at hA1
          have hf0:=hB.free 0
          go_enter Tryz.func202,Tryz.ntmps202
          go_wp2_with (first | (go_at_call 160;refine (hpk'.out _ hI.in_).mono ?_;rintro e w1 ⟨rfl,rfl⟩) | (go_at_call 129;refine (zbs A1 q _ _ _ hs1).mono ?_;rintro e w1 ⟨A3,c3,rfl,hown3,hb3⟩;have hB3:=hB.keep hb3;have hc30:=hB3.cell 0 rfl;have hf30:=hB3.free 0))
          go_ret
          have hi:=zjY (zb hI.bel hb3) hI.ge hB3 ErrN.none hs2
          refine ⟨A3,q,c3,rfl,?_,?_,?_⟩
          · rw [he'.out]
            exact hown3.kept (zdM _ g 0 _) (fun b hb e=>by have:=(hown3.ge b hb).1;have:=hB.lt;have:b=g:=e;omega)
          · rw [he'.out];exact hi.1
          · exact (Kept.of_below hb3).trans hi.2
      · have he := qH (zgm hx)
        go_enter Tryz.func202,Tryz.ntmps202
        go_wp2_with (go_at_call 160;refine (zcH g ⟨l,0⟩ 4 t 2 _ _ hI ht' (by decide) hx).mono ?_;rintro e w1 ⟨rfl,hi,hk⟩)
        go_ret
        refine ⟨none,0,0,rfl,?_,?_,hk⟩
        · rw [he.out];exact Own.nil _ _ _
        · rw [he.out];exact hi
end Go.Proofs.YtdffbihilhkkjaaGreatDoor
