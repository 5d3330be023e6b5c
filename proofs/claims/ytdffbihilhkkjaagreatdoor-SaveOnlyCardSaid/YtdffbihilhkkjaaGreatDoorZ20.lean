import Derived.Test.YtdffbihilhkkjaaGreatDoorZ16
import Derived.Test.YtdffbihilhkkjaaGreatDoorZ17
import Derived.Test.YtdffbihilhkkjaaGreatDoorZ18
import Derived.Test.YtdffbihilhkkjaaGreatDoorZ19
namespace Go.Proofs.YtdffbihilhkkjaaGreatDoor
open Go.RowKit
set_option linter.unusedVariables false
set_option linter.unusedSimpArgs false
set_option maxRecDepth 100000
set_option maxHeartbeats 8000000
def zbo:List (Nat×Nat):=[So.kT,So.kW]
def zau (w:World) (x:Nat) (r:So.Req×So.Hdr):Prop:=RowE w x 288 3 r.2.A r.2.n r.2.c (r.1.l.flatMap So.segL)∧r.2.n=r.1.l.length
def zbJ (Rs:List (So.Req×So.Hdr)):List Value:=Rs.flatMap fun r=>So.reqL r.1 r.2
def zl2 (s:Tl.In) (cs:Array Value) (A:Option Addr) (n c:Nat):Array Value:=((cs.setIfInBounds 134 (Value.bool (tkN s zbo 0==1))).setIfInBounds 135 (Value.int IntKind.u32 ((tkN s zbo 1:Nat):Int))).setIfInBounds 136 (.slice A n c)
def zoC (w0 w:World) (g p:Nat) (s:Tl.In) (cs:Array Value) (e:Ending) (w':World):Prop :=
 e=.returned (.tuple #[])∧InW w0 w' g (So.tDisk s).1∧(∃ A c Rs,Rs.map (·.1)=(So.tDisk s).2.2.2∧Blk w' p (zl2 s cs A Rs.length c) 93∧RowE w' w.heap.size 287 6 A Rs.length c (zbJ Rs)∧∀ r∈Rs,zau w' w.heap.size r)∧Kept (inP g p) w w'
def rSt (w0:World) (g y:Nat) (sr:Tl.In):Nat→(Nat→Value)→World→Prop:=fun kk X w=>match kk with
 | 0=>InW w0 w g (tkI sr kReq 0)
 | 1=>InW w0 w g (tkI sr kReq 1)
 | 2=>InW w0 w g (tkI sr kReq 2)
 | 3=>InW w0 w g (tkI sr kReq 3)
 | 4=>InW w0 w g (tkI sr kReq 4)
 | 5=>InW w0 w g (tkI sr kReq 5)
 | 6=>InW w0 w g (tkI sr kReq 5)∧∃ q,X 13=Value.pointer (some ⟨q,0,none⟩)∧y≤q∧Blk w q (So.reqL (reqN sr []) ⟨none,0,0⟩).toArray 287
 | _=>False
theorem zbV {w0 w:World} {g y:Nat} {sr:Tl.In} {kk:Nat} {X:Nat→Value} (i:Nat) (v:Value) (hi:i≠13) (h:rSt w0 g y sr kk X w):rSt w0 g y sr kk (upd X i v) w:=by
 match kk,h with
 | 0,h | 1,h | 2,h | 3,h | 4,h | 5,h=>exact h
 | 6,h =>
  obtain ⟨h1,q,e,h2⟩:=h
  exact ⟨h1,q,(zav X v (fun e=>hi e.symm)).trans e,h2⟩
 | _+7,h=>exact h.elim
theorem znE {w0 w w1:World} {g y:Nat} {sr:Tl.In} {kk:Nat} {X:Nat→Value} (v:Value) (hk:kk≠6) (h:rSt w0 g y sr kk X w) (hb:Below w.heap.size w w1):rSt w0 g y sr kk (upd X 13 v) w1:=by
 match kk,hk,h with
 | 0,_,h | 1,_,h | 2,_,h | 3,_,h | 4,_,h | 5,_,h=>exact InW.keep h hb
 | 6,hk,_=>exact absurd rfl hk
 | _+7,_,h=>exact h.elim
theorem zau.kept {w w1:World} {x:Nat} {r:So.Req×So.Hdr} (h:zau w x r) {S:Nat→Prop} (k:Kept S w w1) (hn:∀ b,r.2.A.map (·.block)=some b→¬ S b):zau w1 x r:=⟨h.1.kept k hn,h.2⟩
theorem RowE.apart {w:World} {b1 b2:Nat} {e1 e2:TypeId} {s1 s2:Nat} {A1 A2:Option Addr} {n1 n2 c1 c2:Nat} {x1 x2:List Value} (h:RowE w b1 e1 s1 A1 n1 c1 x1) (k:RowE w b2 e2 s2 A2 n2 c2 x2) (he:e1≠e2):∀ b,A1.map (·.block)=some b→A2.map (·.block)=some b→False:=fun b hb hb2=>by
 rcases k.own.2 with ⟨hv,_⟩ | ⟨g,cap,cur,hv,_,hg,_⟩
 ·
  simp only [Value.slice.injEq] at hv
  rw [hv.1] at hb2
  cases hb2
 ·
  simp only [Value.slice.injEq,true_and] at hv
  rw [hv.1] at hb2
  obtain rfl:g=b:=Option.some.inj hb2
  exact h.far ⟨hg⟩ (fun e=>he e.symm) hb
theorem RowE.lower {w:World} {base base':Nat} {e:TypeId} {sz:Nat} {A:Option Addr} {n c:Nat} {xs:List Value} (h:RowE w base e sz A n c xs) (hb:base'≤base):RowE w base' e sz A n c xs:=by
 refine ⟨⟨h.own.1,?_⟩⟩
 rcases h.own.2 with h2 | ⟨g,cap,cur,he,hbg,hr⟩
 · exact .inl h2
 · exact .inr ⟨g,cap,cur,he,Nat.le_trans hb hbg,hr⟩
theorem ziG (g p:Nat) (s:Tl.In) (hsm:Tl.Small s.b) (cs:Array Value) (hsz:cs.size=160) (w0 w:World) (hI:InW w0 w g s) (hP:Blk w p cs 93) (hp:w0.heap.size≤p) (hq0:cs[136]?=some (.slice none 0 0)):Calls Tryz.prog 114 #[tkV g,Value.pointer (some ⟨p,0,none⟩)] w (zoC w0 w g p s cs):=by
 have hpg:p≠g:=by
  obtain ⟨_,_,_,_,hG,_⟩:=hI.at_
  exact hP.apart hG (by decide)
 go_enter Tryz.func114,Tryz.ntmps114
 go_upto_region 1 with (fail)
 have hX:=Blk.new w #[Value.pointer (some ⟨g,0,none⟩)] 154
 have hI0:=zR hI (.cells #[Value.pointer (some ⟨g,0,none⟩)] 154)
 have hP0:=hP.alloc (.cells #[Value.pointer (some ⟨g,0,none⟩)] 154)
 have hK0:=(Kept.refl (inP g p) w).alloc (.cells #[Value.pointer (some ⟨g,0,none⟩)] 154)
 generalize w.alloc (.cells #[Value.pointer (some ⟨g,0,none⟩)] 154)=W1 at hX hI0 hP0 hK0 ⊢
 have Zcs:=qH hsz
 clear hsz
 have hXn:w.heap.size≠g:=Nat.ne_of_gt hI.lt
 have hXm:w.heap.size≠p:=Nat.ne_of_gt hP.lt
 have hbx:w.heap.size≤W1.heap.size:=hK0.size
 have hw0:w0.heap.size≤w.heap.size:=hI.bel.size
 have hQP:Hid (∀ e w',(e=.returned (.tuple #[])∧InW w0 w' g (So.tDisk s).1∧(∃ A c Rs,Rs.map (·.1)=(So.tDisk s).2.2.2∧Blk w' p (zl2 s cs A Rs.length c) 93∧RowE w' w.heap.size 287 6 A Rs.length c (zbJ Rs)∧∀ r∈Rs,zau w' w.heap.size r)∧Kept (inP g p) w w')→zoC w0 w g p s cs e w'):=qH (fun _ _ h=>h)
 obtain ⟨x,hx⟩:=qX w.heap.size
 rw [hx] at hX hXn hXm hbx hw0 hQP ⊢
 have Hx:=qH hx
 clear hx
 obtain ⟨c1,hc1⟩:=qX ((cs).setIfInBounds (134) (Value.bool (tkN s zbo 0==1)))
 have Zc1:Hid (c1.size=160):=qH (by rw [←hc1];simp [zn,zl,Zcs.out])
 have Hc1:=qH hc1
 clear hc1
 obtain ⟨c2,hc2⟩:=qX ((c1).setIfInBounds (135) (Value.int IntKind.u32 ((tkN s zbo 1:Nat):Int)))
 have Zc2:Hid (c2.size=160):=qH (by rw [←hc2];simp [zn,zl,Zc1.out])
 have Hc2:=qH hc2
 clear hc2
 refine zc (by kernel_rfl) (fun X=>⟨#[tkV g,.pointer (some ⟨p,0,none⟩),.pointer (some ⟨x,0,none⟩),undef,undef,X 0,X 1,X 2,X 3,X 4,X 5,X 6,X 7,X 8,X 10,X 11,X 12,undef,undef,undef,undef,undef,undef,undef,undef,undef,undef,undef,undef,undef,undef,undef,undef,undef,undef,undef,undef,undef,undef,undef,undef,undef,undef,undef,undef,undef,undef,undef,undef,undef,undef,undef,undef,undef,undef,undef,undef,undef,undef,undef,undef,undef,undef,undef,undef],[]⟩) (Kept (inP g p)) (fun i v w=>match i with | 0=>(v=.pointer (some ⟨p,0,none⟩)) | 1=>(v=.pointer (some ⟨p,0,none⟩)) | 2=>(v=tkV g) | 3=>(v=.bool (tkN s zbo 0==1)) | 4=>(v=tkV g) | 5=>(v=.int .u32 ((tkN s zbo 1:Nat):Int)) | 6=>(v=.pointer (some ⟨p,0,none⟩)) | 7=>(v=.pointer (some ⟨p,112,none⟩)) | 8=>(v=.pointer (some ⟨p,134,none⟩)) | 10=>(v=.pointer (some ⟨p,0,none⟩)) | 11=>(v=.pointer (some ⟨p,112,none⟩)) | 12=>(v=.pointer (some ⟨p,135,none⟩)) | _=>True) (fun i=>([0,0,0,1,0,2,0,0,0,3,0,0,0,4]:List Nat).getD i 0) 4 (fun kk _ w=>zaW 93 [((tkI s zbo (0)),cs),((tkI s zbo (1)),cs),((tkI s zbo (2)),cs),((tkI s zbo (2)),c1),((tkI s zbo (2)),c2)] w0 w g p kk) _ (fun _=>undef) (fun u v w a b=>a.trans b) ?_ (by kernel_rfl) (by kernel_rfl) ((Kept.refl _ _).drew) ((zj rfl ⟨hI0.keep (zr (Below.refl _ _)),hP0.keep (zr (Below.refl _ _))⟩)) ?_ ?_
 ·
  intro i v w w' h hb
  match i,h with
  | 0,h=>exact h
  | 1,h=>exact h
  | 2,h=>exact h
  | 3,h=>exact h
  | 4,h=>exact h
  | 5,h=>exact h
  | 6,h=>exact h
  | 7,h=>exact h
  | 8,h=>exact h
  | 10,h=>exact h
  | 11,h=>exact h
  | 12,h=>exact h
  | 9,h=>exact trivial
  | 13,h=>exact trivial
  | _+14,h=>exact trivial
 ·
  refine cQ 0 ?_ ?_
  ·
   intro X w hR ψ χ K HK
   go_simp
   exact HK.out _ _ _ rfl (Kept.refl _ _) rfl iD
  refine cQ 1 ?_ ?_
  ·
   intro X w hR ψ χ K HK
   go_simp
   exact HK.out _ _ _ rfl (Kept.refl _ _) rfl iD
  refine cQ 2 ?_ ?_
  ·
   intro X w hR ψ χ K HK
   have c2:=(hX.kept hR (fun e=>e.elim hXn hXm)).cell 0 rfl
   go_simp
   exact HK.out _ _ _ rfl (Kept.refl _ _) rfl iD
  refine cS 3 0 ?_ ?_
  ·
   intro X w hR ψ χ hst K HK
   have e2:X 2=tkV g:=(pR ψ 2 .data 0 :)
   go_simp
   go_at_call 167
   refine (zbS (0) (show InW w0 _ g (tkI s zbo (0))∧Blk _ p (cs) 93 from zg hst rfl).1).mono ?_
   rintro e w2 ⟨rfl,h1,h2⟩
   go_simp
   exact HK.out _ _ _ (by (try simp only [e2])<;>rfl) h2.inP rfl (zj rfl ⟨h1,(show InW w0 _ g (tkI s zbo (0))∧Blk _ p (cs) 93 from zg hst rfl).2.kept h2 hpg⟩)
  refine cQ 4 ?_ ?_
  ·
   intro X w hR ψ χ K HK
   have c4:=(hX.kept hR (fun e=>e.elim hXn hXm)).cell 0 rfl
   go_simp
   exact HK.out _ _ _ rfl (Kept.refl _ _) rfl iD
  refine cS 5 1 ?_ ?_
  ·
   intro X w hR ψ χ hst K HK
   have hst:InW w0 w g (tkI s zbo (1))∧Blk w p (cs) 93:=zg hst rfl
   have e4:X 4=tkV g:=(pR ψ 4 .data 0 :)
   go_simp
   go_at_call 104
   refine (zaF (1) hst.1).mono ?_
   rintro e w2 ⟨rfl,h1,h2⟩
   go_simp
   exact HK.out _ _ _ (by (try simp only [e4])<;>rfl) h2.inP rfl (zj rfl ⟨h1,hst.2.kept h2 hpg⟩)
  refine cQ 6 ?_ ?_
  ·
   intro X w hR ψ χ K HK
   have e0:X 0=.pointer (some ⟨p,0,none⟩):=(pR ψ 0 .data 0 :)
   go_simp
   exact HK.out _ _ _ (by (try simp only [e0])<;>rfl) (Kept.refl _ _) rfl iD
  refine cQ 7 ?_ ?_
  ·
   intro X w hR ψ χ K HK
   have e6:X 6=.pointer (some ⟨p,0,none⟩):=(pR ψ 6 .data 0 :)
   go_simp
   exact HK.out _ _ _ (by (try simp only [e6])<;>rfl) (Kept.refl _ _) rfl iD
  refine cQ 8 ?_ ?_
  ·
   intro X w hR ψ χ K HK
   have e7:X 7=.pointer (some ⟨p,112,none⟩):=(pR ψ 7 .data 0 :)
   go_simp
   exact HK.out _ _ _ (by (try simp only [e7])<;>rfl) (Kept.refl _ _) rfl iD
  refine cS 9 2 ?_ ?_
  ·
   intro X w hR ψ χ hst K HK
   have hst:InW w0 w g (tkI s zbo (2))∧Blk w p (cs) 93:=zg hst rfl
   have e8:X 8=.pointer (some ⟨p,134,none⟩):=(pR ψ 8 .data 0 :)
   have e3:X 3=.bool (tkN s zbo 0==1):=(pR ψ 3 .data 1 :)
   have hf9:=hst.2.free (134)
   obtain ⟨_,hc9⟩:=hst.2.some (134) (by rw [Zcs.out];omega)
   go_simp
   exact HK.out undef _ _ (by (try simp only [e8,e3])<;>rfl) (zV _ _) trivial (zj rfl ⟨(zP hst.1 hst.2 (by decide) hp _ _).1,zt (zP hst.1 hst.2 (by decide) hp _ _).2 Hc1.out⟩)
  refine cQ 10 ?_ ?_
  ·
   intro X w hR ψ χ K HK
   have e1:X 1=.pointer (some ⟨p,0,none⟩):=(pR ψ 1 .data 0 :)
   go_simp
   exact HK.out _ _ _ (by (try simp only [e1])<;>rfl) (Kept.refl _ _) rfl iD
  refine cQ 11 ?_ ?_
  ·
   intro X w hR ψ χ K HK
   have e10:X 10=.pointer (some ⟨p,0,none⟩):=(pR ψ 10 .data 0 :)
   go_simp
   exact HK.out _ _ _ (by (try simp only [e10])<;>rfl) (Kept.refl _ _) rfl iD
  refine cQ 12 ?_ ?_
  ·
   intro X w hR ψ χ K HK
   have e11:X 11=.pointer (some ⟨p,112,none⟩):=(pR ψ 11 .data 0 :)
   go_simp
   exact HK.out _ _ _ (by (try simp only [e11])<;>rfl) (Kept.refl _ _) rfl iD
  refine cS 13 3 ?_ ?_
  ·
   intro X w hR ψ χ hst K HK
   have hst:InW w0 w g (tkI s zbo (2))∧Blk w p (c1) 93:=zg hst rfl
   have e12:X 12=.pointer (some ⟨p,135,none⟩):=(pR ψ 12 .data 0 :)
   have e5:X 5=.int IntKind.u32 ((tkN s zbo 1:Nat):Int):=(pR ψ 5 .data 1 :)
   have hf13:=hst.2.free (135)
   obtain ⟨_,hc13⟩:=hst.2.some (135) (by rw [Zc1.out];omega)
   go_simp
   exact HK.out undef _ _ (by (try simp only [e12,e5])<;>rfl) (zV _ _) trivial (zj rfl ⟨(zP hst.1 hst.2 (by decide) hp _ _).1,zt (zP hst.1 hst.2 (by decide) hp _ _).2 Hc2.out⟩)
  exact zi.nil
 ·
  intro X1 wE1 hR1 hall1 hS1
  have hS1:InW w0 wE1 g (tkI s zbo (2))∧Blk wE1 p (c2) 93:=zg hS1 rfl
  have hI1:=hS1.1
  have hP1:=hS1.2
  have hX1:=hX.kept hR1 (fun e=>e.elim hXn hXm)
  clear hall1 hS1
  obtain ⟨i0,hi0⟩:=qX (tkI s zbo 2)
  have hsm0:Tl.Small i0.b:=by rw [←hi0];exact zaQ s hsm zbo 2
  rw [hi0] at hI1
  have hle8:(Tl.takeN i0 1 8).2≤8:=za0 i0 1 8
  have hN:=zbk g i0 1 8 w0 wE1 hI1 (by decide)
  unfold zc4 at hN
  obtain ⟨i1,hi1⟩:=qX ((Tl.takeN i0 1 8).1)
  obtain ⟨n,hn⟩:=qX ((Tl.takeN i0 1 8).2)
  have hsm1:Tl.Small i1.b:=by rw [←hi1];exact zbc hsm0
  rw [hi1,hn] at hN
  rw [hn] at hle8
  have htd:(So.tDisk s).1=(So.many So.tReq n i1).1∧(So.tDisk s).2.2.2=(So.many So.tReq n i1).2:=by
   have e:(Tl.takes s [So.kT,So.kW]).1=i0:=hi0
   unfold So.tDisk
   simp only [e,hi1,hn,and_self]
  have HT:=qH htd
  have HN:=qH hN
  have Hi0:=qH hi0
  have hb1:x≤wE1.heap.size:=Nat.le_trans hbx hR1.size
  have hK1:=hK0.trans hR1
  have hqC:c2[136]?=some (.slice none 0 0):=by rw [←Hc2.out,←Hc1.out];simp [hq0]
  clear hi0 hi1 hn hN htd hI0 hP0 hX hK0 hR1
  have hx0:=hX1.cell 0 rfl
  go_wp2_with (first | (go_at_call 93;refine (HN.out).mono ?_;rintro e w2 ⟨rfl,h1,h2⟩) | fail)
  have hP2:=hP1.kept h2 hpg
  have hX2:=hX1.kept h2 hXn
  have hK2:=hK1.trans h2.inP
  have hb2:x≤w2.heap.size:=Nat.le_trans hb1 h2.size
  have hcc:c2.setIfInBounds 136 (.slice none 0 0)=c2:=by
   apply Array.ext_getElem?
   intro j
   by_cases hj:j=136
   ·
    subst hj
    rw [Array.getElem?_setIfInBounds_self_of_lt (by rw [Zc2.out];decide),hqC]
   · rw [Array.getElem?_setIfInBounds_ne (fun e=>hj e.symm)]
  have Hcc:=qH hcc
  clear hI1 hP1 hX1 hK1 hx0 hcc hqC h2
  generalize w2=W2 at h1 hP2 hX2 hK2 hb2 ⊢
  go_loopw [4,20,37,38] (fun _ i _ _ wr=>∃ k:Nat,k≤n∧i=.int .u64 k∧InW w0 wr g (So.many So.tReq k i1).1∧(∃ A c Rs,Rs.length=k∧Rs.map (·.1)=(So.many So.tReq k i1).2∧Blk wr p (c2.setIfInBounds 136 (.slice A k c)) 93∧RowE wr x 287 6 A k c (zbJ Rs)∧∀ r∈Rs,zau wr x r)∧Kept (inP g p) w wr∧Blk wr x #[Value.pointer (some ⟨g,0,none⟩)] 154∧x≤wr.heap.size) (fun _ i _ _ _=>n-(intOf i).toNat)
  case atStart=>exact ⟨0,Nat.zero_le _,rfl,h1,⟨none,0,[],rfl,rfl,by rw [Hcc.out];exact hP2,RowE.nil _ _ _ _,fun r hr=>by cases hr⟩,hK2,hX2,hb2⟩
  case round =>
   obtain ⟨k,hk,rfl,hIr,⟨A0,c0,Rs,hRl,hRm,hPr,hRow,hSeg⟩,hKr,hXr,hbr⟩:=hrel
   by_cases hlt:k<n
   ·
    have hkn:(k:Int)<(n:Int):=by omega
    have hsn:=zcL So.tReq k i1
    rw [zkd] at hsn
    obtain ⟨sr,hsr⟩:=qX ((So.many So.tReq k i1).1)
    rw [hsr] at hsn hIr
    have hsmr:Tl.Small sr.b:=by rw [←hsr];exact zbv So.tReq (fun i h=>by rw [zkd];exact zbv So.tSeg (fun i h=>by rw [zgP];exact zaQ i h kSeg 2) _ _ (zbc (zaQ i h kReq 5))) k i1 hsm1
    have hIr:InW w0 wr g (tkI sr kReq 0):=hIr
    obtain ⟨y,hy⟩:=qX wr.heap.size
    have hxy:x<y:=by rw [←hy];exact hXr.lt
    have hgy:g<y:=by rw [←hy];exact hIr.lt
    have hpy:p<y:=by rw [←hy];exact hPr.lt
    have hyw:y≤wr.heap.size:=by omega
    have hw0y:w0.heap.size≤y:=by omega
    have HY:=qH hy
    have Hsn:=qH hsn
    have hxg:=hXn
    obtain ⟨_,_,_,_,hGr,_⟩:=hIr.at_
    clear hsn hsr hy hlt
    go_wp2_with fail
    refine zc (by kernel_rfl) (fun X=>⟨#[tkV g,.pointer (some ⟨p,0,none⟩),.pointer (some ⟨x,0,none⟩),undef,X 13,X1 0,X1 1,X1 2,X1 3,X1 4,X1 5,X1 6,X1 7,X1 8,X1 10,X1 11,X1 12,.pointer (some ⟨x,0,none⟩),.pointer (some ⟨g,0,none⟩),.int .u64 ↑n,.int .u64 ↑k,.bool true,X 0,X 1,X 2,X 3,X 4,X 5,X 6,X 7,X 8,X 9,X 10,X 11,X 12,u35,u36,u37,u38,u39,u40,u41,u42,u43,u44,u45,u46,u47,u48,u49,u50,u51,u52,u53,u54,u55,u56,u57,u58,u59,u60,u61,u62,u63,u64],[]⟩) (KeptT (fun b=>b=g∨y≤b) 287 6) (fun i v w=>match i with | 0=>(v=tkV g) | 1=>(v=.int .u32 ((tkN sr kReq 0:Nat):Int)) | 2=>(v=tkV g) | 3=>(v=.int .u64 ((tkN sr kReq 1:Nat):Int)) | 4=>(v=.int .i64 ((tkN sr kReq 1:Nat):Int)) | 5=>(v=tkV g) | 6=>(v=.bool (tkN sr kReq 2==1)) | 7=>(v=tkV g) | 8=>(v=.int .u32 ((tkN sr kReq 3:Nat):Int)) | 9=>(v=tkV g) | 10=>(v=.int .u32 ((tkN sr kReq 4:Nat):Int)) | 11=>(v=.int .i64 ((tkN sr kReq 4:Nat):Int)) | 12=>(v=.agg (So.reqL (reqN sr []) ⟨none,0,0⟩).toArray) | 13=>(∃ q,v=.pointer (some ⟨q,0,none⟩)∧y≤q∧∃ cs,Blk w q cs 287∧cs.size=6) | _=>True) (fun i=>([0,1,0,2,0,0,3,0,4,0,5,0,0,0,6]:List Nat).getD i 0) 6 (rSt w0 g y sr) _ (fun i=>if i=0 then u22 else if i=1 then u23 else if i=2 then u24 else if i=3 then u25 else if i=4 then u26 else if i=5 then u27 else if i=6 then u28 else if i=7 then u29 else if i=8 then u30 else if i=9 then u31 else if i=10 then u32 else if i=11 then u33 else if i=12 then u34 else if i=13 then u4 else undef) (fun u v w a b=>a.trans b) ?_ (by kernel_rfl) (by kernel_rfl) ((KeptT.below (zr (Below.refl _ _)))) ((show InW w0 _ g (tkI sr kReq 0) from hIr.keep (zr (Below.refl _ _)))) ?_ ?_
    ·
     intro i v w w' h hb
     match i,h with
     | 0,h=>exact h
     | 1,h=>exact h
     | 2,h=>exact h
     | 3,h=>exact h
     | 4,h=>exact h
     | 5,h=>exact h
     | 6,h=>exact h
     | 7,h=>exact h
     | 8,h=>exact h
     | 9,h=>exact h
     | 10,h=>exact h
     | 11,h=>exact h
     | 12,h=>exact h
     | 13,h=>exact (let ⟨q,e,h1,cs,h2,h3⟩:=h;let ⟨cs',h4,h5⟩:=hb.row q cs h2 h3;⟨q,e,h1,cs',h4,h5⟩)
     | 14,h=>exact trivial
     | _+15,h=>exact trivial
    ·
     refine cQ 0 ?_ ?_
     ·
      intro X w hR ψ χ K HK
      have c0:=(hXr.kept hR.kept (fun e=>e.elim hXn (fun e=>by omega))).cell 0 rfl
      go_simp
      exact HK.out _ _ _ rfl ((KeptT.below (Below.refl _ _))) rfl (fun kk _ h=>zbV 0 _ (by decide) h)
     refine cS 1 0 ?_ ?_
     ·
      intro X w hR ψ χ hst K HK
      have e0:X 0=tkV g:=(pR ψ 0 .data 0 :)
      have hst:InW w0 w g (tkI sr kReq 0):=hst
      go_simp
      go_at_call 104
      refine (zaF 0 hst).mono ?_
      rintro e w2 ⟨rfl,h1,h2⟩
      go_simp
      exact HK.out _ _ _ (by (try simp only [e0])<;>rfl) (by obtain ⟨_,_,_,_,hG,_⟩:=hst.at_;exact KeptT.in_ hG (by decide) (.inl rfl) h2) rfl h1
     refine cQ 2 ?_ ?_
     ·
      intro X w hR ψ χ K HK
      have c2:=(hXr.kept hR.kept (fun e=>e.elim hXn (fun e=>by omega))).cell 0 rfl
      go_simp
      exact HK.out _ _ _ rfl ((KeptT.below (Below.refl _ _))) rfl (fun kk _ h=>zbV 2 _ (by decide) h)
     refine cS 3 1 ?_ ?_
     ·
      intro X w hR ψ χ hst K HK
      skip
      have e2:X 2=tkV g:=(pR ψ 2 .data 0 :)
      have hst:InW w0 w g (tkI sr kReq 1):=hst
      go_simp
      go_at_call 105
      refine (ze5 1 hst).mono ?_
      rintro e w2 ⟨rfl,h1,h2⟩
      go_simp
      exact HK.out _ _ _ (by (try simp only [e2])<;>rfl) (by obtain ⟨_,_,_,_,hG,_⟩:=hst.at_;exact KeptT.in_ hG (by decide) (.inl rfl) h2) rfl h1
     refine cQ 4 ?_ ?_
     ·
      intro X w hR ψ χ K HK
      have e3:X 3=.int IntKind.u64 ((tkN sr kReq 1:Nat):Int):=(pR ψ 3 .data 0 :)
      have q4:=zcI sr hsmr kReq 1 _ rfl
      have u4:IntKind.i64.wrap ((tkN sr kReq 1:Nat):Int)=((tkN sr kReq 1:Nat):Int):=by rw [IntKind.wrap_i64];simp only [So.kB,So.kW,So.kH,So.kD,So.p1,So.p2,So.p4,So.p8] at q4;omega
      go_simp
      exact HK.out _ _ _ (by (try simp only [e3])<;>rfl) ((KeptT.below (Below.refl _ _))) rfl (fun kk _ h=>zbV 4 _ (by decide) h)
     refine cQ 5 ?_ ?_
     ·
      intro X w hR ψ χ K HK
      have c5:=(hXr.kept hR.kept (fun e=>e.elim hXn (fun e=>by omega))).cell 0 rfl
      go_simp
      exact HK.out _ _ _ rfl ((KeptT.below (Below.refl _ _))) rfl (fun kk _ h=>zbV 5 _ (by decide) h)
     refine cS 6 2 ?_ ?_
     ·
      intro X w hR ψ χ hst K HK
      skip
      have e5:X 5=tkV g:=(pR ψ 5 .data 0 :)
      have hst:InW w0 w g (tkI sr kReq 2):=hst
      go_simp
      go_at_call 167
      refine (zbS 2 hst).mono ?_
      rintro e w2 ⟨rfl,h1,h2⟩
      go_simp
      exact HK.out _ _ _ (by (try simp only [e5])<;>rfl) (by obtain ⟨_,_,_,_,hG,_⟩:=hst.at_;exact KeptT.in_ hG (by decide) (.inl rfl) h2) rfl h1
     refine cQ 7 ?_ ?_
     ·
      intro X w hR ψ χ K HK
      have c7:=(hXr.kept hR.kept (fun e=>e.elim hXn (fun e=>by omega))).cell 0 rfl
      go_simp
      exact HK.out _ _ _ rfl ((KeptT.below (Below.refl _ _))) rfl (fun kk _ h=>zbV 7 _ (by decide) h)
     refine cS 8 3 ?_ ?_
     ·
      intro X w hR ψ χ hst K HK
      skip
      have e7:X 7=tkV g:=(pR ψ 7 .data 0 :)
      have hst:InW w0 w g (tkI sr kReq 3):=hst
      go_simp
      go_at_call 104
      refine (zaF 3 hst).mono ?_
      rintro e w2 ⟨rfl,h1,h2⟩
      go_simp
      exact HK.out _ _ _ (by (try simp only [e7])<;>rfl) (by obtain ⟨_,_,_,_,hG,_⟩:=hst.at_;exact KeptT.in_ hG (by decide) (.inl rfl) h2) rfl h1
     refine cQ 9 ?_ ?_
     ·
      intro X w hR ψ χ K HK
      have c9:=(hXr.kept hR.kept (fun e=>e.elim hXn (fun e=>by omega))).cell 0 rfl
      go_simp
      exact HK.out _ _ _ rfl ((KeptT.below (Below.refl _ _))) rfl (fun kk _ h=>zbV 9 _ (by decide) h)
     refine cS 10 4 ?_ ?_
     ·
      intro X w hR ψ χ hst K HK
      skip
      have e9:X 9=tkV g:=(pR ψ 9 .data 0 :)
      have hst:InW w0 w g (tkI sr kReq 4):=hst
      go_simp
      go_at_call 104
      refine (zaF 4 hst).mono ?_
      rintro e w2 ⟨rfl,h1,h2⟩
      go_simp
      exact HK.out _ _ _ (by (try simp only [e9])<;>rfl) (by obtain ⟨_,_,_,_,hG,_⟩:=hst.at_;exact KeptT.in_ hG (by decide) (.inl rfl) h2) rfl h1
     refine cQ 11 ?_ ?_
     ·
      intro X w hR ψ χ K HK
      have e10:X 10=.int IntKind.u32 ((tkN sr kReq 4:Nat):Int):=(pR ψ 10 .data 0 :)
      have q11:=zcI sr hsmr kReq 4 _ rfl
      have u11:IntKind.i64.wrap ((tkN sr kReq 4:Nat):Int)=((tkN sr kReq 4:Nat):Int):=by rw [IntKind.wrap_i64];simp only [So.kB,So.kW,So.kH,So.kD,So.p1,So.p2,So.p4,So.p8] at q11;omega
      go_simp
      exact HK.out _ _ _ (by (try simp only [e10])<;>rfl) ((KeptT.below (Below.refl _ _))) rfl (fun kk _ h=>zbV 11 _ (by decide) h)
     refine cQ 12 ?_ ?_
     ·
      intro X w hR ψ χ K HK
      have e1:X 1=.int IntKind.u32 ((tkN sr kReq 0:Nat):Int):=(pR ψ 1 .data 0 :)
      have e4:X 4=.int IntKind.i64 ((tkN sr kReq 1:Nat):Int):=(pR ψ 4 .data 1 :)
      have e6:X 6=.bool (tkN sr kReq 2==1):=(pR ψ 6 .data 2 :)
      have e8:X 8=.int IntKind.u32 ((tkN sr kReq 3:Nat):Int):=(pR ψ 8 .data 3 :)
      have e11:X 11=.int IntKind.i64 ((tkN sr kReq 4:Nat):Int):=(pR ψ 11 .data 4 :)
      go_simp
      exact HK.out _ _ _ (by (try simp only [e1,e4,e6,e8,e11])<;>rfl) ((KeptT.below (Below.refl _ _))) rfl (fun kk _ h=>zbV 12 _ (by decide) h)
     refine cQ 13 ?_ ?_
     ·
      intro X w hR ψ χ K HK
      go_simp
      exact HK.out _ _ _ rfl (KeptT.below (za (Below.refl _ _) _)) ⟨_,rfl,Nat.le_trans hyw hR.kept.size,_,Blk.new _ _ _,rfl⟩ (fun kk hne h=>znE _ (fun e=>hne 14 _ rfl (by rw [e];rfl) (by rw [e];decide) ⟨13,.data⟩ (Array.mem_of_getElem? (i:=0) rfl) (by kernel_rfl) rfl) h (za (Below.refl _ _) _))
     refine cS 14 5 ?_ ?_
     ·
      intro X w hR ψ χ hst K HK
      skip
      obtain ⟨q13,e13,hy13,cs13,hq13,hz13⟩:∃ q,X 13=Value.pointer (some ⟨q,0,none⟩)∧y≤q∧∃ cs,Blk w q cs 287∧cs.size=6:=(pR ψ 13 .data 0 :)
      have e12:X 12=.agg (So.reqL (reqN sr []) ⟨none,0,0⟩).toArray:=(pR ψ 12 .data 1 :)
      have hst:InW w0 w g (tkI sr kReq 5):=hst
      rw [if_pos (zo rfl)]
      refine wp_store_mid 287 (.tmp 4) (.tmp 34) rfl q13 0 _ (show X 13=_ from e13) (show X 12=_ from e12) (hq13.there 0 6 (by rw [hz13];decide)) rfl (all_oneCell_toArray (zkc _ _)) ?_
      have hqg:q13≠g:=by omega
      exact HK.out undef _ _ (by (try simp only [e13,e12])<;>rfl) (KeptT.cells hq13 (.inr hy13) _ _) trivial ⟨hst.kept (Kept.setCells (S:=fun b=>b=q13) rfl _ 0 w (Kept.refl _ _)) (fun e=>hqg e.symm) (fun i hi e=>by have e:i=q13:=e;omega),q13,(zav X undef (by decide)).trans e13,hy13,zt (hq13.setMid _ 0) (by rw [zS _ 0 _ (by rw [hz13];rfl)];rfl)⟩
     exact zi.nil
    ·
     intro X4 wE4 hR4 hall4 hS4
     obtain ⟨hI4,q,eq4,hyq,hQ4⟩:InW w0 wE4 g (tkI sr kReq 5)∧∃ q,X4 13=Value.pointer (some ⟨q,0,none⟩)∧y≤q∧Blk wE4 q (So.reqL (reqN sr []) ⟨none,0,0⟩).toArray 287:=hS4
     clear hall4
     have hk4:Kept (fun b=>b=g) wr wE4:=hR4.kept.mono (fun i hi e=>e.elim id (fun e=>by have:=HY.out;omega))
     have hqg:q≠g:=by omega
     have hqp:q≠p:=by omega
     have hxq:x≠q:=by omega
     have hw0q:w0.heap.size≤q:=by omega
     have hRb:∀ b,A0.map (·.block)=some b→b<y∧b≠g∧b≠p∧x≤b∧b≠x:=fun b hb=>⟨by have:=(hRow.ge b hb).2;have:=HY.out;omega,fun e=>hRow.far hGr (by decide) (e ▸ hb),fun e=>hRow.far hPr (by decide) (e ▸ hb),(hRow.ge b hb).1,fun e=>hRow.far hXr (by decide) (e ▸ hb)⟩
     have HRb:=qH hRb
     have hP4:=hPr.kept hk4 hpg
     have hRow4:=hRow.kept hk4 (fun b hb e=>(hRb b hb).2.1 e)
     have hX4:=hXr.kept hk4 hXn
     have hSeg4:∀ r∈Rs,zau wE4 x r:=fun r hr=>(hSeg r hr).kept hk4 (fun b hb e=>(hSeg r hr).1.far hGr (by decide) (e ▸ hb))
     have hK4:=hKr.trans (hk4.mono (fun i _ e=>.inl e))
     have hy4:y≤wE4.heap.size:=by have:=hQ4.lt;omega
     clear hRb hIr hPr hRow hXr hSeg hKr hR4 hk4 hbr hGr hyw
     have hle256:(Tl.takeN (tkI sr kReq 5) 2 256).2≤256:=za0 _ 2 256
     have hN5:=zbk g (tkI sr kReq 5) 2 256 w0 wE4 hI4 (by decide)
     unfold zc4 at hN5
     obtain ⟨i2,hi2⟩:=qX ((Tl.takeN (tkI sr kReq 5) 2 256).1)
     obtain ⟨m,hm⟩:=qX ((Tl.takeN (tkI sr kReq 5) 2 256).2)
     have hsm2:Tl.Small i2.b:=by rw [←hi2];exact zbc (zaQ sr hsmr kReq 5)
     rw [hi2,hm] at hN5
     rw [hm] at hle256
     have hsn2:(So.many So.tReq (k+1) i1).1=(So.many So.tSeg m i2).1∧(So.many So.tReq (k+1) i1).2=(So.many So.tReq k i1).2++[reqN sr (So.many So.tSeg m i2).2]:=by
      rw [Hsn.out,hi2,hm]
      exact ⟨rfl,rfl⟩
     have HN5:=qH hN5
     have Hsn2:=qH hsn2
     have HRm:=qH hRm
     have HRl:=qH hRl
     have HS4:=qH hSeg4
     have hx5:=hX4.cell 0 rfl
     clear hi2 hm hN5 hsn2 hRm hRl hSeg4 Hsn
     simp only [eq4]
     clear eq4
     go_wp2_with (first | (go_at_call 93;refine (HN5.out).mono ?_;rintro e w5 ⟨rfl,h5,hk5⟩) | fail)
     obtain ⟨_,_,_,_,hG5,_⟩:=hI4.at_
     have hP5:=hP4.kept hk5 hpg
     have hRow5:=hRow4.kept hk5 (fun b hb e=>(HRb.out b hb).2.1 e)
     have hX5:=hX4.kept hk5 hXn
     have hQ5:=hQ4.kept hk5 hqg
     have hSeg5:∀ r∈Rs,zau w5 x r:=fun r hr=>(HS4.out r hr).kept hk5 (fun b hb e=>(HS4.out r hr).1.far hG5 (by decide) (e ▸ hb))
     have hK5:=hK4.trans hk5.inP
     have hy5:=Nat.le_trans hy4 hk5.size
     have HS5:=qH hSeg5
     clear hI4 hP4 hRow4 hX4 hQ4 HS4 hK4 hy4 hx5 hSeg5 hG5 hk5
     generalize w5=W5 at h5 hP5 hRow5 hX5 hQ5 HS5 hK5 hy5 ⊢
     obtain ⟨z,hz⟩:=qX W5.heap.size
     have hxz:x<z:=by omega
     have hqz:q<z:=by rw [←hz];exact hQ5.lt
     have hw0z:w0.heap.size≤z:=by omega
     have hz5:z≤W5.heap.size:=by omega
     have HZ:=qH hz
     clear hz
     obtain ⟨wo,rfl⟩:∃ wo:World,wo=wr:=⟨_,rfl⟩
     go_loopw [38] (fun i wr=>∃ j:Nat,j≤m∧i=.int .u64 j∧InW w0 wr g (So.many So.tSeg j i2).1∧(∃ A2 c2,Blk wr q (So.reqL (reqN sr []) ⟨A2,j,c2⟩).toArray 287∧RowE wr z 288 3 A2 j c2 ((So.many So.tSeg j i2).2.flatMap So.segL))∧Kept (fun b=>b=g∨b=q) W5 wr∧Blk wr x #[Value.pointer (some ⟨g,0,none⟩)] 154∧z≤wr.heap.size) (fun i _=>m-(intOf i).toNat)
     case atStart=>exact ⟨0,Nat.zero_le _,rfl,h5,⟨none,0,hQ5,RowE.nil _ _ _ _⟩,Kept.refl _ _,hX5,hz5⟩
     case round =>
      obtain ⟨j,hj,rfl,hIq,⟨A2,k2,hQq,hRq⟩,hKq,hXq,hzq⟩:=hrel
      by_cases hlt:j<m
      ·
       have hjm:(j:Int)<(m:Int):=by omega
       have hsn:=zcL So.tSeg j i2
       rw [zgP] at hsn
       obtain ⟨sg,hsg⟩:=qX ((So.many So.tSeg j i2).1)
       obtain ⟨ys,hys⟩:=qX ((So.many So.tSeg j i2).2.flatMap So.segL)
       have hsny:(So.many So.tSeg (j+1) i2).2.flatMap So.segL=ys++So.segL (segN sg):=by rw [hsn,←hsg,←hys];simp
       have hsni:(So.many So.tSeg (j+1) i2).1=tkI sg kSeg 2:=by rw [hsn,hsg]
       have hsmr7:Tl.Small sg.b:=by rw [←hsg];exact zbv So.tSeg (fun i h=>by rw [zgP];exact zaQ i h kSeg 2) j i2 hsm2
       rw [hsg] at hIq
       rw [hys] at hRq
       have hIq:InW w0 wr g (tkI sg kSeg 0):=hIq
       obtain ⟨D7,hD7⟩:=qX ((So.reqL (reqN sr []) ⟨A2,j,k2⟩).toArray)
       have hDs:D7.size=6:=by rw [←hD7];rfl
       have hD5:D7[5]?=some (.slice A2 j k2):=by rw [←hD7];rfl
       have hDn:∀ A1 c1,D7.setIfInBounds 5 (.slice A1 (j+1) c1)=(So.reqL (reqN sr []) ⟨A1,j+1,c1⟩).toArray:=fun A1 c1=>by rw [←hD7];rfl
       rw [hD7] at hQq
       have hA7:∀ b,A2.map (·.block)=some b→b≠g∧b≠q∧b<wr.heap.size∧z≤b∧b≠x:=fun b hb=>by
        obtain ⟨_,_,_,_,hG,_⟩:=hIq.at_
        exact ⟨fun e=>hRq.far hG (by decide) (e ▸ hb),fun e=>hRq.far hQq (by decide) (e ▸ hb),(hRq.ge b hb).2,(hRq.ge b hb).1,fun e=>hRq.far hXq (by decide) (e ▸ hb)⟩
       have Hi7:=qH hsni
       have Hy7:=qH hsny
       have ZD7:=qH hDs
       have HD7:=qH hD5
       have HDn:=qH hDn
       have HA7:=qH hA7
       clear hsn hsg hys hsny hsni hD7 hDs hD5 hDn hlt hA7
       go_wp2_with fail
       refine zc (by kernel_rfl) (fun X=>⟨#[tkV g,.pointer (some ⟨p,0,none⟩),.pointer (some ⟨x,0,none⟩),undef,.pointer (some ⟨q,0,none⟩),X1 0,X1 1,X1 2,X1 3,X1 4,X1 5,X1 6,X1 7,X1 8,X1 10,X1 11,X1 12,.pointer (some ⟨x,0,none⟩),.pointer (some ⟨g,0,none⟩),.int .u64 ↑n,.int .u64 ↑k,.bool true,X4 0,X4 1,X4 2,X4 3,X4 4,X4 5,X4 6,X4 7,X4 8,X4 9,X4 10,X4 11,X4 12,.pointer (some ⟨x,0,none⟩),.pointer (some ⟨g,0,none⟩),.int .u64 ↑m,.int .u64 ↑j,.bool true,X 0,X 1,X 2,X 3,X 4,X 5,X 6,X 7,X 8,X 9,X 10,u51,u52,u53,u54,u55,u56,u57,u58,u59,u60,u61,u62,u63,u64],[]⟩) (Kept (rowT g q A2)) (fun i v w=>match i with | 0=>(v=.pointer (some ⟨q,5,none⟩)) | 1=>(v=.slice A2 j k2) | 2=>(v=tkV g) | 3=>(v=.int .u32 ((tkN sg kSeg 0:Nat):Int)) | 4=>(v=tkV g) | 5=>(v=.int .u32 ((tkN sg kSeg 1:Nat):Int)) | 6=>(v=.int .i64 ((tkN sg kSeg 1:Nat):Int)) | 7=>(v=.agg (So.segL (segN sg)).toArray) | 8=>(∃ b,v=.slice (some ⟨b,0,none⟩) 1 1∧Blk w b (So.segL (segN sg)).toArray 288∧b≠g∧b≠q∧A2.map (·.block)≠some b) | 10=>(v=.pointer (some ⟨q,5,none⟩)) | _=>True) (fun i=>([0,0,0,1,0,2,0,0,0,3,0,4]:List Nat).getD i 0) 4 (ApSt w0 g q 287 z 288 3 5 2 9 sg kSeg D7 A2 j k2 ys (So.segL (segN sg))) _ (fun i=>if i=0 then u40 else if i=1 then u41 else if i=2 then u42 else if i=3 then u43 else if i=4 then u44 else if i=5 then u45 else if i=6 then u46 else if i=7 then u47 else if i=8 then u48 else if i=9 then u49 else if i=10 then u50 else undef) (fun u v w a b=>a.trans b) ?_ (by kernel_rfl) (by kernel_rfl) ((Kept.refl _ _).drew) ((.mk0 (by decide) ⟨hIq.keep (zr (Below.refl _ _)),hQq.keep (zr (Below.refl _ _)),hRq.keep (zr (Below.refl _ _))⟩)) ?_ ?_
       ·
        intro i v w w' h hb
        match i,h with
        | 0,h=>exact h
        | 1,h=>exact h
        | 2,h=>exact h
        | 3,h=>exact h
        | 4,h=>exact h
        | 5,h=>exact h
        | 6,h=>exact h
        | 7,h=>exact h
        | 8,h=>exact (let ⟨b,e,hb1,h1,h2,h3⟩:=h;⟨b,e,hb1.kept hb (fun e=>e.elim h1 (fun e=>e.elim h2 h3)),h1,h2,h3⟩)
        | 10,h=>exact h
        | 9,h=>exact trivial
        | 11,h=>exact trivial
        | _+12,h=>exact trivial
       ·
        refine cQ 0 ?_ ?_
        ·
         intro X w hR ψ χ K HK
         go_simp
         exact HK.out _ _ _ rfl (Kept.refl _ _) rfl (fun kk _ h=>h.upd 0 _ (by decide))
        refine zi.cons (k:=1) (fun X v=>rfl) (zad.late rfl ?_) ?_
        ·
         intro X w hR hpre hini hcur K hK
         obtain ⟨nS,hnS,hStS⟩:=hcur 11 _ rfl (by decide) ⟨⟨1,.phase⟩,Array.mem_of_getElem? (i:=4) rfl,by kernel_rfl,rfl⟩
         have hPL:=hStS.blk hnS
         have c1:=hPL.cell 5 HD7.out
         have e0:X 0=.pointer (some ⟨q,5,none⟩):=hpre ⟨0,.data⟩ (Array.mem_of_getElem? (i:=0) rfl) (by kernel_rfl)
         have HK:=qH hK
         clear hK hpre hini hcur
         go_simp
         exact HK.out _ _ _ (by (try simp only [e0])<;>rfl) (Kept.refl _ _) rfl (fun kk _ h=>h.upd 1 _ (by decide))
        refine cQ 2 ?_ ?_
        ·
         intro X w hR ψ χ K HK
         have c2:=(hXq.kept hR (fun e=>e.elim hXn (fun e=>e.elim hxq (fun e=>(HA7.out x e).2.2.2.2 rfl)))).cell 0 rfl
         go_simp
         exact HK.out _ _ _ rfl (Kept.refl _ _) rfl (fun kk _ h=>h.upd 2 _ (by decide))
        refine cS 3 0 ?_ ?_
        ·
         intro X w hR ψ χ hst K HK
         have e2:X 2=tkV g:=(pR ψ 2 .data 0 :)
         have hst:InW w0 w g (tkI sg kSeg 0)∧Blk w q D7 287∧RowE w z 288 3 A2 j k2 ys:=hst.a (by decide)
         go_simp
         go_at_call 104
         refine (zaF 0 hst.1).mono ?_
         rintro e w2 ⟨rfl,h1,h2⟩
         go_simp
         exact HK.out _ _ _ (by (try simp only [e2])<;>rfl) (h2.mono (fun i _ e=>.inl e)) rfl (.mk0 (by decide) ⟨h1,hst.2.1.kept h2 hqg,hst.2.2.kept h2 (fun b hb e=>(HA7.out b hb).1 e)⟩)
        refine cQ 4 ?_ ?_
        ·
         intro X w hR ψ χ K HK
         have c4:=(hXq.kept hR (fun e=>e.elim hXn (fun e=>e.elim hxq (fun e=>(HA7.out x e).2.2.2.2 rfl)))).cell 0 rfl
         go_simp
         exact HK.out _ _ _ rfl (Kept.refl _ _) rfl (fun kk _ h=>h.upd 4 _ (by decide))
        refine cS 5 1 ?_ ?_
        ·
         intro X w hR ψ χ hst K HK
         skip
         have e4:X 4=tkV g:=(pR ψ 4 .data 0 :)
         have hst:InW w0 w g (tkI sg kSeg 1)∧Blk w q D7 287∧RowE w z 288 3 A2 j k2 ys:=hst.a (by decide)
         go_simp
         go_at_call 104
         refine (zaF 1 hst.1).mono ?_
         rintro e w2 ⟨rfl,h1,h2⟩
         go_simp
         exact HK.out _ _ _ (by (try simp only [e4])<;>rfl) (h2.mono (fun i _ e=>.inl e)) rfl (.mk0 (by decide) ⟨h1,hst.2.1.kept h2 hqg,hst.2.2.kept h2 (fun b hb e=>(HA7.out b hb).1 e)⟩)
        refine cQ 6 ?_ ?_
        ·
         intro X w hR ψ χ K HK
         have e5:X 5=.int IntKind.u32 ((tkN sg kSeg 1:Nat):Int):=(pR ψ 5 .data 0 :)
         have q6:=zcI sg hsmr7 kSeg 1 _ rfl
         have u6:IntKind.i64.wrap ((tkN sg kSeg 1:Nat):Int)=((tkN sg kSeg 1:Nat):Int):=by rw [IntKind.wrap_i64];simp only [So.kB,So.kW,So.kH,So.kD,So.p1,So.p2,So.p4,So.p8] at q6;omega
         go_simp
         exact HK.out _ _ _ (by (try simp only [e5])<;>rfl) (Kept.refl _ _) rfl (fun kk _ h=>h.upd 6 _ (by decide))
        refine cQ 7 ?_ ?_
        ·
         intro X w hR ψ χ K HK
         have e3:X 3=.int IntKind.u32 ((tkN sg kSeg 0:Nat):Int):=(pR ψ 3 .data 0 :)
         have e6:X 6=.int IntKind.i64 ((tkN sg kSeg 1:Nat):Int):=(pR ψ 6 .data 1 :)
         go_simp
         exact HK.out _ _ _ (by (try simp only [e3,e6])<;>rfl) (Kept.refl _ _) rfl (fun kk _ h=>h.upd 7 _ (by decide))
        refine cQ 8 ?_ ?_
        ·
         intro X w hR ψ χ K HK
         have e7:X 7=.agg (So.segL (segN sg)).toArray:=(pR ψ 7 .data 0 :)
         go_simp
         exact HK.out _ _ _ (by (try simp only [e7])<;>rfl) ((Kept.refl _ _).alloc _) ⟨_,rfl,Blk.new _ _ _,Nat.ne_of_gt (Nat.lt_of_lt_of_le hIq.lt hR.size),Nat.ne_of_gt (Nat.lt_of_lt_of_le hQq.lt hR.size),fun e=>Nat.ne_of_gt (Nat.lt_of_lt_of_le (HA7.out _ e).2.2.1 hR.size) rfl⟩ (fun kk _ h=>(h.keep (za (Below.refl _ _) _)).upd 8 _ (by decide))
        refine cS 9 2 ?_ ?_
        ·
         intro X w hR ψ χ hst K HK
         skip
         have e1:X 1=.slice A2 j k2:=(pR ψ 1 .data 0 :)
         obtain ⟨b8,e8,hb8,_,_,hbA8⟩:∃ b,X 8=Value.slice (some ⟨b,0,none⟩) 1 1∧Blk w b (So.segL (segN sg)).toArray 288∧b≠g∧b≠q∧A2.map (·.block)≠some b:=(pR ψ 8 .data 1 :)
         have hst:InW w0 w g (tkI sg kSeg 2)∧Blk w q D7 287∧RowE w z 288 3 A2 j k2 ys:=hst.a (by decide)
         refine zbU rfl (.tmp 41) (.tmp 48) 285 288 rfl _ 3 24 Tryz.underlying285 zhE rfl (by decide) z A2 j k2 ys b8 (So.segL (segN sg)) (show X 1=_ from e1) (show X 8=_ from e8) hst.2.2 rfl (fun j u hu=>hb8.cell j (by rw [List.getElem?_toArray];exact hu)) (znD _) (Nat.le_trans hzq hR.size) (by omega) (by omega) ?_
         intro A1 c1 w2 hrow hk2 hat
         exact HK.out _ _ _ (by (try simp only [e1,e8])<;>rfl) (hk2.mono (fun i _ e=>.inr (.inr e))) trivial (.mk1 rfl ⟨hst.1.kept hk2 (fun e=>(HA7.out g e).1 rfl) (fun i hi e=>by have:=(HA7.out i e).2.2.2.1;omega),hst.2.1.kept hk2 (fun e=>(HA7.out q e).2.1 rfl),A1,c1,rfl,hrow⟩)
        refine cQ 10 ?_ ?_
        ·
         intro X w hR ψ χ K HK
         go_simp
         exact HK.out _ _ _ rfl (Kept.refl _ _) rfl (fun kk _ h=>h.upd 10 _ (by decide))
        refine cS 11 3 ?_ ?_
        ·
         intro X w hR ψ χ hst K HK
         skip
         have e10:X 10=.pointer (some ⟨q,5,none⟩):=(pR ψ 10 .data 0 :)
         obtain ⟨h1,hB,A1,c1,eS,hrow⟩:InW w0 w g (tkI sg kSeg 2)∧Blk w q D7 287∧∃ A1 c1,X 9=.slice A1 (j+1) c1∧RowE w z 288 3 A1 (j+1) c1 (ys++(So.segL (segN sg))):=hst.b rfl
         have hf11:=hB.free 5
         obtain ⟨_,hc11⟩:=hB.some 5 (by rw [ZD7.out];decide)
         go_simp
         exact HK.out undef _ _ (by (try simp only [e10,eS])<;>rfl) ((Kept.refl (rowT g q A2) w).set (p:=⟨q,5,none⟩) (fun _=>.inr (.inl rfl)) _) trivial (.mk2 rfl ⟨h1.set hB (by decide) hw0q _ _,A1,c1,hB.set _ _,hrow.kept ((Kept.refl (fun b=>b=q) w).set (p:=⟨q,5,none⟩) (fun _=>rfl) _) (fun b hb e=>hrow.far hB (by decide) (e ▸ hb))⟩)
        exact zi.nil
       ·
        intro X7 wE7 hR7 hall7 hS7
        obtain ⟨hI7,A7,c7,hB7,hrow7⟩:=hS7.c rfl
        clear hall7
        go_wp2_with fail
        go_roundw
        case rel=>exact ⟨j+1,by omega,by go_num,by rw [Hi7.out];exact hI7,⟨A7,c7,zt hB7 (HDn.out _ _),by rw [Hy7.out];exact hrow7⟩,hKq.then_ hR7 (fun i hi e=>e.elim .inl (fun e=>e.elim .inr (fun e=>by have:=(HA7.out i e).2.2.2.1;have:=HZ.out;omega))),hXq.kept hR7 (fun e=>e.elim hXn (fun e=>e.elim hxq (fun e=>(HA7.out x e).2.2.2.2 rfl))),Nat.le_trans hzq hR7.size⟩
        case measure=>simp [intOf];omega
      ·
       obtain rfl:j=m:=by omega
       clear hlt
       obtain ⟨sl,hsl⟩:=qX ((So.many So.tSeg j i2).1)
       obtain ⟨L9,hL9⟩:=qX ((So.many So.tSeg j i2).2)
       have hL9n:L9.length=j:=by rw [←hL9];exact zcs _ _ _
       rw [hsl] at hIq
       rw [hL9] at hRq
       have Hsl:=qH hsl
       have HL9:=qH hL9
       have HLn:=qH hL9n
       have hIq:InW w0 wr g (tkI sl kSeg 0):=hIq
       have hQ9:Blk wr q (So.reqL (reqN sr L9) ⟨A2,j,k2⟩).toArray 287:=hQq
       have hP9:=hP5.kept hKq (fun e=>e.elim hpg (Ne.symm hqp))
       have hRow9:=hRow5.kept hKq (fun b hb e=>e.elim (fun e=>(HRb.out b hb).2.1 e) (fun e=>by have:=(HRb.out b hb).1;omega))
       obtain ⟨_,_,_,_,hG5,_⟩:=h5.at_
       have hSeg9:∀ r∈Rs,zau wr x r:=fun r hr=>(HS5.out r hr).kept hKq (fun b hb e=>e.elim (fun e=>(HS5.out r hr).1.far hG5 (by decide) (e ▸ hb)) (fun e=>(HS5.out r hr).1.far hQ5 (by decide) (e ▸ hb)))
       have hK9:Kept (inP g p) w wr:=hK5.then_ hKq (fun i hi e=>e.elim .inl (fun e=>by have:=Hx.out;have e:i=q:=e;omega))
       have HS9:=qH hSeg9
       have HRq9:=qH hRq
       obtain ⟨rs,hrs⟩:=qX (zbJ Rs)
       rw [hrs] at hRow9
       have Hrs:=qH hrs
       obtain ⟨D9,hD9⟩:=qX (c2.setIfInBounds 136 (.slice A0 k c0))
       have hDs9:D9.size=160:=by rw [←hD9];simp [Zc2.out]
       have hD95:D9[136]?=some (.slice A0 k c0):=by rw [←hD9,Array.getElem?_setIfInBounds_self_of_lt (by rw [Zc2.out];decide)]
       have hDn9:∀ v,D9.setIfInBounds 136 v=c2.setIfInBounds 136 v:=fun v=>by rw [←hD9];simp
       rw [hD9] at hP9
       have hA9:∀ b,A0.map (·.block)=some b→b≠g∧b≠p∧b<wr.heap.size∧x≤b∧b≠x:=fun b hb=>⟨(HRb.out b hb).2.1,(HRb.out b hb).2.2.1,by have:=(HRb.out b hb).1;omega,(HRb.out b hb).2.2.2.1,(HRb.out b hb).2.2.2.2⟩
       have hxq9:x≤wr.heap.size:=by omega
       have ZD9:=qH hDs9
       have HD9:=qH hD95
       have HDn9:=qH hDn9
       have HA9:=qH hA9
       clear hsl hL9 hL9n hrs hD9 hDs9 hD95 hDn9 hA9 hRq hQq h5 hP5 hRow5 hX5 hQ5 HS5 hK5 hKq hSeg9 hG5
       go_wp2_with fail
       refine zc (by kernel_rfl) (fun X=>⟨#[tkV g,.pointer (some ⟨p,0,none⟩),.pointer (some ⟨x,0,none⟩),undef,.pointer (some ⟨q,0,none⟩),X1 0,X1 1,X1 2,X1 3,X1 4,X1 5,X1 6,X1 7,X1 8,X1 10,X1 11,X1 12,.pointer (some ⟨x,0,none⟩),.pointer (some ⟨g,0,none⟩),.int .u64 ↑n,.int .u64 ↑k,.bool true,X4 0,X4 1,X4 2,X4 3,X4 4,X4 5,X4 6,X4 7,X4 8,X4 9,X4 10,X4 11,X4 12,.pointer (some ⟨x,0,none⟩),.pointer (some ⟨g,0,none⟩),.int .u64 ↑j,.int .u64 ↑j,.bool false,u40,u41,u42,u43,u44,u45,u46,u47,u48,u49,u50,u51,X 0,X 1,X 2,X 3,X 4,X 5,X 6,X 7,X 8,X 9,X 10,X 11,u64],[]⟩) (Kept (rowT g p A0)) (fun i v w=>match i with | 0=>(v=.pointer (some ⟨p,0,none⟩)) | 1=>(v=.pointer (some ⟨p,0,none⟩)) | 2=>(v=.pointer (some ⟨p,0,none⟩)) | 3=>(v=.pointer (some ⟨p,112,none⟩)) | 4=>(v=.pointer (some ⟨p,136,none⟩)) | 5=>(v=.slice A0 k c0) | 6=>(v=.agg (So.reqL (reqN sr L9) ⟨A2,j,k2⟩).toArray) | 7=>(∃ b,v=.slice (some ⟨b,0,none⟩) 1 1∧Blk w b (So.reqL (reqN sr L9) ⟨A2,j,k2⟩).toArray 287∧b≠g∧b≠p∧A0.map (·.block)≠some b) | 9=>(v=.pointer (some ⟨p,0,none⟩)) | 10=>(v=.pointer (some ⟨p,112,none⟩)) | 11=>(v=.pointer (some ⟨p,136,none⟩)) | _=>True) (fun i=>([0,0,0,0,0,0,0,0,1,0,0,0,2]:List Nat).getD i 0) 2 (ApSt w0 g p 93 x 287 6 136 0 8 sl kSeg D9 A0 k c0 rs (So.reqL (reqN sr L9) ⟨A2,j,k2⟩)) _ (fun i=>if i=0 then u52 else if i=1 then u53 else if i=2 then u54 else if i=3 then u55 else if i=4 then u56 else if i=5 then u57 else if i=6 then u58 else if i=7 then u59 else if i=8 then u60 else if i=9 then u61 else if i=10 then u62 else if i=11 then u63 else undef) (fun u v w a b=>a.trans b) ?_ (by kernel_rfl) (by kernel_rfl) ((Kept.refl _ _).drew) ((.mk0 (by decide) ⟨hIq.keep (zr (Below.refl _ _)),hP9.keep (zr (Below.refl _ _)),hRow9.keep (zr (Below.refl _ _))⟩)) ?_ ?_
       ·
        intro i v w w' h hb
        match i,h with
        | 0,h=>exact h
        | 1,h=>exact h
        | 2,h=>exact h
        | 3,h=>exact h
        | 4,h=>exact h
        | 5,h=>exact h
        | 6,h=>exact h
        | 7,h=>exact (let ⟨b,e,hb1,h1,h2,h3⟩:=h;⟨b,e,hb1.kept hb (fun e=>e.elim h1 (fun e=>e.elim h2 h3)),h1,h2,h3⟩)
        | 9,h=>exact h
        | 10,h=>exact h
        | 11,h=>exact h
        | 8,h=>exact trivial
        | 12,h=>exact trivial
        | _+13,h=>exact trivial
       ·
        refine cQ 0 ?_ ?_
        ·
         intro X w hR ψ χ K HK
         go_simp
         exact HK.out _ _ _ rfl (Kept.refl _ _) rfl (fun kk _ h=>h.upd 0 _ (by decide))
        refine cQ 1 ?_ ?_
        ·
         intro X w hR ψ χ K HK
         go_simp
         exact HK.out _ _ _ rfl (Kept.refl _ _) rfl (fun kk _ h=>h.upd 1 _ (by decide))
        refine cQ 2 ?_ ?_
        ·
         intro X w hR ψ χ K HK
         have e1:X 1=.pointer (some ⟨p,0,none⟩):=(pR ψ 1 .data 0 :)
         go_simp
         exact HK.out _ _ _ (by (try simp only [e1])<;>rfl) (Kept.refl _ _) rfl (fun kk _ h=>h.upd 2 _ (by decide))
        refine cQ 3 ?_ ?_
        ·
         intro X w hR ψ χ K HK
         have e2:X 2=.pointer (some ⟨p,0,none⟩):=(pR ψ 2 .data 0 :)
         go_simp
         exact HK.out _ _ _ (by (try simp only [e2])<;>rfl) (Kept.refl _ _) rfl (fun kk _ h=>h.upd 3 _ (by decide))
        refine cQ 4 ?_ ?_
        ·
         intro X w hR ψ χ K HK
         have e3:X 3=.pointer (some ⟨p,112,none⟩):=(pR ψ 3 .data 0 :)
         go_simp
         exact HK.out _ _ _ (by (try simp only [e3])<;>rfl) (Kept.refl _ _) rfl (fun kk _ h=>h.upd 4 _ (by decide))
        refine zi.cons (k:=5) (fun X v=>rfl) (zad.late rfl ?_) ?_
        ·
         intro X w hR hpre hini hcur K hK
         obtain ⟨nS,hnS,hStS⟩:=hcur 12 _ rfl (by decide) ⟨⟨5,.phase⟩,Array.mem_of_getElem? (i:=8) rfl,by kernel_rfl,rfl⟩
         have hPL:=hStS.blk hnS
         have c5:=hPL.cell 136 HD9.out
         have e4:X 4=.pointer (some ⟨p,136,none⟩):=hpre ⟨4,.data⟩ (Array.mem_of_getElem? (i:=0) rfl) (by kernel_rfl)
         have HK:=qH hK
         clear hK hpre hini hcur
         go_simp
         exact HK.out _ _ _ (by (try simp only [e4])<;>rfl) (Kept.refl _ _) rfl (fun kk _ h=>h.upd 5 _ (by decide))
        refine cQ 6 ?_ ?_
        ·
         intro X w hR ψ χ K HK
         have hQL:=hQ9.kept hR (fun e=>e.elim hqg (fun e=>e.elim hqp (fun e=>by have:=(HRb.out q e).1;omega)))
         rw [if_pos (zo rfl)]
         refine wp_load_mid 287 (.tmp 4) rfl q 0 rfl (So.reqL (reqN sr L9) ⟨A2,j,k2⟩) _ (fun j v hv=>by rw [Nat.zero_add];exact hQL.cell j (by rw [List.getElem?_toArray];exact hv)) Tryz.underlying287 rfl rfl ?_
         exact HK.out _ _ _ rfl (Kept.refl _ _) rfl (fun kk _ h=>h.upd 6 _ (by decide))
        refine cQ 7 ?_ ?_
        ·
         intro X w hR ψ χ K HK
         have e6:X 6=.agg (So.reqL (reqN sr L9) ⟨A2,j,k2⟩).toArray:=(pR ψ 6 .data 0 :)
         go_simp
         exact HK.out _ _ _ (by (try simp only [e6])<;>rfl) ((Kept.refl _ _).alloc _) ⟨_,rfl,Blk.new _ _ _,Nat.ne_of_gt (Nat.lt_of_lt_of_le hIq.lt hR.size),Nat.ne_of_gt (Nat.lt_of_lt_of_le hP9.lt hR.size),fun e=>Nat.ne_of_gt (Nat.lt_of_lt_of_le (HA9.out _ e).2.2.1 hR.size) rfl⟩ (fun kk _ h=>(h.keep (za (Below.refl _ _) _)).upd 7 _ (by decide))
        refine cS 8 0 ?_ ?_
        ·
         intro X w hR ψ χ hst K HK
         have e5:X 5=.slice A0 k c0:=(pR ψ 5 .data 0 :)
         obtain ⟨b7,e7,hb7,_,_,hbA7⟩:∃ b,X 7=Value.slice (some ⟨b,0,none⟩) 1 1∧Blk w b (So.reqL (reqN sr L9) ⟨A2,j,k2⟩).toArray 287∧b≠g∧b≠p∧A0.map (·.block)≠some b:=(pR ψ 7 .data 1 :)
         have hst:InW w0 w g (tkI sl kSeg 0)∧Blk w p D9 93∧RowE w x 287 6 A0 k c0 rs:=hst.a (by decide)
         refine zbU rfl (.tmp 57) (.tmp 59) 87 287 rfl _ 6 56 Tryz.underlying87 zhF rfl (by decide) x A0 k c0 rs b7 (So.reqL (reqN sr L9) ⟨A2,j,k2⟩) (show X 5=_ from e5) (show X 7=_ from e7) hst.2.2 rfl (fun j u hu=>hb7.cell j (by rw [List.getElem?_toArray];exact hu)) (zkc _ _) (Nat.le_trans hxq9 hR.size) (by omega) (by omega) ?_
         intro A1 c1 w2 hrow hk2 hat
         exact HK.out _ _ _ (by (try simp only [e5,e7])<;>rfl) (hk2.mono (fun i _ e=>.inr (.inr e))) trivial (.mk1 rfl ⟨hst.1.kept hk2 (fun e=>(HA9.out g e).1 rfl) (fun i hi e=>by have:=(HA9.out i e).2.2.2.1;omega),hst.2.1.kept hk2 (fun e=>(HA9.out p e).2.1 rfl),A1,c1,rfl,hrow⟩)
        refine cQ 9 ?_ ?_
        ·
         intro X w hR ψ χ K HK
         have e0:X 0=.pointer (some ⟨p,0,none⟩):=(pR ψ 0 .data 0 :)
         go_simp
         exact HK.out _ _ _ (by (try simp only [e0])<;>rfl) (Kept.refl _ _) rfl (fun kk _ h=>h.upd 9 _ (by decide))
        refine cQ 10 ?_ ?_
        ·
         intro X w hR ψ χ K HK
         have e9:X 9=.pointer (some ⟨p,0,none⟩):=(pR ψ 9 .data 0 :)
         go_simp
         exact HK.out _ _ _ (by (try simp only [e9])<;>rfl) (Kept.refl _ _) rfl (fun kk _ h=>h.upd 10 _ (by decide))
        refine cQ 11 ?_ ?_
        ·
         intro X w hR ψ χ K HK
         have e10:X 10=.pointer (some ⟨p,112,none⟩):=(pR ψ 10 .data 0 :)
         go_simp
         exact HK.out _ _ _ (by (try simp only [e10])<;>rfl) (Kept.refl _ _) rfl (fun kk _ h=>h.upd 11 _ (by decide))
        refine cS 12 1 ?_ ?_
        ·
         intro X w hR ψ χ hst K HK
         skip
         have e11:X 11=.pointer (some ⟨p,136,none⟩):=(pR ψ 11 .data 0 :)
         obtain ⟨h1,hB,A1,c1,eS,hrow⟩:InW w0 w g (tkI sl kSeg 0)∧Blk w p D9 93∧∃ A1 c1,X 8=.slice A1 (k+1) c1∧RowE w x 287 6 A1 (k+1) c1 (rs++(So.reqL (reqN sr L9) ⟨A2,j,k2⟩)):=hst.b rfl
         have hf12:=hB.free 136
         obtain ⟨_,hc12⟩:=hB.some 136 (by rw [ZD9.out];decide)
         go_simp
         exact HK.out undef _ _ (by (try simp only [e11,eS])<;>rfl) ((Kept.refl (rowT g p A0) w).set (p:=⟨p,136,none⟩) (fun _=>.inr (.inl rfl)) _) trivial (.mk2 rfl ⟨h1.set hB (by decide) hp _ _,A1,c1,hB.set _ _,hrow.kept ((Kept.refl (fun b=>b=p) w).set (p:=⟨p,136,none⟩) (fun _=>rfl) _) (fun b hb e=>hrow.far hB (by decide) (e ▸ hb))⟩)
        exact zi.nil
       ·
        intro X9 wE9 hR9 hall9 hS9
        obtain ⟨hI9,A9,c9,hB9,hrow9⟩:=hS9.c rfl
        clear hall9
        go_wp2_with fail
        go_roundw
        case rel =>
         have hS1:∀ r∈Rs++[(reqN sr L9,(⟨A2,j,k2⟩:So.Hdr))],zau wE9 x r:=fun r hr=>by
          obtain ⟨_,_,_,_,hG9,_⟩:=hIq.at_
          have key:∀ r:So.Req×So.Hdr,zau wr x r→zau wE9 x r:=fun r h=>h.kept hR9 (fun b hb e=>e.elim (fun e=>h.1.far hG9 (by decide) (e ▸ hb)) (fun e=>e.elim (fun e=>h.1.far hP9 (by decide) (e ▸ hb)) (fun e=>h.1.apart hRow9 (by decide) b hb e)))
          rcases List.mem_append.1 hr with hr | hr
          · exact key r (HS9.out r hr)
          ·
           rw [List.mem_singleton.1 hr]
           exact key _ ⟨HRq9.out.lower (by omega),HLn.out.symm⟩
         exact ⟨k+1,by omega,by go_num,by rw [Hsn2.out.1,Hsl.out];exact hI9,⟨A9,c9,Rs++[(reqN sr L9,⟨A2,j,k2⟩)],by rw [List.length_append,HRl.out];rfl,by rw [Hsn2.out.2,List.map_append,HRm.out,HL9.out];rfl,zt hB9 (HDn9.out _),by rw [show zbJ (Rs++[(reqN sr L9,(⟨A2,j,k2⟩:So.Hdr))])=rs++So.reqL (reqN sr L9) ⟨A2,j,k2⟩ by rw [←Hrs.out];simp [zbJ]];exact hrow9,hS1⟩,hK9.then_ hR9 (fun i hi e=>e.elim .inl (fun e=>e.elim .inr (fun e=>by have:=(HA9.out i e).2.2.2.1;have:=Hx.out;omega))),hXq.kept hR9 (fun e=>e.elim hXn (fun e=>e.elim hXm (fun e=>(HA9.out x e).2.2.2.2 rfl))),Nat.le_trans hxq9 hR9.size⟩
        case measure=>simp [intOf];omega
   ·
    obtain rfl:k=n:=by omega
    clear hlt
    have HRm:=qH hRm
    have HRl:=qH hRl
    have HS:=qH hSeg
    clear hRm hRl hSeg
    go_wp2_with fail
    go_end0
    refine hQP.out _ _ ⟨rfl,?_,⟨A0,c0,Rs,?_,?_,?_,HS.out⟩,hKr⟩
    · rw [HT.out.1];exact hIr
    · rw [HT.out.2];exact HRm.out
    · rw [HRl.out];unfold zl2;rw [Hc1.out,Hc2.out];exact hPr
    · rw [HRl.out];exact hRow
theorem zl3 (st:So.State) (s:Tl.In):(tkI s zK 3)=(So.tTimer s).1:=by kernel_rfl
theorem zgQ (st:So.State) (Q I:So.Hdr) (s:Tl.In):(((((((So.stL st Q I).toArray).setIfInBounds (44) (Value.int IntKind.u32 ((tkN s zK 0:Nat):Int)))).setIfInBounds (45) (Value.int IntKind.u64 ((tkN s zK 1:Nat):Int)))).setIfInBounds (46) (Value.int IntKind.u64 ((tkN s zK 2:Nat):Int)))=(So.stL { st with c:=(So.tTimer s).2 } Q I).toArray:=by kernel_rfl
theorem zoD (st:So.State) (s:Tl.In):(tkI s kNet 2)=(So.tNet s).1:=by kernel_rfl
theorem zke (st:So.State) (Q I:So.Hdr) (s:Tl.In):(((((So.stL st Q I).toArray).setIfInBounds (158) (Value.bool (tkN s kNet 0==1)))).setIfInBounds (159) (Value.int IntKind.u32 ((tkN s kNet 1:Nat):Int)))=(So.stL { st with n:={ st.n with bell:=(So.tNet s).2.1,lost:=(So.tNet s).2.2 } } Q I).toArray:=by kernel_rfl
theorem zkf (st:So.State) (s:Tl.In):(tkI s zk 11)=(So.tEngine s).1:=by kernel_rfl
theorem zfQ (st:So.State) (Q I:So.Hdr) (s:Tl.In):((zaa ((((((((((((((So.stL st Q I).toArray).setIfInBounds (101) (Value.int IntKind.u32 ((tkN s zk 0:Nat):Int)))).setIfInBounds (102) (Value.int IntKind.u32 ((tkN s zk 1:Nat):Int)))).setIfInBounds (103) (Value.int IntKind.u32 ((tkN s zk 2:Nat):Int)))).setIfInBounds (104) (Value.int IntKind.u32 ((tkN s zk 3:Nat):Int)))).setIfInBounds (105) (Value.int IntKind.u32 ((tkN s zk 4:Nat):Int)))).setIfInBounds (106) (Value.bool (tkN s zk 5==1)))) [107,108,109,110] (u32s ((List.range 4).map fun i=>tkN s zk (6+i)))).setIfInBounds (111) (Value.bool (tkN s zk 10==1)))=(So.stL { st with d:=(So.tEngine s).2 } Q I).toArray:=by kernel_rfl
theorem ziH (st:So.State) (s:Tl.In):(tkI s zaz 8)=(So.tControl s).1:=by kernel_rfl
theorem zfc (st:So.State) (Q I:So.Hdr) (s:Tl.In):((zaa ((So.stL st Q I).toArray) [35,36,37,38,39,40,41] (u32s ((List.range 7).map fun i=>tkN s zaz (0+i)))).setIfInBounds (42) (Value.int IntKind.u64 ((tkN s zaz 7:Nat):Int)))=(So.stL { st with h:={ st.h with c:=(So.tControl s).2 } } Q I).toArray:=by kernel_rfl
theorem ziI (st:So.State) (s:Tl.In):(tkI s kSources 11)=(So.tSources s).1:=by kernel_rfl
theorem zfd (st:So.State) (Q I:So.Hdr) (s:Tl.In):(ze8 s (So.stL st Q I).toArray)=(So.stL { st with p:=(So.tSources s).2 } Q I).toArray:=by kernel_rfl
theorem znF (st:So.State) (s:Tl.In):(tkI s So.kRegs 33)=(So.tRegs s st.h).1:=by kernel_rfl
theorem ziJ (st:So.State) (Q I:So.Hdr) (s:Tl.In):(znA s (So.stL st Q I).toArray)=(So.stL { st with h:=(So.tRegs s st.h).2 } Q I).toArray:=by kernel_rfl
theorem znG (st:So.State) (s:Tl.In):(tkI (So.tFifo (So.tFifo s).1).1 zT 8)=(So.tPort s).1:=by kernel_rfl
theorem ziK (st:So.State) (Q I:So.Hdr) (s:Tl.In):(znB s (So.stL st Q I).toArray)=(So.stL { st with u:=(So.tPort s).2 } Q I).toArray:=by kernel_rfl
theorem zkg (st:So.State) (Q I:So.Hdr) (s:Tl.In):zdD 112 s (So.stL st Q I).toArray=(So.stL { st with b:={ st.b with p:=(So.tSetting s).2 } } Q I).toArray:=by kernel_rfl
theorem zkh (st:So.State) (Q I:So.Hdr) (s:Tl.In):zdD 137 s (So.stL st Q I).toArray=(So.stL { st with n:={ st.n with p:=(So.tSetting s).2 } } Q I).toArray:=by kernel_rfl
theorem zeN (s:Tl.In):queI (tkI s kSet 7) 2=(So.tSetting s).1:=by kernel_rfl
theorem zgR (st:So.State) (Q I:So.Hdr) (v:Nat):(So.stL st Q I).toArray.setIfInBounds 0 (.int .u64 ((v:Nat):Int))=(So.stL { st with ticks:=v } Q I).toArray:=by kernel_rfl
theorem zfe (st:So.State) (Q I:So.Hdr) (v:Nat):(So.stL st Q I).toArray.setIfInBounds 133 (.int .u32 ((v:Nat):Int))=(So.stL { st with b:={ st.b with sectors:=v } } Q I).toArray:=by kernel_rfl
theorem zgS (st:So.State) (Q I Q1:So.Hdr) (l:List So.Post):(So.stL st Q I).toArray.setIfInBounds 43 (.slice Q1.A Q1.n Q1.c)=(So.stL { st with q:=l } Q1 I).toArray:=by kernel_rfl
theorem ziL (st:So.State) (Q I I1:So.Hdr) (s:Tl.In) (l:List So.Req):zl2 s (So.stL st Q I).toArray I1.A I1.n I1.c=(So.stL { st with b:={ st.b with bell:=(So.tDisk s).2.1,next:=(So.tDisk s).2.2.1,ins:=l } } Q I1).toArray:=by kernel_rfl
end Go.Proofs.YtdffbihilhkkjaaGreatDoor
