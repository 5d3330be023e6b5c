import Derived.Test.YtdffbihilhkkjaaGreatDoorZ16
import Derived.Test.YtdffbihilhkkjaaGreatDoorZ17
import Derived.IntWalk
namespace Go.Proofs.YtdffbihilhkkjaaGreatDoor
open Go.RowKit
set_option linter.unusedVariables false
set_option linter.unusedSimpArgs false
set_option maxRecDepth 100000
set_option maxHeartbeats 8000000
def zT:List (Nat×Nat):=[So.kB,So.kB,So.kB,So.kB,So.kB,So.kB,So.kT,So.kB]
theorem zea (s:Tl.In) (h:Tl.Small s.b):Tl.Small (So.tFifo s).1.b:=by
 unfold So.tFifo Tl.takeRun
 split
 · exact h
 ·
  split
  · exact h
  ·
   split
   · exact h
   ·
    split
    · exact h
    ·
     split
     · exact h
     · exact fun x hx=>h x (List.mem_of_mem_drop hx)
def znB (s:Tl.In) (cs:Array Value):Array Value:=((((zaa ((setMid ((setMid (cs) (59) (So.fifoL (So.tFifo s).2))) (76) (So.fifoL (So.tFifo (So.tFifo s).1).2))) [93,94,95,96,97,98] (u8s ((List.range 6).map fun i=>tkN (So.tFifo (So.tFifo s).1).1 zT (0+i))))).setIfInBounds (99) (Value.bool (tkN (So.tFifo (So.tFifo s).1).1 zT 6==1)))).setIfInBounds (100) (Value.int IntKind.i64 ((tkN (So.tFifo (So.tFifo s).1).1 zT 7:Nat):Int))
theorem ziF (g p:Nat) (s:Tl.In) (hsm:Tl.Small s.b) (cs:Array Value) (hsz:cs.size=160) (w0 w:World) (hI:InW w0 w g s) (hP:Blk w p cs 93) (hp:w0.heap.size≤p):Calls Tryz.prog 111 #[tkV g,Value.pointer (some ⟨p,0,none⟩)] w (SecP w0 w g p (tkI (So.tFifo (So.tFifo s).1).1 zT 8) (znB s cs)):=by
 have hpg:p≠g:=by
  obtain ⟨_,_,_,_,hG,_⟩:=hI.at_
  exact hP.apart hG (by decide)
 go_enter Tryz.func111,Tryz.ntmps111
 go_upto_region 1 with (fail)
 have hX:=Blk.new w #[Value.pointer (some ⟨g,0,none⟩)] 154
 have hI0:=zR hI (.cells #[Value.pointer (some ⟨g,0,none⟩)] 154)
 have hP0:=hP.alloc (.cells #[Value.pointer (some ⟨g,0,none⟩)] 154)
 have hK0:=(Kept.refl (inP g p) w).alloc (.cells #[Value.pointer (some ⟨g,0,none⟩)] 154)
 generalize w.alloc (.cells #[Value.pointer (some ⟨g,0,none⟩)] 154)=W1 at hX hI0 hP0 hK0 ⊢
 have Zcs:=qH hsz
 clear hsz
 have hXn:w.heap.size≠g:=Nat.ne_of_gt hI.lt
 have hXm:w.heap.size≠p:=Nat.ne_of_gt hP.lt
 generalize w.heap.size=x at hX hXn hXm ⊢
 have hsm2:Tl.Small (So.tFifo (So.tFifo s).1).1.b:=zea _ (zea _ hsm)
 obtain ⟨s1,hs1⟩:=qX ((So.tFifo s).1)
 obtain ⟨f1,hf1⟩:=qX ((So.tFifo s).2)
 rw [hs1] at hsm2
 obtain ⟨s2,hs2⟩:=qX ((So.tFifo s1).1)
 obtain ⟨f2,hf2⟩:=qX ((So.tFifo s1).2)
 rw [hs2] at hsm2
 have HF1:Hid (∀ W,InW w0 W g s→Calls Tryz.prog 170 #[tkV g] W fun e w'=>e=.returned (.agg (So.fifoL f1).toArray)∧InW w0 w' g s1∧Kept (inIn g) W w'):=qH (fun W h=>by
  have:=zeL g s w0 W h
  unfold zfa at this
  rw [hs1,hf1] at this
  exact this)
 have HF2:Hid (∀ W,InW w0 W g s1→Calls Tryz.prog 170 #[tkV g] W fun e w'=>e=.returned (.agg (So.fifoL f2).toArray)∧InW w0 w' g s2∧Kept (inIn g) W w'):=qH (fun W h=>by
  have:=zeL g s1 w0 W h
  unfold zfa at this
  rw [hs2,hf2] at this
  exact this)
 have Hs1:=qH hs1
 have Hs2:=qH hs2
 have Hf1:=qH hf1
 have Hf2:=qH hf2
 clear hs1 hs2 hf1 hf2
 go_wp2_with fail
 obtain ⟨c1,hc1⟩:=qX (setMid (cs) (59) (So.fifoL f1))
 have Zc1:Hid (c1.size=160):=qH (by rw [←hc1];simp [zn,zl,Zcs.out])
 have Hc1:=qH hc1
 clear hc1
 obtain ⟨c2,hc2⟩:=qX (setMid (c1) (76) (So.fifoL f2))
 have Zc2:Hid (c2.size=160):=qH (by rw [←hc2];simp [zn,zl,Zc1.out])
 have Hc2:=qH hc2
 clear hc2
 refine zc (by kernel_rfl) (fun X=>⟨#[tkV g,.pointer (some ⟨p,0,none⟩),.pointer (some ⟨x,0,none⟩),undef,.pointer (some ⟨p,59,none⟩),.pointer (some ⟨p,0,none⟩),.pointer (some ⟨p,0,none⟩),.pointer (some ⟨p,59,none⟩),X 0,X 1,X 2,X 3,X 4,X 5,X 6,X 7,X 9,X 10,undef,undef,undef,undef,undef,undef,undef,undef,undef,undef,undef,undef,undef,undef,undef,undef,undef,undef,undef,undef,undef,undef,undef,undef,undef,undef,undef,undef,undef,undef,undef,undef],[]⟩) (Kept (inP g p)) (fun i v w=>match i with | 0=>(v=.pointer (some ⟨p,59,none⟩)) | 1=>(v=.pointer (some ⟨p,59,none⟩)) | 2=>(v=tkV g) | 3=>(v=.agg (So.fifoL f1).toArray) | 4=>(v=tkV g) | 5=>(v=.agg (So.fifoL f2).toArray) | 6=>(v=.pointer (some ⟨p,59,none⟩)) | 7=>(v=.pointer (some ⟨p,59,none⟩)) | 9=>(v=.pointer (some ⟨p,59,none⟩)) | 10=>(v=.pointer (some ⟨p,76,none⟩)) | _=>True) (fun i=>([0,0,0,1,0,2,0,0,3,0,0,4]:List Nat).getD i 0) 4 (fun kk _ w=>zaW 93 [((s),cs),((s1),cs),((s2),cs),((s2),c1),((s2),c2)] w0 w g p kk) _ (fun _=>undef) (fun u v w a b=>a.trans b) ?_ (by kernel_rfl) (by kernel_rfl) ((Kept.refl _ _).drew) ((zj rfl ⟨hI0.keep (zr (Below.refl _ _)),hP0.keep (zr (Below.refl _ _))⟩)) ?_ ?_
 ·
  intro i v w w' h hb
  match i,h with
  | 0,h=>exact h
  | 1,h=>exact h
  | 2,h=>exact h
  | 3,h=>exact h
  | 4,h=>exact h
  | 5,h=>exact h
  | 6,h=>exact h
  | 7,h=>exact h
  | 9,h=>exact h
  | 10,h=>exact h
  | 8,h=>exact trivial
  | 11,h=>exact trivial
  | _+12,h=>exact trivial
 ·
  refine cQ 0 ?_ ?_
  ·
   intro X w hR ψ χ K HK
   go_simp
   exact HK.out _ _ _ rfl (Kept.refl _ _) rfl iD
  refine cQ 1 ?_ ?_
  ·
   intro X w hR ψ χ K HK
   go_simp
   exact HK.out _ _ _ rfl (Kept.refl _ _) rfl iD
  refine cQ 2 ?_ ?_
  ·
   intro X w hR ψ χ K HK
   have c2:=(hX.kept hR (fun e=>e.elim hXn hXm)).cell 0 rfl
   go_simp
   exact HK.out _ _ _ rfl (Kept.refl _ _) rfl iD
  refine cS 3 0 ?_ ?_
  ·
   intro X w hR ψ χ hst K HK
   have e2:X 2=tkV g:=(pR ψ 2 .data 0 :)
   go_simp
   go_at_call 170
   refine (HF1.out _ (show InW w0 _ g (s)∧Blk _ p (cs) 93 from zg hst rfl).1).mono ?_
   rintro e w2 ⟨rfl,h1,h2⟩
   go_simp
   exact HK.out _ _ _ (by (try simp only [e2])<;>rfl) h2.inP rfl (zj rfl ⟨h1,(show InW w0 _ g (s)∧Blk _ p (cs) 93 from zg hst rfl).2.kept h2 hpg⟩)
  refine cQ 4 ?_ ?_
  ·
   intro X w hR ψ χ K HK
   have c4:=(hX.kept hR (fun e=>e.elim hXn hXm)).cell 0 rfl
   go_simp
   exact HK.out _ _ _ rfl (Kept.refl _ _) rfl iD
  refine cS 5 1 ?_ ?_
  ·
   intro X w hR ψ χ hst K HK
   have hst:InW w0 w g (s1)∧Blk w p (cs) 93:=zg hst rfl
   have e4:X 4=tkV g:=(pR ψ 4 .data 0 :)
   go_simp
   go_at_call 170
   refine (HF2.out _ hst.1).mono ?_
   rintro e w2 ⟨rfl,h1,h2⟩
   go_simp
   exact HK.out _ _ _ (by (try simp only [e4])<;>rfl) h2.inP rfl (zj rfl ⟨h1,hst.2.kept h2 hpg⟩)
  refine cQ 6 ?_ ?_
  ·
   intro X w hR ψ χ K HK
   have e0:X 0=.pointer (some ⟨p,59,none⟩):=(pR ψ 0 .data 0 :)
   go_simp
   exact HK.out _ _ _ (by (try simp only [e0])<;>rfl) (Kept.refl _ _) rfl iD
  refine cQ 7 ?_ ?_
  ·
   intro X w hR ψ χ K HK
   have e6:X 6=.pointer (some ⟨p,59,none⟩):=(pR ψ 6 .data 0 :)
   go_simp
   exact HK.out _ _ _ (by (try simp only [e6])<;>rfl) (Kept.refl _ _) rfl iD
  refine cS 8 2 ?_ ?_
  ·
   intro X w hR ψ χ hst K HK
   have hst:InW w0 w g (s2)∧Blk w p (cs) 93:=zg hst rfl
   have e7:X 7=.pointer (some ⟨p,59,none⟩):=(pR ψ 7 .data 0 :)
   have e3:X 3=.agg (So.fifoL f1).toArray:=(pR ψ 3 .data 1 :)
   rw [if_pos (zo rfl)]
   refine wp_store_mid 77 (.tmp 15) (.tmp 11) rfl p 59 _ (show X 7=_ from e7) (show X 3=_ from e3) (hst.2.there 59 17 (by rw [Zcs.out];omega)) rfl (all_oneCell_toArray (zfb _)) ?_
   have hz:=ze6 (w0:=w0) (g:=g) hst.1 hst.2 (by decide) hp (So.fifoL f1) 59
   exact HK.out undef _ _ (by (try simp only [e7,e3])<;>rfl) (zd8 _ _) trivial (zj rfl ⟨hz.1,zt hz.2 Hc1.out⟩)
  refine cQ 9 ?_ ?_
  ·
   intro X w hR ψ χ K HK
   have e1:X 1=.pointer (some ⟨p,59,none⟩):=(pR ψ 1 .data 0 :)
   go_simp
   exact HK.out _ _ _ (by (try simp only [e1])<;>rfl) (Kept.refl _ _) rfl iD
  refine cQ 10 ?_ ?_
  ·
   intro X w hR ψ χ K HK
   have e9:X 9=.pointer (some ⟨p,59,none⟩):=(pR ψ 9 .data 0 :)
   go_simp
   exact HK.out _ _ _ (by (try simp only [e9])<;>rfl) (Kept.refl _ _) rfl iD
  refine cS 11 3 ?_ ?_
  ·
   intro X w hR ψ χ hst K HK
   have hst:InW w0 w g (s2)∧Blk w p (c1) 93:=zg hst rfl
   have e10:X 10=.pointer (some ⟨p,76,none⟩):=(pR ψ 10 .data 0 :)
   have e5:X 5=.agg (So.fifoL f2).toArray:=(pR ψ 5 .data 1 :)
   rw [if_pos (zo rfl)]
   refine wp_store_mid 77 (.tmp 17) (.tmp 13) rfl p 76 _ (show X 10=_ from e10) (show X 5=_ from e5) (hst.2.there 76 17 (by rw [Zc1.out];omega)) rfl (all_oneCell_toArray (zfb _)) ?_
   have hz:=ze6 (w0:=w0) (g:=g) hst.1 hst.2 (by decide) hp (So.fifoL f2) 76
   exact HK.out undef _ _ (by (try simp only [e10,e5])<;>rfl) (zd8 _ _) trivial (zj rfl ⟨hz.1,zt hz.2 Hc2.out⟩)
  exact zi.nil
 ·
  intro X1 wE1 hR1 hall1 hS1
  have hS1:InW w0 wE1 g (s2)∧Blk wE1 p (c2) 93:=zg hS1 rfl
  have hI1:=hS1.1
  have hP1:=hS1.2
  have hX1:=hX.kept hR1 (fun e=>e.elim hXn hXm)
  clear hall1 hS1
  have hI1:InW w0 wE1 g (tkI s2 zT 0):=hI1
  go_wp2_with fail
  obtain ⟨c3,hc3⟩:=qX (zaa (c2) [93,94,95,96,97,98] (u8s ((List.range 6).map fun i=>tkN s2 zT (0+i))))
  have Zc3:Hid (c3.size=160):=qH (by rw [←hc3];simp [zn,zl,Zc2.out])
  have Hc3:=qH hc3
  clear hc3
  refine zc (by kernel_rfl) (fun X=>⟨#[tkV g,.pointer (some ⟨p,0,none⟩),.pointer (some ⟨x,0,none⟩),undef,.pointer (some ⟨p,59,none⟩),.pointer (some ⟨p,0,none⟩),.pointer (some ⟨p,0,none⟩),.pointer (some ⟨p,59,none⟩),X1 0,X1 1,X1 2,X1 3,X1 4,X1 5,X1 6,X1 7,X1 9,X1 10,X 0,X 1,X 2,X 3,X 4,X 5,X 6,X 7,X 8,X 9,X 10,X 11,X 12,X 13,X 14,X 15,X 16,X 17,X 18,X 19,X 20,undef,undef,undef,undef,undef,undef,undef,undef,undef,undef,undef],[]⟩) (Kept (inP g p)) (fun i v w=>match i with | 0=>(v=tkV g) | 1=>(v=.pointer (some ⟨p,59,none⟩)) | 2=>(v=.pointer (some ⟨p,59,none⟩)) | 3=>(v=.pointer (some ⟨p,93,none⟩)) | 4=>(v=.pointer (some ⟨p,59,none⟩)) | 5=>(v=.pointer (some ⟨p,59,none⟩)) | 6=>(v=.pointer (some ⟨p,94,none⟩)) | 7=>(v=.pointer (some ⟨p,59,none⟩)) | 8=>(v=.pointer (some ⟨p,59,none⟩)) | 9=>(v=.pointer (some ⟨p,95,none⟩)) | 10=>(v=.pointer (some ⟨p,59,none⟩)) | 11=>(v=.pointer (some ⟨p,59,none⟩)) | 12=>(v=.pointer (some ⟨p,96,none⟩)) | 13=>(v=.pointer (some ⟨p,59,none⟩)) | 14=>(v=.pointer (some ⟨p,59,none⟩)) | 15=>(v=.pointer (some ⟨p,97,none⟩)) | 16=>(v=.pointer (some ⟨p,59,none⟩)) | 17=>(v=.pointer (some ⟨p,59,none⟩)) | 18=>(v=.pointer (some ⟨p,98,none⟩)) | 19=>(∃ q,v=.slice (some ⟨q,0,none⟩) 6 6∧Blk w q (zcc p [93,94,95,96,97,98]) 335∧q≠g∧q≠p) | _=>True) (fun i=>([0,0,0,0,0,0,0,0,0,0,0,0,0,0,0,0,0,0,0,0,1]:List Nat).getD i 0) 1 (fun kk _ w=>zaW 93 [((tkI s2 zT (0)),c2),((tkI s2 zT (6)),c3)] w0 w g p kk) _ (fun _=>undef) (fun u v w a b=>a.trans b) ?_ (by kernel_rfl) (by kernel_rfl) ((Kept.refl _ _).drew) ((zj rfl ⟨hI1.keep (zr (Below.refl _ _)),hP1.keep (zr (Below.refl _ _))⟩)) ?_ ?_
  ·
   intro i v w w' h hb
   match i,h with
   | 0,h=>exact h
   | 1,h=>exact h
   | 2,h=>exact h
   | 3,h=>exact h
   | 4,h=>exact h
   | 5,h=>exact h
   | 6,h=>exact h
   | 7,h=>exact h
   | 8,h=>exact h
   | 9,h=>exact h
   | 10,h=>exact h
   | 11,h=>exact h
   | 12,h=>exact h
   | 13,h=>exact h
   | 14,h=>exact h
   | 15,h=>exact h
   | 16,h=>exact h
   | 17,h=>exact h
   | 18,h=>exact h
   | 19,h=>exact (let ⟨q,e,hq,h1,h2⟩:=h;⟨q,e,hq.kept hb (fun e=>e.elim h1 h2),h1,h2⟩)
   | 20,h=>exact trivial
   | _+21,h=>exact trivial
  ·
   refine cQ 0 ?_ ?_
   ·
    intro X w hR ψ χ K HK
    have c0:=(hX1.kept hR (fun e=>e.elim hXn hXm)).cell 0 rfl
    go_simp
    exact HK.out _ _ _ rfl (Kept.refl _ _) rfl iD
   refine cQ 1 ?_ ?_
   ·
    intro X w hR ψ χ K HK
    go_simp
    exact HK.out _ _ _ rfl (Kept.refl _ _) rfl iD
   refine cQ 2 ?_ ?_
   ·
    intro X w hR ψ χ K HK
    have e1:X 1=.pointer (some ⟨p,59,none⟩):=(pR ψ 1 .data 0 :)
    go_simp
    exact HK.out _ _ _ (by (try simp only [e1])<;>rfl) (Kept.refl _ _) rfl iD
   refine cQ 3 ?_ ?_
   ·
    intro X w hR ψ χ K HK
    have e2:X 2=.pointer (some ⟨p,59,none⟩):=(pR ψ 2 .data 0 :)
    go_simp
    exact HK.out _ _ _ (by (try simp only [e2])<;>rfl) (Kept.refl _ _) rfl iD
   refine cQ 4 ?_ ?_
   ·
    intro X w hR ψ χ K HK
    go_simp
    exact HK.out _ _ _ rfl (Kept.refl _ _) rfl iD
   refine cQ 5 ?_ ?_
   ·
    intro X w hR ψ χ K HK
    have e4:X 4=.pointer (some ⟨p,59,none⟩):=(pR ψ 4 .data 0 :)
    go_simp
    exact HK.out _ _ _ (by (try simp only [e4])<;>rfl) (Kept.refl _ _) rfl iD
   refine cQ 6 ?_ ?_
   ·
    intro X w hR ψ χ K HK
    have e5:X 5=.pointer (some ⟨p,59,none⟩):=(pR ψ 5 .data 0 :)
    go_simp
    exact HK.out _ _ _ (by (try simp only [e5])<;>rfl) (Kept.refl _ _) rfl iD
   refine cQ 7 ?_ ?_
   ·
    intro X w hR ψ χ K HK
    go_simp
    exact HK.out _ _ _ rfl (Kept.refl _ _) rfl iD
   refine cQ 8 ?_ ?_
   ·
    intro X w hR ψ χ K HK
    have e7:X 7=.pointer (some ⟨p,59,none⟩):=(pR ψ 7 .data 0 :)
    go_simp
    exact HK.out _ _ _ (by (try simp only [e7])<;>rfl) (Kept.refl _ _) rfl iD
   refine cQ 9 ?_ ?_
   ·
    intro X w hR ψ χ K HK
    have e8:X 8=.pointer (some ⟨p,59,none⟩):=(pR ψ 8 .data 0 :)
    go_simp
    exact HK.out _ _ _ (by (try simp only [e8])<;>rfl) (Kept.refl _ _) rfl iD
   refine cQ 10 ?_ ?_
   ·
    intro X w hR ψ χ K HK
    go_simp
    exact HK.out _ _ _ rfl (Kept.refl _ _) rfl iD
   refine cQ 11 ?_ ?_
   ·
    intro X w hR ψ χ K HK
    have e10:X 10=.pointer (some ⟨p,59,none⟩):=(pR ψ 10 .data 0 :)
    go_simp
    exact HK.out _ _ _ (by (try simp only [e10])<;>rfl) (Kept.refl _ _) rfl iD
   refine cQ 12 ?_ ?_
   ·
    intro X w hR ψ χ K HK
    have e11:X 11=.pointer (some ⟨p,59,none⟩):=(pR ψ 11 .data 0 :)
    go_simp
    exact HK.out _ _ _ (by (try simp only [e11])<;>rfl) (Kept.refl _ _) rfl iD
   refine cQ 13 ?_ ?_
   ·
    intro X w hR ψ χ K HK
    go_simp
    exact HK.out _ _ _ rfl (Kept.refl _ _) rfl iD
   refine cQ 14 ?_ ?_
   ·
    intro X w hR ψ χ K HK
    have e13:X 13=.pointer (some ⟨p,59,none⟩):=(pR ψ 13 .data 0 :)
    go_simp
    exact HK.out _ _ _ (by (try simp only [e13])<;>rfl) (Kept.refl _ _) rfl iD
   refine cQ 15 ?_ ?_
   ·
    intro X w hR ψ χ K HK
    have e14:X 14=.pointer (some ⟨p,59,none⟩):=(pR ψ 14 .data 0 :)
    go_simp
    exact HK.out _ _ _ (by (try simp only [e14])<;>rfl) (Kept.refl _ _) rfl iD
   refine cQ 16 ?_ ?_
   ·
    intro X w hR ψ χ K HK
    go_simp
    exact HK.out _ _ _ rfl (Kept.refl _ _) rfl iD
   refine cQ 17 ?_ ?_
   ·
    intro X w hR ψ χ K HK
    have e16:X 16=.pointer (some ⟨p,59,none⟩):=(pR ψ 16 .data 0 :)
    go_simp
    exact HK.out _ _ _ (by (try simp only [e16])<;>rfl) (Kept.refl _ _) rfl iD
   refine cQ 18 ?_ ?_
   ·
    intro X w hR ψ χ K HK
    have e17:X 17=.pointer (some ⟨p,59,none⟩):=(pR ψ 17 .data 0 :)
    go_simp
    exact HK.out _ _ _ (by (try simp only [e17])<;>rfl) (Kept.refl _ _) rfl iD
   refine cQ 19 ?_ ?_
   ·
    intro X w hR ψ χ K HK
    have e3:X 3=.pointer (some ⟨p,93,none⟩):=(pR ψ 3 .data 0 :)
    have e6:X 6=.pointer (some ⟨p,94,none⟩):=(pR ψ 6 .data 1 :)
    have e9:X 9=.pointer (some ⟨p,95,none⟩):=(pR ψ 9 .data 2 :)
    have e12:X 12=.pointer (some ⟨p,96,none⟩):=(pR ψ 12 .data 3 :)
    have e15:X 15=.pointer (some ⟨p,97,none⟩):=(pR ψ 15 .data 4 :)
    have e18:X 18=.pointer (some ⟨p,98,none⟩):=(pR ψ 18 .data 5 :)
    go_simp
    exact HK.out _ _ _ (by (try simp only [e3,e6,e9,e12,e15,e18])<;>rfl) ((Kept.refl _ _).alloc _) ⟨_,rfl,Blk.new _ _ _,Nat.ne_of_gt (Nat.lt_of_lt_of_le hI1.lt hR.size),Nat.ne_of_gt (Nat.lt_of_lt_of_le hP1.lt hR.size)⟩ (fun k _ h=>zbT h (za (Below.refl _ _) _))
   refine cS 20 0 ?_ ?_
   ·
    intro X w hR ψ χ hst K HK
    have e0:X 0=tkV g:=(pR ψ 0 .data 0 :)
    obtain ⟨q19,e19,hq19,_⟩:∃ q,X 19=Value.slice (some ⟨q,0,none⟩) 6 6∧Blk w q (zcc p [93,94,95,96,97,98]) 335∧q≠g∧q≠p:=(pR ψ 19 .data 1 :)
    go_simp
    go_at_call 171
    refine (ziC 0 q19 6 6 [93,94,95,96,97,98] (show InW w0 _ g (tkI s2 zT (0))∧Blk _ p (c2) 93 from zg hst rfl).1 (show InW w0 _ g (tkI s2 zT (0))∧Blk _ p (c2) 93 from zg hst rfl).2 hp hq19 rfl (by intro o ho;simp only [List.mem_cons,List.not_mem_nil,or_false] at ho;rw [Zc2.out];omega)).mono ?_
    rintro e w2 ⟨rfl,h1,h2,h3⟩
    go_simp
    exact HK.out _ _ _ (by (try simp only [e0,e19])<;>rfl) h3 trivial (zj rfl ⟨h1,zt h2 Hc3.out⟩)
   exact zi.nil
  ·
   intro X2 wE2 hR2 hall2 hS2
   have hS2:InW w0 wE2 g (tkI s2 zT (6))∧Blk wE2 p (c3) 93:=zg hS2 rfl
   have hI2:=hS2.1
   have hP2:=hS2.2
   have hX2:=hX1.kept hR2 (fun e=>e.elim hXn hXm)
   clear hall2 hS2
   go_wp2_with fail
   obtain ⟨c4,hc4⟩:=qX ((c3).setIfInBounds (99) (Value.bool (tkN s2 zT 6==1)))
   have Zc4:Hid (c4.size=160):=qH (by rw [←hc4];simp [zn,zl,Zc3.out])
   have Hc4:=qH hc4
   clear hc4
   obtain ⟨c5,hc5⟩:=qX ((c4).setIfInBounds (100) (Value.int IntKind.i64 ((tkN s2 zT 7:Nat):Int)))
   have Zc5:Hid (c5.size=160):=qH (by rw [←hc5];simp [zn,zl,Zc4.out])
   have Hc5:=qH hc5
   clear hc5
   refine zc (by kernel_rfl) (fun X=>⟨#[tkV g,.pointer (some ⟨p,0,none⟩),.pointer (some ⟨x,0,none⟩),undef,.pointer (some ⟨p,59,none⟩),.pointer (some ⟨p,0,none⟩),.pointer (some ⟨p,0,none⟩),.pointer (some ⟨p,59,none⟩),X1 0,X1 1,X1 2,X1 3,X1 4,X1 5,X1 6,X1 7,X1 9,X1 10,X2 0,X2 1,X2 2,X2 3,X2 4,X2 5,X2 6,X2 7,X2 8,X2 9,X2 10,X2 11,X2 12,X2 13,X2 14,X2 15,X2 16,X2 17,X2 18,X2 19,X2 20,X 0,X 1,X 2,X 3,X 4,X 5,X 6,X 7,X 8,X 10,X 11],[]⟩) (Kept (inP g p)) (fun i v w=>match i with | 0=>(v=.pointer (some ⟨p,59,none⟩)) | 1=>(v=.pointer (some ⟨p,59,none⟩)) | 2=>(v=tkV g) | 3=>(v=.bool (tkN s2 zT 6==1)) | 4=>(v=tkV g) | 5=>(v=.int .u8 ((tkN s2 zT 7:Nat):Int)) | 6=>(v=.int .i64 ((tkN s2 zT 7:Nat):Int)) | 7=>(v=.pointer (some ⟨p,59,none⟩)) | 8=>(v=.pointer (some ⟨p,99,none⟩)) | 10=>(v=.pointer (some ⟨p,59,none⟩)) | 11=>(v=.pointer (some ⟨p,100,none⟩)) | _=>True) (fun i=>([0,0,0,1,0,2,0,0,0,3,0,0,4]:List Nat).getD i 0) 4 (fun kk _ w=>zaW 93 [((tkI s2 zT (6)),c3),((tkI s2 zT (7)),c3),((tkI s2 zT (8)),c3),((tkI s2 zT (8)),c4),((tkI s2 zT (8)),c5)] w0 w g p kk) _ (fun _=>undef) (fun u v w a b=>a.trans b) ?_ (by kernel_rfl) (by kernel_rfl) ((Kept.refl _ _).drew) ((zj rfl ⟨hI2.keep (zr (Below.refl _ _)),hP2.keep (zr (Below.refl _ _))⟩)) ?_ ?_
   ·
    intro i v w w' h hb
    match i,h with
    | 0,h=>exact h
    | 1,h=>exact h
    | 2,h=>exact h
    | 3,h=>exact h
    | 4,h=>exact h
    | 5,h=>exact h
    | 6,h=>exact h
    | 7,h=>exact h
    | 8,h=>exact h
    | 10,h=>exact h
    | 11,h=>exact h
    | 9,h=>exact trivial
    | 12,h=>exact trivial
    | _+13,h=>exact trivial
   ·
    refine cQ 0 ?_ ?_
    ·
     intro X w hR ψ χ K HK
     go_simp
     exact HK.out _ _ _ rfl (Kept.refl _ _) rfl iD
    refine cQ 1 ?_ ?_
    ·
     intro X w hR ψ χ K HK
     go_simp
     exact HK.out _ _ _ rfl (Kept.refl _ _) rfl iD
    refine cQ 2 ?_ ?_
    ·
     intro X w hR ψ χ K HK
     have c2:=(hX2.kept hR (fun e=>e.elim hXn hXm)).cell 0 rfl
     go_simp
     exact HK.out _ _ _ rfl (Kept.refl _ _) rfl iD
    refine cS 3 0 ?_ ?_
    ·
     intro X w hR ψ χ hst K HK
     have e2:X 2=tkV g:=(pR ψ 2 .data 0 :)
     go_simp
     go_at_call 167
     refine (zbS (6) (show InW w0 _ g (tkI s2 zT (6))∧Blk _ p (c3) 93 from zg hst rfl).1).mono ?_
     rintro e w2 ⟨rfl,h1,h2⟩
     go_simp
     exact HK.out _ _ _ (by (try simp only [e2])<;>rfl) h2.inP rfl (zj rfl ⟨h1,(show InW w0 _ g (tkI s2 zT (6))∧Blk _ p (c3) 93 from zg hst rfl).2.kept h2 hpg⟩)
    refine cQ 4 ?_ ?_
    ·
     intro X w hR ψ χ K HK
     have c4:=(hX2.kept hR (fun e=>e.elim hXn hXm)).cell 0 rfl
     go_simp
     exact HK.out _ _ _ rfl (Kept.refl _ _) rfl iD
    refine cS 5 1 ?_ ?_
    ·
     intro X w hR ψ χ hst K HK
     have hst:InW w0 w g (tkI s2 zT (7))∧Blk w p (c3) 93:=zg hst rfl
     have e4:X 4=tkV g:=(pR ψ 4 .data 0 :)
     go_simp
     go_at_call 169
     refine (zdq (7) hst.1).mono ?_
     rintro e w2 ⟨rfl,h1,h2⟩
     go_simp
     exact HK.out _ _ _ (by (try simp only [e4])<;>rfl) h2.inP rfl (zj rfl ⟨h1,hst.2.kept h2 hpg⟩)
    refine cQ 6 ?_ ?_
    ·
     intro X w hR ψ χ K HK
     have e5:X 5=.int IntKind.u8 ((tkN s2 zT 7:Nat):Int):=(pR ψ 5 .data 0 :)
     have q6:=zcI s2 hsm2 zT 7 _ rfl
     have u6:IntKind.i64.wrap ((tkN s2 zT 7:Nat):Int)=((tkN s2 zT 7:Nat):Int):=by rw [IntKind.wrap_i64];simp only [So.kB,So.kW,So.kH,So.kD,So.p1,So.p2,So.p4,So.p8] at q6;omega
     go_simp
     exact HK.out _ _ _ (by (try simp only [e5])<;>rfl) (Kept.refl _ _) rfl iD
    refine cQ 7 ?_ ?_
    ·
     intro X w hR ψ χ K HK
     have e0:X 0=.pointer (some ⟨p,59,none⟩):=(pR ψ 0 .data 0 :)
     go_simp
     exact HK.out _ _ _ (by (try simp only [e0])<;>rfl) (Kept.refl _ _) rfl iD
    refine cQ 8 ?_ ?_
    ·
     intro X w hR ψ χ K HK
     have e7:X 7=.pointer (some ⟨p,59,none⟩):=(pR ψ 7 .data 0 :)
     go_simp
     exact HK.out _ _ _ (by (try simp only [e7])<;>rfl) (Kept.refl _ _) rfl iD
    refine cS 9 2 ?_ ?_
    ·
     intro X w hR ψ χ hst K HK
     have hst:InW w0 w g (tkI s2 zT (8))∧Blk w p (c3) 93:=zg hst rfl
     have e8:X 8=.pointer (some ⟨p,99,none⟩):=(pR ψ 8 .data 0 :)
     have e3:X 3=.bool (tkN s2 zT 6==1):=(pR ψ 3 .data 1 :)
     have hf9:=hst.2.free (99)
     obtain ⟨_,hc9⟩:=hst.2.some (99) (by rw [Zc3.out];omega)
     go_simp
     exact HK.out undef _ _ (by (try simp only [e8,e3])<;>rfl) (zV _ _) trivial (zj rfl ⟨(zP hst.1 hst.2 (by decide) hp _ _).1,zt (zP hst.1 hst.2 (by decide) hp _ _).2 Hc4.out⟩)
    refine cQ 10 ?_ ?_
    ·
     intro X w hR ψ χ K HK
     have e1:X 1=.pointer (some ⟨p,59,none⟩):=(pR ψ 1 .data 0 :)
     go_simp
     exact HK.out _ _ _ (by (try simp only [e1])<;>rfl) (Kept.refl _ _) rfl iD
    refine cQ 11 ?_ ?_
    ·
     intro X w hR ψ χ K HK
     have e10:X 10=.pointer (some ⟨p,59,none⟩):=(pR ψ 10 .data 0 :)
     go_simp
     exact HK.out _ _ _ (by (try simp only [e10])<;>rfl) (Kept.refl _ _) rfl iD
    refine cS 12 3 ?_ ?_
    ·
     intro X w hR ψ χ hst K HK
     have hst:InW w0 w g (tkI s2 zT (8))∧Blk w p (c4) 93:=zg hst rfl
     have e11:X 11=.pointer (some ⟨p,100,none⟩):=(pR ψ 11 .data 0 :)
     have e6:X 6=.int IntKind.i64 ((tkN s2 zT 7:Nat):Int):=(pR ψ 6 .data 1 :)
     have hf12:=hst.2.free (100)
     obtain ⟨_,hc12⟩:=hst.2.some (100) (by rw [Zc4.out];omega)
     go_simp
     exact HK.out undef _ _ (by (try simp only [e11,e6])<;>rfl) (zV _ _) trivial (zj rfl ⟨(zP hst.1 hst.2 (by decide) hp _ _).1,zt (zP hst.1 hst.2 (by decide) hp _ _).2 Hc5.out⟩)
    exact zi.nil
   ·
    intro X3 wE3 hR3 hall3 hS3
    have hS3:InW w0 wE3 g (tkI s2 zT (8))∧Blk wE3 p (c5) 93:=zg hS3 rfl
    have hI3:=hS3.1
    have hP3:=hS3.2
    have hX3:=hX2.kept hR3 (fun e=>e.elim hXn hXm)
    clear hall3 hS3
    go_wp2_with fail
    go_end0
    refine ⟨rfl,by rw [Hs1.out,Hs2.out];exact hI3,zt hP3 (by unfold znB;rw [Hs1.out,Hs2.out,Hf1.out,Hf2.out,←Hc5.out,←Hc4.out,←Hc3.out,←Hc2.out,←Hc1.out]),((hK0.trans hR1).trans hR2).trans hR3⟩
def kSet:List (Nat×Nat):=[So.kW,So.kW,So.kW,So.kW,So.kW,So.kW,So.kW]
def que7 (B:Nat) (sr:Tl.In) (d0:Array Value):Array Value:=((((zaa (((((d0).setIfInBounds (B) (Value.bool (tkN sr So.kQue 0==1)))).setIfInBounds (B+1) (Value.int IntKind.i64 ((tkN sr So.kQue 1:Nat):Int)))) [B+1+1,B+1+2,B+1+3] (u32s ((List.range 3).map fun i=>tkN sr So.kQue (2+i))))).setIfInBounds (B+1+4) (Value.int IntKind.u16 ((tkN sr So.kQue 5:Nat):Int)))).setIfInBounds (B+1+5) (Value.int IntKind.u16 ((tkN sr So.kQue 6:Nat):Int))
theorem zkb (B:Nat) (sr:Tl.In) (cs:Array Value):(que7 B sr cs).size=cs.size:=by simp [que7,zn]
def queI (i:Tl.In):Nat→Tl.In
 | 0=>i
 | k+1=>tkI (queI i k) So.kQue 7
def queC (o:Nat) (i:Tl.In) (c:Array Value):Nat→Array Value
 | 0=>c
 | k+1=>que7 (o+7+k*7) (queI i k) (queC o i c k)
theorem zfO (o:Nat) (i:Tl.In) (c:Array Value):∀ k,(queC o i c k).size=c.size
 | 0=>rfl
 | k+1=>by rw [queC,zkb,zfO o i c k]
theorem zeM (i:Tl.In) (h:Tl.Small i.b):∀ k,Tl.Small (queI i k).b
 | 0=>h
 | k+1=>zaQ (queI i k) (zeM i h k) So.kQue 7
def zdD (o:Nat) (s:Tl.In) (cs:Array Value):Array Value:=queC o (tkI s kSet 7) (zaa cs [o,o+1,o+2,o+3,o+4,o+5,o+5+1] (u32s ((List.range 7).map fun i=>tkN s kSet (0+i)))) 2
theorem zcK (g p:Nat) (s:Tl.In) (hsm:Tl.Small s.b) (cs:Array Value) (hsz:cs.size=160) (w0 w:World) (hI:InW w0 w g s) (hP:Blk w p cs 93) (hp:w0.heap.size≤p) (o:Nat) (ho:o+21≤160):Calls Tryz.prog 113 #[tkV g,Value.pointer (some ⟨p,o,none⟩)] w (SecP w0 w g p (queI (tkI s kSet 7) 2) (zdD o s cs)):=by
 have hpg:p≠g:=by
  obtain ⟨_,_,_,_,hG,_⟩:=hI.at_
  exact hP.apart hG (by decide)
 go_enter Tryz.func113,Tryz.ntmps113
 go_upto_region 1 with (fail)
 have hX:=Blk.new w #[Value.pointer (some ⟨g,0,none⟩)] 154
 have hI0:=zR hI (.cells #[Value.pointer (some ⟨g,0,none⟩)] 154)
 have hP0:=hP.alloc (.cells #[Value.pointer (some ⟨g,0,none⟩)] 154)
 have hK0:=(Kept.refl (inP g p) w).alloc (.cells #[Value.pointer (some ⟨g,0,none⟩)] 154)
 generalize w.alloc (.cells #[Value.pointer (some ⟨g,0,none⟩)] 154)=W1 at hX hI0 hP0 hK0 ⊢
 have Zcs:=qH hsz
 clear hsz
 have hXn:w.heap.size≠g:=Nat.ne_of_gt hI.lt
 have hXm:w.heap.size≠p:=Nat.ne_of_gt hP.lt
 generalize w.heap.size=x at hX hXn hXm ⊢
 obtain ⟨c1,hc1⟩:=qX (zaa (cs) [o,o+1,o+2,o+3,o+4,o+5,o+5+1] (u32s ((List.range 7).map fun i=>tkN s kSet (0+i))))
 have Zc1:Hid (c1.size=160):=qH (by rw [←hc1];simp [zn,zl,Zcs.out])
 have Hc1:=qH hc1
 clear hc1
 refine zc (by kernel_rfl) (fun X=>⟨#[tkV g,.pointer (some ⟨p,o,none⟩),.pointer (some ⟨x,0,none⟩),undef,undef,undef,X 0,X 1,X 2,X 3,X 4,X 5,X 6,X 7,X 8,X 9,X 10,X 11,X 12,X 13,X 14,X 15,X 16,X 17,X 18,X 19,X 20,X 21,X 22,X 23,X 24,X 25,undef,undef,undef,undef,undef,undef,undef,undef,undef,undef,undef,undef,undef,undef,undef,undef,undef,undef,undef,undef,undef,undef,undef,undef,undef,undef,undef,undef,undef,undef,undef,undef,undef,undef,undef,undef,undef,undef,undef,undef,undef,undef,undef,undef,undef,undef,undef,undef,undef,undef],[]⟩) (Kept (inP g p)) (fun i v w=>match i with | 0=>(v=tkV g) | 1=>(v=.pointer (some ⟨p,o,none⟩)) | 2=>(v=.pointer (some ⟨p,o,none⟩)) | 3=>(v=.pointer (some ⟨p,o,none⟩)) | 4=>(v=.pointer (some ⟨p,o,none⟩)) | 5=>(v=.pointer (some ⟨p,o,none⟩)) | 6=>(v=.pointer (some ⟨p,o+1,none⟩)) | 7=>(v=.pointer (some ⟨p,o,none⟩)) | 8=>(v=.pointer (some ⟨p,o,none⟩)) | 9=>(v=.pointer (some ⟨p,o+2,none⟩)) | 10=>(v=.pointer (some ⟨p,o,none⟩)) | 11=>(v=.pointer (some ⟨p,o,none⟩)) | 12=>(v=.pointer (some ⟨p,o+3,none⟩)) | 13=>(v=.pointer (some ⟨p,o,none⟩)) | 14=>(v=.pointer (some ⟨p,o,none⟩)) | 15=>(v=.pointer (some ⟨p,o+4,none⟩)) | 16=>(v=.pointer (some ⟨p,o,none⟩)) | 17=>(v=.pointer (some ⟨p,o,none⟩)) | 18=>(v=.pointer (some ⟨p,o+5,none⟩)) | 19=>(v=.pointer (some ⟨p,o+5,none⟩)) | 20=>(v=.pointer (some ⟨p,o,none⟩)) | 21=>(v=.pointer (some ⟨p,o,none⟩)) | 22=>(v=.pointer (some ⟨p,o+5,none⟩)) | 23=>(v=.pointer (some ⟨p,o+5+1,none⟩)) | 24=>(∃ q,v=.slice (some ⟨q,0,none⟩) 7 7∧Blk w q (zcc p [o,o+1,o+2,o+3,o+4,o+5,o+5+1]) 330∧q≠g∧q≠p) | _=>True) (fun i=>([0,0,0,0,0,0,0,0,0,0,0,0,0,0,0,0,0,0,0,0,0,0,0,0,0,1]:List Nat).getD i 0) 1 (fun kk _ w=>zaW 93 [((tkI s kSet (0)),cs),((tkI s kSet (7)),c1)] w0 w g p kk) _ (fun _=>undef) (fun u v w a b=>a.trans b) ?_ (by kernel_rfl) (by kernel_rfl) ((Kept.refl _ _).drew) ((zj rfl ⟨hI0.keep (zr (Below.refl _ _)),hP0.keep (zr (Below.refl _ _))⟩)) ?_ ?_
 ·
  intro i v w w' h hb
  match i,h with
  | 0,h=>exact h
  | 1,h=>exact h
  | 2,h=>exact h
  | 3,h=>exact h
  | 4,h=>exact h
  | 5,h=>exact h
  | 6,h=>exact h
  | 7,h=>exact h
  | 8,h=>exact h
  | 9,h=>exact h
  | 10,h=>exact h
  | 11,h=>exact h
  | 12,h=>exact h
  | 13,h=>exact h
  | 14,h=>exact h
  | 15,h=>exact h
  | 16,h=>exact h
  | 17,h=>exact h
  | 18,h=>exact h
  | 19,h=>exact h
  | 20,h=>exact h
  | 21,h=>exact h
  | 22,h=>exact h
  | 23,h=>exact h
  | 24,h=>exact (let ⟨q,e,hq,h1,h2⟩:=h;⟨q,e,hq.kept hb (fun e=>e.elim h1 h2),h1,h2⟩)
  | 25,h=>exact trivial
  | _+26,h=>exact trivial
 ·
  refine cQ 0 ?_ ?_
  ·
   intro X w hR ψ χ K HK
   have c0:=(hX.kept hR (fun e=>e.elim hXn hXm)).cell 0 rfl
   go_simp
   exact HK.out _ _ _ rfl (Kept.refl _ _) rfl iD
  refine cQ 1 ?_ ?_
  ·
   intro X w hR ψ χ K HK
   go_simp
   exact HK.out _ _ _ rfl (Kept.refl _ _) rfl iD
  refine cQ 2 ?_ ?_
  ·
   intro X w hR ψ χ K HK
   have e1:X 1=.pointer (some ⟨p,o,none⟩):=(pR ψ 1 .data 0 :)
   go_simp
   exact HK.out _ _ _ (by (try simp only [e1])<;>rfl) (Kept.refl _ _) rfl iD
  refine cQ 3 ?_ ?_
  ·
   intro X w hR ψ χ K HK
   have e2:X 2=.pointer (some ⟨p,o,none⟩):=(pR ψ 2 .data 0 :)
   go_simp
   exact HK.out _ _ _ (by (try simp only [e2])<;>rfl) (Kept.refl _ _) rfl iD
  refine cQ 4 ?_ ?_
  ·
   intro X w hR ψ χ K HK
   go_simp
   exact HK.out _ _ _ rfl (Kept.refl _ _) rfl iD
  refine cQ 5 ?_ ?_
  ·
   intro X w hR ψ χ K HK
   have e4:X 4=.pointer (some ⟨p,o,none⟩):=(pR ψ 4 .data 0 :)
   go_simp
   exact HK.out _ _ _ (by (try simp only [e4])<;>rfl) (Kept.refl _ _) rfl iD
  refine cQ 6 ?_ ?_
  ·
   intro X w hR ψ χ K HK
   have e5:X 5=.pointer (some ⟨p,o,none⟩):=(pR ψ 5 .data 0 :)
   go_simp
   exact HK.out _ _ _ (by (try simp only [e5])<;>rfl) (Kept.refl _ _) rfl iD
  refine cQ 7 ?_ ?_
  ·
   intro X w hR ψ χ K HK
   go_simp
   exact HK.out _ _ _ rfl (Kept.refl _ _) rfl iD
  refine cQ 8 ?_ ?_
  ·
   intro X w hR ψ χ K HK
   have e7:X 7=.pointer (some ⟨p,o,none⟩):=(pR ψ 7 .data 0 :)
   go_simp
   exact HK.out _ _ _ (by (try simp only [e7])<;>rfl) (Kept.refl _ _) rfl iD
  refine cQ 9 ?_ ?_
  ·
   intro X w hR ψ χ K HK
   have e8:X 8=.pointer (some ⟨p,o,none⟩):=(pR ψ 8 .data 0 :)
   go_simp
   exact HK.out _ _ _ (by (try simp only [e8])<;>rfl) (Kept.refl _ _) rfl iD
  refine cQ 10 ?_ ?_
  ·
   intro X w hR ψ χ K HK
   go_simp
   exact HK.out _ _ _ rfl (Kept.refl _ _) rfl iD
  refine cQ 11 ?_ ?_
  ·
   intro X w hR ψ χ K HK
   have e10:X 10=.pointer (some ⟨p,o,none⟩):=(pR ψ 10 .data 0 :)
   go_simp
   exact HK.out _ _ _ (by (try simp only [e10])<;>rfl) (Kept.refl _ _) rfl iD
  refine cQ 12 ?_ ?_
  ·
   intro X w hR ψ χ K HK
   have e11:X 11=.pointer (some ⟨p,o,none⟩):=(pR ψ 11 .data 0 :)
   go_simp
   exact HK.out _ _ _ (by (try simp only [e11])<;>rfl) (Kept.refl _ _) rfl iD
  refine cQ 13 ?_ ?_
  ·
   intro X w hR ψ χ K HK
   go_simp
   exact HK.out _ _ _ rfl (Kept.refl _ _) rfl iD
  refine cQ 14 ?_ ?_
  ·
   intro X w hR ψ χ K HK
   have e13:X 13=.pointer (some ⟨p,o,none⟩):=(pR ψ 13 .data 0 :)
   go_simp
   exact HK.out _ _ _ (by (try simp only [e13])<;>rfl) (Kept.refl _ _) rfl iD
  refine cQ 15 ?_ ?_
  ·
   intro X w hR ψ χ K HK
   have e14:X 14=.pointer (some ⟨p,o,none⟩):=(pR ψ 14 .data 0 :)
   go_simp
   exact HK.out _ _ _ (by (try simp only [e14])<;>rfl) (Kept.refl _ _) rfl iD
  refine cQ 16 ?_ ?_
  ·
   intro X w hR ψ χ K HK
   go_simp
   exact HK.out _ _ _ rfl (Kept.refl _ _) rfl iD
  refine cQ 17 ?_ ?_
  ·
   intro X w hR ψ χ K HK
   have e16:X 16=.pointer (some ⟨p,o,none⟩):=(pR ψ 16 .data 0 :)
   go_simp
   exact HK.out _ _ _ (by (try simp only [e16])<;>rfl) (Kept.refl _ _) rfl iD
  refine cQ 18 ?_ ?_
  ·
   intro X w hR ψ χ K HK
   have e17:X 17=.pointer (some ⟨p,o,none⟩):=(pR ψ 17 .data 0 :)
   go_simp
   exact HK.out _ _ _ (by (try simp only [e17])<;>rfl) (Kept.refl _ _) rfl iD
  refine cQ 19 ?_ ?_
  ·
   intro X w hR ψ χ K HK
   have e18:X 18=.pointer (some ⟨p,o+5,none⟩):=(pR ψ 18 .data 0 :)
   go_simp
   exact HK.out _ _ _ (by (try simp only [e18])<;>rfl) (Kept.refl _ _) rfl iD
  refine cQ 20 ?_ ?_
  ·
   intro X w hR ψ χ K HK
   go_simp
   exact HK.out _ _ _ rfl (Kept.refl _ _) rfl iD
  refine cQ 21 ?_ ?_
  ·
   intro X w hR ψ χ K HK
   have e20:X 20=.pointer (some ⟨p,o,none⟩):=(pR ψ 20 .data 0 :)
   go_simp
   exact HK.out _ _ _ (by (try simp only [e20])<;>rfl) (Kept.refl _ _) rfl iD
  refine cQ 22 ?_ ?_
  ·
   intro X w hR ψ χ K HK
   have e21:X 21=.pointer (some ⟨p,o,none⟩):=(pR ψ 21 .data 0 :)
   go_simp
   exact HK.out _ _ _ (by (try simp only [e21])<;>rfl) (Kept.refl _ _) rfl iD
  refine cQ 23 ?_ ?_
  ·
   intro X w hR ψ χ K HK
   have e22:X 22=.pointer (some ⟨p,o+5,none⟩):=(pR ψ 22 .data 0 :)
   go_simp
   exact HK.out _ _ _ (by (try simp only [e22])<;>rfl) (Kept.refl _ _) rfl iD
  refine cQ 24 ?_ ?_
  ·
   intro X w hR ψ χ K HK
   have e3:X 3=.pointer (some ⟨p,o,none⟩):=(pR ψ 3 .data 0 :)
   have e6:X 6=.pointer (some ⟨p,o+1,none⟩):=(pR ψ 6 .data 1 :)
   have e9:X 9=.pointer (some ⟨p,o+2,none⟩):=(pR ψ 9 .data 2 :)
   have e12:X 12=.pointer (some ⟨p,o+3,none⟩):=(pR ψ 12 .data 3 :)
   have e15:X 15=.pointer (some ⟨p,o+4,none⟩):=(pR ψ 15 .data 4 :)
   have e19:X 19=.pointer (some ⟨p,o+5,none⟩):=(pR ψ 19 .data 5 :)
   have e23:X 23=.pointer (some ⟨p,o+5+1,none⟩):=(pR ψ 23 .data 6 :)
   go_simp
   exact HK.out _ _ _ (by (try simp only [e3,e6,e9,e12,e15,e19,e23])<;>rfl) ((Kept.refl _ _).alloc _) ⟨_,rfl,Blk.new _ _ _,Nat.ne_of_gt (Nat.lt_of_lt_of_le hI0.lt hR.size),Nat.ne_of_gt (Nat.lt_of_lt_of_le hP0.lt hR.size)⟩ (fun k _ h=>zbT h (za (Below.refl _ _) _))
  refine cS 25 0 ?_ ?_
  ·
   intro X w hR ψ χ hst K HK
   have e0:X 0=tkV g:=(pR ψ 0 .data 0 :)
   obtain ⟨q24,e24,hq24,_⟩:∃ q,X 24=Value.slice (some ⟨q,0,none⟩) 7 7∧Blk w q (zcc p [o,o+1,o+2,o+3,o+4,o+5,o+5+1]) 330∧q≠g∧q≠p:=(pR ψ 24 .data 1 :)
   go_simp
   go_at_call 168
   refine (zb6 0 q24 7 7 [o,o+1,o+2,o+3,o+4,o+5,o+5+1] (show InW w0 _ g (tkI s kSet (0))∧Blk _ p (cs) 93 from zg hst rfl).1 (show InW w0 _ g (tkI s kSet (0))∧Blk _ p (cs) 93 from zg hst rfl).2 hp hq24 rfl (by intro o ho;simp only [List.mem_cons,List.not_mem_nil,or_false] at ho;rw [Zcs.out];omega)).mono ?_
   rintro e w2 ⟨rfl,h1,h2,h3⟩
   go_simp
   exact HK.out _ _ _ (by (try simp only [e0,e24])<;>rfl) h3 trivial (zj rfl ⟨h1,zt h2 Hc1.out⟩)
  exact zi.nil
 ·
  intro X1 wE1 hR1 hall1 hS1
  have hS1:InW w0 wE1 g (tkI s kSet (7))∧Blk wE1 p (c1) 93:=zg hS1 rfl
  have hI1:=hS1.1
  have hP1:=hS1.2
  have hX1:=hX.kept hR1 (fun e=>e.elim hXn hXm)
  clear hall1 hS1
  have hsm7:Tl.Small (tkI s kSet 7).b:=zaQ s hsm kSet 7
  obtain ⟨i0,hi0⟩:=qX (tkI s kSet 7)
  rw [hi0] at hI1 hsm7
  have Hi0:=qH hi0
  clear hi0 hI0 hP0 hX
  go_wp2_with fail
  go_loopw [4,5,32] (fun _ _ i wr=>∃ k:Nat,k≤2∧i=.int .i64 k∧InW w0 wr g (queI i0 k)∧Blk wr p (queC o i0 c1 k) 93∧Kept (inP g p) wE1 wr) (fun _ _ i _=>2-(intOf i).toNat)
  case atStart=>exact ⟨0,by decide,rfl,hI1,hP1,Kept.refl _ _⟩
  case round =>
   obtain ⟨k,hk,rfl,hIr,hPr,hKr⟩:=hrel
   have hXr:=hX1.kept hKr (fun e=>e.elim hXn hXm)
   have hsz2:=zfO o i0 c1 k
   rw [Zc1.out] at hsz2
   have hsmk:=zeM i0 hsm7 k
   by_cases hlt:k<2
   ·
    have hq1:queI i0 (k+1)=tkI (queI i0 k) So.kQue 7:=rfl
    have hq2:queC o i0 c1 (k+1)=que7 (o+7+k*7) (queI i0 k) (queC o i0 c1 k):=rfl
    obtain ⟨sr,hsr⟩:=qX (queI i0 k)
    obtain ⟨d0,hd0⟩:=qX (queC o i0 c1 k)
    obtain ⟨B,hB⟩:=qX (o+7+k*7)
    rw [hsr] at hIr hsmk hq1 hq2
    rw [hd0] at hPr hsz2 hq2
    rw [hB] at hq2
    have hB7:B+7≤160:=by omega
    have Zd0:=qH hsz2
    have Hq1:=qH hq1
    have Hq2:=qH hq2
    have HB:=qH hB
    have hIq:InW w0 wr g (tkI sr So.kQue 0):=hIr
    have hk2:(k:Int)<2:=by omega
    have hk0:(0:Int)≤(k:Int):=by omega
    clear hsz2 hq1 hq2 hsr hd0 hB hIr
    go_wp2_with fail
    rw [HB.out]
    obtain ⟨c2,hc2⟩:=qX ((d0).setIfInBounds (B) (Value.bool (tkN sr So.kQue 0==1)))
    have Zc2:Hid (c2.size=160):=qH (by rw [←hc2];simp [zn,zl,Zd0.out])
    have Hc2:=qH hc2
    clear hc2
    obtain ⟨c3,hc3⟩:=qX ((c2).setIfInBounds (B+1) (Value.int IntKind.i64 ((tkN sr So.kQue 1:Nat):Int)))
    have Zc3:Hid (c3.size=160):=qH (by rw [←hc3];simp [zn,zl,Zc2.out])
    have Hc3:=qH hc3
    clear hc3
    refine zc (by kernel_rfl) (fun X=>⟨#[tkV g,.pointer (some ⟨p,o,none⟩),.pointer (some ⟨x,0,none⟩),undef,.int .i64 ↑k,.pointer (some ⟨p,B,none⟩),X1 0,X1 1,X1 2,X1 3,X1 4,X1 5,X1 6,X1 7,X1 8,X1 9,X1 10,X1 11,X1 12,X1 13,X1 14,X1 15,X1 16,X1 17,X1 18,X1 19,X1 20,X1 21,X1 22,X1 23,X1 24,X1 25,.int .i64 ↑k,.bool true,.int .i64 ↑k,.pointer (some ⟨p,o,none⟩),.int .i64 ↑k,.pointer (some ⟨p,o,none⟩),.pointer (some { block:=p,off:=o+7 }),.pointer (some ⟨p,B,none⟩),X 0,X 1,X 2,X 3,X 4,X 5,X 6,X 7,X 8,X 10,X 11,X 12,u52,u53,u54,u55,u56,u57,u58,u59,u60,u61,u62,u63,u64,u65,u66,u67,u68,u69,u70,u71,u72,u73,u74,u75,u76,u77,u78,u79,u80,u81],[]⟩) (Kept (inP g p)) (fun i v w=>match i with | 0=>(v=.pointer (some ⟨p,B,none⟩)) | 1=>(v=.pointer (some ⟨p,B,none⟩)) | 2=>(v=tkV g) | 3=>(v=.bool (tkN sr So.kQue 0==1)) | 4=>(v=tkV g) | 5=>(v=.int .u64 ((tkN sr So.kQue 1:Nat):Int)) | 6=>(v=.int .i64 ((tkN sr So.kQue 1:Nat):Int)) | 7=>(v=.pointer (some ⟨p,B,none⟩)) | 8=>(v=.pointer (some ⟨p,B,none⟩)) | 10=>(v=.pointer (some ⟨p,B,none⟩)) | 11=>(v=.pointer (some ⟨p,B+1,none⟩)) | 12=>(v=.pointer (some ⟨p,B+1,none⟩)) | _=>True) (fun i=>([0,0,0,1,0,2,0,0,0,3,0,0,0,4]:List Nat).getD i 0) 4 (fun kk _ w=>zaW 93 [((tkI sr So.kQue (0)),d0),((tkI sr So.kQue (1)),d0),((tkI sr So.kQue (2)),d0),((tkI sr So.kQue (2)),c2),((tkI sr So.kQue (2)),c3)] w0 w g p kk) _ (fun i=>if i=0 then u40 else if i=1 then u41 else if i=2 then u42 else if i=3 then u43 else if i=4 then u44 else if i=5 then u45 else if i=6 then u46 else if i=7 then u47 else if i=8 then u48 else if i=10 then u49 else if i=11 then u50 else if i=12 then u51 else undef) (fun u v w a b=>a.trans b) ?_ (by kernel_rfl) (by kernel_rfl) ((Kept.refl _ _).drew) ((zj rfl ⟨hIq.keep (zr (Below.refl _ _)),hPr.keep (zr (Below.refl _ _))⟩)) ?_ ?_
    ·
     intro i v w w' h hb
     match i,h with
     | 0,h=>exact h
     | 1,h=>exact h
     | 2,h=>exact h
     | 3,h=>exact h
     | 4,h=>exact h
     | 5,h=>exact h
     | 6,h=>exact h
     | 7,h=>exact h
     | 8,h=>exact h
     | 10,h=>exact h
     | 11,h=>exact h
     | 12,h=>exact h
     | 9,h=>exact trivial
     | 13,h=>exact trivial
     | _+14,h=>exact trivial
    ·
     refine cQ 0 ?_ ?_
     ·
      intro X w hR ψ χ K HK
      go_simp
      exact HK.out _ _ _ rfl (Kept.refl _ _) rfl iD
     refine cQ 1 ?_ ?_
     ·
      intro X w hR ψ χ K HK
      go_simp
      exact HK.out _ _ _ rfl (Kept.refl _ _) rfl iD
     refine cQ 2 ?_ ?_
     ·
      intro X w hR ψ χ K HK
      have c2:=(hXr.kept hR (fun e=>e.elim hXn hXm)).cell 0 rfl
      go_simp
      exact HK.out _ _ _ rfl (Kept.refl _ _) rfl iD
     refine cS 3 0 ?_ ?_
     ·
      intro X w hR ψ χ hst K HK
      have e2:X 2=tkV g:=(pR ψ 2 .data 0 :)
      go_simp
      go_at_call 167
      refine (zbS (0) (show InW w0 _ g (tkI sr So.kQue (0))∧Blk _ p (d0) 93 from zg hst rfl).1).mono ?_
      rintro e w2 ⟨rfl,h1,h2⟩
      go_simp
      exact HK.out _ _ _ (by (try simp only [e2])<;>rfl) h2.inP rfl (zj rfl ⟨h1,(show InW w0 _ g (tkI sr So.kQue (0))∧Blk _ p (d0) 93 from zg hst rfl).2.kept h2 hpg⟩)
     refine cQ 4 ?_ ?_
     ·
      intro X w hR ψ χ K HK
      have c4:=(hXr.kept hR (fun e=>e.elim hXn hXm)).cell 0 rfl
      go_simp
      exact HK.out _ _ _ rfl (Kept.refl _ _) rfl iD
     refine cS 5 1 ?_ ?_
     ·
      intro X w hR ψ χ hst K HK
      have hst:InW w0 w g (tkI sr So.kQue (1))∧Blk w p (d0) 93:=zg hst rfl
      have e4:X 4=tkV g:=(pR ψ 4 .data 0 :)
      go_simp
      go_at_call 105
      refine (ze5 (1) hst.1).mono ?_
      rintro e w2 ⟨rfl,h1,h2⟩
      go_simp
      exact HK.out _ _ _ (by (try simp only [e4])<;>rfl) h2.inP rfl (zj rfl ⟨h1,hst.2.kept h2 hpg⟩)
     refine cQ 6 ?_ ?_
     ·
      intro X w hR ψ χ K HK
      have e5:X 5=.int IntKind.u64 ((tkN sr So.kQue 1:Nat):Int):=(pR ψ 5 .data 0 :)
      have q6:=zcI sr hsmk So.kQue 1 _ rfl
      have u6:IntKind.i64.wrap ((tkN sr So.kQue 1:Nat):Int)=((tkN sr So.kQue 1:Nat):Int):=by rw [IntKind.wrap_i64];simp only [So.kB,So.kW,So.kH,So.kD,So.p1,So.p2,So.p4,So.p8] at q6;omega
      go_simp
      exact HK.out _ _ _ (by (try simp only [e5])<;>rfl) (Kept.refl _ _) rfl iD
     refine cQ 7 ?_ ?_
     ·
      intro X w hR ψ χ K HK
      have e0:X 0=.pointer (some ⟨p,B,none⟩):=(pR ψ 0 .data 0 :)
      go_simp
      exact HK.out _ _ _ (by (try simp only [e0])<;>rfl) (Kept.refl _ _) rfl iD
     refine cQ 8 ?_ ?_
     ·
      intro X w hR ψ χ K HK
      have e7:X 7=.pointer (some ⟨p,B,none⟩):=(pR ψ 7 .data 0 :)
      go_simp
      exact HK.out _ _ _ (by (try simp only [e7])<;>rfl) (Kept.refl _ _) rfl iD
     refine cS 9 2 ?_ ?_
     ·
      intro X w hR ψ χ hst K HK
      have hst:InW w0 w g (tkI sr So.kQue (2))∧Blk w p (d0) 93:=zg hst rfl
      have e8:X 8=.pointer (some ⟨p,B,none⟩):=(pR ψ 8 .data 0 :)
      have e3:X 3=.bool (tkN sr So.kQue 0==1):=(pR ψ 3 .data 1 :)
      have hf9:=hst.2.free (B)
      obtain ⟨_,hc9⟩:=hst.2.some (B) (by rw [Zd0.out];omega)
      go_simp
      exact HK.out undef _ _ (by (try simp only [e8,e3])<;>rfl) (zV _ _) trivial (zj rfl ⟨(zP hst.1 hst.2 (by decide) hp _ _).1,zt (zP hst.1 hst.2 (by decide) hp _ _).2 Hc2.out⟩)
     refine cQ 10 ?_ ?_
     ·
      intro X w hR ψ χ K HK
      have e1:X 1=.pointer (some ⟨p,B,none⟩):=(pR ψ 1 .data 0 :)
      go_simp
      exact HK.out _ _ _ (by (try simp only [e1])<;>rfl) (Kept.refl _ _) rfl iD
     refine cQ 11 ?_ ?_
     ·
      intro X w hR ψ χ K HK
      have e10:X 10=.pointer (some ⟨p,B,none⟩):=(pR ψ 10 .data 0 :)
      go_simp
      exact HK.out _ _ _ (by (try simp only [e10])<;>rfl) (Kept.refl _ _) rfl iD
     refine cQ 12 ?_ ?_
     ·
      intro X w hR ψ χ K HK
      have e11:X 11=.pointer (some ⟨p,B+1,none⟩):=(pR ψ 11 .data 0 :)
      go_simp
      exact HK.out _ _ _ (by (try simp only [e11])<;>rfl) (Kept.refl _ _) rfl iD
     refine cS 13 3 ?_ ?_
     ·
      intro X w hR ψ χ hst K HK
      have hst:InW w0 w g (tkI sr So.kQue (2))∧Blk w p (c2) 93:=zg hst rfl
      have e12:X 12=.pointer (some ⟨p,B+1,none⟩):=(pR ψ 12 .data 0 :)
      have e6:X 6=.int IntKind.i64 ((tkN sr So.kQue 1:Nat):Int):=(pR ψ 6 .data 1 :)
      have hf13:=hst.2.free (B+1)
      obtain ⟨_,hc13⟩:=hst.2.some (B+1) (by rw [Zc2.out];omega)
      go_simp
      exact HK.out undef _ _ (by (try simp only [e12,e6])<;>rfl) (zV _ _) trivial (zj rfl ⟨(zP hst.1 hst.2 (by decide) hp _ _).1,zt (zP hst.1 hst.2 (by decide) hp _ _).2 Hc3.out⟩)
     exact zi.nil
    ·
     intro X2 wE2 hR2 hall2 hS2
     have hS2:InW w0 wE2 g (tkI sr So.kQue (2))∧Blk wE2 p (c3) 93:=zg hS2 rfl
     have hI2:=hS2.1
     have hP2:=hS2.2
     have hX2:=hXr.kept hR2 (fun e=>e.elim hXn hXm)
     clear hall2 hS2
     go_wp2_with fail
     obtain ⟨c4,hc4⟩:=qX (zaa (c3) [B+1+1,B+1+2,B+1+3] (u32s ((List.range 3).map fun i=>tkN sr So.kQue (2+i))))
     have Zc4:Hid (c4.size=160):=qH (by rw [←hc4];simp [zn,zl,Zc3.out])
     have Hc4:=qH hc4
     clear hc4
     refine zc (by kernel_rfl) (fun X=>⟨#[tkV g,.pointer (some ⟨p,o,none⟩),.pointer (some ⟨x,0,none⟩),undef,.int .i64 ↑k,.pointer (some ⟨p,B,none⟩),X1 0,X1 1,X1 2,X1 3,X1 4,X1 5,X1 6,X1 7,X1 8,X1 9,X1 10,X1 11,X1 12,X1 13,X1 14,X1 15,X1 16,X1 17,X1 18,X1 19,X1 20,X1 21,X1 22,X1 23,X1 24,X1 25,.int .i64 ↑k,.bool true,.int .i64 ↑k,.pointer (some ⟨p,o,none⟩),.int .i64 ↑k,.pointer (some ⟨p,o,none⟩),.pointer (some { block:=p,off:=o+7 }),.pointer (some ⟨p,B,none⟩),X2 0,X2 1,X2 2,X2 3,X2 4,X2 5,X2 6,X2 7,X2 8,X2 10,X2 11,X2 12,X 0,X 1,X 2,X 3,X 4,X 5,X 6,X 7,X 8,X 9,X 10,X 11,X 12,X 13,X 14,u67,u68,u69,u70,u71,u72,u73,u74,u75,u76,u77,u78,u79,u80,u81],[]⟩) (Kept (inP g p)) (fun i v w=>match i with | 0=>(v=tkV g) | 1=>(v=.pointer (some ⟨p,B,none⟩)) | 2=>(v=.pointer (some ⟨p,B,none⟩)) | 3=>(v=.pointer (some ⟨p,B+1,none⟩)) | 4=>(v=.pointer (some ⟨p,B+1+1,none⟩)) | 5=>(v=.pointer (some ⟨p,B,none⟩)) | 6=>(v=.pointer (some ⟨p,B,none⟩)) | 7=>(v=.pointer (some ⟨p,B+1,none⟩)) | 8=>(v=.pointer (some ⟨p,B+1+2,none⟩)) | 9=>(v=.pointer (some ⟨p,B,none⟩)) | 10=>(v=.pointer (some ⟨p,B,none⟩)) | 11=>(v=.pointer (some ⟨p,B+1,none⟩)) | 12=>(v=.pointer (some ⟨p,B+1+3,none⟩)) | 13=>(∃ q,v=.slice (some ⟨q,0,none⟩) 3 3∧Blk w q (zcc p [B+1+1,B+1+2,B+1+3]) 330∧q≠g∧q≠p) | _=>True) (fun i=>([0,0,0,0,0,0,0,0,0,0,0,0,0,0,1]:List Nat).getD i 0) 1 (fun kk _ w=>zaW 93 [((tkI sr So.kQue (2)),c3),((tkI sr So.kQue (5)),c4)] w0 w g p kk) _ (fun i=>if i=0 then u52 else if i=1 then u53 else if i=2 then u54 else if i=3 then u55 else if i=4 then u56 else if i=5 then u57 else if i=6 then u58 else if i=7 then u59 else if i=8 then u60 else if i=9 then u61 else if i=10 then u62 else if i=11 then u63 else if i=12 then u64 else if i=13 then u65 else if i=14 then u66 else undef) (fun u v w a b=>a.trans b) ?_ (by kernel_rfl) (by kernel_rfl) ((Kept.refl _ _).drew) ((zj rfl ⟨hI2.keep (zr (Below.refl _ _)),hP2.keep (zr (Below.refl _ _))⟩)) ?_ ?_
     ·
      intro i v w w' h hb
      match i,h with
      | 0,h=>exact h
      | 1,h=>exact h
      | 2,h=>exact h
      | 3,h=>exact h
      | 4,h=>exact h
      | 5,h=>exact h
      | 6,h=>exact h
      | 7,h=>exact h
      | 8,h=>exact h
      | 9,h=>exact h
      | 10,h=>exact h
      | 11,h=>exact h
      | 12,h=>exact h
      | 13,h=>exact (let ⟨q,e,hq,h1,h2⟩:=h;⟨q,e,hq.kept hb (fun e=>e.elim h1 h2),h1,h2⟩)
      | 14,h=>exact trivial
      | _+15,h=>exact trivial
     ·
      refine cQ 0 ?_ ?_
      ·
       intro X w hR ψ χ K HK
       have c0:=(hX2.kept hR (fun e=>e.elim hXn hXm)).cell 0 rfl
       go_simp
       exact HK.out _ _ _ rfl (Kept.refl _ _) rfl iD
      refine cQ 1 ?_ ?_
      ·
       intro X w hR ψ χ K HK
       go_simp
       exact HK.out _ _ _ rfl (Kept.refl _ _) rfl iD
      refine cQ 2 ?_ ?_
      ·
       intro X w hR ψ χ K HK
       have e1:X 1=.pointer (some ⟨p,B,none⟩):=(pR ψ 1 .data 0 :)
       go_simp
       exact HK.out _ _ _ (by (try simp only [e1])<;>rfl) (Kept.refl _ _) rfl iD
      refine cQ 3 ?_ ?_
      ·
       intro X w hR ψ χ K HK
       have e2:X 2=.pointer (some ⟨p,B,none⟩):=(pR ψ 2 .data 0 :)
       go_simp
       exact HK.out _ _ _ (by (try simp only [e2])<;>rfl) (Kept.refl _ _) rfl iD
      refine cQ 4 ?_ ?_
      ·
       intro X w hR ψ χ K HK
       have e3:X 3=.pointer (some ⟨p,B+1,none⟩):=(pR ψ 3 .data 0 :)
       go_simp
       exact HK.out _ _ _ (by (try simp only [e3])<;>rfl) (Kept.refl _ _) rfl iD
      refine cQ 5 ?_ ?_
      ·
       intro X w hR ψ χ K HK
       go_simp
       exact HK.out _ _ _ rfl (Kept.refl _ _) rfl iD
      refine cQ 6 ?_ ?_
      ·
       intro X w hR ψ χ K HK
       have e5:X 5=.pointer (some ⟨p,B,none⟩):=(pR ψ 5 .data 0 :)
       go_simp
       exact HK.out _ _ _ (by (try simp only [e5])<;>rfl) (Kept.refl _ _) rfl iD
      refine cQ 7 ?_ ?_
      ·
       intro X w hR ψ χ K HK
       have e6:X 6=.pointer (some ⟨p,B,none⟩):=(pR ψ 6 .data 0 :)
       go_simp
       exact HK.out _ _ _ (by (try simp only [e6])<;>rfl) (Kept.refl _ _) rfl iD
      refine cQ 8 ?_ ?_
      ·
       intro X w hR ψ χ K HK
       have e7:X 7=.pointer (some ⟨p,B+1,none⟩):=(pR ψ 7 .data 0 :)
       go_simp
       exact HK.out _ _ _ (by (try simp only [e7])<;>rfl) (Kept.refl _ _) rfl iD
      refine cQ 9 ?_ ?_
      ·
       intro X w hR ψ χ K HK
       go_simp
       exact HK.out _ _ _ rfl (Kept.refl _ _) rfl iD
      refine cQ 10 ?_ ?_
      ·
       intro X w hR ψ χ K HK
       have e9:X 9=.pointer (some ⟨p,B,none⟩):=(pR ψ 9 .data 0 :)
       go_simp
       exact HK.out _ _ _ (by (try simp only [e9])<;>rfl) (Kept.refl _ _) rfl iD
      refine cQ 11 ?_ ?_
      ·
       intro X w hR ψ χ K HK
       have e10:X 10=.pointer (some ⟨p,B,none⟩):=(pR ψ 10 .data 0 :)
       go_simp
       exact HK.out _ _ _ (by (try simp only [e10])<;>rfl) (Kept.refl _ _) rfl iD
      refine cQ 12 ?_ ?_
      ·
       intro X w hR ψ χ K HK
       have e11:X 11=.pointer (some ⟨p,B+1,none⟩):=(pR ψ 11 .data 0 :)
       go_simp
       exact HK.out _ _ _ (by (try simp only [e11])<;>rfl) (Kept.refl _ _) rfl iD
      refine cQ 13 ?_ ?_
      ·
       intro X w hR ψ χ K HK
       have e4:X 4=.pointer (some ⟨p,B+1+1,none⟩):=(pR ψ 4 .data 0 :)
       have e8:X 8=.pointer (some ⟨p,B+1+2,none⟩):=(pR ψ 8 .data 1 :)
       have e12:X 12=.pointer (some ⟨p,B+1+3,none⟩):=(pR ψ 12 .data 2 :)
       go_simp
       exact HK.out _ _ _ (by (try simp only [e4,e8,e12])<;>rfl) ((Kept.refl _ _).alloc _) ⟨_,rfl,Blk.new _ _ _,Nat.ne_of_gt (Nat.lt_of_lt_of_le hI2.lt hR.size),Nat.ne_of_gt (Nat.lt_of_lt_of_le hP2.lt hR.size)⟩ (fun k _ h=>zbT h (za (Below.refl _ _) _))
      refine cS 14 0 ?_ ?_
      ·
       intro X w hR ψ χ hst K HK
       have e0:X 0=tkV g:=(pR ψ 0 .data 0 :)
       obtain ⟨q13,e13,hq13,_⟩:∃ q,X 13=Value.slice (some ⟨q,0,none⟩) 3 3∧Blk w q (zcc p [B+1+1,B+1+2,B+1+3]) 330∧q≠g∧q≠p:=(pR ψ 13 .data 1 :)
       go_simp
       go_at_call 168
       refine (zb6 2 q13 3 3 [B+1+1,B+1+2,B+1+3] (show InW w0 _ g (tkI sr So.kQue (2))∧Blk _ p (c3) 93 from zg hst rfl).1 (show InW w0 _ g (tkI sr So.kQue (2))∧Blk _ p (c3) 93 from zg hst rfl).2 hp hq13 rfl (by intro o ho;simp only [List.mem_cons,List.not_mem_nil,or_false] at ho;rw [Zc3.out];omega)).mono ?_
       rintro e w2 ⟨rfl,h1,h2,h3⟩
       go_simp
       exact HK.out _ _ _ (by (try simp only [e0,e13])<;>rfl) h3 trivial (zj rfl ⟨h1,zt h2 Hc4.out⟩)
      exact zi.nil
     ·
      intro X3 wE3 hR3 hall3 hS3
      have hS3:InW w0 wE3 g (tkI sr So.kQue (5))∧Blk wE3 p (c4) 93:=zg hS3 rfl
      have hI3:=hS3.1
      have hP3:=hS3.2
      have hX3:=hX2.kept hR3 (fun e=>e.elim hXn hXm)
      clear hall3 hS3
      go_wp2_with fail
      obtain ⟨c5,hc5⟩:=qX ((c4).setIfInBounds (B+1+4) (Value.int IntKind.u16 ((tkN sr So.kQue 5:Nat):Int)))
      have Zc5:Hid (c5.size=160):=qH (by rw [←hc5];simp [zn,zl,Zc4.out])
      have Hc5:=qH hc5
      clear hc5
      obtain ⟨c6,hc6⟩:=qX ((c5).setIfInBounds (B+1+5) (Value.int IntKind.u16 ((tkN sr So.kQue 6:Nat):Int)))
      have Zc6:Hid (c6.size=160):=qH (by rw [←hc6];simp [zn,zl,Zc5.out])
      have Hc6:=qH hc6
      clear hc6
      refine zc (by kernel_rfl) (fun X=>⟨#[tkV g,.pointer (some ⟨p,o,none⟩),.pointer (some ⟨x,0,none⟩),undef,.int .i64 ↑k,.pointer (some ⟨p,B,none⟩),X1 0,X1 1,X1 2,X1 3,X1 4,X1 5,X1 6,X1 7,X1 8,X1 9,X1 10,X1 11,X1 12,X1 13,X1 14,X1 15,X1 16,X1 17,X1 18,X1 19,X1 20,X1 21,X1 22,X1 23,X1 24,X1 25,.int .i64 ↑k,.bool true,.int .i64 ↑k,.pointer (some ⟨p,o,none⟩),.int .i64 ↑k,.pointer (some ⟨p,o,none⟩),.pointer (some { block:=p,off:=o+7 }),.pointer (some ⟨p,B,none⟩),X2 0,X2 1,X2 2,X2 3,X2 4,X2 5,X2 6,X2 7,X2 8,X2 10,X2 11,X2 12,X3 0,X3 1,X3 2,X3 3,X3 4,X3 5,X3 6,X3 7,X3 8,X3 9,X3 10,X3 11,X3 12,X3 13,X3 14,X 0,X 1,X 2,X 3,X 4,X 5,X 6,X 7,X 8,X 9,X 10,X 12,X 13,X 14,u81],[]⟩) (Kept (inP g p)) (fun i v w=>match i with | 0=>(v=.pointer (some ⟨p,B,none⟩)) | 1=>(v=.pointer (some ⟨p,B,none⟩)) | 2=>(v=tkV g) | 3=>(v=.int .u64 ((tkN sr So.kQue 5:Nat):Int)) | 4=>(v=.int .u16 ((tkN sr So.kQue 5:Nat):Int)) | 5=>(v=tkV g) | 6=>(v=.int .u64 ((tkN sr So.kQue 6:Nat):Int)) | 7=>(v=.int .u16 ((tkN sr So.kQue 6:Nat):Int)) | 8=>(v=.pointer (some ⟨p,B,none⟩)) | 9=>(v=.pointer (some ⟨p,B+1,none⟩)) | 10=>(v=.pointer (some ⟨p,B+1+4,none⟩)) | 12=>(v=.pointer (some ⟨p,B,none⟩)) | 13=>(v=.pointer (some ⟨p,B+1,none⟩)) | 14=>(v=.pointer (some ⟨p,B+1+5,none⟩)) | _=>True) (fun i=>([0,0,0,1,0,0,2,0,0,0,0,3,0,0,0,4]:List Nat).getD i 0) 4 (fun kk _ w=>zaW 93 [((tkI sr So.kQue (5)),c4),((tkI sr So.kQue (6)),c4),((tkI sr So.kQue (7)),c4),((tkI sr So.kQue (7)),c5),((tkI sr So.kQue (7)),c6)] w0 w g p kk) _ (fun i=>if i=0 then u67 else if i=1 then u68 else if i=2 then u69 else if i=3 then u70 else if i=4 then u71 else if i=5 then u72 else if i=6 then u73 else if i=7 then u74 else if i=8 then u75 else if i=9 then u76 else if i=10 then u77 else if i=12 then u78 else if i=13 then u79 else if i=14 then u80 else undef) (fun u v w a b=>a.trans b) ?_ (by kernel_rfl) (by kernel_rfl) ((Kept.refl _ _).drew) ((zj rfl ⟨hI3.keep (zr (Below.refl _ _)),hP3.keep (zr (Below.refl _ _))⟩)) ?_ ?_
      ·
       intro i v w w' h hb
       match i,h with
       | 0,h=>exact h
       | 1,h=>exact h
       | 2,h=>exact h
       | 3,h=>exact h
       | 4,h=>exact h
       | 5,h=>exact h
       | 6,h=>exact h
       | 7,h=>exact h
       | 8,h=>exact h
       | 9,h=>exact h
       | 10,h=>exact h
       | 12,h=>exact h
       | 13,h=>exact h
       | 14,h=>exact h
       | 11,h=>exact trivial
       | 15,h=>exact trivial
       | _+16,h=>exact trivial
      ·
       refine cQ 0 ?_ ?_
       ·
        intro X w hR ψ χ K HK
        go_simp
        exact HK.out _ _ _ rfl (Kept.refl _ _) rfl iD
       refine cQ 1 ?_ ?_
       ·
        intro X w hR ψ χ K HK
        go_simp
        exact HK.out _ _ _ rfl (Kept.refl _ _) rfl iD
       refine cQ 2 ?_ ?_
       ·
        intro X w hR ψ χ K HK
        have c2:=(hX3.kept hR (fun e=>e.elim hXn hXm)).cell 0 rfl
        go_simp
        exact HK.out _ _ _ rfl (Kept.refl _ _) rfl iD
       refine cS 3 0 ?_ ?_
       ·
        intro X w hR ψ χ hst K HK
        have e2:X 2=tkV g:=(pR ψ 2 .data 0 :)
        go_simp
        go_at_call 105
        refine (ze5 (5) (show InW w0 _ g (tkI sr So.kQue (5))∧Blk _ p (c4) 93 from zg hst rfl).1).mono ?_
        rintro e w2 ⟨rfl,h1,h2⟩
        go_simp
        exact HK.out _ _ _ (by (try simp only [e2])<;>rfl) h2.inP rfl (zj rfl ⟨h1,(show InW w0 _ g (tkI sr So.kQue (5))∧Blk _ p (c4) 93 from zg hst rfl).2.kept h2 hpg⟩)
       refine cQ 4 ?_ ?_
       ·
        intro X w hR ψ χ K HK
        have e3:X 3=.int IntKind.u64 ((tkN sr So.kQue 5:Nat):Int):=(pR ψ 3 .data 0 :)
        have q4:=zcI sr hsmk So.kQue 5 _ rfl
        have u4:IntKind.u16.wrap ((tkN sr So.kQue 5:Nat):Int)=((tkN sr So.kQue 5:Nat):Int):=by rw [IntKind.wrap_u16];simp only [So.kB,So.kW,So.kH,So.kD,So.p1,So.p2,So.p4,So.p8] at q4;omega
        go_simp
        exact HK.out _ _ _ (by (try simp only [e3])<;>rfl) (Kept.refl _ _) rfl iD
       refine cQ 5 ?_ ?_
       ·
        intro X w hR ψ χ K HK
        have c5:=(hX3.kept hR (fun e=>e.elim hXn hXm)).cell 0 rfl
        go_simp
        exact HK.out _ _ _ rfl (Kept.refl _ _) rfl iD
       refine cS 6 1 ?_ ?_
       ·
        intro X w hR ψ χ hst K HK
        have hst:InW w0 w g (tkI sr So.kQue (6))∧Blk w p (c4) 93:=zg hst rfl
        have e5:X 5=tkV g:=(pR ψ 5 .data 0 :)
        go_simp
        go_at_call 105
        refine (ze5 (6) hst.1).mono ?_
        rintro e w2 ⟨rfl,h1,h2⟩
        go_simp
        exact HK.out _ _ _ (by (try simp only [e5])<;>rfl) h2.inP rfl (zj rfl ⟨h1,hst.2.kept h2 hpg⟩)
       refine cQ 7 ?_ ?_
       ·
        intro X w hR ψ χ K HK
        have e6:X 6=.int IntKind.u64 ((tkN sr So.kQue 6:Nat):Int):=(pR ψ 6 .data 0 :)
        have q7:=zcI sr hsmk So.kQue 6 _ rfl
        have u7:IntKind.u16.wrap ((tkN sr So.kQue 6:Nat):Int)=((tkN sr So.kQue 6:Nat):Int):=by rw [IntKind.wrap_u16];simp only [So.kB,So.kW,So.kH,So.kD,So.p1,So.p2,So.p4,So.p8] at q7;omega
        go_simp
        exact HK.out _ _ _ (by (try simp only [e6])<;>rfl) (Kept.refl _ _) rfl iD
       refine cQ 8 ?_ ?_
       ·
        intro X w hR ψ χ K HK
        have e0:X 0=.pointer (some ⟨p,B,none⟩):=(pR ψ 0 .data 0 :)
        go_simp
        exact HK.out _ _ _ (by (try simp only [e0])<;>rfl) (Kept.refl _ _) rfl iD
       refine cQ 9 ?_ ?_
       ·
        intro X w hR ψ χ K HK
        have e8:X 8=.pointer (some ⟨p,B,none⟩):=(pR ψ 8 .data 0 :)
        go_simp
        exact HK.out _ _ _ (by (try simp only [e8])<;>rfl) (Kept.refl _ _) rfl iD
       refine cQ 10 ?_ ?_
       ·
        intro X w hR ψ χ K HK
        have e9:X 9=.pointer (some ⟨p,B+1,none⟩):=(pR ψ 9 .data 0 :)
        go_simp
        exact HK.out _ _ _ (by (try simp only [e9])<;>rfl) (Kept.refl _ _) rfl iD
       refine cS 11 2 ?_ ?_
       ·
        intro X w hR ψ χ hst K HK
        have hst:InW w0 w g (tkI sr So.kQue (7))∧Blk w p (c4) 93:=zg hst rfl
        have e10:X 10=.pointer (some ⟨p,B+1+4,none⟩):=(pR ψ 10 .data 0 :)
        have e4:X 4=.int IntKind.u16 ((tkN sr So.kQue 5:Nat):Int):=(pR ψ 4 .data 1 :)
        have hf11:=hst.2.free (B+1+4)
        obtain ⟨_,hc11⟩:=hst.2.some (B+1+4) (by rw [Zc4.out];omega)
        go_simp
        exact HK.out undef _ _ (by (try simp only [e10,e4])<;>rfl) (zV _ _) trivial (zj rfl ⟨(zP hst.1 hst.2 (by decide) hp _ _).1,zt (zP hst.1 hst.2 (by decide) hp _ _).2 Hc5.out⟩)
       refine cQ 12 ?_ ?_
       ·
        intro X w hR ψ χ K HK
        have e1:X 1=.pointer (some ⟨p,B,none⟩):=(pR ψ 1 .data 0 :)
        go_simp
        exact HK.out _ _ _ (by (try simp only [e1])<;>rfl) (Kept.refl _ _) rfl iD
       refine cQ 13 ?_ ?_
       ·
        intro X w hR ψ χ K HK
        have e12:X 12=.pointer (some ⟨p,B,none⟩):=(pR ψ 12 .data 0 :)
        go_simp
        exact HK.out _ _ _ (by (try simp only [e12])<;>rfl) (Kept.refl _ _) rfl iD
       refine cQ 14 ?_ ?_
       ·
        intro X w hR ψ χ K HK
        have e13:X 13=.pointer (some ⟨p,B+1,none⟩):=(pR ψ 13 .data 0 :)
        go_simp
        exact HK.out _ _ _ (by (try simp only [e13])<;>rfl) (Kept.refl _ _) rfl iD
       refine cS 15 3 ?_ ?_
       ·
        intro X w hR ψ χ hst K HK
        have hst:InW w0 w g (tkI sr So.kQue (7))∧Blk w p (c5) 93:=zg hst rfl
        have e14:X 14=.pointer (some ⟨p,B+1+5,none⟩):=(pR ψ 14 .data 0 :)
        have e7:X 7=.int IntKind.u16 ((tkN sr So.kQue 6:Nat):Int):=(pR ψ 7 .data 1 :)
        have hf15:=hst.2.free (B+1+5)
        obtain ⟨_,hc15⟩:=hst.2.some (B+1+5) (by rw [Zc5.out];omega)
        go_simp
        exact HK.out undef _ _ (by (try simp only [e14,e7])<;>rfl) (zV _ _) trivial (zj rfl ⟨(zP hst.1 hst.2 (by decide) hp _ _).1,zt (zP hst.1 hst.2 (by decide) hp _ _).2 Hc6.out⟩)
       exact zi.nil
      ·
       intro X4 wE4 hR4 hall4 hS4
       have hS4:InW w0 wE4 g (tkI sr So.kQue (7))∧Blk wE4 p (c6) 93:=zg hS4 rfl
       have hI4:=hS4.1
       have hP4:=hS4.2
       have hX4:=hX3.kept hR4 (fun e=>e.elim hXn hXm)
       clear hall4 hS4
       go_wp2_with fail
       go_roundw
       case rel=>exact ⟨k+1,by omega,by go_num,by rw [Hq1.out];exact hI4,zt hP4 (by rw [Hq2.out];unfold que7;rw [←Hc6.out,←Hc5.out,←Hc4.out,←Hc3.out,←Hc2.out]),((hKr.trans hR2).trans hR3).trans hR4⟩
       case measure=>simp [intOf];omega
   ·
    obtain rfl:k=2:=by omega
    clear hlt
    go_wp2_with fail
    go_end0
    exact ⟨rfl,by rw [Hi0.out];exact hIr,zt hPr (by unfold zdD;rw [Hi0.out,←Hc1.out]),(hK0.trans hR1).trans hKr⟩
end Go.Proofs.YtdffbihilhkkjaaGreatDoor
