import Derived.Test.YtdffbihilhkkjaaGreatDoorZ16
import Derived.IntWalk
import Derived.Laws.CopyRow
namespace Go.Proofs.YtdffbihilhkkjaaGreatDoor
open Go.RowKit
set_option linter.unusedVariables false
set_option linter.unusedSimpArgs false
set_option maxRecDepth 100000
set_option maxHeartbeats 8000000
def zaz:List (Nat×Nat):=[So.kW,So.kW,So.kW,So.kW,So.kW,So.kW,So.kW,So.kD]
theorem ze7 (g p:Nat) (s:Tl.In) (hsm:Tl.Small s.b) (cs:Array Value) (hsz:cs.size=160) (w0 w:World) (hI:InW w0 w g s) (hP:Blk w p cs 93) (hp:w0.heap.size≤p):Calls Tryz.prog 107 #[tkV g,Value.pointer (some ⟨p,0,none⟩)] w (SecP w0 w g p (tkI s zaz 8) ((zaa (cs) [35,36,37,38,39,40,41] (u32s ((List.range 7).map fun i=>tkN s zaz (0+i)))).setIfInBounds (42) (Value.int IntKind.u64 ((tkN s zaz 7:Nat):Int)))):=by
 have hpg:p≠g:=by
  obtain ⟨_,_,_,_,hG,_⟩:=hI.at_
  exact hP.apart hG (by decide)
 go_enter Tryz.func107,Tryz.ntmps107
 go_upto_region 1 with (fail)
 have hX:=Blk.new w #[Value.pointer (some ⟨g,0,none⟩)] 154
 have hI0:=zR hI (.cells #[Value.pointer (some ⟨g,0,none⟩)] 154)
 have hP0:=hP.alloc (.cells #[Value.pointer (some ⟨g,0,none⟩)] 154)
 have hK0:=(Kept.refl (inP g p) w).alloc (.cells #[Value.pointer (some ⟨g,0,none⟩)] 154)
 generalize w.alloc (.cells #[Value.pointer (some ⟨g,0,none⟩)] 154)=W1 at hX hI0 hP0 hK0 ⊢
 have Zcs:=qH hsz
 clear hsz
 have hXn:w.heap.size≠g:=Nat.ne_of_gt hI.lt
 have hXm:w.heap.size≠p:=Nat.ne_of_gt hP.lt
 generalize w.heap.size=x at hX hXn hXm ⊢
 go_wp2_with fail
 obtain ⟨c1,hc1⟩:=qX (zaa (cs) [35,36,37,38,39,40,41] (u32s ((List.range 7).map fun i=>tkN s zaz (0+i))))
 have Zc1:Hid (c1.size=160):=qH (by rw [←hc1];simp [zn,zl,Zcs.out])
 have Hc1:=qH hc1
 clear hc1
 refine zc (by kernel_rfl) (fun X=>⟨#[tkV g,.pointer (some ⟨p,0,none⟩),.pointer (some ⟨x,0,none⟩),undef,.pointer (some ⟨p,35,none⟩),.pointer (some ⟨p,0,none⟩),.pointer (some ⟨p,0,none⟩),.pointer (some ⟨p,1,none⟩),.pointer (some ⟨p,35,none⟩),X 0,X 1,X 2,X 3,X 4,X 5,X 6,X 7,X 8,X 9,X 10,X 11,X 12,X 13,X 14,X 15,X 16,X 17,X 18,X 19,X 20,X 21,X 22,X 23,undef,undef,undef,undef,undef],[]⟩) (Kept (inP g p)) (fun i v w=>match i with | 0=>(v=tkV g) | 1=>(v=.pointer (some ⟨p,35,none⟩)) | 2=>(v=.pointer (some ⟨p,35,none⟩)) | 3=>(v=.pointer (some ⟨p,35,none⟩)) | 4=>(v=.pointer (some ⟨p,35,none⟩)) | 5=>(v=.pointer (some ⟨p,35,none⟩)) | 6=>(v=.pointer (some ⟨p,36,none⟩)) | 7=>(v=.pointer (some ⟨p,35,none⟩)) | 8=>(v=.pointer (some ⟨p,35,none⟩)) | 9=>(v=.pointer (some ⟨p,37,none⟩)) | 10=>(v=.pointer (some ⟨p,35,none⟩)) | 11=>(v=.pointer (some ⟨p,35,none⟩)) | 12=>(v=.pointer (some ⟨p,38,none⟩)) | 13=>(v=.pointer (some ⟨p,35,none⟩)) | 14=>(v=.pointer (some ⟨p,35,none⟩)) | 15=>(v=.pointer (some ⟨p,39,none⟩)) | 16=>(v=.pointer (some ⟨p,35,none⟩)) | 17=>(v=.pointer (some ⟨p,35,none⟩)) | 18=>(v=.pointer (some ⟨p,40,none⟩)) | 19=>(v=.pointer (some ⟨p,35,none⟩)) | 20=>(v=.pointer (some ⟨p,35,none⟩)) | 21=>(v=.pointer (some ⟨p,41,none⟩)) | 22=>(∃ q,v=.slice (some ⟨q,0,none⟩) 7 7∧Blk w q (zcc p [35,36,37,38,39,40,41]) 330∧q≠g∧q≠p) | _=>True) (fun i=>([0,0,0,0,0,0,0,0,0,0,0,0,0,0,0,0,0,0,0,0,0,0,0,1]:List Nat).getD i 0) 1 (fun k _ w=>zaW 93 [(tkI s zaz 0,cs),(tkI s zaz 7,c1)] w0 w g p k) _ (fun _=>undef) (fun u v w a b=>a.trans b) ?_ (by kernel_rfl) (by kernel_rfl) ((Kept.refl _ _).drew) ((zj rfl ⟨hI0.keep (zr (Below.refl _ _)),hP0.keep (zr (Below.refl _ _))⟩)) ?_ ?_
 ·
  intro i v w w' h hb
  match i,h with
  | 0,h=>exact h
  | 1,h=>exact h
  | 2,h=>exact h
  | 3,h=>exact h
  | 4,h=>exact h
  | 5,h=>exact h
  | 6,h=>exact h
  | 7,h=>exact h
  | 8,h=>exact h
  | 9,h=>exact h
  | 10,h=>exact h
  | 11,h=>exact h
  | 12,h=>exact h
  | 13,h=>exact h
  | 14,h=>exact h
  | 15,h=>exact h
  | 16,h=>exact h
  | 17,h=>exact h
  | 18,h=>exact h
  | 19,h=>exact h
  | 20,h=>exact h
  | 21,h=>exact h
  | 22,h=>exact (let ⟨q,e,hq,h1,h2⟩:=h;⟨q,e,hq.kept hb (fun e=>e.elim h1 h2),h1,h2⟩)
  | 23,h=>exact trivial
  | _+24,h=>exact trivial
 ·
  refine cQ 0 ?_ ?_
  ·
   intro X w hR ψ χ K HK
   have c0:=(hX.kept hR (fun e=>e.elim hXn hXm)).cell 0 rfl
   go_simp
   exact HK.out _ _ _ rfl (Kept.refl _ _) rfl iD
  refine cQ 1 ?_ ?_
  ·
   intro X w hR ψ χ K HK
   go_simp
   exact HK.out _ _ _ rfl (Kept.refl _ _) rfl iD
  refine cQ 2 ?_ ?_
  ·
   intro X w hR ψ χ K HK
   have e1:X 1=.pointer (some ⟨p,35,none⟩):=(pS ψ 1 .data :)
   go_simp
   exact HK.out _ _ _ (by (try simp only [e1])<;>rfl) (Kept.refl _ _) rfl iD
  refine cQ 3 ?_ ?_
  ·
   intro X w hR ψ χ K HK
   have e2:X 2=.pointer (some ⟨p,35,none⟩):=(pS ψ 2 .data :)
   go_simp
   exact HK.out _ _ _ (by (try simp only [e2])<;>rfl) (Kept.refl _ _) rfl iD
  refine cQ 4 ?_ ?_
  ·
   intro X w hR ψ χ K HK
   go_simp
   exact HK.out _ _ _ rfl (Kept.refl _ _) rfl iD
  refine cQ 5 ?_ ?_
  ·
   intro X w hR ψ χ K HK
   have e4:X 4=.pointer (some ⟨p,35,none⟩):=(pS ψ 4 .data :)
   go_simp
   exact HK.out _ _ _ (by (try simp only [e4])<;>rfl) (Kept.refl _ _) rfl iD
  refine cQ 6 ?_ ?_
  ·
   intro X w hR ψ χ K HK
   have e5:X 5=.pointer (some ⟨p,35,none⟩):=(pS ψ 5 .data :)
   go_simp
   exact HK.out _ _ _ (by (try simp only [e5])<;>rfl) (Kept.refl _ _) rfl iD
  refine cQ 7 ?_ ?_
  ·
   intro X w hR ψ χ K HK
   go_simp
   exact HK.out _ _ _ rfl (Kept.refl _ _) rfl iD
  refine cQ 8 ?_ ?_
  ·
   intro X w hR ψ χ K HK
   have e7:X 7=.pointer (some ⟨p,35,none⟩):=(pS ψ 7 .data :)
   go_simp
   exact HK.out _ _ _ (by (try simp only [e7])<;>rfl) (Kept.refl _ _) rfl iD
  refine cQ 9 ?_ ?_
  ·
   intro X w hR ψ χ K HK
   have e8:X 8=.pointer (some ⟨p,35,none⟩):=(pS ψ 8 .data :)
   go_simp
   exact HK.out _ _ _ (by (try simp only [e8])<;>rfl) (Kept.refl _ _) rfl iD
  refine cQ 10 ?_ ?_
  ·
   intro X w hR ψ χ K HK
   go_simp
   exact HK.out _ _ _ rfl (Kept.refl _ _) rfl iD
  refine cQ 11 ?_ ?_
  ·
   intro X w hR ψ χ K HK
   have e10:X 10=.pointer (some ⟨p,35,none⟩):=(pS ψ 10 .data :)
   go_simp
   exact HK.out _ _ _ (by (try simp only [e10])<;>rfl) (Kept.refl _ _) rfl iD
  refine cQ 12 ?_ ?_
  ·
   intro X w hR ψ χ K HK
   have e11:X 11=.pointer (some ⟨p,35,none⟩):=(pS ψ 11 .data :)
   go_simp
   exact HK.out _ _ _ (by (try simp only [e11])<;>rfl) (Kept.refl _ _) rfl iD
  refine cQ 13 ?_ ?_
  ·
   intro X w hR ψ χ K HK
   go_simp
   exact HK.out _ _ _ rfl (Kept.refl _ _) rfl iD
  refine cQ 14 ?_ ?_
  ·
   intro X w hR ψ χ K HK
   have e13:X 13=.pointer (some ⟨p,35,none⟩):=(pS ψ 13 .data :)
   go_simp
   exact HK.out _ _ _ (by (try simp only [e13])<;>rfl) (Kept.refl _ _) rfl iD
  refine cQ 15 ?_ ?_
  ·
   intro X w hR ψ χ K HK
   have e14:X 14=.pointer (some ⟨p,35,none⟩):=(pS ψ 14 .data :)
   go_simp
   exact HK.out _ _ _ (by (try simp only [e14])<;>rfl) (Kept.refl _ _) rfl iD
  refine cQ 16 ?_ ?_
  ·
   intro X w hR ψ χ K HK
   go_simp
   exact HK.out _ _ _ rfl (Kept.refl _ _) rfl iD
  refine cQ 17 ?_ ?_
  ·
   intro X w hR ψ χ K HK
   have e16:X 16=.pointer (some ⟨p,35,none⟩):=(pS ψ 16 .data :)
   go_simp
   exact HK.out _ _ _ (by (try simp only [e16])<;>rfl) (Kept.refl _ _) rfl iD
  refine cQ 18 ?_ ?_
  ·
   intro X w hR ψ χ K HK
   have e17:X 17=.pointer (some ⟨p,35,none⟩):=(pS ψ 17 .data :)
   go_simp
   exact HK.out _ _ _ (by (try simp only [e17])<;>rfl) (Kept.refl _ _) rfl iD
  refine cQ 19 ?_ ?_
  ·
   intro X w hR ψ χ K HK
   go_simp
   exact HK.out _ _ _ rfl (Kept.refl _ _) rfl iD
  refine cQ 20 ?_ ?_
  ·
   intro X w hR ψ χ K HK
   have e19:X 19=.pointer (some ⟨p,35,none⟩):=(pS ψ 19 .data :)
   go_simp
   exact HK.out _ _ _ (by (try simp only [e19])<;>rfl) (Kept.refl _ _) rfl iD
  refine cQ 21 ?_ ?_
  ·
   intro X w hR ψ χ K HK
   have e20:X 20=.pointer (some ⟨p,35,none⟩):=(pS ψ 20 .data :)
   go_simp
   exact HK.out _ _ _ (by (try simp only [e20])<;>rfl) (Kept.refl _ _) rfl iD
  refine cQ 22 ?_ ?_
  ·
   intro X w hR ψ χ K HK
   have e3:X 3=.pointer (some ⟨p,35,none⟩):=(pS ψ 3 .data :)
   have e6:X 6=.pointer (some ⟨p,36,none⟩):=(pS ψ 6 .data :)
   have e9:X 9=.pointer (some ⟨p,37,none⟩):=(pS ψ 9 .data :)
   have e12:X 12=.pointer (some ⟨p,38,none⟩):=(pS ψ 12 .data :)
   have e15:X 15=.pointer (some ⟨p,39,none⟩):=(pS ψ 15 .data :)
   have e18:X 18=.pointer (some ⟨p,40,none⟩):=(pS ψ 18 .data :)
   have e21:X 21=.pointer (some ⟨p,41,none⟩):=(pS ψ 21 .data :)
   go_simp
   exact HK.out _ _ _ (by (try simp only [e3,e6,e9,e12,e15,e18,e21])<;>rfl) ((Kept.refl _ _).alloc _) ⟨_,rfl,Blk.new _ _ _,Nat.ne_of_gt (Nat.lt_of_lt_of_le hI0.lt hR.size),Nat.ne_of_gt (Nat.lt_of_lt_of_le hP0.lt hR.size)⟩ (fun k _ h=>zbT h (za (Below.refl _ _) _))
  refine cS 23 0 ?_ ?_
  ·
   intro X w hR ψ χ hst K HK
   have e0:X 0=tkV g:=(pS ψ 0 .data :)
   obtain ⟨q22,e22,hq22,_⟩:∃ q,X 22=Value.slice (some ⟨q,0,none⟩) 7 7∧Blk w q (zcc p [35,36,37,38,39,40,41]) 330∧q≠g∧q≠p:=(pS ψ 22 .data :)
   go_simp
   go_at_call 168
   refine (zb6 0 q22 7 7 [35,36,37,38,39,40,41] (show InW w0 _ g (tkI s zaz 0)∧Blk _ p (cs) 93 from zg hst rfl).1 (show InW w0 _ g (tkI s zaz 0)∧Blk _ p (cs) 93 from zg hst rfl).2 hp hq22 rfl (by intro o ho;simp only [List.mem_cons,List.not_mem_nil,or_false] at ho;rw [Zcs.out];omega)).mono ?_
   rintro e w2 ⟨rfl,h1,h2,h3⟩
   go_simp
   exact HK.out _ _ _ (by (try simp only [e0,e22])<;>rfl) h3 trivial (zj rfl ⟨h1,zt h2 Hc1.out⟩)
  exact zi.nil
 ·
  intro X1 wE1 hR1 hall1 hS1
  have hS1:InW w0 wE1 g (tkI s zaz 7)∧Blk wE1 p (c1) 93:=zg hS1 rfl
  have hI1:=hS1.1
  have hP1:=hS1.2
  have hX1:=hX.kept hR1 (fun e=>e.elim hXn hXm)
  clear hall1 hS1
  have hx:=hX1.cell 0 rfl
  go_wp2_with (first | (go_at_call 105;refine (zgH 7 hI1).mono ?_;rintro e w2 ⟨rfl,h1,h2⟩;have hPL:=hP1.kept h2 hpg;have hfL:=hPL.free (42);obtain ⟨_,hcL⟩:=hPL.some (42) (by rw [Zc1.out];omega)) | fail)
  go_end0
  exact ⟨rfl,h1.set hPL (by decide) hp _ _,zt (hPL.set _ _) (by rw [←Hc1.out]),((hK0.trans hR1).trans h2.inP).trans (zV _ _)⟩
def kSources:List (Nat×Nat):=[So.kB,So.kB,So.kB,So.kB,So.kB,So.kB,So.kB,So.kW,So.kB,So.kW,So.kW]
def zd9:Array Value:=#[Value.int IntKind.u32 0,Value.int IntKind.u32 0,Value.int IntKind.u32 0,Value.int IntKind.u32 0,Value.int IntKind.u32 0,Value.int IntKind.u32 0,Value.int IntKind.u32 0,Value.int IntKind.u32 0,Value.int IntKind.u32 0,Value.int IntKind.u32 0,Value.int IntKind.u32 0,Value.int IntKind.u32 0]
theorem ziD (k:Nat) (h:k<7):kSources[k]?=some So.kB:=by
 match k,h with
 | 0,_=>rfl
 | 1,_=>rfl
 | 2,_=>rfl
 | 3,_=>rfl
 | 4,_=>rfl
 | 5,_=>rfl
 | 6,_=>rfl
def zb7 (s:Tl.In):Array Value:=((((((((setMid zd9 1 (u32s ((List.range 7).map (tkN s kSources))))).setIfInBounds (8) (Value.int IntKind.u32 ((tkN s kSources 7:Nat):Int)))).setIfInBounds (9) (Value.int IntKind.u32 ((tkN s kSources 8:Nat):Int)))).setIfInBounds (10) (Value.int IntKind.u32 ((tkN s kSources 9:Nat):Int)))).setIfInBounds (11) (Value.int IntKind.u32 ((tkN s kSources 10:Nat):Int))
theorem zj9 (s:Tl.In):(zb7 s).toList=[Value.int IntKind.u32 0,Value.int IntKind.u32 ((tkN s kSources 0:Nat):Int),Value.int IntKind.u32 ((tkN s kSources 1:Nat):Int),Value.int IntKind.u32 ((tkN s kSources 2:Nat):Int),Value.int IntKind.u32 ((tkN s kSources 3:Nat):Int),Value.int IntKind.u32 ((tkN s kSources 4:Nat):Int),Value.int IntKind.u32 ((tkN s kSources 5:Nat):Int),Value.int IntKind.u32 ((tkN s kSources 6:Nat):Int),Value.int IntKind.u32 ((tkN s kSources 7:Nat):Int),Value.int IntKind.u32 ((tkN s kSources 8:Nat):Int),Value.int IntKind.u32 ((tkN s kSources 9:Nat):Int),Value.int IntKind.u32 ((tkN s kSources 10:Nat):Int)]:=by simp [zb7,zd9,setMid,u32s,List.range_succ]
theorem zlY (s:Tl.In):∀ v∈(zb7 s).toList,v.oneCell'=true:=by
 rw [zj9]
 intro v hv
 simp only [List.mem_cons,List.not_mem_nil,or_false] at hv
 rcases hv with rfl | rfl | rfl | rfl | rfl | rfl | rfl | rfl | rfl | rfl | rfl | rfl  <;> rfl
def ze8 (s:Tl.In) (cs:Array Value):Array Value:=setMid cs 47 (zb7 s).toList
theorem ze9 (g p:Nat) (s:Tl.In) (hsm:Tl.Small s.b) (cs:Array Value) (hsz:cs.size=160) (w0 w:World) (hI:InW w0 w g s) (hP:Blk w p cs 93) (hp:w0.heap.size≤p):Calls Tryz.prog 110 #[tkV g,Value.pointer (some ⟨p,0,none⟩)] w (SecP w0 w g p (tkI s kSources 11) (ze8 s cs)):=by
 have hpg:p≠g:=by
  obtain ⟨_,_,_,_,hG,_⟩:=hI.at_
  exact hP.apart hG (by decide)
 go_enter Tryz.func110,Tryz.ntmps110
 go_upto_region 1 with (fail)
 have hX:=Blk.new w #[Value.pointer (some ⟨g,0,none⟩)] 154
 have hI0:=zR hI (.cells #[Value.pointer (some ⟨g,0,none⟩)] 154)
 have hP0:=hP.alloc (.cells #[Value.pointer (some ⟨g,0,none⟩)] 154)
 have hK0:=(Kept.refl (inP g p) w).alloc (.cells #[Value.pointer (some ⟨g,0,none⟩)] 154)
 generalize w.alloc (.cells #[Value.pointer (some ⟨g,0,none⟩)] 154)=W1 at hX hI0 hP0 hK0 ⊢
 have Zcs:=qH hsz
 clear hsz
 have hXn:w.heap.size≠g:=Nat.ne_of_gt hI.lt
 have hXm:w.heap.size≠p:=Nat.ne_of_gt hP.lt
 generalize w.heap.size=x at hX hXn hXm ⊢
 go_upto_region 2 with (fail)
 have hZ:zd9.size=12:=rfl
 have hQ:=Blk.new W1 zd9 76
 have hI2:=hI0.keep (za (Below.refl _ _) (.cells zd9 76))
 have hP2:=hP0.alloc (.cells zd9 76)
 have hX2:=hX.alloc (.cells zd9 76)
 have hK2:=hK0.alloc (.cells zd9 76)
 generalize hW2:W1.alloc (.cells zd9 76)=W2 at hQ hI2 hP2 hX2 hK2
 unfold zd9 at hW2
 rw [hW2]
 clear hW2
 have hqg:W1.heap.size≠g:=Nat.ne_of_gt hI0.lt
 have hqp:W1.heap.size≠p:=Nat.ne_of_gt hP0.lt
 have hqx:W1.heap.size≠x:=Nat.ne_of_gt hX.lt
 have hwq:=hK0.size
 have hq0:w0.heap.size≤W1.heap.size:=hI0.bel.size
 generalize W1.heap.size=q at hQ hqg hqp hqx hq0 hwq ⊢
 generalize hzz:zd9=zp at hQ hZ
 have Hzz:=qH hzz
 have Hz:=qH hZ
 clear hZ hzz hI0 hP0 hX
 have hxq:x≠q:=Ne.symm hqx
 go_wp2_with fail
 go_loopw [5,9] (fun _ i wr=>∃ k:Nat,k≤7∧i=.int .i64 k∧InW w0 wr g (tkI s kSources k)∧Blk wr q (setMid zp 1 (u32s ((List.range k).map (tkN s kSources)))) 76∧Kept (inP g q) W2 wr) (fun _ i _=>7-(intOf i).toNat)
 case atStart=>exact ⟨0,by decide,rfl,hI2,by simpa [setMid,u32s] using hQ,Kept.refl _ _⟩
 case round =>
  obtain ⟨k,hk,rfl,hIr,hQr,hKr⟩:=hrel
  have hXr:=hX2.kept hKr (fun e=>e.elim hXn hxq)
  by_cases hlt:k<7
  ·
   have hx:=hXr.cell 0 rfl
   have hkb:=ziD k hlt
   have hN:=zdq k hIr hkb
   have hle:=zpn s kSources k _ hkb
   have hsn:setMid zp 1 (u32s ((List.range (k+1)).map (tkN s kSources)))=(setMid zp 1 (u32s ((List.range k).map (tkN s kSources)))).setIfInBounds (k+1) (.int .u32 ((tkN s kSources k:Nat):Int)):=by
    rw [List.range_succ,List.map_append,u32s,List.map_append,List.map_cons,List.map_nil,List.map_cons,List.map_nil,zcr]
    simp [u32s,Nat.add_comm]
   have hsz2:=zl (u32s ((List.range k).map (tkN s kSources))) 1 zp
   rw [Hz.out] at hsz2
   have HN:=qH hN
   have Hsn:=qH hsn
   generalize setMid zp 1 (u32s ((List.range k).map (tkN s kSources)))=C at hQr hsz2 Hsn
   have HS:=qH hsz2
   have hle:tkN s kSources k≤255:=hle
   generalize hv:tkN s kSources k=v at hle Hsn
   have Hv:=qH hv
   have hu:IntKind.u32.wrap ((v:Nat):Int)=((v:Nat):Int):=by rw [IntKind.wrap_u32];omega
   have hk7:(k:Int)<7:=by omega
   have hk8:(k:Int)+1<8:=by omega
   have hk9:(0:Int)≤(k:Int)+1:=by omega
   clear hN hsn hsz2 hkb hv
   go_wp2_with (first | (go_at_call 169;refine (HN.out).mono ?_;rintro e w2 ⟨rfl,h1,h2⟩;rw [Hv.out];have hQ2:=hQr.kept h2 hqg;have hf2:=hQ2.free (k+1);obtain ⟨_,hc2⟩:=hQ2.some (k+1) (by rw [HS.out];omega)) | fail)
   go_roundw
   case rel=>exact ⟨k+1,by omega,by go_num,h1.set hQ2 (by decide) hq0 _ _,by rw [Hsn.out];exact hQ2.set _ _,(hKr.trans h2.inP).trans (zV _ _)⟩
   case measure=>simp [intOf];omega
  ·
   obtain rfl:k=7:=by omega
   clear hlt
   obtain ⟨c0,hc0⟩:=qX (setMid zp 1 (u32s ((List.range 7).map (tkN s kSources))))
   have Zc0:Hid (c0.size=12):=qH (by rw [←hc0,zl,Hz.out])
   rw [hc0] at hQr
   have Hc0:=qH hc0
   clear hc0
   go_wp2_with fail
   obtain ⟨c1,hc1⟩:=qX ((c0).setIfInBounds (8) (Value.int IntKind.u32 ((tkN s kSources 7:Nat):Int)))
   have Zc1:Hid (c1.size=12):=qH (by rw [←hc1];simp [zn,zl,Zc0.out])
   have Hc1:=qH hc1
   clear hc1
   obtain ⟨c2,hc2⟩:=qX ((c1).setIfInBounds (9) (Value.int IntKind.u32 ((tkN s kSources 8:Nat):Int)))
   have Zc2:Hid (c2.size=12):=qH (by rw [←hc2];simp [zn,zl,Zc1.out])
   have Hc2:=qH hc2
   clear hc2
   obtain ⟨c3,hc3⟩:=qX ((c2).setIfInBounds (10) (Value.int IntKind.u32 ((tkN s kSources 9:Nat):Int)))
   have Zc3:Hid (c3.size=12):=qH (by rw [←hc3];simp [zn,zl,Zc2.out])
   have Hc3:=qH hc3
   clear hc3
   obtain ⟨c4,hc4⟩:=qX ((c3).setIfInBounds (11) (Value.int IntKind.u32 ((tkN s kSources 10:Nat):Int)))
   have Zc4:Hid (c4.size=12):=qH (by rw [←hc4];simp [zn,zl,Zc3.out])
   have Hc4:=qH hc4
   clear hc4
   refine zc (by kernel_rfl) (fun X=>⟨#[tkV g,.pointer (some ⟨p,0,none⟩),.pointer (some ⟨x,0,none⟩),undef,.pointer (some ⟨q,0,none⟩),u5,.pointer (some ⟨q,0,none⟩),.slice (some { block:=q,off:=1 }) 7 7,.int .i64 7,.int .i64 ↑7,.bool false,u11,u12,u13,u14,u15,u16,u17,u18,u19,X 0,X 1,X 2,X 3,X 4,X 5,X 6,X 7,X 8,X 9,X 11,X 13,X 15,undef,undef,undef,undef],[]⟩) (Kept (inP g q)) (fun i v w=>match i with | 0=>(v=tkV g) | 1=>(v=.int .u32 ((tkN s kSources 7:Nat):Int)) | 2=>(v=tkV g) | 3=>(v=.int .u8 ((tkN s kSources 8:Nat):Int)) | 4=>(v=.int .u32 ((tkN s kSources 8:Nat):Int)) | 5=>(v=tkV g) | 6=>(v=.int .u32 ((tkN s kSources 9:Nat):Int)) | 7=>(v=tkV g) | 8=>(v=.int .u32 ((tkN s kSources 10:Nat):Int)) | 9=>(v=.pointer (some ⟨q,8,none⟩)) | 11=>(v=.pointer (some ⟨q,9,none⟩)) | 13=>(v=.pointer (some ⟨q,10,none⟩)) | 15=>(v=.pointer (some ⟨q,11,none⟩)) | _=>True) (fun i=>([0,1,0,2,0,0,3,0,4,0,5,0,6,0,7,0,8]:List Nat).getD i 0) 8 (fun k _ w=>zaW 76 [(tkI s kSources 7,c0),(tkI s kSources 8,c0),(tkI s kSources 9,c0),(tkI s kSources 10,c0),(tkI s kSources 11,c0),(tkI s kSources 11,c1),(tkI s kSources 11,c2),(tkI s kSources 11,c3),(tkI s kSources 11,c4)] w0 w g q k) _ (fun _=>undef) (fun u v w a b=>a.trans b) ?_ (by kernel_rfl) (by kernel_rfl) ((Kept.refl _ _).drew) ((zj rfl ⟨hIr.keep (zr (Below.refl _ _)),hQr.keep (zr (Below.refl _ _))⟩)) ?_ ?_
   ·
    intro i v w w' h hb
    match i,h with
    | 0,h=>exact h
    | 1,h=>exact h
    | 2,h=>exact h
    | 3,h=>exact h
    | 4,h=>exact h
    | 5,h=>exact h
    | 6,h=>exact h
    | 7,h=>exact h
    | 8,h=>exact h
    | 9,h=>exact h
    | 11,h=>exact h
    | 13,h=>exact h
    | 15,h=>exact h
    | 10,h=>exact trivial
    | 12,h=>exact trivial
    | 14,h=>exact trivial
    | 16,h=>exact trivial
    | _+17,h=>exact trivial
   ·
    refine cQ 0 ?_ ?_
    ·
     intro X w hR ψ χ K HK
     have c0:=(hXr.kept hR (fun e=>e.elim hXn hxq)).cell 0 rfl
     go_simp
     exact HK.out _ _ _ rfl (Kept.refl _ _) rfl iD
    refine cS 1 0 ?_ ?_
    ·
     intro X w hR ψ χ hst K HK
     have e0:X 0=tkV g:=(pR ψ 0 .data 0 :)
     go_simp
     go_at_call 104
     refine (zaF 7 (show InW w0 _ g (tkI s kSources 7)∧Blk _ q (c0) 76 from zg hst rfl).1).mono ?_
     rintro e w2 ⟨rfl,h1,h2⟩
     go_simp
     exact HK.out _ _ _ (by (try simp only [e0])<;>rfl) h2.inP rfl (zj rfl ⟨h1,(show InW w0 _ g (tkI s kSources 7)∧Blk _ q (c0) 76 from zg hst rfl).2.kept h2 hqg⟩)
    refine cQ 2 ?_ ?_
    ·
     intro X w hR ψ χ K HK
     have c2:=(hXr.kept hR (fun e=>e.elim hXn hxq)).cell 0 rfl
     go_simp
     exact HK.out _ _ _ rfl (Kept.refl _ _) rfl iD
    refine cS 3 1 ?_ ?_
    ·
     intro X w hR ψ χ hst K HK
     have hst:InW w0 w g (tkI s kSources 8)∧Blk w q (c0) 76:=zg hst rfl
     have e2:X 2=tkV g:=(pR ψ 2 .data 0 :)
     go_simp
     go_at_call 169
     refine (zdq 8 hst.1).mono ?_
     rintro e w2 ⟨rfl,h1,h2⟩
     go_simp
     exact HK.out _ _ _ (by (try simp only [e2])<;>rfl) h2.inP rfl (zj rfl ⟨h1,hst.2.kept h2 hqg⟩)
    refine cQ 4 ?_ ?_
    ·
     intro X w hR ψ χ K HK
     have e3:X 3=.int IntKind.u8 ((tkN s kSources 8:Nat):Int):=(pR ψ 3 .data 0 :)
     have q4:=zcI s hsm kSources 8 _ rfl
     have u4:IntKind.u32.wrap ((tkN s kSources 8:Nat):Int)=((tkN s kSources 8:Nat):Int):=by rw [IntKind.wrap_u32];simp only [So.kB,So.kW,So.kH,So.kD,So.p1,So.p2,So.p4,So.p8] at q4;omega
     go_simp
     exact HK.out _ _ _ (by (try simp only [e3])<;>rfl) (Kept.refl _ _) rfl iD
    refine cQ 5 ?_ ?_
    ·
     intro X w hR ψ χ K HK
     have c5:=(hXr.kept hR (fun e=>e.elim hXn hxq)).cell 0 rfl
     go_simp
     exact HK.out _ _ _ rfl (Kept.refl _ _) rfl iD
    refine cS 6 2 ?_ ?_
    ·
     intro X w hR ψ χ hst K HK
     have hst:InW w0 w g (tkI s kSources 9)∧Blk w q (c0) 76:=zg hst rfl
     have e5:X 5=tkV g:=(pR ψ 5 .data 0 :)
     go_simp
     go_at_call 104
     refine (zaF 9 hst.1).mono ?_
     rintro e w2 ⟨rfl,h1,h2⟩
     go_simp
     exact HK.out _ _ _ (by (try simp only [e5])<;>rfl) h2.inP rfl (zj rfl ⟨h1,hst.2.kept h2 hqg⟩)
    refine cQ 7 ?_ ?_
    ·
     intro X w hR ψ χ K HK
     have c7:=(hXr.kept hR (fun e=>e.elim hXn hxq)).cell 0 rfl
     go_simp
     exact HK.out _ _ _ rfl (Kept.refl _ _) rfl iD
    refine cS 8 3 ?_ ?_
    ·
     intro X w hR ψ χ hst K HK
     have hst:InW w0 w g (tkI s kSources 10)∧Blk w q (c0) 76:=zg hst rfl
     have e7:X 7=tkV g:=(pR ψ 7 .data 0 :)
     go_simp
     go_at_call 104
     refine (zaF 10 hst.1).mono ?_
     rintro e w2 ⟨rfl,h1,h2⟩
     go_simp
     exact HK.out _ _ _ (by (try simp only [e7])<;>rfl) h2.inP rfl (zj rfl ⟨h1,hst.2.kept h2 hqg⟩)
    refine cQ 9 ?_ ?_
    ·
     intro X w hR ψ χ K HK
     go_simp
     exact HK.out _ _ _ rfl (Kept.refl _ _) rfl iD
    refine cS 10 4 ?_ ?_
    ·
     intro X w hR ψ χ hst K HK
     have hst:InW w0 w g (tkI s kSources 11)∧Blk w q (c0) 76:=zg hst rfl
     have e9:X 9=.pointer (some ⟨q,8,none⟩):=(pR ψ 9 .data 0 :)
     have e1:X 1=.int IntKind.u32 ((tkN s kSources 7:Nat):Int):=(pR ψ 1 .data 1 :)
     have hf10:=hst.2.free (8)
     obtain ⟨_,hc10⟩:=hst.2.some (8) (by rw [Zc0.out];omega)
     go_simp
     exact HK.out undef _ _ (by (try simp only [e9,e1])<;>rfl) (zV _ _) trivial (zj rfl ⟨(zP hst.1 hst.2 (by decide) hq0 _ _).1,zt (zP hst.1 hst.2 (by decide) hq0 _ _).2 Hc1.out⟩)
    refine cQ 11 ?_ ?_
    ·
     intro X w hR ψ χ K HK
     go_simp
     exact HK.out _ _ _ rfl (Kept.refl _ _) rfl iD
    refine cS 12 5 ?_ ?_
    ·
     intro X w hR ψ χ hst K HK
     have hst:InW w0 w g (tkI s kSources 11)∧Blk w q (c1) 76:=zg hst rfl
     have e11:X 11=.pointer (some ⟨q,9,none⟩):=(pR ψ 11 .data 0 :)
     have e4:X 4=.int IntKind.u32 ((tkN s kSources 8:Nat):Int):=(pR ψ 4 .data 1 :)
     have hf12:=hst.2.free (9)
     obtain ⟨_,hc12⟩:=hst.2.some (9) (by rw [Zc1.out];omega)
     go_simp
     exact HK.out undef _ _ (by (try simp only [e11,e4])<;>rfl) (zV _ _) trivial (zj rfl ⟨(zP hst.1 hst.2 (by decide) hq0 _ _).1,zt (zP hst.1 hst.2 (by decide) hq0 _ _).2 Hc2.out⟩)
    refine cQ 13 ?_ ?_
    ·
     intro X w hR ψ χ K HK
     go_simp
     exact HK.out _ _ _ rfl (Kept.refl _ _) rfl iD
    refine cS 14 6 ?_ ?_
    ·
     intro X w hR ψ χ hst K HK
     have hst:InW w0 w g (tkI s kSources 11)∧Blk w q (c2) 76:=zg hst rfl
     have e13:X 13=.pointer (some ⟨q,10,none⟩):=(pR ψ 13 .data 0 :)
     have e6:X 6=.int IntKind.u32 ((tkN s kSources 9:Nat):Int):=(pR ψ 6 .data 1 :)
     have hf14:=hst.2.free (10)
     obtain ⟨_,hc14⟩:=hst.2.some (10) (by rw [Zc2.out];omega)
     go_simp
     exact HK.out undef _ _ (by (try simp only [e13,e6])<;>rfl) (zV _ _) trivial (zj rfl ⟨(zP hst.1 hst.2 (by decide) hq0 _ _).1,zt (zP hst.1 hst.2 (by decide) hq0 _ _).2 Hc3.out⟩)
    refine cQ 15 ?_ ?_
    ·
     intro X w hR ψ χ K HK
     go_simp
     exact HK.out _ _ _ rfl (Kept.refl _ _) rfl iD
    refine cS 16 7 ?_ ?_
    ·
     intro X w hR ψ χ hst K HK
     have hst:InW w0 w g (tkI s kSources 11)∧Blk w q (c3) 76:=zg hst rfl
     have e15:X 15=.pointer (some ⟨q,11,none⟩):=(pR ψ 15 .data 0 :)
     have e8:X 8=.int IntKind.u32 ((tkN s kSources 10:Nat):Int):=(pR ψ 8 .data 1 :)
     have hf16:=hst.2.free (11)
     obtain ⟨_,hc16⟩:=hst.2.some (11) (by rw [Zc3.out];omega)
     go_simp
     exact HK.out undef _ _ (by (try simp only [e15,e8])<;>rfl) (zV _ _) trivial (zj rfl ⟨(zP hst.1 hst.2 (by decide) hq0 _ _).1,zt (zP hst.1 hst.2 (by decide) hq0 _ _).2 Hc4.out⟩)
    exact zi.nil
   ·
    intro X1 wE1 hR1 hall1 hS1
    have hS1:InW w0 wE1 g (tkI s kSources 11)∧Blk wE1 q (c4) 76:=zg hS1 rfl
    have hI1:=hS1.1
    have hP1:=hS1.2
    have hX1:=hXr.kept hR1 (fun e=>e.elim hXn hxq)
    clear hall1 hS1
    have hP3:=hP2.kept (hKr.trans hR1) (fun e=>e.elim hpg (Ne.symm hqp))
    have hL:(c4).toList.length=12:=by rw [Array.length_toList,Zc4.out]
    have hrg:wE1.rangeAt q 0 (c4).toList:=fun j v hv=>by
     rw [Nat.zero_add]
     exact hP1.cell j (by rw [←Array.getElem?_toList];exact hv)
    have hone:∀ v∈(c4).toList,v.oneCell'=true:=by
     have:=zlY s
     unfold zb7 at this
     rw [←Hc4.out,←Hc3.out,←Hc2.out,←Hc1.out,←Hc0.out,←Hzz.out]
     exact this
    have hth:=hP3.there 47 12 (by rw [Zcs.out];decide)
    go_wp2_with (first | (refine wpList_load_mid rfl 76 (.tmp 4) rfl q 0 rfl (c4).toList _ hrg Tryz.underlying76 rfl (by rw [hL];rfl) ?_) | (refine wpList_store_mid rfl 76 (.tmp 36) (.tmp 34) rfl p 47 (c4).toList.toArray rfl rfl (by rw [List.size_toArray,hL];exact hth) (by rw [List.size_toArray,hL];rfl) (all_oneCell_toArray hone) ?_) | fail)
    go_end0
    have hz:=ze6 hI1 hP3 (by decide) hp ((c4).toList) 47
    exact ⟨rfl,hz.1,zt hz.2 (by unfold ze8 zb7;rw [←Hc4.out,←Hc3.out,←Hc2.out,←Hc1.out,←Hc0.out,←Hzz.out]),((hK2.then_ (hKr.trans hR1) (fun i hi e=>e.elim .inl (fun e=>by have e:i=q:=e;omega))).trans (zd8 _ _))⟩
theorem znz (k:Nat) (h:k<32):So.kRegs[k]?=some So.kW:=by
 unfold So.kRegs
 rw [List.getElem?_append_left (by simpa using h),List.getElem?_replicate,if_pos h]
def znA (s:Tl.In) (cs:Array Value):Array Value:=(setMid (cs.setIfInBounds 1 (Value.int IntKind.u32 ((tkN s So.kRegs 0:Nat):Int))) 3 (u32s ((List.range 31).map fun i=>tkN s So.kRegs (i+1)))).setIfInBounds 34 (Value.bool (tkN s So.kRegs 32==1))
theorem ziE (g p:Nat) (s:Tl.In) (hsm:Tl.Small s.b) (cs:Array Value) (hsz:cs.size=160) (w0 w:World) (hI:InW w0 w g s) (hP:Blk w p cs 93) (hp:w0.heap.size≤p):Calls Tryz.prog 106 #[tkV g,Value.pointer (some ⟨p,0,none⟩)] w (SecP w0 w g p (tkI s So.kRegs 33) (znA s cs)):=by
 have hpg:p≠g:=by
  obtain ⟨_,_,_,_,hG,_⟩:=hI.at_
  exact hP.apart hG (by decide)
 go_enter Tryz.func106,Tryz.ntmps106
 go_upto_region 1 with (fail)
 have hX:=Blk.new w #[Value.pointer (some ⟨g,0,none⟩)] 154
 have hI0:=zR hI (.cells #[Value.pointer (some ⟨g,0,none⟩)] 154)
 have hP0:=hP.alloc (.cells #[Value.pointer (some ⟨g,0,none⟩)] 154)
 have hK0:=(Kept.refl (inP g p) w).alloc (.cells #[Value.pointer (some ⟨g,0,none⟩)] 154)
 generalize w.alloc (.cells #[Value.pointer (some ⟨g,0,none⟩)] 154)=W1 at hX hI0 hP0 hK0 ⊢
 have Zcs:=qH hsz
 clear hsz
 have hXn:w.heap.size≠g:=Nat.ne_of_gt hI.lt
 have hXm:w.heap.size≠p:=Nat.ne_of_gt hP.lt
 generalize w.heap.size=x at hX hXn hXm ⊢
 have hx0:=hX.cell 0 rfl
 obtain ⟨d0,hd0⟩:=qX (cs.setIfInBounds 1 (Value.int IntKind.u32 ((tkN s So.kRegs 0:Nat):Int)))
 have Zd0:Hid (d0.size=160):=qH (by rw [←hd0];simp [Zcs.out])
 have Hd0:=qH hd0
 clear hd0
 go_wp2_with (first | (go_at_call 104;refine (zaF (K:=So.kRegs) 0 hI0).mono ?_;rintro e w2 ⟨rfl,h1,h2⟩;have hPA:=hP0.kept h2 hpg;have hfA:=hPA.free 1;obtain ⟨_,hcA⟩:=hPA.some 1 (by rw [Zcs.out];omega)) | fail)
 have hI2:=h1.set hPA (by decide) hp 1 (Value.int IntKind.u32 ((tkN s So.kRegs 0:Nat):Int))
 have hP2:=zt (hPA.set 1 (Value.int IntKind.u32 ((tkN s So.kRegs 0:Nat):Int))) Hd0.out
 have hK2:=(hK0.trans h2.inP).trans (zV (g:=g) (p:=p) 1 (Value.int IntKind.u32 ((tkN s So.kRegs 0:Nat):Int)))
 have hX2:=(hX.kept h2.inP (fun e=>e.elim hXn hXm)).far (p:=⟨p,1,none⟩) hXm (Value.int IntKind.u32 ((tkN s So.kRegs 0:Nat):Int))
 clear hfA hcA hPA h1 h2 hI0 hP0 hK0 hX hx0
 generalize w2.setCell ⟨p,1,none⟩ (Value.int IntKind.u32 ((tkN s So.kRegs 0:Nat):Int))=W2 at hI2 hP2 hK2 hX2 ⊢
 go_loopw [4,17] (fun _ i wr=>∃ k:Nat,k≤31∧i=.int .i64 k∧InW w0 wr g (tkI s So.kRegs (k+1))∧Blk wr p (setMid d0 3 (u32s ((List.range k).map fun i=>tkN s So.kRegs (i+1)))) 93∧Kept (inP g p) W2 wr) (fun _ i _=>31-(intOf i).toNat)
 case atStart=>exact ⟨0,by decide,rfl,hI2,by simpa [setMid,u32s] using hP2,Kept.refl _ _⟩
 case round =>
  obtain ⟨k,hk,rfl,hIr,hPr,hKr⟩:=hrel
  have hXr:=hX2.kept hKr (fun e=>e.elim hXn hXm)
  have hsz2:=zl (u32s ((List.range k).map fun i=>tkN s So.kRegs (i+1))) 3 d0
  rw [Zd0.out] at hsz2
  by_cases hlt:k<31
  ·
   have hkw:=znz (k+1) (by omega)
   have hsn:setMid d0 3 (u32s ((List.range (k+1)).map fun i=>tkN s So.kRegs (i+1)))=(setMid d0 3 (u32s ((List.range k).map fun i=>tkN s So.kRegs (i+1)))).setIfInBounds (2+(k+1)) (.int .u32 ((tkN s So.kRegs (k+1):Nat):Int)):=by
    rw [List.range_succ,List.map_append,u32s,List.map_append,List.map_cons,List.map_nil,List.map_cons,List.map_nil,zcr]
    simp [u32s,show 3+k=2+(k+1) by omega]
   have Hsn:=qH hsn
   obtain ⟨c0,hc0⟩:=qX (setMid d0 3 (u32s ((List.range k).map fun i=>tkN s So.kRegs (i+1))))
   rw [hc0] at hPr hsz2 Hsn
   have Hc0:=qH hc0
   have Zc0:=qH hsz2
   have hk7:(k:Int)<31:=by omega
   have hk8:(k:Int)+1<32:=by omega
   have hk9:(0:Int)≤(k:Int)+1:=by omega
   clear hsn hsz2 hc0 hlt
   go_wp2_with fail
   obtain ⟨c1,hc1⟩:=qX ((c0).setIfInBounds (2+(k+1)) (Value.int IntKind.u32 ((tkN s So.kRegs (k+1):Nat):Int)))
   have Zc1:Hid (c1.size=160):=qH (by rw [←hc1];simp [zn,zl,Zc0.out])
   have Hc1:=qH hc1
   clear hc1
   refine zc (by kernel_rfl) (fun X=>⟨#[tkV g,.pointer (some ⟨p,0,none⟩),.pointer (some ⟨x,0,none⟩),undef,.int .i64 ↑k,.pointer (some ⟨p,0,none⟩),.agg #[.pointer (some ⟨g,0,none⟩)],.int .u32 ↑(tkN s So.kRegs 0),.pointer (some ⟨p,0,none⟩),.pointer (some ⟨p,1,none⟩),.pointer (some ⟨p,1,none⟩),.pointer (some ⟨p,0,none⟩),.pointer (some ⟨p,0,none⟩),.pointer (some ⟨p,1,none⟩),.pointer (some ⟨p,2,none⟩),.slice (some { block:=p,off:=3 }) 31 31,.int .i64 31,.int .i64 ↑k,.bool true,.int .i64 ↑k,X 0,X 1,X 2,X 3,X 4,X 5,X 6,X 7,X 8,u29,undef,undef,undef,undef,undef,undef],[]⟩) (Kept (inP g p)) (fun i v w=>match i with | 0=>(v=.pointer (some ⟨p,0,none⟩)) | 1=>(v=.int .i64 ↑k) | 2=>(v=.int .i64 ((k:Int)+1)) | 3=>(v=tkV g) | 4=>(v=.int .u32 ((tkN s So.kRegs (k+1):Nat):Int)) | 5=>(v=.pointer (some ⟨p,0,none⟩)) | 6=>(v=.pointer (some ⟨p,1,none⟩)) | 7=>(v=.pointer (some ⟨p,2,none⟩)) | 8=>(v=.pointer (some ⟨p,2+(k+1),none⟩)) | _=>True) (fun i=>([0,0,0,0,1,0,0,0,0,2]:List Nat).getD i 0) 2 (fun kk _ w=>zaW 93 [(tkI s So.kRegs (k+1),c0),(tkI s So.kRegs (k+1+1),c0),(tkI s So.kRegs (k+1+1),c1)] w0 w g p kk) _ (fun i=>if i=0 then u20 else if i=1 then u21 else if i=2 then u22 else if i=3 then u23 else if i=4 then u24 else if i=5 then u25 else if i=6 then u26 else if i=7 then u27 else if i=8 then u28 else undef) (fun u v w a b=>a.trans b) ?_ (by kernel_rfl) (by kernel_rfl) ((Kept.refl _ _).drew) ((zj rfl ⟨hIr.keep (zr (Below.refl _ _)),hPr.keep (zr (Below.refl _ _))⟩)) ?_ ?_
   ·
    intro i v w w' h hb
    match i,h with
    | 0,h=>exact h
    | 1,h=>exact h
    | 2,h=>exact h
    | 3,h=>exact h
    | 4,h=>exact h
    | 5,h=>exact h
    | 6,h=>exact h
    | 7,h=>exact h
    | 8,h=>exact h
    | 9,h=>exact trivial
    | _+10,h=>exact trivial
   ·
    refine cQ 0 ?_ ?_
    ·
     intro X w hR ψ χ K HK
     go_simp
     exact HK.out _ _ _ rfl (Kept.refl _ _) rfl iD
    refine cQ 1 ?_ ?_
    ·
     intro X w hR ψ χ K HK
     go_simp
     exact HK.out _ _ _ rfl (Kept.refl _ _) rfl iD
    refine cQ 2 ?_ ?_
    ·
     intro X w hR ψ χ K HK
     have e1:X 1=.int IntKind.i64 ↑k:=(pR ψ 1 .data 0 :)
     have u2:IntKind.i64.wrap ((k:Int)+1)=(k:Int)+1:=IntWalk.i64_in _ (by omega)
     go_simp
     exact HK.out _ _ _ (by (try simp only [e1])<;>rfl) (Kept.refl _ _) rfl iD
    refine cQ 3 ?_ ?_
    ·
     intro X w hR ψ χ K HK
     have c3:=(hXr.kept hR (fun e=>e.elim hXn hXm)).cell 0 rfl
     go_simp
     exact HK.out _ _ _ rfl (Kept.refl _ _) rfl iD
    refine cS 4 0 ?_ ?_
    ·
     intro X w hR ψ χ hst K HK
     have e3:X 3=tkV g:=(pR ψ 3 .data 0 :)
     go_simp
     go_at_call 104
     refine (zaF (k+1) (show InW w0 _ g (tkI s So.kRegs (k+1))∧Blk _ p (c0) 93 from zg hst rfl).1 hkw).mono ?_
     rintro e w2 ⟨rfl,h1,h2⟩
     go_simp
     exact HK.out _ _ _ (by (try simp only [e3])<;>rfl) h2.inP rfl (zj rfl ⟨h1,(show InW w0 _ g (tkI s So.kRegs (k+1))∧Blk _ p (c0) 93 from zg hst rfl).2.kept h2 hpg⟩)
    refine cQ 5 ?_ ?_
    ·
     intro X w hR ψ χ K HK
     have e0:X 0=.pointer (some ⟨p,0,none⟩):=(pR ψ 0 .data 0 :)
     go_simp
     exact HK.out _ _ _ (by (try simp only [e0])<;>rfl) (Kept.refl _ _) rfl iD
    refine cQ 6 ?_ ?_
    ·
     intro X w hR ψ χ K HK
     have e5:X 5=.pointer (some ⟨p,0,none⟩):=(pR ψ 5 .data 0 :)
     go_simp
     exact HK.out _ _ _ (by (try simp only [e5])<;>rfl) (Kept.refl _ _) rfl iD
    refine cQ 7 ?_ ?_
    ·
     intro X w hR ψ χ K HK
     have e6:X 6=.pointer (some ⟨p,1,none⟩):=(pR ψ 6 .data 0 :)
     go_simp
     exact HK.out _ _ _ (by (try simp only [e6])<;>rfl) (Kept.refl _ _) rfl iD
    refine cQ 8 ?_ ?_
    ·
     intro X w hR ψ χ K HK
     have e7:X 7=.pointer (some ⟨p,2,none⟩):=(pR ψ 7 .data 0 :)
     have e2:X 2=.int IntKind.i64 ((k:Int)+1):=(pR ψ 2 .data 1 :)
     go_simp
     exact HK.out _ _ _ (by (try simp only [e7,e2])<;>rfl) (Kept.refl _ _) rfl iD
    refine cS 9 1 ?_ ?_
    ·
     intro X w hR ψ χ hst K HK
     have hst:InW w0 w g (tkI s So.kRegs (k+1+1))∧Blk w p (c0) 93:=zg hst rfl
     have e8:X 8=.pointer (some ⟨p,2+(k+1),none⟩):=(pR ψ 8 .data 0 :)
     have e4:X 4=.int IntKind.u32 ((tkN s So.kRegs (k+1):Nat):Int):=(pR ψ 4 .data 1 :)
     have hf9:=hst.2.free (2+(k+1))
     obtain ⟨_,hc9⟩:=hst.2.some (2+(k+1)) (by rw [Zc0.out];omega)
     go_simp
     exact HK.out undef _ _ (by (try simp only [e8,e4])<;>rfl) (zV _ _) trivial (zj rfl ⟨(zP hst.1 hst.2 (by decide) hp _ _).1,zt (zP hst.1 hst.2 (by decide) hp _ _).2 Hc1.out⟩)
    exact zi.nil
   ·
    intro X1 wE1 hR1 hall1 hS1
    have hS1:InW w0 wE1 g (tkI s So.kRegs (k+1+1))∧Blk wE1 p (c1) 93:=zg hS1 rfl
    have hI1:=hS1.1
    have hP1:=hS1.2
    have hX1:=hXr.kept hR1 (fun e=>e.elim hXn hXm)
    clear hall1 hS1
    go_wp2_with fail
    go_roundw
    case rel=>exact ⟨k+1,by omega,by go_num,hI1,zt hP1 (by rw [Hsn.out,←Hc1.out]),hKr.trans hR1⟩
    case measure=>simp [intOf];omega
  ·
   obtain rfl:k=31:=by omega
   have hx:=hXr.cell 0 rfl
   obtain ⟨c9,hc9⟩:=qX (setMid d0 3 (u32s ((List.range 31).map fun i=>tkN s So.kRegs (i+1))))
   rw [hc9] at hPr hsz2
   have Hc9:=qH hc9
   have Zc9:=qH hsz2
   clear hc9 hsz2 hlt
   go_wp2_with (first | (go_at_call 167;refine (zbS (K:=So.kRegs) 32 hIr).mono ?_;rintro e w3 ⟨rfl,h1,h2⟩;have hPA:=hPr.kept h2 hpg;have hfA:=hPA.free 34;obtain ⟨_,hcA⟩:=hPA.some 34 (by rw [Zc9.out];omega)) | fail)
   go_end0
   exact ⟨rfl,h1.set hPA (by decide) hp _ _,zt (hPA.set _ _) (by unfold znA;rw [←Hc9.out,←Hd0.out]),((hK2.trans hKr).trans h2.inP).trans (zV _ _)⟩
def zam:Array Value:=#[Value.int IntKind.u8 0,Value.int IntKind.u8 0,Value.int IntKind.u8 0,Value.int IntKind.u8 0,Value.int IntKind.u8 0,Value.int IntKind.u8 0,Value.int IntKind.u8 0,Value.int IntKind.u8 0,Value.int IntKind.u8 0,Value.int IntKind.u8 0,Value.int IntKind.u8 0,Value.int IntKind.u8 0,Value.int IntKind.u8 0,Value.int IntKind.u8 0,Value.int IntKind.u8 0,Value.int IntKind.u8 0,Value.int IntKind.i64 0]
theorem zlZ (j:Nat) (h:j<16):zam.toList[j]?=some (Value.int IntKind.u8 ((0:Nat):Int)):=by
 have:j=0∨j=1∨j=2∨j=3∨j=4∨j=5∨j=6∨j=7∨j=8∨j=9∨j=10∨j=11∨j=12∨j=13∨j=14∨j=15:=by omega
 rcases this with rfl | rfl | rfl | rfl | rfl | rfl | rfl | rfl | rfl | rfl | rfl | rfl | rfl | rfl | rfl | rfl<;>rfl
def zbd (l:List Nat):List Value:=zA l++zam.toList.drop l.length
theorem zgK (s:Tl.In):(Tl.takeRun s 16).2.length≤16:=by
 unfold Tl.takeRun
 split
 · simp
 ·
  split
  · simp
  ·
   split
   · simp
   ·
    split
    · simp
    ·
     split
     · simp
     ·
      simp only [List.length_take,List.length_drop]
      omega
theorem zl0 (l:List Nat) (h:l.length≤16):(zbd l).toArray.setIfInBounds 16 (.int .i64 ((l.length:Nat):Int))=(So.fifoL ⟨So.at_ l,l.length⟩).toArray:=by
 rw [List.setIfInBounds_toArray]
 congr 1
 apply List.ext_getElem?
 intro j
 have hl:(zbd l).length=17:=by
  unfold zbd
  rw [List.length_append,List.length_drop,zW]
  have:zam.toList.length=17:=rfl
  omega
 rcases Nat.lt_or_ge j 17 with hj | hj
 ·
  by_cases h16:j=16
  ·
   subst h16
   rw [List.getElem?_set_self (by omega)]
   rfl
  ·
   rw [List.getElem?_set_ne (fun e=>h16 e.symm)]
   have R:(So.fifoL ⟨So.at_ l,l.length⟩)[j]?=some (.int .u8 ((So.at_ l j:Nat):Int)):=by
    unfold So.fifoL
    rw [List.getElem?_append_left (by simp;omega),List.getElem?_map,List.getElem?_range (by omega)]
    rfl
   rw [R]
   unfold zbd
   rcases Nat.lt_or_ge j l.length with h1 | h1
   ·
    rw [List.getElem?_append_left (by rw [zW];exact h1),zaK l j h1]
    rfl
   ·
    rw [List.getElem?_append_right (by rw [zW];exact h1),zW,List.getElem?_drop,show l.length+(j-l.length)=j by omega]
    have e0:So.at_ l j=0:=by
     unfold So.at_
     rw [List.getD_eq_getElem?_getD,List.getElem?_eq_none h1]
     rfl
    rw [e0]
    exact zlZ j (by omega)
 · rw [List.getElem?_eq_none (by rw [List.length_set];omega),List.getElem?_eq_none (by simp [So.fifoL];omega)]
def zfa (w0 w:World) (g:Nat) (i:Tl.In) (e:Ending) (w':World):Prop :=
 e=.returned (.agg (So.fifoL (So.tFifo i).2).toArray)∧InW w0 w' g (So.tFifo i).1∧Kept (inIn g) w w'
def zgL (w0:World) (g q:Nat) (s:Tl.In) (l:List Nat) (r:Tl.In) (zf:Array Value):Nat→(Nat→Value)→World→Prop:=fun kk X w=>match kk with
 | 0=>InW w0 w g s∧Blk w q zf 77
 | 1=>(∃ A c,X 4=Value.slice A l.length c∧Bs w A l.length c l∧(0<l.length→A.map (·.block)≠some q))∧InW w0 w g r∧Blk w q zf 77
 | 2=>X 5=Value.int .i64 ((l.length:Nat):Int)∧InW w0 w g r∧Blk w q (zbd l).toArray 77
 | 3=>InW w0 w g r∧Blk w q ((zbd l).toArray.setIfInBounds 16 (.int .i64 ((l.length:Nat):Int))) 77
 | _=>False
theorem zbe {w0 w:World} {g q:Nat} {s r:Tl.In} {l:List Nat} {zf:Array Value} {kk:Nat} {X:Nat→Value} (i:Nat) (v:Value) (h4:i≠4) (h5:i≠5) (h:zgL w0 g q s l r zf kk X w):zgL w0 g q s l r zf kk (upd X i v) w:=by
 match kk,h with
 | 0,h=>exact h
 | 1,h =>
  obtain ⟨⟨A,c,e,h1⟩,h2⟩:=h
  exact ⟨⟨A,c,(zav X v (fun e=>h4 e.symm)).trans e,h1⟩,h2⟩
 | 2,h=>exact ⟨(zav X v (fun e=>h5 e.symm)).trans h.1,h.2⟩
 | 3,h=>exact h
 | _+4,h=>exact h.elim
theorem zgM (l:List Nat) (h:l.length≤16):(zbd l).length=17:=by
 unfold zbd
 rw [List.length_append,List.length_drop,zW]
 have:zam.toList.length=17:=rfl
 omega
theorem zfb (f:So.Fifo):∀ v∈So.fifoL f,v.oneCell'=true:=by
 intro v hv
 unfold So.fifoL at hv
 rcases List.mem_append.1 hv with hv | hv
 ·
  obtain ⟨i,_,rfl⟩:=List.mem_map.1 hv
  rfl
 ·
  rw [List.mem_singleton.1 hv]
  rfl
theorem zka {w:World} {q c:Nat} {A:Option Addr} {l:List Nat} (hB:Blk w q zam 77) (hb:Bs w A l.length c l) (hfar:0<l.length→A.map (·.block)≠some q) (hl:l.length≤16):∃ w',(∀ ty,(Builtin.copy_ #[65,65] ty #[.slice (some ⟨q,0,none⟩) 16 16,.slice A l.length c]).run Tryz.prog w=.ok (.int .i64 ((l.length:Nat):Int)) w')∧Blk w' q (zbd l).toArray 77∧Kept (fun k=>k=q) w w':=by
 rcases Nat.eq_zero_or_pos l.length with h0 | h0
 ·
  have hz:l=[]:=List.eq_nil_of_length_eq_zero h0
  subst hz
  exact ⟨w,fun ty=>run_copy_none (P:=Tryz.prog) w 65 65 ty 5 _ A 16 16 0 c Tryz.underlying65 zbO rfl,hB,Kept.refl _ _⟩
 ·
  obtain ⟨b,off,rfl,hc⟩:=hb.cells h0
  have hr:=fun ty=>run_copy_row (P:=Tryz.prog) w 65 65 ty 5 q 0 16 16 ⟨b,off,none⟩ l.length c zam 77 (zA l) Tryz.underlying65 zbO hB.at_ (by rw [zW];exact (Nat.min_eq_left hl).symm) (fun j v hv=>by
   have hj:j<l.length:=by
    rcases Nat.lt_or_ge j l.length with h' | h'
    · exact h'
    · simp [zA,List.getElem?_eq_none h'] at hv
   rw [zaK l j hj] at hv
   injection hv with hv
   subst hv
   rw [zah]
   exact hc j hj) (by rw [zW];have:zam.size=17:=rfl;omega) (zeA l)
  simp only [zW,List.take_zero,List.nil_append,Nat.zero_add] at hr
  exact ⟨_,hr,hB.setRow _,(Kept.refl (fun k=>k=q) w).setRow rfl _⟩
theorem zeL (g:Nat) (s:Tl.In) (w0 w:World) (hI:InW w0 w g s):Calls Tryz.prog 170 #[tkV g] w (zfa w0 w g s):=by
 have hln:=zgK s
 have hRun:=fun (W:World) (h:InW w0 W g s)=>ziv g s 16 w0 W h (by decide)
 unfold zfa So.tFifo
 obtain ⟨r,hr⟩:=qX (Tl.takeRun s 16)
 unfold zfI at hRun
 rw [hr] at hln ⊢
 simp only [hr] at hRun
 obtain ⟨r,l⟩:=r
 simp only at hRun hln ⊢
 have HRun:=qH hRun
 clear hRun hr
 go_enter Tryz.func170,Tryz.ntmps170
 go_upto_region 2 with (fail)
 obtain ⟨WB,hWB⟩:=qX (w.alloc (.cells #[Value.pointer (some ⟨g,0,none⟩)] 154))
 have hX:=Blk.new w #[Value.pointer (some ⟨g,0,none⟩)] 154
 have hI1:=zR hI (.cells #[Value.pointer (some ⟨g,0,none⟩)] 154)
 have hK1:=(Kept.refl (inIn g) w).alloc (.cells #[Value.pointer (some ⟨g,0,none⟩)] 154)
 have hs1:w.heap.size+1=WB.heap.size:=by rw [←hWB];simp
 rw [hWB] at hX hI1 hK1 ⊢
 clear hWB
 obtain ⟨WC,hWC⟩:=qX (WB.alloc (.cells zam 77))
 have hY:=Blk.new WB zam 77
 have hI2:=zR hI1 (.cells zam 77)
 have hK2:=hK1.alloc (.cells zam 77)
 have hX2:=hX.alloc (.cells zam 77)
 have hs2:WB.heap.size+1=WC.heap.size:=by rw [←hWC];simp
 rw [hWC] at hY hI2 hK2 hX2
 have hWC':WB.alloc (.cells #[Value.int IntKind.u8 0,Value.int IntKind.u8 0,Value.int IntKind.u8 0,Value.int IntKind.u8 0,Value.int IntKind.u8 0,Value.int IntKind.u8 0,Value.int IntKind.u8 0,Value.int IntKind.u8 0,Value.int IntKind.u8 0,Value.int IntKind.u8 0,Value.int IntKind.u8 0,Value.int IntKind.u8 0,Value.int IntKind.u8 0,Value.int IntKind.u8 0,Value.int IntKind.u8 0,Value.int IntKind.u8 0,Value.int IntKind.i64 0] 77)=WC:=hWC
 rw [hWC']
 clear hWC hWC'
 have hZ:=Blk.new WC zam 77
 have hI3:=zR hI2 (.cells zam 77)
 have hK3:=hK2.alloc (.cells zam 77)
 have hX3:=hX2.alloc (.cells zam 77)
 have hY3:=hY.alloc (.cells zam 77)
 generalize hWD:WC.alloc (.cells zam 77)=WD at hZ hI3 hK3 hX3 hY3
 have hWD':WC.alloc (.cells #[Value.int IntKind.u8 0,Value.int IntKind.u8 0,Value.int IntKind.u8 0,Value.int IntKind.u8 0,Value.int IntKind.u8 0,Value.int IntKind.u8 0,Value.int IntKind.u8 0,Value.int IntKind.u8 0,Value.int IntKind.u8 0,Value.int IntKind.u8 0,Value.int IntKind.u8 0,Value.int IntKind.u8 0,Value.int IntKind.u8 0,Value.int IntKind.u8 0,Value.int IntKind.u8 0,Value.int IntKind.u8 0,Value.int IntKind.i64 0] 77)=WD:=hWD
 rw [hWD']
 clear hWD hWD'
 have hw0:w0.heap.size≤w.heap.size:=hI.bel.size
 have hg0:g<w.heap.size:=hI.lt
 obtain ⟨x,hx⟩:=qX w.heap.size
 obtain ⟨y,hy⟩:=qX WB.heap.size
 obtain ⟨q,hq⟩:=qX WC.heap.size
 have e1:w.heap.size+1=y:=by omega
 have e2:w.heap.size+1+1=q:=by omega
 first | rw [hx] at hX3 | skip
 first | rw [hy] at hY3 | skip
 first | rw [hq] at hZ | skip
 simp only [e1]
 have e3:y+1=q:=by omega
 simp only [e3,hx]
 have hxg:x≠g:=by omega
 have hyg:y≠g:=by omega
 have hqg:q≠g:=by omega
 have hxq:x≠q:=by omega
 have hyq:y≠q:=by omega
 have hq0:w0.heap.size≤q:=by omega
 have hqw:w.heap.size≤q:=by omega
 have hyw:w.heap.size≤y:=by omega
 clear hX hX2 hY hI1 hI2 hK1 hK2 hs1 hs2 e1 e2 e3 hx hy hq
 refine zc (by kernel_rfl) (fun X=>⟨#[tkV g,.pointer (some ⟨x,0,none⟩),.pointer (some ⟨y,0,none⟩),.pointer (some ⟨q,0,none⟩),X 0,X 1,X 2,X 3,X 4,X 5,X 6,undef],[]⟩) (Kept (inP g q)) (fun i v w=>match i with | 0=>(v=.pointer (some ⟨q,0,none⟩)) | 1=>(v=.slice (some ⟨q,0,none⟩) 16 16) | 2=>(v=.pointer (some ⟨x,0,none⟩)) | 3=>(v=.pointer (some ⟨g,0,none⟩)) | 6=>(v=.pointer (some ⟨q,16,none⟩)) | _=>True) (fun i=>([0,0,0,0,1,2,0,3]:List Nat).getD i 0) 3 (zgL w0 g q s l r zam) _ (fun _=>undef) (fun u v w a b=>a.trans b) ?_ (by kernel_rfl) (by kernel_rfl) ((Kept.refl _ _).drew) ((show InW w0 _ g s∧Blk _ q zam _ from ⟨hI3.keep (zr (Below.refl _ _)),hZ.keep (zr (Below.refl _ _))⟩)) ?_ ?_
 ·
  intro i v w w' h hb
  match i,h with
  | 0,h=>exact h
  | 1,h=>exact h
  | 2,h=>exact h
  | 3,h=>exact h
  | 6,h=>exact h
  | 4,h=>exact trivial
  | 5,h=>exact trivial
  | 7,h=>exact trivial
  | _+8,h=>exact trivial
 ·
  refine cQ 0 ?_ ?_
  ·
   intro X w hR ψ χ K HK
   go_simp
   exact HK.out _ _ _ rfl (Kept.refl _ _) rfl (fun kk _ h=>zbe 0 _ (by decide) (by decide) h)
  refine cQ 1 ?_ ?_
  ·
   intro X w hR ψ χ K HK
   have e0:X 0=.pointer (some ⟨q,0,none⟩):=(pR ψ 0 .data 0 :)
   go_simp
   exact HK.out _ _ _ (by (try simp only [e0])<;>rfl) (Kept.refl _ _) rfl (fun kk _ h=>zbe 1 _ (by decide) (by decide) h)
  refine cQ 2 ?_ ?_
  ·
   intro X w hR ψ χ K HK
   go_simp
   exact HK.out _ _ _ rfl (Kept.refl _ _) rfl (fun kk _ h=>zbe 2 _ (by decide) (by decide) h)
  refine cQ 3 ?_ ?_
  ·
   intro X w hR ψ χ K HK
   have e2:X 2=.pointer (some ⟨x,0,none⟩):=(pR ψ 2 .data 0 :)
   have c3:=(hX3.kept hR (fun e=>e.elim hxg hxq)).cell 0 rfl
   go_simp
   exact HK.out _ _ _ (by (try simp only [e2])<;>rfl) (Kept.refl _ _) rfl (fun kk _ h=>zbe 3 _ (by decide) (by decide) h)
  refine cS 4 0 ?_ ?_
  ·
   intro X w hR ψ χ hst K HK
   have e3:X 3=.pointer (some ⟨g,0,none⟩):=(pR ψ 3 .data 0 :)
   have hst:InW w0 w g s∧Blk w q zam 77:=hst
   go_simp
   go_at_call 202
   refine (HRun.out _ hst.1).mono ?_
   rintro e w2 ⟨A,n,c,rfl,hown,h1,h2⟩
   have hn:l.length=n:=hown.len
   subst hn
   go_simp
   exact HK.out _ _ _ (by (try simp only [e3])<;>rfl) h2.inP trivial ⟨⟨A,c,rfl,hown.bs,fun h0 e=>by have:=(hown.ge q e).1;have:=hst.2.lt;omega⟩,h1,hst.2.kept h2 hqg⟩
  refine cS 5 1 ?_ ?_
  ·
   intro X w hR ψ χ hst K HK
   have e1:X 1=.slice (some ⟨q,0,none⟩) 16 16:=(pR ψ 1 .data 0 :)
   obtain ⟨⟨A,c,e4,hb,hfar⟩,h1,hB⟩:(∃ A c,X 4=Value.slice A l.length c∧Bs w A l.length c l∧(0<l.length→A.map (·.block)≠some q))∧InW w0 w g r∧Blk w q zam 77:=hst
   obtain ⟨w2,hcp,hB2,hk2⟩:=zka hB hb hfar hln
   go_simp
   exact HK.out _ _ _ (by (try simp only [e1,e4])<;>rfl) (hk2.mono (fun i _ e=>.inr e)) trivial ⟨rfl,h1.kept hk2 (fun e=>hqg e.symm) (fun i hi e=>by have e:i=q:=e;omega),hB2⟩
  refine cQ 6 ?_ ?_
  ·
   intro X w hR ψ χ K HK
   go_simp
   exact HK.out _ _ _ rfl (Kept.refl _ _) rfl (fun kk _ h=>zbe 6 _ (by decide) (by decide) h)
  refine cS 7 2 ?_ ?_
  ·
   intro X w hR ψ χ hst K HK
   have e6:X 6=.pointer (some ⟨q,16,none⟩):=(pR ψ 6 .data 0 :)
   obtain ⟨e5,h1,hB⟩:X 5=Value.int .i64 ((l.length:Nat):Int)∧InW w0 w g r∧Blk w q (zbd l).toArray 77:=hst
   have hf7:=hB.free 16
   obtain ⟨_,hc7⟩:=hB.some 16 (by rw [List.size_toArray,zgM l hln];decide)
   go_simp
   exact HK.out undef _ _ (by (try simp only [e6,e5])<;>rfl) (zV _ _) trivial ⟨h1.set hB (by decide) hq0 _ _,hB.set _ _⟩
  exact zi.nil
 ·
  intro X1 wE1 hR1 hall1 hS1
  obtain ⟨hI1,hB1⟩:InW w0 wE1 g r∧Blk wE1 q ((zbd l).toArray.setIfInBounds 16 (.int .i64 ((l.length:Nat):Int))) 77:=hS1
  clear hall1
  rw [zl0 l hln] at hB1
  have hY1:=hY3.kept hR1 (fun e=>e.elim hyg hyq)
  have hone:∀ v∈So.fifoL ⟨So.at_ l,l.length⟩,v.oneCell'=true:=zfb _
  have hfl:(So.fifoL ⟨So.at_ l,l.length⟩).length=17:=by simp [So.fifoL]
  obtain ⟨F,hF⟩:=qX (So.fifoL ⟨So.at_ l,l.length⟩)
  rw [hF] at hB1 hone hfl
  have HF:=qH hF
  clear hF
  have hrg:wE1.rangeAt q 0 F:=fun j v hv=>by
   rw [Nat.zero_add]
   exact hB1.cell j (by rw [List.getElem?_toArray];exact hv)
  have hth:=hY1.there 0 17 (by decide)
  have hkf:Kept (inIn g) w wE1:=hK3.then_ hR1 (fun i hi e=>e.elim id (fun e=>by have e:i=q:=e;omega))
  have hB2:=hY1.setMid F 0
  rw [zS F 0 zam (by rw [hfl];rfl)] at hB2
  simp only [List.take_zero,List.nil_append] at hB2
  have hv:=run_loadVar_mid (P:=Tryz.prog) (wE1.setCells y 0 F) y 0 77 F _ (fun j v hv=>by
   rw [Nat.zero_add]
   exact hB2.cell j (by rw [List.getElem?_toArray];exact hv)) Tryz.underlying77 rfl (by rw [hfl];rfl)
  have hI4:InW w0 (wE1.setCells y 0 F) g r:=hI1.kept (Kept.setCells (S:=fun k=>k=y) rfl F 0 wE1 (Kept.refl _ _)) (fun e=>hyg e.symm) (fun i hi e=>by have e:i=y:=e;omega)
  have hk4:Kept (inIn g) w (wE1.setCells y 0 F):=hkf.then_ (Kept.setCells (S:=fun k=>k=y) rfl F 0 wE1 (Kept.refl _ _)) (fun i hi e=>by have e:i=y:=e;omega)
  have Hv:=qH hv
  clear hv hB2 hkf
  go_wp2_with (first | (refine wpList_load_mid rfl 77 (.tmp 3) rfl q 0 rfl F _ hrg Tryz.underlying77 rfl (by rw [hfl];rfl) ?_) | (refine wpList_store_mid rfl 77 (.tmp 2) (.tmp 11) rfl y 0 F.toArray rfl rfl (by rw [List.size_toArray,hfl];exact hth) (by rw [List.size_toArray,hfl];rfl) (all_oneCell_toArray hone) ?_) | fail)
  exact bodyPost_ret (v:=.agg F.toArray) (by simp [results,Tryz.results170,asAddr,Hv.out,Act.put]) rfl ⟨by rw [HF.out],hI4,hk4⟩
end Go.Proofs.YtdffbihilhkkjaaGreatDoor
