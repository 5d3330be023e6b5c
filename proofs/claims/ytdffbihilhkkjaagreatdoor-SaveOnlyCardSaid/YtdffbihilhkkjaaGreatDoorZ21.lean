import Derived.Test.YtdffbihilhkkjaaGreatDoorZ20
namespace Go.Proofs.YtdffbihilhkkjaaGreatDoor
open Go.RowKit
set_option linter.unusedVariables false
set_option linter.unusedSimpArgs false
set_option maxRecDepth 100000
set_option maxHeartbeats 8000000
structure StAt (w:World) (base p:Nat) (s:So.State) (Q I:So.Hdr) (Rs:List (So.Req×So.Hdr)):Prop where
 blk:Blk w p (So.stL s Q I).toArray 93
 q:RowE w base 188 4 Q.A Q.n Q.c (s.q.flatMap So.postL)
 qn:Q.n=s.q.length
 i:RowE w base 287 6 I.A I.n I.c (zbJ Rs)
 ins:Rs.map (·.1)=s.b.ins
 rn:I.n=Rs.length
 seg:∀ r∈Rs,zau w base r
theorem StAt.step {w w1:World} {base p g:Nat} {s s1:So.State} {Q I:So.Hdr} {Rs:List (So.Req×So.Hdr)} (h:StAt w base p s Q I Rs) {cs:Array Value} (hG:Blk w g cs 256) (k:Kept (inP g p) w w1) (hB:Blk w1 p (So.stL s1 Q I).toArray 93) (hq:s1.q=s.q) (hi:s1.b.ins=s.b.ins):StAt w1 base p s1 Q I Rs :=
 ⟨hB,by rw [hq];exact h.q.kept k (fun b hb e=>e.elim (fun e=>h.q.far hG (by decide) (e ▸ hb)) (fun e=>h.q.far h.blk (by decide) (e ▸ hb))),by rw [hq];exact h.qn,
  h.i.kept k (fun b hb e=>e.elim (fun e=>h.i.far hG (by decide) (e ▸ hb)) (fun e=>h.i.far h.blk (by decide) (e ▸ hb))),by rw [hi];exact h.ins,h.rn,
  fun r hr=>(h.seg r hr).kept k (fun b hb e=>e.elim (fun e=>(h.seg r hr).1.far hG (by decide) (e ▸ hb)) (fun e=>(h.seg r hr).1.far h.blk (by decide) (e ▸ hb)))⟩
theorem StAt.keep {w w1:World} {base p:Nat} {s:So.State} {Q I:So.Hdr} {Rs:List (So.Req×So.Hdr)} (h:StAt w base p s Q I Rs) (hb:Below w.heap.size w w1):StAt w1 base p s Q I Rs :=
 ⟨h.blk.keep hb,h.q.keep hb,h.qn,h.i.keep hb,h.ins,h.rn,fun r hr=>(h.seg r hr).kept (S:=fun _=>False) (Kept.of_below hb) (fun _ _ h=>h)⟩
def inPC (g p pc:Nat):Nat→Prop:=fun k=>k=g∨k=p∨k=pc
theorem zgT {g p pc:Nat} {w w':World} (h:Kept (inP g p) w w'):Kept (inPC g p pc) w w':=h.mono (fun k _ e=>e.elim .inl (fun e=>.inr (.inl e)))
def SecW (w0 w:World) (base g pc p k:Nat) (i:Tl.In) (c:So.Config) (s:So.State) (Q0 I0:So.Hdr) (e:Ending) (w':World):Prop :=
 e=.returned (.tuple #[])∧InW w0 w' g (So.section_ k i c s).1∧Blk w' pc (So.configL (So.section_ k i c s).2.1).toArray 68∧(∃ Q I Rs,StAt w' base p (So.section_ k i c s).2.2 Q I Rs∧(k≠5→Q=Q0)∧(k≠11→I=I0))∧Kept (inPC g p pc) w w'
theorem zbp {w0 w w1 w':World} {base g pc p k:Nat} {i:Tl.In} {c:So.Config} {s s1:So.State} {i1:Tl.In} {Q I:So.Hdr} {Rs:List (So.Req×So.Hdr)} (hk:So.section_ k i c s=(i1,c,s1)) (hb:Below w.heap.size w w1) (hI:InW w0 w1 g i) (hC:Blk w1 pc (So.configL c).toArray 68) (hS:StAt w1 base p s Q I Rs) (h1:InW w0 w' g i1) (hB:Blk w' p (So.stL s1 Q I).toArray 93) (hK:Kept (inP g p) w1 w') (hq:s1.q=s.q) (hi:s1.b.ins=s.b.ins):SecW w0 w base g pc p k i c s Q I (.returned (.tuple #[])) w':=by
 obtain ⟨_,_,_,_,hG,_⟩:=hI.at_
 unfold SecW
 rw [hk]
 exact ⟨rfl,h1,hC.kept hK (fun e=>e.elim (hC.apart hG (by decide)) (hC.apart hS.blk (by decide))),⟨Q,I,Rs,hS.step hG hK hB hq hi,fun _=>rfl,fun _=>rfl⟩,(Kept.of_below hb).trans (zgT hK)⟩
theorem zv (s:So.State) (Q I:So.Hdr):(So.stL s Q I).toArray.size=160:=by rw [List.size_toArray];exact So.stL_len s Q I
theorem sec3 (base g pc p:Nat) (i:Tl.In) (hsm:Tl.Small i.b) (c:So.Config) (s:So.State) (Q I:So.Hdr) (Rs:List (So.Req×So.Hdr)) (w0 w:World) (hI:InW w0 w g i) (hC:Blk w pc (So.configL c).toArray 68) (hS:StAt w base p s Q I Rs) (hp:w0.heap.size≤p) (hpc:w0.heap.size≤pc) (hba:base≤w.heap.size):Calls Tryz.prog 41 #[tkV g,.int .u32 3,.pointer (some ⟨pc,0,none⟩),.pointer (some ⟨p,0,none⟩)] w (SecW w0 w base g pc p 3 i c s Q I):=by
 go_enter Tryz.func41,Tryz.ntmps41
 go_upto_region 1 with (fail)
 have hX:=Blk.new w #[Value.pointer (some ⟨g,0,none⟩)] 154
 have hb0:=za (Below.refl w.heap.size w) (.cells #[Value.pointer (some ⟨g,0,none⟩)] 154)
 have hI0:=hI.keep hb0
 have hC0:=hC.keep hb0
 have hS0:=hS.keep hb0
 generalize w.alloc (.cells #[Value.pointer (some ⟨g,0,none⟩)] 154)=W1 at hX hb0 hI0 hC0 hS0 ⊢
 have hXn:w.heap.size≠g:=Nat.ne_of_gt hI.lt
 have hXm:w.heap.size≠p:=Nat.ne_of_gt hS.blk.lt
 have hXc:w.heap.size≠pc:=Nat.ne_of_gt hC.lt
 have hpg:p≠g:=by
  obtain ⟨_,_,_,_,hG,_⟩:=hI.at_
  exact hS.blk.apart hG (by decide)
 obtain ⟨x,hx⟩:=qX w.heap.size
 have hb1:=hb0
 rw [hx] at hX hXn hXm hXc hb1 ⊢
 have Hx:=qH hx
 clear hx
 have hx0:=hX.cell 0 rfl
 have hcon:=ziE g p i hsm (So.stL s Q I).toArray (zv s Q I) w0 W1 hI0 hS0.blk hp
 unfold SecP at hcon
 rw [znF s i,ziJ s Q I i] at hcon
 have Hcon:=qH hcon
 clear hcon
 go_wp2_with (first | (go_at_call 106;refine Hcon.out.mono ?_;rintro e w2 ⟨rfl,h1,h2,h3⟩) | fail)
 go_end0
 exact zbp (So.section_3 i c s) hb0 hI0 hC0 hS0 h1 h2 h3 rfl rfl
theorem sec4 (base g pc p:Nat) (i:Tl.In) (hsm:Tl.Small i.b) (c:So.Config) (s:So.State) (Q I:So.Hdr) (Rs:List (So.Req×So.Hdr)) (w0 w:World) (hI:InW w0 w g i) (hC:Blk w pc (So.configL c).toArray 68) (hS:StAt w base p s Q I Rs) (hp:w0.heap.size≤p) (hpc:w0.heap.size≤pc) (hba:base≤w.heap.size):Calls Tryz.prog 41 #[tkV g,.int .u32 4,.pointer (some ⟨pc,0,none⟩),.pointer (some ⟨p,0,none⟩)] w (SecW w0 w base g pc p 4 i c s Q I):=by
 go_enter Tryz.func41,Tryz.ntmps41
 go_upto_region 1 with (fail)
 have hX:=Blk.new w #[Value.pointer (some ⟨g,0,none⟩)] 154
 have hb0:=za (Below.refl w.heap.size w) (.cells #[Value.pointer (some ⟨g,0,none⟩)] 154)
 have hI0:=hI.keep hb0
 have hC0:=hC.keep hb0
 have hS0:=hS.keep hb0
 generalize w.alloc (.cells #[Value.pointer (some ⟨g,0,none⟩)] 154)=W1 at hX hb0 hI0 hC0 hS0 ⊢
 have hXn:w.heap.size≠g:=Nat.ne_of_gt hI.lt
 have hXm:w.heap.size≠p:=Nat.ne_of_gt hS.blk.lt
 have hXc:w.heap.size≠pc:=Nat.ne_of_gt hC.lt
 have hpg:p≠g:=by
  obtain ⟨_,_,_,_,hG,_⟩:=hI.at_
  exact hS.blk.apart hG (by decide)
 obtain ⟨x,hx⟩:=qX w.heap.size
 have hb1:=hb0
 rw [hx] at hX hXn hXm hXc hb1 ⊢
 have Hx:=qH hx
 clear hx
 have hx0:=hX.cell 0 rfl
 have hcon:=ze7 g p i hsm (So.stL s Q I).toArray (zv s Q I) w0 W1 hI0 hS0.blk hp
 unfold SecP at hcon
 rw [ziH s i,zfc s Q I i] at hcon
 have Hcon:=qH hcon
 clear hcon
 go_wp2_with (first | (go_at_call 107;refine Hcon.out.mono ?_;rintro e w2 ⟨rfl,h1,h2,h3⟩) | fail)
 go_end0
 exact zbp (So.section_4 i c s) hb0 hI0 hC0 hS0 h1 h2 h3 rfl rfl
theorem sec6 (base g pc p:Nat) (i:Tl.In) (hsm:Tl.Small i.b) (c:So.Config) (s:So.State) (Q I:So.Hdr) (Rs:List (So.Req×So.Hdr)) (w0 w:World) (hI:InW w0 w g i) (hC:Blk w pc (So.configL c).toArray 68) (hS:StAt w base p s Q I Rs) (hp:w0.heap.size≤p) (hpc:w0.heap.size≤pc) (hba:base≤w.heap.size):Calls Tryz.prog 41 #[tkV g,.int .u32 6,.pointer (some ⟨pc,0,none⟩),.pointer (some ⟨p,0,none⟩)] w (SecW w0 w base g pc p 6 i c s Q I):=by
 go_enter Tryz.func41,Tryz.ntmps41
 go_upto_region 1 with (fail)
 have hX:=Blk.new w #[Value.pointer (some ⟨g,0,none⟩)] 154
 have hb0:=za (Below.refl w.heap.size w) (.cells #[Value.pointer (some ⟨g,0,none⟩)] 154)
 have hI0:=hI.keep hb0
 have hC0:=hC.keep hb0
 have hS0:=hS.keep hb0
 generalize w.alloc (.cells #[Value.pointer (some ⟨g,0,none⟩)] 154)=W1 at hX hb0 hI0 hC0 hS0 ⊢
 have hXn:w.heap.size≠g:=Nat.ne_of_gt hI.lt
 have hXm:w.heap.size≠p:=Nat.ne_of_gt hS.blk.lt
 have hXc:w.heap.size≠pc:=Nat.ne_of_gt hC.lt
 have hpg:p≠g:=by
  obtain ⟨_,_,_,_,hG,_⟩:=hI.at_
  exact hS.blk.apart hG (by decide)
 obtain ⟨x,hx⟩:=qX w.heap.size
 have hb1:=hb0
 rw [hx] at hX hXn hXm hXc hb1 ⊢
 have Hx:=qH hx
 clear hx
 have hx0:=hX.cell 0 rfl
 have hcon:=zgJ g p i hsm (So.stL s Q I).toArray (zv s Q I) w0 W1 hI0 hS0.blk hp
 unfold SecP at hcon
 rw [zl3 s i,zgQ s Q I i] at hcon
 have Hcon:=qH hcon
 clear hcon
 go_wp2_with (first | (go_at_call 109;refine Hcon.out.mono ?_;rintro e w2 ⟨rfl,h1,h2,h3⟩) | fail)
 go_end0
 exact zbp (So.section_6 i c s) hb0 hI0 hC0 hS0 h1 h2 h3 rfl rfl
theorem sec7 (base g pc p:Nat) (i:Tl.In) (hsm:Tl.Small i.b) (c:So.Config) (s:So.State) (Q I:So.Hdr) (Rs:List (So.Req×So.Hdr)) (w0 w:World) (hI:InW w0 w g i) (hC:Blk w pc (So.configL c).toArray 68) (hS:StAt w base p s Q I Rs) (hp:w0.heap.size≤p) (hpc:w0.heap.size≤pc) (hba:base≤w.heap.size):Calls Tryz.prog 41 #[tkV g,.int .u32 7,.pointer (some ⟨pc,0,none⟩),.pointer (some ⟨p,0,none⟩)] w (SecW w0 w base g pc p 7 i c s Q I):=by
 go_enter Tryz.func41,Tryz.ntmps41
 go_upto_region 1 with (fail)
 have hX:=Blk.new w #[Value.pointer (some ⟨g,0,none⟩)] 154
 have hb0:=za (Below.refl w.heap.size w) (.cells #[Value.pointer (some ⟨g,0,none⟩)] 154)
 have hI0:=hI.keep hb0
 have hC0:=hC.keep hb0
 have hS0:=hS.keep hb0
 generalize w.alloc (.cells #[Value.pointer (some ⟨g,0,none⟩)] 154)=W1 at hX hb0 hI0 hC0 hS0 ⊢
 have hXn:w.heap.size≠g:=Nat.ne_of_gt hI.lt
 have hXm:w.heap.size≠p:=Nat.ne_of_gt hS.blk.lt
 have hXc:w.heap.size≠pc:=Nat.ne_of_gt hC.lt
 have hpg:p≠g:=by
  obtain ⟨_,_,_,_,hG,_⟩:=hI.at_
  exact hS.blk.apart hG (by decide)
 obtain ⟨x,hx⟩:=qX w.heap.size
 have hb1:=hb0
 rw [hx] at hX hXn hXm hXc hb1 ⊢
 have Hx:=qH hx
 clear hx
 have hx0:=hX.cell 0 rfl
 have hcon:=ze9 g p i hsm (So.stL s Q I).toArray (zv s Q I) w0 W1 hI0 hS0.blk hp
 unfold SecP at hcon
 rw [ziI s i,zfd s Q I i] at hcon
 have Hcon:=qH hcon
 clear hcon
 go_wp2_with (first | (go_at_call 110;refine Hcon.out.mono ?_;rintro e w2 ⟨rfl,h1,h2,h3⟩) | fail)
 go_end0
 exact zbp (So.section_7 i c s) hb0 hI0 hC0 hS0 h1 h2 h3 rfl rfl
theorem sec8 (base g pc p:Nat) (i:Tl.In) (hsm:Tl.Small i.b) (c:So.Config) (s:So.State) (Q I:So.Hdr) (Rs:List (So.Req×So.Hdr)) (w0 w:World) (hI:InW w0 w g i) (hC:Blk w pc (So.configL c).toArray 68) (hS:StAt w base p s Q I Rs) (hp:w0.heap.size≤p) (hpc:w0.heap.size≤pc) (hba:base≤w.heap.size):Calls Tryz.prog 41 #[tkV g,.int .u32 8,.pointer (some ⟨pc,0,none⟩),.pointer (some ⟨p,0,none⟩)] w (SecW w0 w base g pc p 8 i c s Q I):=by
 go_enter Tryz.func41,Tryz.ntmps41
 go_upto_region 1 with (fail)
 have hX:=Blk.new w #[Value.pointer (some ⟨g,0,none⟩)] 154
 have hb0:=za (Below.refl w.heap.size w) (.cells #[Value.pointer (some ⟨g,0,none⟩)] 154)
 have hI0:=hI.keep hb0
 have hC0:=hC.keep hb0
 have hS0:=hS.keep hb0
 generalize w.alloc (.cells #[Value.pointer (some ⟨g,0,none⟩)] 154)=W1 at hX hb0 hI0 hC0 hS0 ⊢
 have hXn:w.heap.size≠g:=Nat.ne_of_gt hI.lt
 have hXm:w.heap.size≠p:=Nat.ne_of_gt hS.blk.lt
 have hXc:w.heap.size≠pc:=Nat.ne_of_gt hC.lt
 have hpg:p≠g:=by
  obtain ⟨_,_,_,_,hG,_⟩:=hI.at_
  exact hS.blk.apart hG (by decide)
 obtain ⟨x,hx⟩:=qX w.heap.size
 have hb1:=hb0
 rw [hx] at hX hXn hXm hXc hb1 ⊢
 have Hx:=qH hx
 clear hx
 have hx0:=hX.cell 0 rfl
 have hcon:=ziF g p i hsm (So.stL s Q I).toArray (zv s Q I) w0 W1 hI0 hS0.blk hp
 unfold SecP at hcon
 rw [znG s i,ziK s Q I i] at hcon
 have Hcon:=qH hcon
 clear hcon
 go_wp2_with (first | (go_at_call 111;refine Hcon.out.mono ?_;rintro e w2 ⟨rfl,h1,h2,h3⟩) | fail)
 go_end0
 exact zbp (So.section_8 i c s) hb0 hI0 hC0 hS0 h1 h2 h3 rfl rfl
theorem sec9 (base g pc p:Nat) (i:Tl.In) (hsm:Tl.Small i.b) (c:So.Config) (s:So.State) (Q I:So.Hdr) (Rs:List (So.Req×So.Hdr)) (w0 w:World) (hI:InW w0 w g i) (hC:Blk w pc (So.configL c).toArray 68) (hS:StAt w base p s Q I Rs) (hp:w0.heap.size≤p) (hpc:w0.heap.size≤pc) (hba:base≤w.heap.size):Calls Tryz.prog 41 #[tkV g,.int .u32 9,.pointer (some ⟨pc,0,none⟩),.pointer (some ⟨p,0,none⟩)] w (SecW w0 w base g pc p 9 i c s Q I):=by
 go_enter Tryz.func41,Tryz.ntmps41
 go_upto_region 1 with (fail)
 have hX:=Blk.new w #[Value.pointer (some ⟨g,0,none⟩)] 154
 have hb0:=za (Below.refl w.heap.size w) (.cells #[Value.pointer (some ⟨g,0,none⟩)] 154)
 have hI0:=hI.keep hb0
 have hC0:=hC.keep hb0
 have hS0:=hS.keep hb0
 generalize w.alloc (.cells #[Value.pointer (some ⟨g,0,none⟩)] 154)=W1 at hX hb0 hI0 hC0 hS0 ⊢
 have hXn:w.heap.size≠g:=Nat.ne_of_gt hI.lt
 have hXm:w.heap.size≠p:=Nat.ne_of_gt hS.blk.lt
 have hXc:w.heap.size≠pc:=Nat.ne_of_gt hC.lt
 have hpg:p≠g:=by
  obtain ⟨_,_,_,_,hG,_⟩:=hI.at_
  exact hS.blk.apart hG (by decide)
 obtain ⟨x,hx⟩:=qX w.heap.size
 have hb1:=hb0
 rw [hx] at hX hXn hXm hXc hb1 ⊢
 have Hx:=qH hx
 clear hx
 have hx0:=hX.cell 0 rfl
 have hcon:=zfN g p i hsm (So.stL s Q I).toArray (zv s Q I) w0 W1 hI0 hS0.blk hp
 unfold SecP at hcon
 rw [zkf s i,zfQ s Q I i] at hcon
 have Hcon:=qH hcon
 clear hcon
 go_wp2_with (first | (go_at_call 112;refine Hcon.out.mono ?_;rintro e w2 ⟨rfl,h1,h2,h3⟩) | fail)
 go_end0
 exact zbp (So.section_9 i c s) hb0 hI0 hC0 hS0 h1 h2 h3 rfl rfl
theorem zpo (base g pc p:Nat) (i:Tl.In) (hsm:Tl.Small i.b) (c:So.Config) (s:So.State) (Q I:So.Hdr) (Rs:List (So.Req×So.Hdr)) (w0 w:World) (hI:InW w0 w g i) (hC:Blk w pc (So.configL c).toArray 68) (hS:StAt w base p s Q I Rs) (hp:w0.heap.size≤p) (hpc:w0.heap.size≤pc) (hba:base≤w.heap.size):Calls Tryz.prog 41 #[tkV g,.int .u32 13,.pointer (some ⟨pc,0,none⟩),.pointer (some ⟨p,0,none⟩)] w (SecW w0 w base g pc p 13 i c s Q I):=by
 go_enter Tryz.func41,Tryz.ntmps41
 go_upto_region 1 with (fail)
 have hX:=Blk.new w #[Value.pointer (some ⟨g,0,none⟩)] 154
 have hb0:=za (Below.refl w.heap.size w) (.cells #[Value.pointer (some ⟨g,0,none⟩)] 154)
 have hI0:=hI.keep hb0
 have hC0:=hC.keep hb0
 have hS0:=hS.keep hb0
 generalize w.alloc (.cells #[Value.pointer (some ⟨g,0,none⟩)] 154)=W1 at hX hb0 hI0 hC0 hS0 ⊢
 have hXn:w.heap.size≠g:=Nat.ne_of_gt hI.lt
 have hXm:w.heap.size≠p:=Nat.ne_of_gt hS.blk.lt
 have hXc:w.heap.size≠pc:=Nat.ne_of_gt hC.lt
 have hpg:p≠g:=by
  obtain ⟨_,_,_,_,hG,_⟩:=hI.at_
  exact hS.blk.apart hG (by decide)
 obtain ⟨x,hx⟩:=qX w.heap.size
 have hb1:=hb0
 rw [hx] at hX hXn hXm hXc hb1 ⊢
 have Hx:=qH hx
 clear hx
 have hx0:=hX.cell 0 rfl
 have hcon:=zj8 g p i hsm (So.stL s Q I).toArray (zv s Q I) w0 W1 hI0 hS0.blk hp
 unfold SecP at hcon
 rw [zoD s i,zke s Q I i] at hcon
 have Hcon:=qH hcon
 clear hcon
 go_wp2_with (first | (go_at_call 115;refine Hcon.out.mono ?_;rintro e w2 ⟨rfl,h1,h2,h3⟩) | fail)
 go_end0
 exact zbp (So.section_13 i c s) hb0 hI0 hC0 hS0 h1 h2 h3 rfl rfl
theorem sec2 (base g pc p:Nat) (i:Tl.In) (hsm:Tl.Small i.b) (c:So.Config) (s:So.State) (Q I:So.Hdr) (Rs:List (So.Req×So.Hdr)) (w0 w:World) (hI:InW w0 w g i) (hC:Blk w pc (So.configL c).toArray 68) (hS:StAt w base p s Q I Rs) (hp:w0.heap.size≤p) (hpc:w0.heap.size≤pc) (hba:base≤w.heap.size):Calls Tryz.prog 41 #[tkV g,.int .u32 2,.pointer (some ⟨pc,0,none⟩),.pointer (some ⟨p,0,none⟩)] w (SecW w0 w base g pc p 2 i c s Q I):=by
 go_enter Tryz.func41,Tryz.ntmps41
 go_upto_region 1 with (fail)
 have hX:=Blk.new w #[Value.pointer (some ⟨g,0,none⟩)] 154
 have hb0:=za (Below.refl w.heap.size w) (.cells #[Value.pointer (some ⟨g,0,none⟩)] 154)
 have hI0:=hI.keep hb0
 have hC0:=hC.keep hb0
 have hS0:=hS.keep hb0
 generalize w.alloc (.cells #[Value.pointer (some ⟨g,0,none⟩)] 154)=W1 at hX hb0 hI0 hC0 hS0 ⊢
 have hXn:w.heap.size≠g:=Nat.ne_of_gt hI.lt
 have hXm:w.heap.size≠p:=Nat.ne_of_gt hS.blk.lt
 have hXc:w.heap.size≠pc:=Nat.ne_of_gt hC.lt
 have hpg:p≠g:=by
  obtain ⟨_,_,_,_,hG,_⟩:=hI.at_
  exact hS.blk.apart hG (by decide)
 obtain ⟨x,hx⟩:=qX w.heap.size
 have hb1:=hb0
 rw [hx] at hX hXn hXm hXc hb1 ⊢
 have Hx:=qH hx
 clear hx
 have hx0:=hX.cell 0 rfl
 go_wp2_with (first | (go_at_call 105;refine (zhz g i w0 _ hI0).mono ?_;rintro e w2 ⟨rfl,h1,h2⟩;have hB2:=hS0.blk.kept h2 hpg;have hf2:=hB2.free 0;obtain ⟨_,hc2⟩:=hB2.some 0 (by rw [zv];decide)) | fail)
 go_end0
 exact zbp (So.section_2 i c s) hb0 hI0 hC0 hS0 (h1.set hB2 (by decide) hp 0 _) (zt (hB2.set 0 _) (zgR s Q I _)) (h2.inP.trans (zV 0 _)) rfl rfl
theorem sec5 (base g pc p:Nat) (i:Tl.In) (hsm:Tl.Small i.b) (c:So.Config) (s:So.State) (Q I:So.Hdr) (Rs:List (So.Req×So.Hdr)) (w0 w:World) (hI:InW w0 w g i) (hC:Blk w pc (So.configL c).toArray 68) (hS:StAt w base p s Q I Rs) (hp:w0.heap.size≤p) (hpc:w0.heap.size≤pc) (hq0:s.q=[]) (hQ0:Q=⟨none,0,0⟩) (hba:base≤w.heap.size):Calls Tryz.prog 41 #[tkV g,.int .u32 5,.pointer (some ⟨pc,0,none⟩),.pointer (some ⟨p,0,none⟩)] w (SecW w0 w base g pc p 5 i c s Q I):=by
 go_enter Tryz.func41,Tryz.ntmps41
 go_upto_region 1 with (fail)
 have hX:=Blk.new w #[Value.pointer (some ⟨g,0,none⟩)] 154
 have hb0:=za (Below.refl w.heap.size w) (.cells #[Value.pointer (some ⟨g,0,none⟩)] 154)
 have hI0:=hI.keep hb0
 have hC0:=hC.keep hb0
 have hS0:=hS.keep hb0
 generalize w.alloc (.cells #[Value.pointer (some ⟨g,0,none⟩)] 154)=W1 at hX hb0 hI0 hC0 hS0 ⊢
 have hXn:w.heap.size≠g:=Nat.ne_of_gt hI.lt
 have hXm:w.heap.size≠p:=Nat.ne_of_gt hS.blk.lt
 have hXc:w.heap.size≠pc:=Nat.ne_of_gt hC.lt
 have hpg:p≠g:=by
  obtain ⟨_,_,_,_,hG,_⟩:=hI.at_
  exact hS.blk.apart hG (by decide)
 obtain ⟨x,hx⟩:=qX w.heap.size
 have hb1:=hb0
 rw [hx] at hX hXn hXm hXc hb1 ⊢
 have Hx:=qH hx
 clear hx
 have hx0:=hX.cell 0 rfl
 subst hQ0
 have hcon:=zgO g p i hsm (So.stL s ⟨none,0,0⟩ I).toArray (zv _ _ _) w0 W1 hI0 hS0.blk hp (by kernel_rfl)
 have Hcon:=qH hcon
 clear hcon
 go_wp2_with (first | (go_at_call 108;refine Hcon.out.mono ?_;rintro e w2 ⟨rfl,h1,⟨A,k,h2,hrow⟩,h3⟩) | fail)
 go_end0
 obtain ⟨_,_,_,_,hG,_⟩:=hI0.at_
 unfold SecW
 rw [So.section_5,hq0]
 have hst:StAt w2 base p { s with q:=(So.tQueue i []).2 } ⟨A,(So.tQueue i []).2.length,k⟩ I Rs:=⟨zt h2 (zgS s ⟨none,0,0⟩ I ⟨A,_,k⟩ _),hrow.lower (Nat.le_trans hba hb0.size),rfl,
  hS0.i.kept h3 (fun b hb e=>e.elim (fun e=>hS0.i.far hG (by decide) (e ▸ hb)) (fun e=>hS0.i.far hS0.blk (by decide) (e ▸ hb))),hS0.ins,hS0.rn,
  fun r hr=>(hS0.seg r hr).kept h3 (fun b hb e=>e.elim (fun e=>(hS0.seg r hr).1.far hG (by decide) (e ▸ hb)) (fun e=>(hS0.seg r hr).1.far hS0.blk (by decide) (e ▸ hb)))⟩
 exact ⟨rfl,h1,hC0.kept h3 (fun e=>e.elim (hC0.apart hG (by decide)) (hC0.apart hS0.blk (by decide))),⟨⟨A,(So.tQueue i []).2.length,k⟩,I,Rs,hst,fun h=>absurd rfl h,fun _=>rfl⟩,(Kept.of_below hb0).trans (zgT h3)⟩
theorem zpp (base g pc p:Nat) (i:Tl.In) (hsm:Tl.Small i.b) (c:So.Config) (s:So.State) (Q I:So.Hdr) (Rs:List (So.Req×So.Hdr)) (w0 w:World) (hI:InW w0 w g i) (hC:Blk w pc (So.configL c).toArray 68) (hS:StAt w base p s Q I Rs) (hp:w0.heap.size≤p) (hpc:w0.heap.size≤pc) (hi0:s.b.ins=[]) (hI9:I=⟨none,0,0⟩) (hba:base≤w.heap.size):Calls Tryz.prog 41 #[tkV g,.int .u32 11,.pointer (some ⟨pc,0,none⟩),.pointer (some ⟨p,0,none⟩)] w (SecW w0 w base g pc p 11 i c s Q I):=by
 go_enter Tryz.func41,Tryz.ntmps41
 go_upto_region 1 with (fail)
 have hX:=Blk.new w #[Value.pointer (some ⟨g,0,none⟩)] 154
 have hb0:=za (Below.refl w.heap.size w) (.cells #[Value.pointer (some ⟨g,0,none⟩)] 154)
 have hI0:=hI.keep hb0
 have hC0:=hC.keep hb0
 have hS0:=hS.keep hb0
 generalize w.alloc (.cells #[Value.pointer (some ⟨g,0,none⟩)] 154)=W1 at hX hb0 hI0 hC0 hS0 ⊢
 have hXn:w.heap.size≠g:=Nat.ne_of_gt hI.lt
 have hXm:w.heap.size≠p:=Nat.ne_of_gt hS.blk.lt
 have hXc:w.heap.size≠pc:=Nat.ne_of_gt hC.lt
 have hpg:p≠g:=by
  obtain ⟨_,_,_,_,hG,_⟩:=hI.at_
  exact hS.blk.apart hG (by decide)
 obtain ⟨x,hx⟩:=qX w.heap.size
 have hb1:=hb0
 rw [hx] at hX hXn hXm hXc hb1 ⊢
 have Hx:=qH hx
 clear hx
 have hx0:=hX.cell 0 rfl
 subst hI9
 have hcon:=ziG g p i hsm (So.stL s Q ⟨none,0,0⟩).toArray (zv _ _ _) w0 W1 hI0 hS0.blk hp (by kernel_rfl)
 have Hcon:=qH hcon
 clear hcon
 go_wp2_with (first | (go_at_call 114;refine Hcon.out.mono ?_;rintro e w2 ⟨rfl,h1,⟨A,k,Rs2,hRs,h2,hrow,hsg⟩,h3⟩) | fail)
 go_end0
 obtain ⟨_,_,_,_,hG,_⟩:=hI0.at_
 unfold SecW
 rw [So.section_11,hi0]
 have hst:StAt w2 base p { s with b:={ s.b with bell:=(So.tDisk i).2.1,next:=(So.tDisk i).2.2.1,ins:=[]++(So.tDisk i).2.2.2 } } Q ⟨A,Rs2.length,k⟩ Rs2:=⟨zt h2 (ziL s Q ⟨none,0,0⟩ ⟨A,_,k⟩ i _),
  hS0.q.kept h3 (fun b hb e=>e.elim (fun e=>hS0.q.far hG (by decide) (e ▸ hb)) (fun e=>hS0.q.far hS0.blk (by decide) (e ▸ hb))),hS0.qn,hrow.lower (Nat.le_trans hba hb0.size),by rw [List.nil_append];exact hRs,rfl,fun r hr=>⟨(hsg r hr).1.lower (Nat.le_trans hba hb0.size),(hsg r hr).2⟩⟩
 exact ⟨rfl,h1,hC0.kept h3 (fun e=>e.elim (hC0.apart hG (by decide)) (hC0.apart hS0.blk (by decide))),⟨Q,⟨A,Rs2.length,k⟩,Rs2,hst,fun _=>rfl,fun h=>absurd rfl h⟩,(Kept.of_below hb0).trans (zgT h3)⟩
theorem zpq (base g pc p:Nat) (i:Tl.In) (hsm:Tl.Small i.b) (c:So.Config) (s:So.State) (Q I:So.Hdr) (Rs:List (So.Req×So.Hdr)) (w0 w:World) (hI:InW w0 w g i) (hC:Blk w pc (So.configL c).toArray 68) (hS:StAt w base p s Q I Rs) (hp:w0.heap.size≤p) (hpc:w0.heap.size≤pc) (hba:base≤w.heap.size):Calls Tryz.prog 41 #[tkV g,.int .u32 10,.pointer (some ⟨pc,0,none⟩),.pointer (some ⟨p,0,none⟩)] w (SecW w0 w base g pc p 10 i c s Q I):=by
 go_enter Tryz.func41,Tryz.ntmps41
 go_upto_region 1 with (fail)
 have hX:=Blk.new w #[Value.pointer (some ⟨g,0,none⟩)] 154
 have hb0:=za (Below.refl w.heap.size w) (.cells #[Value.pointer (some ⟨g,0,none⟩)] 154)
 have hI0:=hI.keep hb0
 have hC0:=hC.keep hb0
 have hS0:=hS.keep hb0
 generalize w.alloc (.cells #[Value.pointer (some ⟨g,0,none⟩)] 154)=W1 at hX hb0 hI0 hC0 hS0 ⊢
 have hXn:w.heap.size≠g:=Nat.ne_of_gt hI.lt
 have hXm:w.heap.size≠p:=Nat.ne_of_gt hS.blk.lt
 have hXc:w.heap.size≠pc:=Nat.ne_of_gt hC.lt
 have hpg:p≠g:=by
  obtain ⟨_,_,_,_,hG,_⟩:=hI.at_
  exact hS.blk.apart hG (by decide)
 obtain ⟨x,hx⟩:=qX w.heap.size
 have hb1:=hb0
 rw [hx] at hX hXn hXm hXc hb1 ⊢
 have Hx:=qH hx
 clear hx
 have hx0:=hX.cell 0 rfl
 have hcon:=fun (W:World) (h1:InW w0 W g i) (h2:Blk W p (So.stL s Q I).toArray 93)=>zcK g p i hsm (So.stL s Q I).toArray (zv s Q I) w0 W h1 h2 hp 112 (by decide)
 unfold SecP at hcon
 simp only [zeN,zkg] at hcon
 have Hcon:=qH hcon
 clear hcon
 go_wp2_with fail
 refine zc (by kernel_rfl) (fun X=>⟨#[tkV g,.int .u32 10,.pointer (some ⟨pc,0,none⟩),.pointer (some ⟨p,0,none⟩),.pointer (some ⟨x,0,none⟩),undef,undef,undef,.int .u32 10,.bool false,.bool false,undef,undef,undef,undef,undef,undef,undef,undef,undef,undef,undef,undef,undef,undef,undef,undef,undef,undef,undef,.bool false,.bool false,undef,undef,undef,undef,undef,.bool false,.bool false,undef,undef,undef,.bool false,.bool false,undef,undef,undef,.bool false,.bool false,undef,undef,undef,.bool false,.bool false,undef,undef,undef,.bool false,.bool false,undef,undef,undef,.bool false,.bool false,undef,undef,undef,.bool false,.bool false,undef,undef,undef,.bool true,.bool true,X 0,X 1,X 2,X 3,X 4,X 5,undef,undef,undef,undef,undef,undef,undef,undef,undef,undef,undef,undef,undef,undef,undef,undef,undef,undef],[]⟩) (Kept (inP g p)) (fun i v w=>match i with | 0=>(v=tkV g) | 1=>(v=.pointer (some ⟨p,0,none⟩)) | 2=>(v=.pointer (some ⟨p,0,none⟩)) | 3=>(v=.pointer (some ⟨p,112,none⟩)) | 4=>(v=.pointer (some ⟨p,112,none⟩)) | _=>True) (fun i=>([0,0,0,0,0,1]:List Nat).getD i 0) 1 (fun kk _ w=>zaW 93 [(i,(So.stL s Q I).toArray),((So.tSetting i).1,(So.stL { s with b:={ s.b with p:=(So.tSetting i).2 } } Q I).toArray)] w0 w g p kk) _ (fun _=>undef) (fun u v w a b=>a.trans b) ?_ (by kernel_rfl) (by kernel_rfl) ((Kept.refl _ _).drew) ((zj rfl ⟨hI0.keep (zr (Below.refl _ _)),hS0.blk.keep (zr (Below.refl _ _))⟩)) ?_ ?_
 ·
  intro i v w w' h hb
  match i,h with
  | 0,h=>exact h
  | 1,h=>exact h
  | 2,h=>exact h
  | 3,h=>exact h
  | 4,h=>exact h
  | 5,h=>exact trivial
  | _+6,h=>exact trivial
 ·
  refine cQ 0 ?_ ?_
  ·
   intro X w hR ψ χ K HK
   have c0:=(hX.kept hR (fun e=>e.elim hXn hXm)).cell 0 rfl
   go_simp
   exact HK.out _ _ _ rfl (Kept.refl _ _) rfl iD
  refine cQ 1 ?_ ?_
  ·
   intro X w hR ψ χ K HK
   go_simp
   exact HK.out _ _ _ rfl (Kept.refl _ _) rfl iD
  refine cQ 2 ?_ ?_
  ·
   intro X w hR ψ χ K HK
   have e1:X 1=.pointer (some ⟨p,0,none⟩):=(pR ψ 1 .data 0 :)
   go_simp
   exact HK.out _ _ _ (by (try simp only [e1])<;>rfl) (Kept.refl _ _) rfl iD
  refine cQ 3 ?_ ?_
  ·
   intro X w hR ψ χ K HK
   have e2:X 2=.pointer (some ⟨p,0,none⟩):=(pR ψ 2 .data 0 :)
   go_simp
   exact HK.out _ _ _ (by (try simp only [e2])<;>rfl) (Kept.refl _ _) rfl iD
  refine cQ 4 ?_ ?_
  ·
   intro X w hR ψ χ K HK
   have e3:X 3=.pointer (some ⟨p,112,none⟩):=(pR ψ 3 .data 0 :)
   go_simp
   exact HK.out _ _ _ (by (try simp only [e3])<;>rfl) (Kept.refl _ _) rfl iD
  refine cS 5 0 ?_ ?_
  ·
   intro X w hR ψ χ hst K HK
   have e0:X 0=tkV g:=(pR ψ 0 .data 0 :)
   have e4:X 4=.pointer (some ⟨p,112,none⟩):=(pR ψ 4 .data 1 :)
   obtain ⟨hA,hB⟩:InW w0 w g i∧Blk w p (So.stL s Q I).toArray 93:=zg hst rfl
   go_simp
   go_at_call 113
   refine (Hcon.out _ hA hB).mono ?_
   rintro e w2 ⟨rfl,h1,h2,h3⟩
   go_simp
   exact HK.out _ _ _ (by (try simp only [e0,e4])<;>rfl) h3 trivial (zj rfl ⟨h1,h2⟩)
  exact zi.nil
 ·
  intro X1 wE1 hR1 hall1 hS1
  obtain ⟨h1,h2⟩:=zg (i:=(So.tSetting i).1) (cs:=(So.stL { s with b:={ s.b with p:=(So.tSetting i).2 } } Q I).toArray) hS1 rfl
  clear hall1
  go_wp2_with fail
  go_end0
  exact zbp (So.section_10 i c s) hb0 hI0 hC0 hS0 h1 h2 hR1 rfl rfl
theorem zpr (base g pc p:Nat) (i:Tl.In) (hsm:Tl.Small i.b) (c:So.Config) (s:So.State) (Q I:So.Hdr) (Rs:List (So.Req×So.Hdr)) (w0 w:World) (hI:InW w0 w g i) (hC:Blk w pc (So.configL c).toArray 68) (hS:StAt w base p s Q I Rs) (hp:w0.heap.size≤p) (hpc:w0.heap.size≤pc) (hba:base≤w.heap.size):Calls Tryz.prog 41 #[tkV g,.int .u32 12,.pointer (some ⟨pc,0,none⟩),.pointer (some ⟨p,0,none⟩)] w (SecW w0 w base g pc p 12 i c s Q I):=by
 go_enter Tryz.func41,Tryz.ntmps41
 go_upto_region 1 with (fail)
 have hX:=Blk.new w #[Value.pointer (some ⟨g,0,none⟩)] 154
 have hb0:=za (Below.refl w.heap.size w) (.cells #[Value.pointer (some ⟨g,0,none⟩)] 154)
 have hI0:=hI.keep hb0
 have hC0:=hC.keep hb0
 have hS0:=hS.keep hb0
 generalize w.alloc (.cells #[Value.pointer (some ⟨g,0,none⟩)] 154)=W1 at hX hb0 hI0 hC0 hS0 ⊢
 have hXn:w.heap.size≠g:=Nat.ne_of_gt hI.lt
 have hXm:w.heap.size≠p:=Nat.ne_of_gt hS.blk.lt
 have hXc:w.heap.size≠pc:=Nat.ne_of_gt hC.lt
 have hpg:p≠g:=by
  obtain ⟨_,_,_,_,hG,_⟩:=hI.at_
  exact hS.blk.apart hG (by decide)
 obtain ⟨x,hx⟩:=qX w.heap.size
 have hb1:=hb0
 rw [hx] at hX hXn hXm hXc hb1 ⊢
 have Hx:=qH hx
 clear hx
 have hx0:=hX.cell 0 rfl
 have hcon:=fun (W:World) (h1:InW w0 W g i) (h2:Blk W p (So.stL s Q I).toArray 93)=>zcK g p i hsm (So.stL s Q I).toArray (zv s Q I) w0 W h1 h2 hp 137 (by decide)
 unfold SecP at hcon
 simp only [zeN,zkh] at hcon
 have Hcon:=qH hcon
 clear hcon
 go_wp2_with fail
 refine zc (by kernel_rfl) (fun X=>⟨#[tkV g,.int .u32 12,.pointer (some ⟨pc,0,none⟩),.pointer (some ⟨p,0,none⟩),.pointer (some ⟨x,0,none⟩),undef,undef,undef,.int .u32 12,.bool false,.bool false,undef,undef,undef,undef,undef,undef,undef,undef,undef,undef,undef,undef,undef,undef,undef,undef,undef,undef,undef,.bool false,.bool false,undef,undef,undef,undef,undef,.bool false,.bool false,undef,undef,undef,.bool false,.bool false,undef,undef,undef,.bool false,.bool false,undef,undef,undef,.bool false,.bool false,undef,undef,undef,.bool false,.bool false,undef,undef,undef,.bool false,.bool false,undef,undef,undef,.bool false,.bool false,undef,undef,undef,.bool false,.bool false,undef,undef,undef,undef,undef,undef,.bool false,.bool false,undef,undef,undef,.bool true,.bool true,X 0,X 1,X 2,X 3,X 4,X 5,undef,undef,undef,undef,undef],[]⟩) (Kept (inP g p)) (fun i v w=>match i with | 0=>(v=tkV g) | 1=>(v=.pointer (some ⟨p,0,none⟩)) | 2=>(v=.pointer (some ⟨p,0,none⟩)) | 3=>(v=.pointer (some ⟨p,137,none⟩)) | 4=>(v=.pointer (some ⟨p,137,none⟩)) | _=>True) (fun i=>([0,0,0,0,0,1]:List Nat).getD i 0) 1 (fun kk _ w=>zaW 93 [(i,(So.stL s Q I).toArray),((So.tSetting i).1,(So.stL { s with n:={ s.n with p:=(So.tSetting i).2 } } Q I).toArray)] w0 w g p kk) _ (fun _=>undef) (fun u v w a b=>a.trans b) ?_ (by kernel_rfl) (by kernel_rfl) ((Kept.refl _ _).drew) ((zj rfl ⟨hI0.keep (zr (Below.refl _ _)),hS0.blk.keep (zr (Below.refl _ _))⟩)) ?_ ?_
 ·
  intro i v w w' h hb
  match i,h with
  | 0,h=>exact h
  | 1,h=>exact h
  | 2,h=>exact h
  | 3,h=>exact h
  | 4,h=>exact h
  | 5,h=>exact trivial
  | _+6,h=>exact trivial
 ·
  refine cQ 0 ?_ ?_
  ·
   intro X w hR ψ χ K HK
   have c0:=(hX.kept hR (fun e=>e.elim hXn hXm)).cell 0 rfl
   go_simp
   exact HK.out _ _ _ rfl (Kept.refl _ _) rfl iD
  refine cQ 1 ?_ ?_
  ·
   intro X w hR ψ χ K HK
   go_simp
   exact HK.out _ _ _ rfl (Kept.refl _ _) rfl iD
  refine cQ 2 ?_ ?_
  ·
   intro X w hR ψ χ K HK
   have e1:X 1=.pointer (some ⟨p,0,none⟩):=(pR ψ 1 .data 0 :)
   go_simp
   exact HK.out _ _ _ (by (try simp only [e1])<;>rfl) (Kept.refl _ _) rfl iD
  refine cQ 3 ?_ ?_
  ·
   intro X w hR ψ χ K HK
   have e2:X 2=.pointer (some ⟨p,0,none⟩):=(pR ψ 2 .data 0 :)
   go_simp
   exact HK.out _ _ _ (by (try simp only [e2])<;>rfl) (Kept.refl _ _) rfl iD
  refine cQ 4 ?_ ?_
  ·
   intro X w hR ψ χ K HK
   have e3:X 3=.pointer (some ⟨p,137,none⟩):=(pR ψ 3 .data 0 :)
   go_simp
   exact HK.out _ _ _ (by (try simp only [e3])<;>rfl) (Kept.refl _ _) rfl iD
  refine cS 5 0 ?_ ?_
  ·
   intro X w hR ψ χ hst K HK
   have e0:X 0=tkV g:=(pR ψ 0 .data 0 :)
   have e4:X 4=.pointer (some ⟨p,137,none⟩):=(pR ψ 4 .data 1 :)
   obtain ⟨hA,hB⟩:InW w0 w g i∧Blk w p (So.stL s Q I).toArray 93:=zg hst rfl
   go_simp
   go_at_call 113
   refine (Hcon.out _ hA hB).mono ?_
   rintro e w2 ⟨rfl,h1,h2,h3⟩
   go_simp
   exact HK.out _ _ _ (by (try simp only [e0,e4])<;>rfl) h3 trivial (zj rfl ⟨h1,h2⟩)
  exact zi.nil
 ·
  intro X1 wE1 hR1 hall1 hS1
  obtain ⟨h1,h2⟩:=zg (i:=(So.tSetting i).1) (cs:=(So.stL { s with n:={ s.n with p:=(So.tSetting i).2 } } Q I).toArray) hS1 rfl
  clear hall1
  go_wp2_with fail
  go_end0
  exact zbp (So.section_12 i c s) hb0 hI0 hC0 hS0 h1 h2 hR1 rfl rfl
def zaM:List (Nat×Nat):=[So.kW,So.kW]
theorem zki (i:Tl.In):tkI i zaM 2=(So.tConfig i).1:=by kernel_rfl
theorem zfR (c:So.Config) (i:Tl.In):((So.configL c).toArray.setIfInBounds 0 (Value.int IntKind.i64 ((tkN i zaM 0:Nat):Int))).setIfInBounds 1 (Value.int IntKind.u32 ((tkN i zaM 1:Nat):Int))=(So.configL ⟨(So.tConfig i).2.1,(So.tConfig i).2.2⟩).toArray:=by kernel_rfl
theorem StAt.step3 {w w1:World} {base p g pc:Nat} {s s1:So.State} {Q I:So.Hdr} {Rs:List (So.Req×So.Hdr)} (h:StAt w base p s Q I Rs) {cs cc:Array Value} (hG:Blk w g cs 256) (hC:Blk w pc cc 68) (k:Kept (inPC g p pc) w w1) (hB:Blk w1 p (So.stL s1 Q I).toArray 93) (hq:s1.q=s.q) (hi:s1.b.ins=s.b.ins):StAt w1 base p s1 Q I Rs :=
 ⟨hB,by rw [hq];exact h.q.kept k (fun b hb e=>e.elim (fun e=>h.q.far hG (by decide) (e ▸ hb)) (fun e=>e.elim (fun e=>h.q.far h.blk (by decide) (e ▸ hb)) (fun e=>h.q.far hC (by decide) (e ▸ hb)))),by rw [hq];exact h.qn,
  h.i.kept k (fun b hb e=>e.elim (fun e=>h.i.far hG (by decide) (e ▸ hb)) (fun e=>e.elim (fun e=>h.i.far h.blk (by decide) (e ▸ hb)) (fun e=>h.i.far hC (by decide) (e ▸ hb)))),by rw [hi];exact h.ins,h.rn,
  fun r hr=>(h.seg r hr).kept k (fun b hb e=>e.elim (fun e=>(h.seg r hr).1.far hG (by decide) (e ▸ hb)) (fun e=>e.elim (fun e=>(h.seg r hr).1.far h.blk (by decide) (e ▸ hb)) (fun e=>(h.seg r hr).1.far hC (by decide) (e ▸ hb))))⟩
theorem sec1 (base g pc p:Nat) (i:Tl.In) (hsm:Tl.Small i.b) (c:So.Config) (s:So.State) (Q I:So.Hdr) (Rs:List (So.Req×So.Hdr)) (w0 w:World) (hI:InW w0 w g i) (hC:Blk w pc (So.configL c).toArray 68) (hS:StAt w base p s Q I Rs) (hp:w0.heap.size≤p) (hpc:w0.heap.size≤pc) (hba:base≤w.heap.size):Calls Tryz.prog 41 #[tkV g,.int .u32 1,.pointer (some ⟨pc,0,none⟩),.pointer (some ⟨p,0,none⟩)] w (SecW w0 w base g pc p 1 i c s Q I):=by
 obtain ⟨si,rfl⟩:∃ si,si=i:=⟨_,rfl⟩
 go_enter Tryz.func41,Tryz.ntmps41
 go_upto_region 1 with (fail)
 have hX:=Blk.new w #[Value.pointer (some ⟨g,0,none⟩)] 154
 have hb0:=za (Below.refl w.heap.size w) (.cells #[Value.pointer (some ⟨g,0,none⟩)] 154)
 have hI0:=hI.keep hb0
 have hC0:=hC.keep hb0
 have hS0:=hS.keep hb0
 generalize w.alloc (.cells #[Value.pointer (some ⟨g,0,none⟩)] 154)=W1 at hX hb0 hI0 hC0 hS0 ⊢
 have hXn:w.heap.size≠g:=Nat.ne_of_gt hI.lt
 have hXm:w.heap.size≠p:=Nat.ne_of_gt hS.blk.lt
 have hXc:w.heap.size≠pc:=Nat.ne_of_gt hC.lt
 have hpg:p≠g:=by
  obtain ⟨_,_,_,_,hG,_⟩:=hI.at_
  exact hS.blk.apart hG (by decide)
 obtain ⟨x,hx⟩:=qX w.heap.size
 have hb1:=hb0
 rw [hx] at hX hXn hXm hXc hb1 ⊢
 have Hx:=qH hx
 clear hx
 have hx0:=hX.cell 0 rfl
 have hcg:pc≠g:=by
  obtain ⟨_,_,_,_,hG,_⟩:=hI.at_
  exact hC.apart hG (by decide)
 have hpc2:p≠pc:=hS.blk.apart hC (by decide)
 obtain ⟨cc,hcc⟩:=qX ((So.configL c).toArray)
 have hC1:=hC0
 rw [hcc] at hC1
 have Zcc:Hid (cc.size=2):=qH (by rw [←hcc];rfl)
 have Hcc:=qH hcc
 clear hcc hx0
 go_wp2_with fail
 obtain ⟨c1,hc1⟩:=qX ((cc).setIfInBounds (0) (Value.int IntKind.i64 ((tkN si zaM 0:Nat):Int)))
 have Zc1:Hid (c1.size=2):=qH (by rw [←hc1];simp [zn,zl,Zcc.out])
 have Hc1:=qH hc1
 clear hc1
 obtain ⟨c2,hc2⟩:=qX ((c1).setIfInBounds (1) (Value.int IntKind.u32 ((tkN si zaM 1:Nat):Int)))
 have Zc2:Hid (c2.size=2):=qH (by rw [←hc2];simp [zn,zl,Zc1.out])
 have Hc2:=qH hc2
 clear hc2
 refine zc (by kernel_rfl) (fun X=>⟨#[tkV g,.int .u32 1,.pointer (some ⟨pc,0,none⟩),.pointer (some ⟨p,0,none⟩),.pointer (some ⟨x,0,none⟩),undef,undef,undef,.int .u32 1,.bool true,.bool true,X 0,X 1,X 2,X 3,X 4,X 5,X 6,X 7,X 8,X 10,X 11,undef,undef,undef,undef,undef,undef,undef,undef,undef,undef,undef,undef,undef,undef,undef,undef,undef,undef,undef,undef,undef,undef,undef,undef,undef,undef,undef,undef,undef,undef,undef,undef,undef,undef,undef,undef,undef,undef,undef,undef,undef,undef,undef,undef,undef,undef,undef,undef,undef,undef,undef,undef,undef,undef,undef,undef,undef,undef,undef,undef,undef,undef,undef,undef,undef,undef,undef,undef,undef,undef,undef,undef,undef,undef,undef,undef],[]⟩) (Kept (inP g pc)) (fun i v w=>match i with | 0=>(v=.pointer (some ⟨pc,0,none⟩)) | 1=>(v=.pointer (some ⟨pc,0,none⟩)) | 2=>(v=tkV g) | 3=>(v=.int .u32 ((tkN si zaM 0:Nat):Int)) | 4=>(v=.int .i64 ((tkN si zaM 0:Nat):Int)) | 5=>(v=tkV g) | 6=>(v=.int .u32 ((tkN si zaM 1:Nat):Int)) | 7=>(v=.pointer (some ⟨pc,0,none⟩)) | 8=>(v=.pointer (some ⟨pc,0,none⟩)) | 10=>(v=.pointer (some ⟨pc,0,none⟩)) | 11=>(v=.pointer (some ⟨pc,1,none⟩)) | _=>True) (fun i=>([0,0,0,1,0,0,2,0,0,3,0,0,4]:List Nat).getD i 0) 4 (fun kk _ w=>zaW 68 [((tkI si zaM (0)),cc),((tkI si zaM (1)),cc),((tkI si zaM (2)),cc),((tkI si zaM (2)),c1),((tkI si zaM (2)),c2)] w0 w g pc kk) _ (fun _=>undef) (fun u v w a b=>a.trans b) ?_ (by kernel_rfl) (by kernel_rfl) ((Kept.refl _ _).drew) ((zj rfl ⟨hI0.keep (zr (Below.refl _ _)),hC1.keep (zr (Below.refl _ _))⟩)) ?_ ?_
 ·
  intro i v w w' h hb
  match i,h with
  | 0,h=>exact h
  | 1,h=>exact h
  | 2,h=>exact h
  | 3,h=>exact h
  | 4,h=>exact h
  | 5,h=>exact h
  | 6,h=>exact h
  | 7,h=>exact h
  | 8,h=>exact h
  | 10,h=>exact h
  | 11,h=>exact h
  | 9,h=>exact trivial
  | 12,h=>exact trivial
  | _+13,h=>exact trivial
 ·
  refine cQ 0 ?_ ?_
  ·
   intro X w hR ψ χ K HK
   go_simp
   exact HK.out _ _ _ rfl (Kept.refl _ _) rfl iD
  refine cQ 1 ?_ ?_
  ·
   intro X w hR ψ χ K HK
   go_simp
   exact HK.out _ _ _ rfl (Kept.refl _ _) rfl iD
  refine cQ 2 ?_ ?_
  ·
   intro X w hR ψ χ K HK
   have c2:=(hX.kept hR (fun e=>e.elim hXn hXc)).cell 0 rfl
   go_simp
   exact HK.out _ _ _ rfl (Kept.refl _ _) rfl iD
  refine cS 3 0 ?_ ?_
  ·
   intro X w hR ψ χ hst K HK
   have e2:X 2=tkV g:=(pR ψ 2 .data 0 :)
   go_simp
   go_at_call 104
   refine (zaF (0) (show InW w0 _ g (tkI si zaM (0))∧Blk _ pc (cc) 68 from zg hst rfl).1).mono ?_
   rintro e w2 ⟨rfl,h1,h2⟩
   go_simp
   exact HK.out _ _ _ (by (try simp only [e2])<;>rfl) h2.inP rfl (zj rfl ⟨h1,(show InW w0 _ g (tkI si zaM (0))∧Blk _ pc (cc) 68 from zg hst rfl).2.kept h2 hcg⟩)
  refine cQ 4 ?_ ?_
  ·
   intro X w hR ψ χ K HK
   have e3:X 3=.int IntKind.u32 ((tkN si zaM 0:Nat):Int):=(pR ψ 3 .data 0 :)
   have q4:=zcI si hsm zaM 0 _ rfl
   have u4:IntKind.i64.wrap ((tkN si zaM 0:Nat):Int)=((tkN si zaM 0:Nat):Int):=by rw [IntKind.wrap_i64];simp only [So.kB,So.kW,So.kH,So.kD,So.p1,So.p2,So.p4,So.p8] at q4;omega
   go_simp
   exact HK.out _ _ _ (by (try simp only [e3])<;>rfl) (Kept.refl _ _) rfl iD
  refine cQ 5 ?_ ?_
  ·
   intro X w hR ψ χ K HK
   have c5:=(hX.kept hR (fun e=>e.elim hXn hXc)).cell 0 rfl
   go_simp
   exact HK.out _ _ _ rfl (Kept.refl _ _) rfl iD
  refine cS 6 1 ?_ ?_
  ·
   intro X w hR ψ χ hst K HK
   have hst:InW w0 w g (tkI si zaM (1))∧Blk w pc (cc) 68:=zg hst rfl
   have e5:X 5=tkV g:=(pR ψ 5 .data 0 :)
   go_simp
   go_at_call 104
   refine (zaF (1) hst.1).mono ?_
   rintro e w2 ⟨rfl,h1,h2⟩
   go_simp
   exact HK.out _ _ _ (by (try simp only [e5])<;>rfl) h2.inP rfl (zj rfl ⟨h1,hst.2.kept h2 hcg⟩)
  refine cQ 7 ?_ ?_
  ·
   intro X w hR ψ χ K HK
   have e0:X 0=.pointer (some ⟨pc,0,none⟩):=(pR ψ 0 .data 0 :)
   go_simp
   exact HK.out _ _ _ (by (try simp only [e0])<;>rfl) (Kept.refl _ _) rfl iD
  refine cQ 8 ?_ ?_
  ·
   intro X w hR ψ χ K HK
   have e7:X 7=.pointer (some ⟨pc,0,none⟩):=(pR ψ 7 .data 0 :)
   go_simp
   exact HK.out _ _ _ (by (try simp only [e7])<;>rfl) (Kept.refl _ _) rfl iD
  refine cS 9 2 ?_ ?_
  ·
   intro X w hR ψ χ hst K HK
   have hst:InW w0 w g (tkI si zaM (2))∧Blk w pc (cc) 68:=zg hst rfl
   have e8:X 8=.pointer (some ⟨pc,0,none⟩):=(pR ψ 8 .data 0 :)
   have e4:X 4=.int IntKind.i64 ((tkN si zaM 0:Nat):Int):=(pR ψ 4 .data 1 :)
   have hf9:=hst.2.free (0)
   obtain ⟨_,hc9⟩:=hst.2.some (0) (by rw [Zcc.out];omega)
   go_simp
   exact HK.out undef _ _ (by (try simp only [e8,e4])<;>rfl) (zV _ _) trivial (zj rfl ⟨(zP hst.1 hst.2 (by decide) hpc _ _).1,zt (zP hst.1 hst.2 (by decide) hpc _ _).2 Hc1.out⟩)
  refine cQ 10 ?_ ?_
  ·
   intro X w hR ψ χ K HK
   have e1:X 1=.pointer (some ⟨pc,0,none⟩):=(pR ψ 1 .data 0 :)
   go_simp
   exact HK.out _ _ _ (by (try simp only [e1])<;>rfl) (Kept.refl _ _) rfl iD
  refine cQ 11 ?_ ?_
  ·
   intro X w hR ψ χ K HK
   have e10:X 10=.pointer (some ⟨pc,0,none⟩):=(pR ψ 10 .data 0 :)
   go_simp
   exact HK.out _ _ _ (by (try simp only [e10])<;>rfl) (Kept.refl _ _) rfl iD
  refine cS 12 3 ?_ ?_
  ·
   intro X w hR ψ χ hst K HK
   have hst:InW w0 w g (tkI si zaM (2))∧Blk w pc (c1) 68:=zg hst rfl
   have e11:X 11=.pointer (some ⟨pc,1,none⟩):=(pR ψ 11 .data 0 :)
   have e6:X 6=.int IntKind.u32 ((tkN si zaM 1:Nat):Int):=(pR ψ 6 .data 1 :)
   have hf12:=hst.2.free (1)
   obtain ⟨_,hc12⟩:=hst.2.some (1) (by rw [Zc1.out];omega)
   go_simp
   exact HK.out undef _ _ (by (try simp only [e11,e6])<;>rfl) (zV _ _) trivial (zj rfl ⟨(zP hst.1 hst.2 (by decide) hpc _ _).1,zt (zP hst.1 hst.2 (by decide) hpc _ _).2 Hc2.out⟩)
  exact zi.nil
 ·
  intro X1 wE1 hR1 hall1 hS1
  have hS1:InW w0 wE1 g (tkI si zaM (2))∧Blk wE1 pc (c2) 68:=zg hS1 rfl
  have hI1:=hS1.1
  have hP1:=hS1.2
  have hX1:=hX.kept hR1 (fun e=>e.elim hXn hXc)
  clear hall1 hS1
  have hS1:=hS0.blk.kept hR1 (fun e=>e.elim hpg hpc2)
  have hf:=hS1.free 133
  obtain ⟨_,hc⟩:=hS1.some 133 (by rw [zv];decide)
  have hv:=hP1.cell 1 (v:=Value.int IntKind.u32 ((tkN si zaM 1:Nat):Int)) (by rw [←Hc2.out];rw [Array.getElem?_setIfInBounds_self_of_lt (by rw [Zc1.out];decide)])
  go_wp2_with fail
  go_end0
  have hk:Kept (inPC g p pc) W1 (wE1.setCell ⟨p,133,none⟩ (Value.int IntKind.u32 ((tkN si zaM 1:Nat):Int))):=(hR1.mono (fun _ _ e=>e.elim .inl (fun e=>.inr (.inr e)))).set (p:=⟨p,133,none⟩) (fun _=>.inr (.inl rfl)) _
  obtain ⟨_,_,_,_,hG,_⟩:=hI0.at_
  unfold SecW
  rw [So.section_1,←zki]
  refine ⟨rfl,hI1.set hS1 (by decide) hp 133 _,?_,⟨Q,I,Rs,hS0.step3 hG hC0 hk (zt (hS1.set 133 _) (zfe s Q I _)) rfl rfl,fun _=>rfl,fun _=>rfl⟩,(Kept.of_below hb0).trans hk⟩
  exact zt (hP1.far (p:=⟨p,133,none⟩) (Ne.symm hpc2) _) (by rw [←Hc2.out,←Hc1.out,←Hcc.out];exact zfR c si)
end Go.Proofs.YtdffbihilhkkjaaGreatDoor
