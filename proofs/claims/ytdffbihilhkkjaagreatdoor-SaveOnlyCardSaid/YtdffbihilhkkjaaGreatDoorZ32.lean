import Derived.Test.YtdffbihilhkkjaaGreatDoorZ8
namespace Go.Proofs.YtdffbihilhkkjaaGreatDoor
open Go.RowKit
set_option linter.unusedVariables false
set_option linter.unusedSimpArgs false
set_option maxRecDepth 100000
set_option maxHeartbeats 8000000
theorem znY {u:So.Uart} {w:World} {g:Nat} {T:TypeId} (h:Blk w g (So.uartL u).toArray T):w.rangeAt g 0 (So.fifoL u.rx):=fun j v hv=>by
 refine h.cell (0+j) ?_
 rw [List.getElem?_toArray,Nat.zero_add]
 unfold So.uartL
 rw [List.getElem?_append_left (List.getElem?_eq_some_iff.1 hv).1]
 exact hv
theorem znZ {u:So.Uart} {w:World} {g:Nat} {T:TypeId} (h:Blk w g (So.uartL u).toArray T):w.rangeAt g 17 (So.fifoL u.tx):=fun j v hv=>by
 refine h.cell (17+j) ?_
 rw [List.getElem?_toArray]
 unfold So.uartL
 rw [List.getElem?_append_right (by show (So.fifoL u.rx).length≤17+j;simp [So.fifoL]),show 17+j-(So.fifoL u.rx).length=j by simp [So.fifoL],List.getElem?_append_left (List.getElem?_eq_some_iff.1 hv).1]
 exact hv
theorem fifoB_len (f:So.Fifo):(So.fifoB f).length≤16:=by
 unfold So.fifoB
 split
 · simp
 · simp;omega
def zmk (B:Nat) (v0:Value) (l0:List Nat) (u:So.Uart):Nat→(Nat→Value)→World→Prop:=fun k X w=>match k with
 | 0=>True
 | 1=>OutV B ([]:List Nat) (X 0) w
 | 2=>OutV B ([]:List Nat) (X 0) w∧∃ A n c,X 3=Value.slice A n c∧Bs w A n c (So.fifoB u.rx)∧(0<n→∃ q cs,A.map (·.block)=some q∧Blk w q cs 77)
 | 3=>OutV B ([]++So.run (So.fifoB u.rx)) (X 4) w
 | 4=>OutV B ([]++So.run (So.fifoB u.rx)) (X 4) w∧∃ A n c,X 7=Value.slice A n c∧Bs w A n c (So.fifoB u.tx)∧(0<n→∃ q cs,A.map (·.block)=some q∧Blk w q cs 77)
 | 5=>OutV B ([]++So.run (So.fifoB u.rx)++So.run (So.fifoB u.tx)) (X 8) w
 | 6=>OutV B ([]++So.run (So.fifoB u.rx)++So.run (So.fifoB u.tx)) (X 9) w
 | _=>False
def zml (B:Nat) (v0:Value) (l0:List Nat) (u:So.Uart):Nat→(Nat→Value)→World→Prop:=fun k X w=>match k with
 | 0=>OutV B l0 v0 w
 | 1=>∃ s g r,X 13=Value.slice (some ⟨s,0,none⟩) 6 6∧v0=Value.pointer (some ⟨g,0,none⟩)∧OutAt w B g r (l0)∧Blk w s #[Value.int IntKind.u8 ((u.ier:Nat):Int),Value.int IntKind.u8 ((u.lcr:Nat):Int),Value.int IntKind.u8 ((u.mcr:Nat):Int),Value.int IntKind.u8 ((u.scr:Nat):Int),Value.int IntKind.u8 ((u.dll:Nat):Int),Value.int IntKind.u8 ((u.dlm:Nat):Int)] 5∧r≠some s
 | 2=>X 14=v0∧OutV B (l0++Tl.row [(1,u.ier),(1,u.lcr),(1,u.mcr),(1,u.scr),(1,u.dll),(1,u.dlm)]) v0 w
 | 3=>X 18=v0∧OutV B (l0++Tl.row [(1,u.ier),(1,u.lcr),(1,u.mcr),(1,u.scr),(1,u.dll),(1,u.dlm),(1,So.one (u.over))]) v0 w
 | 4=>X 22=v0∧OutV B (l0++Tl.row [(1,u.ier),(1,u.lcr),(1,u.mcr),(1,u.scr),(1,u.dll),(1,u.dlm),(1,So.one (u.over)),(1,So.w64 (u.wait))]) v0 w
 | 5=>∃ A k,X 23=Value.slice A (l0++Tl.row [(1,u.ier),(1,u.lcr),(1,u.mcr),(1,u.scr),(1,u.dll),(1,u.dlm),(1,So.one (u.over)),(1,So.w64 (u.wait))]).length k∧Bs w A (l0++Tl.row [(1,u.ier),(1,u.lcr),(1,u.mcr),(1,u.scr),(1,u.dll),(1,u.dlm),(1,So.one (u.over)),(1,So.w64 (u.wait))]).length k (l0++Tl.row [(1,u.ier),(1,u.lcr),(1,u.mcr),(1,u.scr),(1,u.dll),(1,u.dlm),(1,So.one (u.over)),(1,So.w64 (u.wait))])
 | 6=>∃ A k,X 24=Value.slice A (l0++Tl.row [(1,u.ier),(1,u.lcr),(1,u.mcr),(1,u.scr),(1,u.dll),(1,u.dlm),(1,So.one (u.over)),(1,So.w64 (u.wait))]).length k∧Bs w A (l0++Tl.row [(1,u.ier),(1,u.lcr),(1,u.mcr),(1,u.scr),(1,u.dll),(1,u.dlm),(1,So.one (u.over)),(1,So.w64 (u.wait))]).length k (l0++Tl.row [(1,u.ier),(1,u.lcr),(1,u.mcr),(1,u.scr),(1,u.dll),(1,u.dlm),(1,So.one (u.over)),(1,So.w64 (u.wait))])
 | _=>False
theorem zmm (u:So.Uart) (hok:u.Ok) (w:World):Calls Tryz.prog 56 #[.agg (So.uartL u).toArray] w (MkB w (So.sPort u)):=by
 go_enter Tryz.func56,Tryz.ntmps56
 go_wp2_with fail
 have hB:=Blk.new w (So.uartL u).toArray 79
 have hbel:=za (Below.refl w.heap.size w) (.cells (So.uartL u).toArray 79)
 generalize w.alloc (.cells (So.uartL u).toArray 79)=W1 at hB hbel ⊢
 have hbB:=hbel.size
 obtain ⟨g,hg⟩:∃ g,g=w.heap.size:=⟨_,rfl⟩
 rw [←hg] at hB ⊢
 clear hg
 obtain ⟨B,hBB⟩:∃ B,B=w.heap.size:=⟨_,rfl⟩
 have hBs:B≤W1.heap.size:=by omega
 have hgB:w.heap.size≤B:=by omega
 clear hBB
 refine zc (by kernel_rfl) (fun X=>⟨#[.agg (So.uartL u).toArray,.pointer (some ⟨g,0,none⟩),.slice none 0 0,X 9,X 0,X 1,X 2,X 3,X 4,X 5,X 6,X 7,X 8,undef,undef,undef,undef,undef,undef,undef,undef,undef,undef,undef,undef,undef,undef,undef,undef,undef,undef,undef,undef,undef,undef,undef,undef],[]⟩) (Outs B) (fun i v w=>match i with | 1=>(v=.pointer (some ⟨g,0,none⟩)) | 2=>(v=.agg (So.fifoL u.rx).toArray) | 5=>(v=.pointer (some ⟨g,17,none⟩)) | 6=>(v=.agg (So.fifoL u.tx).toArray) | _=>True) (fun i=>([1,0,0,2,3,0,0,4,5,6]:List Nat).getD i 0) 6 (zmk B undef [] u) _ (fun _=>undef) (fun u v w a b=>a.trans b) ?_ (by kernel_rfl) (by kernel_rfl) (Outs.drew _) (trivial) ?_ ?_
 ·
  intro i v w w' h hb
  match i,h with
  | 1,h=>exact h
  | 2,h=>exact h
  | 5,h=>exact h
  | 6,h=>exact h
  | 0,h=>exact trivial
  | 3,h=>exact trivial
  | 4,h=>exact trivial
  | 7,h=>exact trivial
  | 8,h=>exact trivial
  | 9,h=>exact trivial
  | _+10,h=>exact trivial
 ·
  refine cS 0 0 ?_ ?_
  ·
   intro X w hR ψ χ hst K HK
   go_simp
   go_at_call 48
   refine (zay B _ (Nat.le_trans hBs hR.size)).mono ?_
   rintro e w2 ⟨v,rfl,ho,hr⟩
   go_simp
   exact HK.out _ _ _ rfl hr trivial ho
  refine cQ 1 ?_ ?_
  ·
   intro X w hR ψ χ K HK
   go_simp
   exact HK.out _ _ _ rfl (Outs.refl _ _) rfl iD
  refine cQ 2 ?_ ?_
  ·
   intro X w hR ψ χ K HK
   have e1:X 1=.pointer (some ⟨g,0,none⟩):=(pS ψ 1 .data :)
   rw [if_pos (zo rfl)]
   refine wp_load_mid 77 (.tmp 5) rfl g 0 (show X 1=_ from e1) (So.fifoL u.rx) _ (znY (hR.blk hB (by decide) (by decide))) Tryz.underlying77 rfl rfl ?_
   exact HK.out _ _ _ (by (try simp only [e1])<;>rfl) (Outs.refl _ _) rfl iD
  refine cS 3 1 ?_ ?_
  ·
   intro X w hR ψ χ hst K HK
   have hst:OutV B ([]:List Nat) (X 0) w:=hst
   have e2:X 2=.agg (So.fifoL u.rx).toArray:=(pS ψ 2 .data :)
   go_simp
   go_at_call 133
   refine (zeF u.rx (by have:=hok;unfold So.Uart.Ok at this;exact this.1) _).mono ?_
   rintro e w2 ⟨A,n,c,rfl,hbs,hfr,hr⟩
   go_simp
   exact HK.out _ _ _ (by (try simp only [e2])<;>rfl) (Outs.of_below hr) trivial ⟨OutV.keep hst hr,A,n,c,rfl,hbs,hfr⟩
  refine cS 4 2 ?_ ?_
  ·
   intro X w hR ψ χ hst K HK
   have hst:OutV B ([]:List Nat) (X 0) w∧∃ A n c,X 3=Value.slice A n c∧Bs w A n c (So.fifoB u.rx)∧(0<n→∃ q cs,A.map (·.block)=some q∧Blk w q cs 77):=hst
   obtain ⟨hst1,A,n,c,e3,hbs,hfr⟩:=hst
   have hfl:=fifoB_len u.rx
   have hfn:=hbs.len
   go_simp
   go_at_call 132
   refine (zhp hst1 A n c _ hbs (fun h0=>let ⟨q,cs,e1,e2⟩:=hfr h0;⟨q,cs,_,e1,e2,by decide,by decide⟩) (by have:=fifoB_len u.rx;simp [So.run,Tl.le_length]<;>omega)).mono ?_
   rintro e w2 ⟨rfl,ho,hr⟩
   go_simp
   exact HK.out _ _ _ (by (try simp only [e3])<;>rfl) hr trivial ho
  refine cQ 5 ?_ ?_
  ·
   intro X w hR ψ χ K HK
   go_simp
   exact HK.out _ _ _ rfl (Outs.refl _ _) rfl iD
  refine cQ 6 ?_ ?_
  ·
   intro X w hR ψ χ K HK
   have e5:X 5=.pointer (some ⟨g,17,none⟩):=(pS ψ 5 .data :)
   rw [if_pos (zo rfl)]
   refine wp_load_mid 77 (.tmp 9) rfl g 17 (show X 5=_ from e5) (So.fifoL u.tx) _ (znZ (hR.blk hB (by decide) (by decide))) Tryz.underlying77 rfl rfl ?_
   exact HK.out _ _ _ (by (try simp only [e5])<;>rfl) (Outs.refl _ _) rfl iD
  refine cS 7 3 ?_ ?_
  ·
   intro X w hR ψ χ hst K HK
   have hst:OutV B ([]++So.run (So.fifoB u.rx)) (X 4) w:=hst
   have e6:X 6=.agg (So.fifoL u.tx).toArray:=(pS ψ 6 .data :)
   go_simp
   go_at_call 133
   refine (zeF u.tx (by have:=hok;unfold So.Uart.Ok at this;exact this.2.1) _).mono ?_
   rintro e w2 ⟨A,n,c,rfl,hbs,hfr,hr⟩
   go_simp
   exact HK.out _ _ _ (by (try simp only [e6])<;>rfl) (Outs.of_below hr) trivial ⟨OutV.keep hst hr,A,n,c,rfl,hbs,hfr⟩
  refine cS 8 4 ?_ ?_
  ·
   intro X w hR ψ χ hst K HK
   have hst:OutV B ([]++So.run (So.fifoB u.rx)) (X 4) w∧∃ A n c,X 7=Value.slice A n c∧Bs w A n c (So.fifoB u.tx)∧(0<n→∃ q cs,A.map (·.block)=some q∧Blk w q cs 77):=hst
   obtain ⟨hst1,A,n,c,e7,hbs,hfr⟩:=hst
   have hfl:=fifoB_len u.tx
   have hfn:=hbs.len
   go_simp
   go_at_call 132
   refine (zhp hst1 A n c _ hbs (fun h0=>let ⟨q,cs,e1,e2⟩:=hfr h0;⟨q,cs,_,e1,e2,by decide,by decide⟩) (by have:=fifoB_len u.rx;simp [So.run,Tl.le_length]<;>omega)).mono ?_
   rintro e w2 ⟨rfl,ho,hr⟩
   go_simp
   exact HK.out _ _ _ (by (try simp only [e7])<;>rfl) hr trivial ho
  refine cS 9 5 ?_ ?_
  ·
   intro X w hR ψ χ hst K HK
   have hst:OutV B ([]++So.run (So.fifoB u.rx)++So.run (So.fifoB u.tx)) (X 8) w:=hst
   go_simp
   exact HK.out _ _ _ rfl (Outs.refl _ _) trivial hst
  exact zi.nil
 ·
  intro X1 wE1 hR1 hall1 hS1
  have hO1:OutV B ([]++So.run (So.fifoB u.rx)++So.run (So.fifoB u.tx)) (X1 9) wE1:=hS1
  clear hall1 hS1
  have hB1:=hR1.blk hB (by decide) (by decide)
  have hBs1:=Nat.le_trans hBs hR1.size
  have hl0:([]++So.run (So.fifoB u.rx)++So.run (So.fifoB u.tx)).length≤1000:=by
   have h1:=fifoB_len u.rx
   have h2:=fifoB_len u.tx
   simp [So.run,Tl.le_length]<;>omega
  have Hpre:Hid (So.sPort u=([]++So.run (So.fifoB u.rx)++So.run (So.fifoB u.tx))++Tl.row [(1,u.ier),(1,u.lcr),(1,u.mcr),(1,u.scr),(1,u.dll),(1,u.dlm),(1,So.one u.over),(1,So.w64 u.wait)]):=qH (by simp [So.sPort])
  generalize []++So.run (So.fifoB u.rx)++So.run (So.fifoB u.tx)=L0 at hO1 hl0 Hpre
  go_wp2_with fail
  refine zc (by kernel_rfl) (fun X=>⟨#[.agg (So.uartL u).toArray,.pointer (some ⟨g,0,none⟩),X 24,X1 9,X1 0,X1 1,X1 2,X1 3,X1 4,X1 5,X1 6,X1 7,X1 8,X 0,X 1,X 2,X 3,X 4,X 5,X 6,X 7,X 8,X 9,X 10,X 11,X 12,X 13,X 14,X 15,X 16,X 17,X 18,X 19,X 20,X 21,X 22,X 23],[]⟩) (Outs B) (fun i v w=>match i with | 0=>(v=X1 9) | 1=>(v=.pointer (some ⟨g,34,none⟩)) | 2=>(v=.int .u8 ((u.ier:Nat):Int)) | 3=>(v=.pointer (some ⟨g,35,none⟩)) | 4=>(v=.int .u8 ((u.lcr:Nat):Int)) | 5=>(v=.pointer (some ⟨g,36,none⟩)) | 6=>(v=.int .u8 ((u.mcr:Nat):Int)) | 7=>(v=.pointer (some ⟨g,37,none⟩)) | 8=>(v=.int .u8 ((u.scr:Nat):Int)) | 9=>(v=.pointer (some ⟨g,38,none⟩)) | 10=>(v=.int .u8 ((u.dll:Nat):Int)) | 11=>(v=.pointer (some ⟨g,39,none⟩)) | 12=>(v=.int .u8 ((u.dlm:Nat):Int)) | 15=>(v=.pointer (some ⟨g,40,none⟩)) | 16=>(v=.bool (u.over)) | 17=>(v=.int .u64 ((So.one (u.over):Nat):Int)) | 19=>(v=.pointer (some ⟨g,41,none⟩)) | 20=>(v=.int .i64 (u.wait)) | 21=>(v=.int .u64 ((So.w64 (u.wait):Nat):Int)) | _=>True) (fun i=>([0,0,0,0,0,0,0,0,0,0,0,0,0,1,2,0,0,0,3,0,0,0,4,5,6]:List Nat).getD i 0) 6 (zml B (X1 9) (L0) u) _ (fun i=>if i=24 then .slice none 0 0 else undef) (fun u v w a b=>a.trans b) ?_ (by kernel_rfl) (by kernel_rfl) (Outs.drew _) ((hO1.keep (zr (Below.refl _ _)))) ?_ ?_
  ·
   intro i v w w' h hb
   match i,h with
   | 0,h=>exact h
   | 1,h=>exact h
   | 2,h=>exact h
   | 3,h=>exact h
   | 4,h=>exact h
   | 5,h=>exact h
   | 6,h=>exact h
   | 7,h=>exact h
   | 8,h=>exact h
   | 9,h=>exact h
   | 10,h=>exact h
   | 11,h=>exact h
   | 12,h=>exact h
   | 15,h=>exact h
   | 16,h=>exact h
   | 17,h=>exact h
   | 19,h=>exact h
   | 20,h=>exact h
   | 21,h=>exact h
   | 13,h=>exact trivial
   | 14,h=>exact trivial
   | 18,h=>exact trivial
   | 22,h=>exact trivial
   | 23,h=>exact trivial
   | 24,h=>exact trivial
   | _+25,h=>exact trivial
  ·
   refine cQ 0 ?_ ?_
   ·
    intro X w hR ψ χ K HK
    go_simp
    exact HK.out _ _ _ rfl (Outs.refl _ _) rfl iD
   refine cQ 1 ?_ ?_
   ·
    intro X w hR ψ χ K HK
    go_simp
    exact HK.out _ _ _ rfl (Outs.refl _ _) rfl iD
   refine cQ 2 ?_ ?_
   ·
    intro X w hR ψ χ K HK
    have e1:X 1=.pointer (some ⟨g,34,none⟩):=(pS ψ 1 .data :)
    have c2:=(hR.blk hB1 (by decide) (by decide)).cell 34 rfl
    go_simp
    exact HK.out _ _ _ (by (try simp only [e1])<;>rfl) (Outs.refl _ _) rfl iD
   refine cQ 3 ?_ ?_
   ·
    intro X w hR ψ χ K HK
    go_simp
    exact HK.out _ _ _ rfl (Outs.refl _ _) rfl iD
   refine cQ 4 ?_ ?_
   ·
    intro X w hR ψ χ K HK
    have e3:X 3=.pointer (some ⟨g,35,none⟩):=(pS ψ 3 .data :)
    have c4:=(hR.blk hB1 (by decide) (by decide)).cell 35 rfl
    go_simp
    exact HK.out _ _ _ (by (try simp only [e3])<;>rfl) (Outs.refl _ _) rfl iD
   refine cQ 5 ?_ ?_
   ·
    intro X w hR ψ χ K HK
    go_simp
    exact HK.out _ _ _ rfl (Outs.refl _ _) rfl iD
   refine cQ 6 ?_ ?_
   ·
    intro X w hR ψ χ K HK
    have e5:X 5=.pointer (some ⟨g,36,none⟩):=(pS ψ 5 .data :)
    have c6:=(hR.blk hB1 (by decide) (by decide)).cell 36 rfl
    go_simp
    exact HK.out _ _ _ (by (try simp only [e5])<;>rfl) (Outs.refl _ _) rfl iD
   refine cQ 7 ?_ ?_
   ·
    intro X w hR ψ χ K HK
    go_simp
    exact HK.out _ _ _ rfl (Outs.refl _ _) rfl iD
   refine cQ 8 ?_ ?_
   ·
    intro X w hR ψ χ K HK
    have e7:X 7=.pointer (some ⟨g,37,none⟩):=(pS ψ 7 .data :)
    have c8:=(hR.blk hB1 (by decide) (by decide)).cell 37 rfl
    go_simp
    exact HK.out _ _ _ (by (try simp only [e7])<;>rfl) (Outs.refl _ _) rfl iD
   refine cQ 9 ?_ ?_
   ·
    intro X w hR ψ χ K HK
    go_simp
    exact HK.out _ _ _ rfl (Outs.refl _ _) rfl iD
   refine cQ 10 ?_ ?_
   ·
    intro X w hR ψ χ K HK
    have e9:X 9=.pointer (some ⟨g,38,none⟩):=(pS ψ 9 .data :)
    have c10:=(hR.blk hB1 (by decide) (by decide)).cell 38 rfl
    go_simp
    exact HK.out _ _ _ (by (try simp only [e9])<;>rfl) (Outs.refl _ _) rfl iD
   refine cQ 11 ?_ ?_
   ·
    intro X w hR ψ χ K HK
    go_simp
    exact HK.out _ _ _ rfl (Outs.refl _ _) rfl iD
   refine cQ 12 ?_ ?_
   ·
    intro X w hR ψ χ K HK
    have e11:X 11=.pointer (some ⟨g,39,none⟩):=(pS ψ 11 .data :)
    have c12:=(hR.blk hB1 (by decide) (by decide)).cell 39 rfl
    go_simp
    exact HK.out _ _ _ (by (try simp only [e11])<;>rfl) (Outs.refl _ _) rfl iD
   refine cS 13 0 ?_ ?_
   ·
    intro X w hR ψ χ hst K HK
    have e2:X 2=.int IntKind.u8 ((u.ier:Nat):Int):=(pS ψ 2 .data :)
    have e4:X 4=.int IntKind.u8 ((u.lcr:Nat):Int):=(pS ψ 4 .data :)
    have e6:X 6=.int IntKind.u8 ((u.mcr:Nat):Int):=(pS ψ 6 .data :)
    have e8:X 8=.int IntKind.u8 ((u.scr:Nat):Int):=(pS ψ 8 .data :)
    have e10:X 10=.int IntKind.u8 ((u.dll:Nat):Int):=(pS ψ 10 .data :)
    have e12:X 12=.int IntKind.u8 ((u.dlm:Nat):Int):=(pS ψ 12 .data :)
    obtain ⟨g9,r9,e9,hO9⟩:=(show OutV B (L0) (X1 9) _ from hst)
    have He9:=qH e9
    clear e9 hst
    go_simp
    exact HK.out _ _ _ (by (try simp only [e2,e4,e6,e8,e10,e12])<;>rfl) (Outs.alloc _ _) trivial ⟨w.heap.size,g9,r9,rfl,He9.out,hO9.keep (za (Below.refl _ _) _),Blk.new _ _ _,fun e=>absurd (hO9.rlt _ e).2 (Nat.lt_irrefl _)⟩
   refine cS 14 1 ?_ ?_
   ·
    intro X w hR ψ χ hst K HK
    have hst:∃ s g r,X 13=Value.slice (some ⟨s,0,none⟩) 6 6∧(X1 9)=Value.pointer (some ⟨g,0,none⟩)∧OutAt w B g r (L0)∧Blk w s #[Value.int IntKind.u8 ((u.ier:Nat):Int),Value.int IntKind.u8 ((u.lcr:Nat):Int),Value.int IntKind.u8 ((u.mcr:Nat):Int),Value.int IntKind.u8 ((u.scr:Nat):Int),Value.int IntKind.u8 ((u.dll:Nat):Int),Value.int IntKind.u8 ((u.dlm:Nat):Int)] 5∧r≠some s:=hst
    have e0:X 0=X1 9:=(pS ψ 0 .data :)
    obtain ⟨s9,g9,r9,eS,eV,hO9,hs9,hn9⟩:=hst
    go_simp
    go_at_call 134
    refine (zlC hO9 s9 6 6 [u.ier,u.lcr,u.mcr,u.scr,u.dll,u.dlm] hs9 rfl hn9 (by intro x hx;simp only [List.mem_cons,List.not_mem_nil,or_false] at hx;have:=hok;unfold So.Uart.Ok at this;rcases hx with rfl | rfl | rfl | rfl | rfl | rfl  <;> omega) (by simp<;>omega)).mono ?_
    rintro e w2 ⟨rfl,ho,hr⟩
    go_simp
    exact HK.out _ _ _ (by (try simp only [e0,eS,eV])<;>rfl) hr trivial ⟨eV.symm,by rw [eV];exact ho.cast (by simp [Tl.row])⟩
   refine cQ 15 ?_ ?_
   ·
    intro X w hR ψ χ K HK
    go_simp
    exact HK.out _ _ _ rfl (Outs.refl _ _) rfl iD
   refine cQ 16 ?_ ?_
   ·
    intro X w hR ψ χ K HK
    have e15:X 15=.pointer (some ⟨g,40,none⟩):=(pS ψ 15 .data :)
    have c16:=(hR.blk hB1 (by decide) (by decide)).cell 40 rfl
    go_simp
    exact HK.out _ _ _ (by (try simp only [e15])<;>rfl) (Outs.refl _ _) rfl iD
   refine cQ 17 ?_ ?_
   ·
    intro X w hR ψ χ K HK
    have e16:X 16=.bool (u.over):=(pS ψ 16 .data :)
    go_simp
    go_at_call 131
    refine (zbK (u.over) _).mono ?_
    rintro e w2 ⟨rfl,rfl⟩
    go_simp
    exact HK.out _ _ _ (by (try simp only [e16])<;>rfl) (Outs.refl _ _) rfl iD
   refine cS 18 2 ?_ ?_
   ·
    intro X w hR ψ χ hst K HK
    have hst:X 14=(X1 9)∧OutV B (L0++Tl.row [(1,u.ier),(1,u.lcr),(1,u.mcr),(1,u.scr),(1,u.dll),(1,u.dlm)]) (X1 9) w:=hst
    have e17:X 17=.int IntKind.u64 ((So.one (u.over):Nat):Int):=(pS ψ 17 .data :)
    have eV:=hst.1
    go_simp
    go_at_call 50
    refine (zO hst.2 (So.one (u.over)) 1 (by exact zdl _) (by omega) (by omega) (by simp [Tl.row,Tl.le_length]<;>omega)).mono ?_
    rintro e w2 ⟨rfl,ho,hr⟩
    go_simp
    exact HK.out _ _ _ (by (try simp only [e17,eV])<;>rfl) hr trivial ⟨rfl,ho.cast (by simp [Tl.row])⟩
   refine cQ 19 ?_ ?_
   ·
    intro X w hR ψ χ K HK
    go_simp
    exact HK.out _ _ _ rfl (Outs.refl _ _) rfl iD
   refine cQ 20 ?_ ?_
   ·
    intro X w hR ψ χ K HK
    have e19:X 19=.pointer (some ⟨g,41,none⟩):=(pS ψ 19 .data :)
    have c20:=(hR.blk hB1 (by decide) (by decide)).cell 41 rfl
    go_simp
    exact HK.out _ _ _ (by (try simp only [e19])<;>rfl) (Outs.refl _ _) rfl iD
   refine cQ 21 ?_ ?_
   ·
    intro X w hR ψ χ K HK
    have e20:X 20=.int IntKind.i64 (u.wait):=(pS ψ 20 .data :)
    have q21:=zdO (u.wait)
    go_simp
    exact HK.out _ _ _ (by (try simp only [e20])<;>rfl) (Outs.refl _ _) rfl iD
   refine cS 22 3 ?_ ?_
   ·
    intro X w hR ψ χ hst K HK
    have hst:X 18=(X1 9)∧OutV B (L0++Tl.row [(1,u.ier),(1,u.lcr),(1,u.mcr),(1,u.scr),(1,u.dll),(1,u.dlm),(1,So.one (u.over))]) (X1 9) w:=hst
    have e21:X 21=.int IntKind.u64 ((So.w64 (u.wait):Nat):Int):=(pS ψ 21 .data :)
    have eV:=hst.1
    go_simp
    go_at_call 50
    refine (zO hst.2 (So.w64 (u.wait)) 1 (by exact w64_lt _) (by omega) (by omega) (by simp [Tl.row,Tl.le_length]<;>omega)).mono ?_
    rintro e w2 ⟨rfl,ho,hr⟩
    go_simp
    exact HK.out _ _ _ (by (try simp only [e21,eV])<;>rfl) hr trivial ⟨rfl,ho.cast (by simp [Tl.row])⟩
   refine cS 23 4 ?_ ?_
   ·
    intro X w hR ψ χ hst K HK
    have hst:X 22=(X1 9)∧OutV B (L0++Tl.row [(1,u.ier),(1,u.lcr),(1,u.mcr),(1,u.scr),(1,u.dll),(1,u.dlm),(1,So.one (u.over)),(1,So.w64 (u.wait))]) (X1 9) w:=hst
    have eV:=hst.1
    go_simp
    go_at_call 49
    refine (zai hst.2).mono ?_
    rintro e w2 ⟨A,k,rfl,hbs,hr⟩
    obtain ⟨nL,hnL⟩:=qX ((L0++Tl.row [(1,u.ier),(1,u.lcr),(1,u.mcr),(1,u.scr),(1,u.dll),(1,u.dlm),(1,So.one (u.over)),(1,So.w64 (u.wait))]).length)
    rw [hnL] at hbs ⊢
    have HnL:=qH hnL
    clear hnL
    go_simp
    exact HK.out _ _ _ (by (try simp only [eV])<;>rfl) hr trivial ⟨A,k,by rw [HnL.out];rfl,by rw [HnL.out];exact hbs⟩
   refine cS 24 5 ?_ ?_
   ·
    intro X w hR ψ χ hst K HK
    have hst:∃ A k,X 23=Value.slice A (L0++Tl.row [(1,u.ier),(1,u.lcr),(1,u.mcr),(1,u.scr),(1,u.dll),(1,u.dlm),(1,So.one (u.over)),(1,So.w64 (u.wait))]).length k∧Bs w A (L0++Tl.row [(1,u.ier),(1,u.lcr),(1,u.mcr),(1,u.scr),(1,u.dll),(1,u.dlm),(1,So.one (u.over)),(1,So.w64 (u.wait))]).length k (L0++Tl.row [(1,u.ier),(1,u.lcr),(1,u.mcr),(1,u.scr),(1,u.dll),(1,u.dlm),(1,So.one (u.over)),(1,So.w64 (u.wait))]):=hst
    obtain ⟨A,k,e23,hbs⟩:=hst
    obtain ⟨nL,hnL⟩:=qX ((L0++Tl.row [(1,u.ier),(1,u.lcr),(1,u.mcr),(1,u.scr),(1,u.dll),(1,u.dlm),(1,So.one (u.over)),(1,So.w64 (u.wait))]).length)
    rw [hnL] at e23 hbs
    have HnL:=qH hnL
    clear hnL
    go_simp
    exact HK.out _ _ _ (by (try simp only [e23])<;>rfl) (Outs.refl _ _) trivial ⟨A,k,by rw [HnL.out];rfl,by rw [HnL.out];exact hbs⟩
   exact zi.nil
  ·
   intro X2 wE2 hR2 hall2 hS2
   obtain ⟨A,k,eL,hbs⟩:∃ A k,X2 24=Value.slice A (L0++Tl.row [(1,u.ier),(1,u.lcr),(1,u.mcr),(1,u.scr),(1,u.dll),(1,u.dlm),(1,So.one (u.over)),(1,So.w64 (u.wait))]).length k∧Bs wE2 A (L0++Tl.row [(1,u.ier),(1,u.lcr),(1,u.mcr),(1,u.scr),(1,u.dll),(1,u.dlm),(1,So.one (u.over)),(1,So.w64 (u.wait))]).length k (L0++Tl.row [(1,u.ier),(1,u.lcr),(1,u.mcr),(1,u.scr),(1,u.dll),(1,u.dlm),(1,So.one (u.over)),(1,So.w64 (u.wait))]):=hS2
   clear hall2
   go_wp2_with fail
   go_ret
   have hO:=hbel.trans (((hR1.trans hR2).below hBs).mono hgB)
   exact ⟨A,k,by rw [Hpre.out];first | rw [eL];rfl | rw [←eL];rfl,by rw [Hpre.out];exact hbs,hO⟩
theorem zhU:∀ l:List So.Seg,(l.flatMap So.sSeg).length=8*l.length
 | []=>rfl
 | x::l=>by
  rw [List.flatMap_cons,List.length_append,zhU l,List.length_cons]
  simp [So.sSeg,Tl.row,Tl.le_length]
  omega
theorem zf2 {α:Type} (f:α→List Nat) (q:List α) (k:Nat):((q.take k).flatMap f).length≤(q.flatMap f).length:=by
 have:(q.flatMap f).length=((q.take k).flatMap f).length+((q.drop k).flatMap f).length:=by
  rw [←List.length_append,←List.flatMap_append,List.take_append_drop]
 omega
def zmn (B:Nat) (v0:Value) (l0:List Nat) (b:So.Blk) (A0:Option Addr) (n:Nat) (c0:Nat):Nat→(Nat→Value)→World→Prop:=fun k X w=>match k with
 | 0=>True
 | 1=>OutV B ([]:List Nat) (X 0) w
 | 2=>OutV B (Tl.row [(1,So.one (b.bell))]) (X 4) w
 | 3=>OutV B (Tl.row [(1,So.one (b.bell)),(4,b.next)]) (X 8) w
 | 4=>OutV B (Tl.row [(1,So.one (b.bell)),(4,b.next),(1,n)]) (X 13) w
 | 5=>OutV B (Tl.row [(1,So.one (b.bell)),(4,b.next),(1,n)]) (X 14) w
 | _=>False
def zmo (B:Nat) (v0:Value) (l0:List Nat) (r:So.Req) (m:Nat):Nat→(Nat→Value)→World→Prop:=fun k X w=>match k with
 | 0=>OutV B l0 v0 w
 | 1=>X 4=v0∧OutV B (l0++Tl.row [(4,r.id)]) v0 w
 | 2=>X 8=v0∧OutV B (l0++Tl.row [(4,r.id),(2,So.w64 (r.head))]) v0 w
 | 3=>X 12=v0∧OutV B (l0++Tl.row [(4,r.id),(2,So.w64 (r.head)),(1,So.one (r.write))]) v0 w
 | _=>False
def zfk (B:Nat) (v0:Value) (l0:List Nat) (r:So.Req) (m:Nat):Nat→(Nat→Value)→World→Prop:=fun k X w=>match k with
 | 0=>OutV B l0 v0 w
 | 1=>X 7=v0∧OutV B (l0++Tl.row [(4,r.sector),(4,So.w32 (r.n))]) v0 w
 | 2=>X 12=v0∧OutV B (l0++Tl.row [(4,r.sector),(4,So.w32 (r.n)),(2,m)]) v0 w
 | _=>False
theorem zfl (B:Nat) (v0:Value) (l0:List Nat) (r:So.Req) (m:Nat):∀ k X w w',zfk B v0 l0 r m k X w→Below w.heap.size w w'→zfk B v0 l0 r m k X w':=by
 intro k X w w' h hb
 match k,h with
 | 0,h=>exact OutV.keep h hb
 | 1,h=>exact ⟨h.1,OutV.keep h.2 hb⟩
 | 2,h=>exact ⟨h.1,OutV.keep h.2 hb⟩
 | _+3,h=>exact h.elim
theorem zmp (b:So.Blk) (A0:Option Addr) (n:Nat) (c0:Nat) (w:World) (hI:Reqs w A0 n c0 b.ins) (hok:b.Ok) (hsz:(b.ins.flatMap So.sReq).length≤1000000000) (hn8:n≤1000000000):Calls Tryz.prog 59 #[.agg (So.blkL b ⟨A0,n,c0⟩).toArray] w (MkB w (So.sDisk b)):=by
 go_enter Tryz.func59,Tryz.ntmps59
 go_wp2_with fail
 have hB:=Blk.new w (So.blkL b ⟨A0,n,c0⟩).toArray 89
 have hbel:=za (Below.refl w.heap.size w) (.cells (So.blkL b ⟨A0,n,c0⟩).toArray 89)
 generalize w.alloc (.cells (So.blkL b ⟨A0,n,c0⟩).toArray 89)=W1 at hB hbel ⊢
 have hbB:=hbel.size
 obtain ⟨g,hg⟩:∃ g,g=w.heap.size:=⟨_,rfl⟩
 rw [←hg] at hB ⊢
 clear hg
 obtain ⟨B,hBB⟩:∃ B,B=w.heap.size:=⟨_,rfl⟩
 have hBs:B≤W1.heap.size:=by omega
 have hgB:w.heap.size≤B:=by omega
 clear hBB
 refine zc (by kernel_rfl) (fun X=>⟨#[.agg (So.blkL b { A:=A0,n:=n,c:=c0 }).toArray,.pointer (some ⟨g,0,none⟩),.slice none 0 0,X 14,undef,undef,undef,undef,X 0,X 1,X 2,X 3,X 4,X 5,X 6,X 7,X 8,X 9,X 10,X 11,X 12,X 13,undef,undef,undef,undef,undef,undef,undef,undef,undef,undef,undef,undef,undef,undef,undef,undef,undef,undef,undef,undef,undef,undef,undef,undef,undef,undef,undef,undef,undef,undef,undef,undef,undef,undef,undef,undef,undef,undef,undef,undef,undef,undef,undef,undef,undef,undef,undef,undef,undef,undef,undef,undef],[]⟩) (Outs B) (fun i v w=>match i with | 1=>(v=.pointer (some ⟨g,22,none⟩)) | 2=>(v=.bool (b.bell)) | 3=>(v=.int .u64 ((So.one (b.bell):Nat):Int)) | 5=>(v=.pointer (some ⟨g,23,none⟩)) | 6=>(v=.int .u32 ((b.next:Nat):Int)) | 7=>(v=.int .u64 ((b.next:Nat):Int)) | 9=>(v=.pointer (some ⟨g,24,none⟩)) | 10=>(v=.slice A0 n c0) | 11=>(v=.int .i64 ((n:Nat):Int)) | 12=>(v=.int .u64 ((n:Nat):Int)) | _=>True) (fun i=>([1,0,0,0,2,0,0,0,3,0,0,0,0,4,5]:List Nat).getD i 0) 5 (zmn B (undef) ([]) b A0 n c0) _ (fun _=>undef) (fun u v w a b=>a.trans b) ?_ (by kernel_rfl) (by kernel_rfl) (Outs.drew _) (trivial) ?_ ?_
 ·
  intro i v w w' h hb
  match i,h with
  | 1,h=>exact h
  | 2,h=>exact h
  | 3,h=>exact h
  | 5,h=>exact h
  | 6,h=>exact h
  | 7,h=>exact h
  | 9,h=>exact h
  | 10,h=>exact h
  | 11,h=>exact h
  | 12,h=>exact h
  | 0,h=>exact trivial
  | 4,h=>exact trivial
  | 8,h=>exact trivial
  | 13,h=>exact trivial
  | 14,h=>exact trivial
  | _+15,h=>exact trivial
 ·
  refine cS 0 0 ?_ ?_
  ·
   intro X w hR ψ χ hst K HK
   go_simp
   go_at_call 48
   refine (zay B _ (Nat.le_trans hBs hR.size)).mono ?_
   rintro e w2 ⟨v,rfl,ho,hr⟩
   go_simp
   exact HK.out _ _ _ rfl hr trivial ho
  refine cQ 1 ?_ ?_
  ·
   intro X w hR ψ χ K HK
   go_simp
   exact HK.out _ _ _ rfl (Outs.refl _ _) rfl iD
  refine cQ 2 ?_ ?_
  ·
   intro X w hR ψ χ K HK
   have e1:X 1=.pointer (some ⟨g,22,none⟩):=(pS ψ 1 .data :)
   have c2:=(hR.blk hB (by decide) (by decide)).cell 22 rfl
   go_simp
   exact HK.out _ _ _ (by (try simp only [e1])<;>rfl) (Outs.refl _ _) rfl iD
  refine cQ 3 ?_ ?_
  ·
   intro X w hR ψ χ K HK
   have e2:X 2=.bool (b.bell):=(pS ψ 2 .data :)
   go_simp
   go_at_call 131
   refine (zbK (b.bell) _).mono ?_
   rintro e w2 ⟨rfl,rfl⟩
   go_simp
   exact HK.out _ _ _ (by (try simp only [e2])<;>rfl) (Outs.refl _ _) rfl iD
  refine cS 4 1 ?_ ?_
  ·
   intro X w hR ψ χ hst K HK
   have hst:OutV B ([]:List Nat) (X 0) w:=hst
   have e3:X 3=.int IntKind.u64 ((So.one (b.bell):Nat):Int):=(pS ψ 3 .data :)
   go_simp
   go_at_call 50
   refine (zO hst (So.one (b.bell)) 1 (by exact zdl _) (by omega) (by omega) (by simp [Tl.row,Tl.le_length])).mono ?_
   rintro e w2 ⟨rfl,ho,hr⟩
   go_simp
   exact HK.out _ _ _ (by (try simp only [e3])<;>rfl) hr trivial (ho.cast (by simp [Tl.row]))
  refine cQ 5 ?_ ?_
  ·
   intro X w hR ψ χ K HK
   go_simp
   exact HK.out _ _ _ rfl (Outs.refl _ _) rfl iD
  refine cQ 6 ?_ ?_
  ·
   intro X w hR ψ χ K HK
   have e5:X 5=.pointer (some ⟨g,23,none⟩):=(pS ψ 5 .data :)
   have c6:=(hR.blk hB (by decide) (by decide)).cell 23 rfl
   go_simp
   exact HK.out _ _ _ (by (try simp only [e5])<;>rfl) (Outs.refl _ _) rfl iD
  refine cQ 7 ?_ ?_
  ·
   intro X w hR ψ χ K HK
   have e6:X 6=.int IntKind.u32 ((b.next:Nat):Int):=(pS ψ 6 .data :)
   have q7:=zY (b.next) (by have:=hok;unfold So.Blk.Ok at this;omega)
   go_simp
   exact HK.out _ _ _ (by (try simp only [e6])<;>rfl) (Outs.refl _ _) rfl iD
  refine cS 8 2 ?_ ?_
  ·
   intro X w hR ψ χ hst K HK
   have hst:OutV B (Tl.row [(1,So.one (b.bell))]) (X 4) w:=hst
   have e7:X 7=.int IntKind.u64 ((b.next:Nat):Int):=(pS ψ 7 .data :)
   go_simp
   go_at_call 50
   refine (zO hst (b.next) 4 (by have:=hok;unfold So.Blk.Ok at this;omega) (by omega) (by omega) (by simp [Tl.row,Tl.le_length])).mono ?_
   rintro e w2 ⟨rfl,ho,hr⟩
   go_simp
   exact HK.out _ _ _ (by (try simp only [e7])<;>rfl) hr trivial (ho.cast (by simp [Tl.row]))
  refine cQ 9 ?_ ?_
  ·
   intro X w hR ψ χ K HK
   go_simp
   exact HK.out _ _ _ rfl (Outs.refl _ _) rfl iD
  refine cQ 10 ?_ ?_
  ·
   intro X w hR ψ χ K HK
   have e9:X 9=.pointer (some ⟨g,24,none⟩):=(pS ψ 9 .data :)
   have c10:=(hR.blk hB (by decide) (by decide)).cell 24 rfl
   go_simp
   exact HK.out _ _ _ (by (try simp only [e9])<;>rfl) (Outs.refl _ _) rfl iD
  refine cQ 11 ?_ ?_
  ·
   intro X w hR ψ χ K HK
   have e10:X 10=.slice A0 n c0:=(pS ψ 10 .data :)
   go_simp
   exact HK.out _ _ _ (by (try simp only [e10])<;>rfl) (Outs.refl _ _) rfl iD
  refine cQ 12 ?_ ?_
  ·
   intro X w hR ψ χ K HK
   have e11:X 11=.int IntKind.i64 ((n:Nat):Int):=(pS ψ 11 .data :)
   have q12:=zY (n) (by have:=hok;unfold So.Blk.Ok at this;omega)
   go_simp
   exact HK.out _ _ _ (by (try simp only [e11])<;>rfl) (Outs.refl _ _) rfl iD
  refine cS 13 3 ?_ ?_
  ·
   intro X w hR ψ χ hst K HK
   have hst:OutV B (Tl.row [(1,So.one (b.bell)),(4,b.next)]) (X 8) w:=hst
   have e12:X 12=.int IntKind.u64 ((n:Nat):Int):=(pS ψ 12 .data :)
   go_simp
   go_at_call 50
   refine (zO hst (n) 1 (by have:=hok;unfold So.Blk.Ok at this;omega) (by omega) (by omega) (by simp [Tl.row,Tl.le_length])).mono ?_
   rintro e w2 ⟨rfl,ho,hr⟩
   go_simp
   exact HK.out _ _ _ (by (try simp only [e12])<;>rfl) hr trivial (ho.cast (by simp [Tl.row]))
  refine cS 14 4 ?_ ?_
  ·
   intro X w hR ψ χ hst K HK
   have hst:OutV B (Tl.row [(1,So.one (b.bell)),(4,b.next),(1,n)]) (X 13) w:=hst
   go_simp
   exact HK.out _ _ _ rfl (Outs.refl _ _) trivial hst
  exact zi.nil
 ·
  intro X1 wE1 hR1 hall1 hS1
  have hO1:OutV B (Tl.row [(1,So.one (b.bell)),(4,b.next),(1,n)]) (X1 14) wE1:=hS1
  clear hall1 hS1
  have hB1:=hR1.blk hB (by decide) (by decide)
  have hBs1:=Nat.le_trans hBs hR1.size
  have hlq:=hI.len
  have hq0:wE1.cell? ⟨g,24,none⟩=some (.slice A0 n c0):=hB1.cell 24 rfl
  have hmq:=hI.max
  have hoks:=hok.2.2.2
  clear hB
  go_wp2_with fail
  go_loopw [5,7,25] (fun _ _ i wr=>∃ k:Nat,k≤n∧i=.int .i64 k∧OutV B (Tl.row [(1,So.one (b.bell)),(4,b.next),(1,n)]++(b.ins.take k).flatMap So.sReq) (X1 14) wr∧Outs B wE1 wr) (fun _ _ i _=>n-(intOf i).toNat)
  case atStart=>exact ⟨0,Nat.zero_le _,rfl,by simpa using hO1,Outs.refl _ _⟩
  case round =>
   obtain ⟨k,hk,rfl,hO,hR⟩:=hrel
   obtain ⟨wo,rfl⟩:∃ wo:World,wo=wr:=⟨_,rfl⟩
   have hbr:Below w.heap.size w wo:=hbel.trans (((hR1.trans hR).below hBs).mono hgB)
   have hBs2:=Nat.le_trans hBs1 hR.size
   by_cases hlt:k<n
   ·
    obtain ⟨r,bq,off,D,m,d,hpk,rfl,hc0,hc1,hc2,hc3,hc4,hc5,hSg⟩:=hI.at_ k hlt
    replace hc0:=zm hc0 hbr
    replace hc1:=zm hc1 hbr
    replace hc2:=zm hc2 hbr
    replace hc3:=zm hc3 hbr
    replace hc4:=zm hc4 hbr
    replace hc5:=zm hc5 hbr
    have hro:=hoks r (List.mem_of_getElem? hpk)
    have hsn:=zdR So.sReq b.ins k r hpk
    have hft:=zf2 So.sReq b.ins (k+1)
    rw [hsn,List.length_append] at hft
    have hsn:=qH hsn
    have hrl:(So.sReq r).length=17+(r.l.flatMap So.sSeg).length:=by simp [So.sReq,Tl.row,Tl.le_length];omega
    have hl0:(Tl.row [(1,So.one (b.bell)),(4,b.next),(1,n)]++(b.ins.take k).flatMap So.sReq).length+(r.l.flatMap So.sSeg).length≤2000000000:=by
     rw [List.length_append]
     simp only [Tl.row,Tl.le_length,List.length_append,List.length_nil]
     omega
    have hml:=hSg.len
    have hmm:m≤1000000000:=by
     have:=zhU r.l
     omega
    clear hft hrl
    generalize hLL:Tl.row [(1,So.one (b.bell)),(4,b.next),(1,n)]++(b.ins.take k).flatMap So.sReq=L0 at hO hl0
    have HLL:=qH hLL
    clear hLL
    have Hml:=qH hml
    clear hml
    have hl0':=hl0
    have hl0:L0.length≤2000000000:=by omega
    have hkn:(k:Int)<(n:Int):=by omega
    go_wp2_with fail
    have hT:=Blk.new wo (So.reqL r ⟨D,m,d⟩).toArray 287
    have hRT:=Outs.alloc (B:=B) wo (.cells (So.reqL r ⟨D,m,d⟩).toArray 287)
    have hbT:=za (Below.refl wo.heap.size wo) (.cells (So.reqL r ⟨D,m,d⟩).toArray 287)
    have hOT:=hO.keep hbT
    generalize hWT:wo.alloc (.cells (So.reqL r ⟨D,m,d⟩).toArray 287)=WT at hT hRT hOT hbT
    unfold So.reqL at hWT
    rw [hWT]
    clear hWT hc0 hc1 hc2 hc3 hc4 hc5
    have hBsT:=Nat.le_trans hBs2 hRT.size
    generalize wo.heap.size=gT at hT ⊢
    refine zc (by kernel_rfl) (fun X=>⟨#[.agg (So.blkL b { A:=some { block:=bq,off:=off },n:=n,c:=c0 }).toArray,.pointer (some ⟨g,0,none⟩),.slice none 0 0,X1 14,undef,.pointer (some ⟨gT,0,none⟩),undef,u7,X1 0,X1 1,X1 2,X1 3,X1 4,X1 5,X1 6,X1 7,X1 8,X1 9,X1 10,X1 11,X1 12,X1 13,.pointer (some ⟨g,24,none⟩),.slice (some { block:=bq,off:=off }) n c0,.int .i64 ↑n,.int .i64 ↑k,.bool true,.pointer (some { block:=bq,off:=off+k*6 }),.agg #[.int .u32 ↑r.id,.int .i64 r.head,.bool r.write,.int .u32 ↑r.sector,.int .i64 r.n,.slice D m d],X 0,X 1,X 2,X 3,X 4,X 5,X 6,X 7,X 8,X 9,X 10,X 11,X 12,u42,u43,u44,u45,u46,u47,u48,u49,u50,u51,u52,u53,u54,u55,u56,u57,u58,u59,u60,u61,u62,u63,u64,u65,u66,u67,u68,u69,u70,u71,undef,undef],[]⟩) (Outs B) (fun i v w=>match i with | 0=>(v=X1 14) | 1=>(v=.pointer (some ⟨gT,0,none⟩)) | 2=>(v=.int .u32 ((r.id:Nat):Int)) | 3=>(v=.int .u64 ((r.id:Nat):Int)) | 5=>(v=.pointer (some ⟨gT,1,none⟩)) | 6=>(v=.int .i64 (r.head)) | 7=>(v=.int .u64 ((So.w64 (r.head):Nat):Int)) | 9=>(v=.pointer (some ⟨gT,2,none⟩)) | 10=>(v=.bool (r.write)) | 11=>(v=.int .u64 ((So.one (r.write):Nat):Int)) | _=>True) (fun i=>([0,0,0,0,1,0,0,0,2,0,0,0,3]:List Nat).getD i 0) 3 (zmo B (X1 14) (L0) r m) _ (fun i=>if i=0 then u29 else if i=1 then u30 else if i=2 then u31 else if i=3 then u32 else if i=4 then u33 else if i=5 then u34 else if i=6 then u35 else if i=7 then u36 else if i=8 then u37 else if i=9 then u38 else if i=10 then u39 else if i=11 then u40 else if i=12 then u41 else undef) (fun u v w a b=>a.trans b) ?_ (by kernel_rfl) (by kernel_rfl) (Outs.drew _) ((hOT.keep (zr (Below.refl _ _)))) ?_ ?_
    ·
     intro i v w w' h hb
     match i,h with
     | 0,h=>exact h
     | 1,h=>exact h
     | 2,h=>exact h
     | 3,h=>exact h
     | 5,h=>exact h
     | 6,h=>exact h
     | 7,h=>exact h
     | 9,h=>exact h
     | 10,h=>exact h
     | 11,h=>exact h
     | 4,h=>exact trivial
     | 8,h=>exact trivial
     | 12,h=>exact trivial
     | _+13,h=>exact trivial
    ·
     refine cQ 0 ?_ ?_
     ·
      intro X w hR ψ χ K HK
      go_simp
      exact HK.out _ _ _ rfl (Outs.refl _ _) rfl iD
     refine cQ 1 ?_ ?_
     ·
      intro X w hR ψ χ K HK
      go_simp
      exact HK.out _ _ _ rfl (Outs.refl _ _) rfl iD
     refine cQ 2 ?_ ?_
     ·
      intro X w hR ψ χ K HK
      have e1:X 1=.pointer (some ⟨gT,0,none⟩):=(pS ψ 1 .data :)
      have c2:=(hR.blk hT (by decide) (by decide)).cell 0 rfl
      go_simp
      exact HK.out _ _ _ (by (try simp only [e1])<;>rfl) (Outs.refl _ _) rfl iD
     refine cQ 3 ?_ ?_
     ·
      intro X w hR ψ χ K HK
      have e2:X 2=.int IntKind.u32 ((r.id:Nat):Int):=(pS ψ 2 .data :)
      have q3:=zY (r.id) (by have:=hro;unfold So.Req.Ok at this;omega)
      go_simp
      exact HK.out _ _ _ (by (try simp only [e2])<;>rfl) (Outs.refl _ _) rfl iD
     refine cS 4 0 ?_ ?_
     ·
      intro X w hR ψ χ hst K HK
      have e0:X 0=X1 14:=(pS ψ 0 .data :)
      have e3:X 3=.int IntKind.u64 ((r.id:Nat):Int):=(pS ψ 3 .data :)
      go_simp
      go_at_call 50
      refine (zO (show OutV B (L0) (X1 14) _ from hst) (r.id) 4 (by have:=hro;unfold So.Req.Ok at this;omega) (by omega) (by omega) (by simp [Tl.row,Tl.le_length]<;>omega)).mono ?_
      rintro e w2 ⟨rfl,ho,hr⟩
      go_simp
      exact HK.out _ _ _ (by (try simp only [e0,e3])<;>rfl) hr trivial ⟨rfl,ho.cast (by simp [Tl.row])⟩
     refine cQ 5 ?_ ?_
     ·
      intro X w hR ψ χ K HK
      go_simp
      exact HK.out _ _ _ rfl (Outs.refl _ _) rfl iD
     refine cQ 6 ?_ ?_
     ·
      intro X w hR ψ χ K HK
      have e5:X 5=.pointer (some ⟨gT,1,none⟩):=(pS ψ 5 .data :)
      have c6:=(hR.blk hT (by decide) (by decide)).cell 1 rfl
      go_simp
      exact HK.out _ _ _ (by (try simp only [e5])<;>rfl) (Outs.refl _ _) rfl iD
     refine cQ 7 ?_ ?_
     ·
      intro X w hR ψ χ K HK
      have e6:X 6=.int IntKind.i64 (r.head):=(pS ψ 6 .data :)
      have q7:=zdO (r.head)
      go_simp
      exact HK.out _ _ _ (by (try simp only [e6])<;>rfl) (Outs.refl _ _) rfl iD
     refine cS 8 1 ?_ ?_
     ·
      intro X w hR ψ χ hst K HK
      have hst:X 4=(X1 14)∧OutV B (L0++Tl.row [(4,r.id)]) (X1 14) w:=hst
      have e7:X 7=.int IntKind.u64 ((So.w64 (r.head):Nat):Int):=(pS ψ 7 .data :)
      have eV:=hst.1
      go_simp
      go_at_call 50
      refine (zO hst.2 (So.w64 (r.head)) 2 (by exact w64_lt _) (by omega) (by omega) (by simp [Tl.row,Tl.le_length]<;>omega)).mono ?_
      rintro e w2 ⟨rfl,ho,hr⟩
      go_simp
      exact HK.out _ _ _ (by (try simp only [e7,eV])<;>rfl) hr trivial ⟨rfl,ho.cast (by simp [Tl.row])⟩
     refine cQ 9 ?_ ?_
     ·
      intro X w hR ψ χ K HK
      go_simp
      exact HK.out _ _ _ rfl (Outs.refl _ _) rfl iD
     refine cQ 10 ?_ ?_
     ·
      intro X w hR ψ χ K HK
      have e9:X 9=.pointer (some ⟨gT,2,none⟩):=(pS ψ 9 .data :)
      have c10:=(hR.blk hT (by decide) (by decide)).cell 2 rfl
      go_simp
      exact HK.out _ _ _ (by (try simp only [e9])<;>rfl) (Outs.refl _ _) rfl iD
     refine cQ 11 ?_ ?_
     ·
      intro X w hR ψ χ K HK
      have e10:X 10=.bool (r.write):=(pS ψ 10 .data :)
      go_simp
      go_at_call 131
      refine (zbK (r.write) _).mono ?_
      rintro e w2 ⟨rfl,rfl⟩
      go_simp
      exact HK.out _ _ _ (by (try simp only [e10])<;>rfl) (Outs.refl _ _) rfl iD
     refine cS 12 2 ?_ ?_
     ·
      intro X w hR ψ χ hst K HK
      have hst:X 8=(X1 14)∧OutV B (L0++Tl.row [(4,r.id),(2,So.w64 (r.head))]) (X1 14) w:=hst
      have e11:X 11=.int IntKind.u64 ((So.one (r.write):Nat):Int):=(pS ψ 11 .data :)
      have eV:=hst.1
      go_simp
      go_at_call 50
      refine (zO hst.2 (So.one (r.write)) 1 (by exact zdl _) (by omega) (by omega) (by simp [Tl.row,Tl.le_length]<;>omega)).mono ?_
      rintro e w2 ⟨rfl,ho,hr⟩
      go_simp
      exact HK.out _ _ _ (by (try simp only [e11,eV])<;>rfl) hr trivial ⟨rfl,ho.cast (by simp [Tl.row])⟩
     exact zi.nil
    ·
     intro X2 wE2 hR2 hall2 hS2
     obtain ⟨eX2,hO2⟩:X2 12=(X1 14)∧OutV B (L0++Tl.row [(4,r.id),(2,So.w64 (r.head)),(1,So.one (r.write))]) (X1 14) wE2:=hS2
     clear hall2 eX2
     have hT2:=hR2.blk hT (by decide) (by decide)
     have hBs3:=Nat.le_trans hBsT hR2.size
     have hl1:(L0++Tl.row [(4,r.id),(2,So.w64 (r.head)),(1,So.one (r.write))]).length≤2000001000:=by simp [Tl.row,Tl.le_length];omega
     go_wp2_with fail
     refine zc (by kernel_rfl) (fun X=>⟨#[.agg (So.blkL b { A:=some { block:=bq,off:=off },n:=n,c:=c0 }).toArray,.pointer (some ⟨g,0,none⟩),.slice none 0 0,X1 14,undef,.pointer (some ⟨gT,0,none⟩),undef,u7,X1 0,X1 1,X1 2,X1 3,X1 4,X1 5,X1 6,X1 7,X1 8,X1 9,X1 10,X1 11,X1 12,X1 13,.pointer (some ⟨g,24,none⟩),.slice (some { block:=bq,off:=off }) n c0,.int .i64 ↑n,.int .i64 ↑k,.bool true,.pointer (some { block:=bq,off:=off+k*6 }),.agg #[.int .u32 ↑r.id,.int .i64 r.head,.bool r.write,.int .u32 ↑r.sector,.int .i64 r.n,.slice D m d],X2 0,X2 1,X2 2,X2 3,X2 4,X2 5,X2 6,X2 7,X2 8,X2 9,X2 10,X2 11,X2 12,X 0,X 1,X 2,X 3,X 4,X 5,X 6,X 7,X 8,X 9,X 10,X 11,X 12,u55,u56,u57,u58,u59,u60,u61,u62,u63,u64,u65,u66,u67,u68,u69,u70,u71,undef,undef],[]⟩) (Outs B) (fun i v w=>match i with | 0=>(v=X1 14) | 1=>(v=.pointer (some ⟨gT,3,none⟩)) | 2=>(v=.int .u32 ((r.sector:Nat):Int)) | 3=>(v=.pointer (some ⟨gT,4,none⟩)) | 4=>(v=.int .i64 (r.n)) | 5=>(v=.int .u32 ((So.w32 (r.n):Nat):Int)) | 6=>(∃ s,v=.slice (some ⟨s,0,none⟩) 2 2∧Blk w s #[.int .u32 ((r.sector:Nat):Int),.int .u32 ((So.w32 (r.n):Nat):Int)] 22) | 8=>(v=.pointer (some ⟨gT,5,none⟩)) | 9=>(v=.slice D m d) | 10=>(v=.int .i64 ((m:Nat):Int)) | 11=>(v=.int .u64 ((m:Nat):Int)) | _=>True) (fun i=>([0,0,0,0,0,0,0,1,0,0,0,0,2]:List Nat).getD i 0) 2 (zfk B (X1 14) ((L0++Tl.row [(4,r.id),(2,So.w64 (r.head)),(1,So.one (r.write))])) r m) _ (fun i=>if i=0 then u42 else if i=1 then u43 else if i=2 then u44 else if i=3 then u45 else if i=4 then u46 else if i=5 then u47 else if i=6 then u48 else if i=7 then u49 else if i=8 then u50 else if i=9 then u51 else if i=10 then u52 else if i=11 then u53 else if i=12 then u54 else undef) (fun u v w a b=>a.trans b) ?_ (by kernel_rfl) (by kernel_rfl) (Outs.drew _) ((hO2.keep (zr (Below.refl _ _)))) ?_ ?_
     ·
      intro i v w w' h hb
      match i,h with
      | 0,h=>exact h
      | 1,h=>exact h
      | 2,h=>exact h
      | 3,h=>exact h
      | 4,h=>exact h
      | 5,h=>exact h
      | 6,h=>exact (let ⟨s,e,hb'⟩:=h;⟨s,e,hb.blk hb' (by decide) (by decide)⟩)
      | 8,h=>exact h
      | 9,h=>exact h
      | 10,h=>exact h
      | 11,h=>exact h
      | 7,h=>exact trivial
      | 12,h=>exact trivial
      | _+13,h=>exact trivial
     ·
      refine cQ 0 ?_ ?_
      ·
       intro X w hR ψ χ K HK
       go_simp
       exact HK.out _ _ _ rfl (Outs.refl _ _) rfl iD
      refine cQ 1 ?_ ?_
      ·
       intro X w hR ψ χ K HK
       go_simp
       exact HK.out _ _ _ rfl (Outs.refl _ _) rfl iD
      refine cQ 2 ?_ ?_
      ·
       intro X w hR ψ χ K HK
       have e1:X 1=.pointer (some ⟨gT,3,none⟩):=(pS ψ 1 .data :)
       have c2:=(hR.blk hT2 (by decide) (by decide)).cell 3 rfl
       go_simp
       exact HK.out _ _ _ (by (try simp only [e1])<;>rfl) (Outs.refl _ _) rfl iD
      refine cQ 3 ?_ ?_
      ·
       intro X w hR ψ χ K HK
       go_simp
       exact HK.out _ _ _ rfl (Outs.refl _ _) rfl iD
      refine cQ 4 ?_ ?_
      ·
       intro X w hR ψ χ K HK
       have e3:X 3=.pointer (some ⟨gT,4,none⟩):=(pS ψ 3 .data :)
       have c4:=(hR.blk hT2 (by decide) (by decide)).cell 4 rfl
       go_simp
       exact HK.out _ _ _ (by (try simp only [e3])<;>rfl) (Outs.refl _ _) rfl iD
      refine cQ 5 ?_ ?_
      ·
       intro X w hR ψ χ K HK
       have e4:X 4=.int IntKind.i64 (r.n):=(pS ψ 4 .data :)
       have q5:=zgn (r.n)
       go_simp
       exact HK.out _ _ _ (by (try simp only [e4])<;>rfl) (Outs.refl _ _) rfl iD
      refine cQ 6 ?_ ?_
      ·
       intro X w hR ψ χ K HK
       have e2:X 2=.int IntKind.u32 ((r.sector:Nat):Int):=(pS ψ 2 .data :)
       have e5:X 5=.int IntKind.u32 ((So.w32 (r.n):Nat):Int):=(pS ψ 5 .data :)
       go_simp
       exact HK.out _ _ _ (by (try simp only [e2,e5])<;>rfl) (Outs.alloc _ _) ⟨_,rfl,Blk.new _ _ _⟩ (fun k _ h=>zfl B (X1 14) ((L0++Tl.row [(4,r.id),(2,So.w64 (r.head)),(1,So.one (r.write))])) r m _ _ _ _ h (za (Below.refl _ _) _))
      refine cS 7 0 ?_ ?_
      ·
       intro X w hR ψ χ hst K HK
       have e0:X 0=X1 14:=(pS ψ 0 .data :)
       obtain ⟨s6,e6,hs6⟩:∃ s,X 6=Value.slice (some ⟨s,0,none⟩) 2 2∧Blk w s #[Value.int IntKind.u32 ((r.sector:Nat):Int),Value.int IntKind.u32 ((So.w32 (r.n):Nat):Int)] 22:=(pS ψ 6 .data :)
       go_simp
       go_at_call 47
       refine (za8 (show OutV B ((L0++Tl.row [(4,r.id),(2,So.w64 (r.head)),(1,So.one (r.write))])) (X1 14) _ from hst) s6 2 2 [r.sector,So.w32 (r.n)] hs6 rfl (by intro x hx;simp only [List.mem_cons,List.not_mem_nil,or_false] at hx;have:=hro;unfold So.Req.Ok at this;have:=w32_lt ((r.n));rcases hx with rfl | rfl  <;> omega) (by simp [Tl.row,Tl.le_length]<;>omega)).mono ?_
       rintro e w2 ⟨rfl,ho,hr⟩
       go_simp
       exact HK.out _ _ _ (by (try simp only [e0,e6])<;>rfl) hr trivial ⟨rfl,ho.cast (by simp [Tl.row])⟩
      refine cQ 8 ?_ ?_
      ·
       intro X w hR ψ χ K HK
       go_simp
       exact HK.out _ _ _ rfl (Outs.refl _ _) rfl iD
      refine cQ 9 ?_ ?_
      ·
       intro X w hR ψ χ K HK
       have e8:X 8=.pointer (some ⟨gT,5,none⟩):=(pS ψ 8 .data :)
       have c9:=(hR.blk hT2 (by decide) (by decide)).cell 5 rfl
       go_simp
       exact HK.out _ _ _ (by (try simp only [e8])<;>rfl) (Outs.refl _ _) rfl iD
      refine cQ 10 ?_ ?_
      ·
       intro X w hR ψ χ K HK
       have e9:X 9=.slice D m d:=(pS ψ 9 .data :)
       go_simp
       exact HK.out _ _ _ (by (try simp only [e9])<;>rfl) (Outs.refl _ _) rfl iD
      refine cQ 11 ?_ ?_
      ·
       intro X w hR ψ χ K HK
       have e10:X 10=.int IntKind.i64 ((m:Nat):Int):=(pS ψ 10 .data :)
       have q11:=zY (m) (by have:=hro;unfold So.Req.Ok at this;omega)
       go_simp
       exact HK.out _ _ _ (by (try simp only [e10])<;>rfl) (Outs.refl _ _) rfl iD
      refine cS 12 1 ?_ ?_
      ·
       intro X w hR ψ χ hst K HK
       have hst:X 7=(X1 14)∧OutV B ((L0++Tl.row [(4,r.id),(2,So.w64 (r.head)),(1,So.one (r.write))])++Tl.row [(4,r.sector),(4,So.w32 (r.n))]) (X1 14) w:=hst
       have e11:X 11=.int IntKind.u64 ((m:Nat):Int):=(pS ψ 11 .data :)
       have eV:=hst.1
       go_simp
       go_at_call 50
       refine (zO hst.2 (m) 2 (by have:=hro;unfold So.Req.Ok at this;omega) (by omega) (by omega) (by simp [Tl.row,Tl.le_length]<;>omega)).mono ?_
       rintro e w2 ⟨rfl,ho,hr⟩
       go_simp
       exact HK.out _ _ _ (by (try simp only [e11,eV])<;>rfl) hr trivial ⟨rfl,ho.cast (by simp [Tl.row])⟩
      exact zi.nil
     ·
      intro X3 wE3 hR3 hall3 hS3
      obtain ⟨eX3,hO3⟩:X3 12=(X1 14)∧OutV B ((L0++Tl.row [(4,r.id),(2,So.w64 (r.head)),(1,So.one (r.write))])++Tl.row [(4,r.sector),(4,So.w32 (r.n)),(2,m)]) (X1 14) wE3:=hS3
      clear hall3 eX3
      have hT3:=hR3.blk hT2 (by decide) (by decide)
      have hBs4:=Nat.le_trans hBs3 hR3.size
      have hr0:wE3.cell? ⟨gT,5,none⟩=some (.slice D m d):=hT3.cell 5 rfl
      have hmm2:m≤4398046511104:=hSg.max
      go_wp2_with fail
      go_loopw [7,58] (fun _ i wr=>∃ j:Nat,j≤m∧i=.int .i64 j∧OutV B (((L0++Tl.row [(4,r.id),(2,So.w64 (r.head)),(1,So.one (r.write))])++Tl.row [(4,r.sector),(4,So.w32 (r.n)),(2,m)])++(r.l.take j).flatMap So.sSeg) (X1 14) wr∧Outs B wE3 wr) (fun _ i _=>m-(intOf i).toNat)
      case atStart=>exact ⟨0,Nat.zero_le _,rfl,by simpa using hO3,Outs.refl _ _⟩
      case round =>
       obtain ⟨j,hj,rfl,hOz,hRz⟩:=hrel
       have hTz:=hRz.blk hT3 (by decide) (by decide)
       have hBsz:=Nat.le_trans hBs4 hRz.size
       have hbz:Below w.heap.size w wr:=hbel.trans (((hR1.trans (hR.trans (hRT.trans (hR2.trans (hR3.trans hRz))))).below hBs).mono hgB)
       have hSz:=hSg.keep hbz
       by_cases hjm:j<m
       ·
        obtain ⟨x,bs,os,hxj,rfl,hx0,hx1,hx2⟩:=hSz.at_ j hjm
        have hxo:=(hro.2.2 x (List.mem_of_getElem? hxj))
        unfold So.Seg.Ok at hxo
        have hsn2:=qH (zdR So.sSeg r.l j x hxj)
        have hft2:=zf2 So.sSeg r.l j
        have hl2:(((L0++Tl.row [(4,r.id),(2,So.w64 (r.head)),(1,So.one (r.write))])++Tl.row [(4,r.sector),(4,So.w32 (r.n)),(2,m)])++(r.l.take j).flatMap So.sSeg).length≤2000002000:=by
         rw [List.length_append,List.length_append,List.length_append]
         simp only [Tl.row,Tl.le_length,List.length_append,List.length_nil]
         omega
        clear hft2
        generalize hLL2:((L0++Tl.row [(4,r.id),(2,So.w64 (r.head)),(1,So.one (r.write))])++Tl.row [(4,r.sector),(4,So.w32 (r.n)),(2,m)])++(r.l.take j).flatMap So.sSeg=L2 at hOz hl2
        have HLL2:=qH hLL2
        clear hLL2
        have hjn:(j:Int)<(m:Int):=by omega
        have hx3:=zgn x.n
        have hx4:=w32_lt x.n
        go_upto_region 10 with (fail)
        have hU:=Blk.new wr (So.segL x).toArray 288
        have hRU:=Outs.alloc (B:=B) wr (.cells (So.segL x).toArray 288)
        have hOU:=hOz.keep (za (Below.refl wr.heap.size wr) (.cells (So.segL x).toArray 288))
        generalize hWU:wr.alloc (.cells (So.segL x).toArray 288)=WU at hU hRU hOU
        unfold So.segL at hWU
        rw [hWU]
        clear hWU hx0 hx1 hx2
        generalize wr.heap.size=gU at hU ⊢
        have hy0:WU.cell? ⟨gU,0,none⟩=some (.int .u32 (x.at_:Int)):=hU.cell 0 rfl
        have hy1:WU.cell? ⟨gU,1,none⟩=some (.int .i64 x.n):=hU.cell 1 rfl
        go_wp2_with fail
        have hS2:=Blk.new WU #[.int .u32 (x.at_:Int),.int .u32 ((So.w32 x.n:Nat):Int)] 22
        have hRS:=Outs.alloc (B:=B) WU (.cells #[.int .u32 (x.at_:Int),.int .u32 ((So.w32 x.n:Nat):Int)] 22)
        have hOS:=hOU.keep (za (Below.refl WU.heap.size WU) (.cells #[.int .u32 (x.at_:Int),.int .u32 ((So.w32 x.n:Nat):Int)] 22))
        refine (za8 hOS WU.heap.size 2 2 [x.at_,So.w32 x.n] hS2 rfl (by intro y hy;simp only [List.mem_cons,List.not_mem_nil,or_false] at hy;rcases hy with rfl | rfl<;>omega) (by simp;omega)).mono ?_
        rintro e w9 ⟨rfl,ho9,hr9⟩
        go_wp2_with fail
        go_roundw
        case rel=>exact ⟨j+1,by omega,by go_num,by rw [hsn2.out,←List.append_assoc,HLL2.out];exact ho9.cast (by simp [So.sSeg]),hRz.trans (hRU.trans (hRS.trans hr9))⟩
        case measure=>simp [intOf];omega
       ·
        obtain rfl:m=j:=by omega
        clear hjm
        rw [List.take_of_length_le (by rw [Hml.out];exact Nat.le_refl _)] at hOz
        go_wp2_with fail
        go_roundw
        case rel=>exact ⟨k+1,by omega,by go_num,by rw [hsn.out,←List.append_assoc,HLL.out];exact hOz.cast (by simp [So.sReq,Tl.row,Hml.out]),hR.trans (hRT.trans (hR2.trans (hR3.trans hRz)))⟩
        case measure=>simp [intOf];omega
   ·
    obtain rfl:n=k:=by omega
    clear hlt
    have Hout:Hid (Tl.row [(1,So.one (b.bell)),(4,b.next),(1,n)]++(b.ins.take n).flatMap So.sReq=So.sDisk b):=qH (by rw [List.take_of_length_le (by omega)];unfold So.sDisk;rw [hlq])
    generalize Tl.row [(1,So.one (b.bell)),(4,b.next),(1,n)]++(b.ins.take n).flatMap So.sReq=L at hO Hout
    go_wp2_with fail
    refine (zai hO).mono ?_
    rintro e w3 ⟨A,c,rfl,hbs,hr2⟩
    go_wp2_with fail
    go_ret
    have hO9:=hbel.trans (((hR1.trans (hR.trans hr2)).below hBs).mono hgB)
    rw [Hout.out] at hbs
    exact ⟨A,c,by rw [←Hout.out];rfl,hbs,hO9⟩
end Go.Proofs.YtdffbihilhkkjaaGreatDoor
