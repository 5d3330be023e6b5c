import Derived.Test.YtdffbihilhkkjaaGreatDoorZ8
namespace Go.Proofs.YtdffbihilhkkjaaGreatDoor
open Go.RowKit
set_option linter.unusedVariables false
set_option linter.unusedSimpArgs false
set_option maxRecDepth 100000
set_option maxHeartbeats 8000000
theorem zoO (p:So.Plic) (k:Nat) (hk:k<7):(So.plicL p).toArray[0+1+k]?=some (.int .u32 ((p.pri (k+1):Nat):Int)):=by
 rw [List.getElem?_toArray]
 unfold So.plicL
 rw [show 0+1+k=k+1 by omega,List.getElem?_append_left (by simp;omega)]
 simp [List.getElem?_range,show k+1<8 by omega]
def zcw (B:Nat) (v0:Value) (l0:List Nat) (p:So.Plic):Nat→(Nat→Value)→World→Prop:=fun k X w=>match k with
 | 0=>OutV B l0 v0 w
 | 1=>X 4=v0∧OutV B (l0++Tl.row [(4,p.enable)]) v0 w
 | 2=>X 8=v0∧OutV B (l0++Tl.row [(4,p.enable),(1,p.threshold)]) v0 w
 | 3=>X 14=v0∧OutV B (l0++Tl.row [(4,p.enable),(1,p.threshold),(4,p.pending),(4,p.busy)]) v0 w
 | 4=>∃ A k,X 15=Value.slice A (l0++Tl.row [(4,p.enable),(1,p.threshold),(4,p.pending),(4,p.busy)]).length k∧Bs w A (l0++Tl.row [(4,p.enable),(1,p.threshold),(4,p.pending),(4,p.busy)]).length k (l0++Tl.row [(4,p.enable),(1,p.threshold),(4,p.pending),(4,p.busy)])
 | 5=>∃ A k,X 16=Value.slice A (l0++Tl.row [(4,p.enable),(1,p.threshold),(4,p.pending),(4,p.busy)]).length k∧Bs w A (l0++Tl.row [(4,p.enable),(1,p.threshold),(4,p.pending),(4,p.busy)]).length k (l0++Tl.row [(4,p.enable),(1,p.threshold),(4,p.pending),(4,p.busy)])
 | _=>False
theorem zbI (B:Nat) (v0:Value) (l0:List Nat) (p:So.Plic):∀ k X w w',zcw B v0 l0 p k X w→Below w.heap.size w w'→zcw B v0 l0 p k X w':=by
 intro k X w w' h hb
 match k,h with
 | 0,h=>exact OutV.keep h hb
 | 1,h=>exact ⟨h.1,OutV.keep h.2 hb⟩
 | 2,h=>exact ⟨h.1,OutV.keep h.2 hb⟩
 | 3,h=>exact ⟨h.1,OutV.keep h.2 hb⟩
 | 4,h=>exact (let ⟨A,c,e,hq⟩:=h;⟨A,c,e,hq.keep hb⟩)
 | 5,h=>exact (let ⟨A,c,e,hq⟩:=h;⟨A,c,e,hq.keep hb⟩)
 | _+6,h=>exact h.elim
theorem zg4 (p:So.Plic) (hok:p.Ok) (w:World):Calls Tryz.prog 55 #[.agg (So.plicL p).toArray] w (MkB w (So.sSources p)):=by
 go_enter Tryz.func55,Tryz.ntmps55
 go_wp2_with fail
 have hB:=Blk.new w (So.plicL p).toArray 76
 have hbel:=za (Below.refl w.heap.size w) (.cells (So.plicL p).toArray 76)
 generalize w.alloc (.cells (So.plicL p).toArray 76)=W1 at hB hbel ⊢
 have hbB:=hbel.size
 obtain ⟨g,hg⟩:∃ g,g=w.heap.size:=⟨_,rfl⟩
 rw [←hg] at hB ⊢
 clear hg
 obtain ⟨B,hBB⟩:∃ B,B=w.heap.size:=⟨_,rfl⟩
 have hBs:B≤W1.heap.size:=by omega
 have hgB:w.heap.size≤B:=by omega
 clear hBB
 refine (zay B _ hBs).mono ?_
 rintro e w2 ⟨vO,rfl,hO0,hR0⟩
 have hx:=hok.1
 have hB0:=hR0.blk hB (by decide) (by decide)
 have hBs0:=Nat.le_trans hBs hR0.size
 clear hB
 go_wp2_with fail
 go_loopw [5,10] (fun _ i wr=>∃ k:Nat,k≤7∧i=.int .i64 k∧OutV B (Tl.row ((List.range k).map fun i=>(1,p.pri (i+1)))) vO wr∧Outs B w2 wr) (fun _ i _=>7-(intOf i).toNat)
 case atStart=>exact ⟨0,Nat.zero_le _,rfl,by simpa [Tl.row] using hO0,Outs.refl _ _⟩
 case round =>
  obtain ⟨k,hk,rfl,hO,hR⟩:=hrel
  have hBr:=hR.blk hB0 (by decide) (by decide)
  have hBs2:=Nat.le_trans hBs0 hR.size
  by_cases hlt:k<7
  ·
   have hc:=hBr.cell (0+1+k) (zoO p k hlt)
   rw [Nat.zero_add] at hc
   have hln:(Tl.row ((List.range k).map fun i=>(1,p.pri (i+1)))).length+1≤140737488355328:=by
    simp [za7];omega
   have hsn:Tl.row ((List.range (k+1)).map fun i=>(1,p.pri (i+1)))=Tl.row ((List.range k).map fun i=>(1,p.pri (i+1)))++Tl.le 1 (p.pri (k+1)):=by
    rw [List.range_succ,List.map_append,List.map_cons,List.map_nil,zdB]
   have Hln:=qH hln
   have Hsn:=qH hsn
   have hx1:=hx (k+1)
   generalize p.pri (k+1)=x at hc hx1 Hsn
   clear hln hsn
   have hq:=zY x (by omega)
   have hlk:(k:Int)<7:=by omega
   go_wp2_with (go_at_call 50;refine (zO hO x 1 (by omega) (by omega) (by omega) Hln.out).mono ?_;rintro e w2 ⟨rfl,ho,hr⟩)
   go_roundw
   case rel=>exact ⟨k+1,by omega,by go_num,by rw [Hsn.out];exact ho,hR.trans hr⟩
   case measure=>simp [intOf];omega
  ·
   have hk':k=7:=by omega
   subst hk'
   clear hlt
   have hl0:(Tl.row ((List.range 7).map fun i=>(1,p.pri (i+1)))).length≤1000:=by simp [za7]
   go_wp2_with fail
   refine zc (by kernel_rfl) (fun X=>⟨#[.agg (So.plicL p).toArray,.pointer (some ⟨g,0,none⟩),X 16,vO,undef,u5,vO,.pointer (some ⟨g,0,none⟩),.slice (some { block:=g,off:=1 }) 7 7,.int .i64 7,.int .i64 ↑7,.bool false,u12,u13,u14,u15,u16,u17,u18,X 0,X 1,X 2,X 3,X 4,X 5,X 6,X 7,X 8,X 9,X 10,X 11,X 12,X 13,X 14,X 15],[]⟩) (Outs B) (fun i v w=>match i with | 0=>(v=vO) | 1=>(v=.pointer (some ⟨g,8,none⟩)) | 2=>(v=.int .u32 ((p.enable:Nat):Int)) | 3=>(∃ s,v=.slice (some ⟨s,0,none⟩) 1 1∧Blk w s #[.int .u32 ((p.enable:Nat):Int)] 22) | 5=>(v=.pointer (some ⟨g,9,none⟩)) | 6=>(v=.int .u32 ((p.threshold:Nat):Int)) | 7=>(v=.int .u64 ((p.threshold:Nat):Int)) | 9=>(v=.pointer (some ⟨g,10,none⟩)) | 10=>(v=.int .u32 ((p.pending:Nat):Int)) | 11=>(v=.pointer (some ⟨g,11,none⟩)) | 12=>(v=.int .u32 ((p.busy:Nat):Int)) | 13=>(∃ s,v=.slice (some ⟨s,0,none⟩) 2 2∧Blk w s #[.int .u32 ((p.pending:Nat):Int),.int .u32 ((p.busy:Nat):Int)] 22) | _=>True) (fun i=>([0,0,0,0,1,0,0,0,2,0,0,0,0,0,3,4,5]:List Nat).getD i 0) 5 (zcw B (vO) (Tl.row ((List.range 7).map fun i=>(1,p.pri (i+1)))) p) _ (fun i=>if i=16 then .slice none 0 0 else undef) (fun u v w a b=>a.trans b) ?_ (by kernel_rfl) (by kernel_rfl) (Outs.drew _) ((hO.keep (zr (Below.refl _ _)))) ?_ ?_
   ·
    intro i v w w' h hb
    match i,h with
    | 0,h=>exact h
    | 1,h=>exact h
    | 2,h=>exact h
    | 3,h=>exact (let ⟨s,e,hb'⟩:=h;⟨s,e,hb.blk hb' (by decide) (by decide)⟩)
    | 5,h=>exact h
    | 6,h=>exact h
    | 7,h=>exact h
    | 9,h=>exact h
    | 10,h=>exact h
    | 11,h=>exact h
    | 12,h=>exact h
    | 13,h=>exact (let ⟨s,e,hb'⟩:=h;⟨s,e,hb.blk hb' (by decide) (by decide)⟩)
    | 4,h=>exact trivial
    | 8,h=>exact trivial
    | 14,h=>exact trivial
    | 15,h=>exact trivial
    | 16,h=>exact trivial
    | _+17,h=>exact trivial
   ·
    refine cQ 0 ?_ ?_
    ·
     intro X w hR ψ χ K HK
     go_simp
     exact HK.out _ _ _ rfl (Outs.refl _ _) rfl iD
    refine cQ 1 ?_ ?_
    ·
     intro X w hR ψ χ K HK
     go_simp
     exact HK.out _ _ _ rfl (Outs.refl _ _) rfl iD
    refine cQ 2 ?_ ?_
    ·
     intro X w hR ψ χ K HK
     have e1:X 1=.pointer (some ⟨g,8,none⟩):=(pS ψ 1 .data :)
     have c2:=(hR.blk hBr (by decide) (by decide)).cell 8 rfl
     go_simp
     exact HK.out _ _ _ (by (try simp only [e1]);rfl) (Outs.refl _ _) rfl iD
    refine cQ 3 ?_ ?_
    ·
     intro X w hR ψ χ K HK
     have e2:X 2=.int IntKind.u32 ((p.enable:Nat):Int):=(pS ψ 2 .data :)
     go_simp
     exact HK.out _ _ _ (by (try simp only [e2]);rfl) (Outs.alloc _ _) ⟨_,rfl,Blk.new _ _ _⟩ (fun k _ h=>zbI B (vO) (Tl.row ((List.range 7).map fun i=>(1,p.pri (i+1)))) p _ _ _ _ h (za (Below.refl _ _) _))
    refine cS 4 0 ?_ ?_
    ·
     intro X w hR ψ χ hst K HK
     have e0:X 0=vO:=(pS ψ 0 .data :)
     obtain ⟨s3,e3,hs3⟩:∃ s,X 3=Value.slice (some ⟨s,0,none⟩) 1 1∧Blk w s #[Value.int IntKind.u32 ((p.enable:Nat):Int)] 22:=(pS ψ 3 .data :)
     go_simp
     go_at_call 47
     refine (za8 (show OutV B (Tl.row ((List.range 7).map fun i=>(1,p.pri (i+1)))) (vO) _ from hst) s3 1 1 [p.enable] hs3 rfl (by intro x hx;simp only [List.mem_cons,List.not_mem_nil,or_false] at hx;have:=hok;unfold So.Plic.Ok at this;rcases hx with rfl  <;> omega) (by simp [Tl.row,Tl.le_length]<;>omega)).mono ?_
     rintro e w2 ⟨rfl,ho,hr⟩
     go_simp
     exact HK.out _ _ _ (by (try simp only [e0,e3]);rfl) hr trivial ⟨rfl,ho.cast (by simp [Tl.row])⟩
    refine cQ 5 ?_ ?_
    ·
     intro X w hR ψ χ K HK
     go_simp
     exact HK.out _ _ _ rfl (Outs.refl _ _) rfl iD
    refine cQ 6 ?_ ?_
    ·
     intro X w hR ψ χ K HK
     have e5:X 5=.pointer (some ⟨g,9,none⟩):=(pS ψ 5 .data :)
     have c6:=(hR.blk hBr (by decide) (by decide)).cell 9 rfl
     go_simp
     exact HK.out _ _ _ (by (try simp only [e5]);rfl) (Outs.refl _ _) rfl iD
    refine cQ 7 ?_ ?_
    ·
     intro X w hR ψ χ K HK
     have e6:X 6=.int IntKind.u32 ((p.threshold:Nat):Int):=(pS ψ 6 .data :)
     have q7:=zY (p.threshold) (by have:=hok;unfold So.Plic.Ok at this;omega)
     go_simp
     exact HK.out _ _ _ (by (try simp only [e6]);rfl) (Outs.refl _ _) rfl iD
    refine cS 8 1 ?_ ?_
    ·
     intro X w hR ψ χ hst K HK
     have hst:X 4=(vO)∧OutV B (Tl.row ((List.range 7).map fun i=>(1,p.pri (i+1)))++Tl.row [(4,p.enable)]) (vO) w:=hst
     have e7:X 7=.int IntKind.u64 ((p.threshold:Nat):Int):=(pS ψ 7 .data :)
     have eV:=hst.1
     go_simp
     go_at_call 50
     refine (zO hst.2 (p.threshold) 1 (by have:=hok;unfold So.Plic.Ok at this;omega) (by omega) (by omega) (by simp [Tl.row,Tl.le_length]<;>omega)).mono ?_
     rintro e w2 ⟨rfl,ho,hr⟩
     go_simp
     exact HK.out _ _ _ (by (try simp only [e7,eV]);rfl) hr trivial ⟨rfl,ho.cast (by simp [Tl.row])⟩
    refine cQ 9 ?_ ?_
    ·
     intro X w hR ψ χ K HK
     go_simp
     exact HK.out _ _ _ rfl (Outs.refl _ _) rfl iD
    refine cQ 10 ?_ ?_
    ·
     intro X w hR ψ χ K HK
     have e9:X 9=.pointer (some ⟨g,10,none⟩):=(pS ψ 9 .data :)
     have c10:=(hR.blk hBr (by decide) (by decide)).cell 10 rfl
     go_simp
     exact HK.out _ _ _ (by (try simp only [e9]);rfl) (Outs.refl _ _) rfl iD
    refine cQ 11 ?_ ?_
    ·
     intro X w hR ψ χ K HK
     go_simp
     exact HK.out _ _ _ rfl (Outs.refl _ _) rfl iD
    refine cQ 12 ?_ ?_
    ·
     intro X w hR ψ χ K HK
     have e11:X 11=.pointer (some ⟨g,11,none⟩):=(pS ψ 11 .data :)
     have c12:=(hR.blk hBr (by decide) (by decide)).cell 11 rfl
     go_simp
     exact HK.out _ _ _ (by (try simp only [e11]);rfl) (Outs.refl _ _) rfl iD
    refine cQ 13 ?_ ?_
    ·
     intro X w hR ψ χ K HK
     have e10:X 10=.int IntKind.u32 ((p.pending:Nat):Int):=(pS ψ 10 .data :)
     have e12:X 12=.int IntKind.u32 ((p.busy:Nat):Int):=(pS ψ 12 .data :)
     go_simp
     exact HK.out _ _ _ (by (try simp only [e10,e12]);rfl) (Outs.alloc _ _) ⟨_,rfl,Blk.new _ _ _⟩ (fun k _ h=>zbI B (vO) (Tl.row ((List.range 7).map fun i=>(1,p.pri (i+1)))) p _ _ _ _ h (za (Below.refl _ _) _))
    refine cS 14 2 ?_ ?_
    ·
     intro X w hR ψ χ hst K HK
     have hst:X 8=(vO)∧OutV B (Tl.row ((List.range 7).map fun i=>(1,p.pri (i+1)))++Tl.row [(4,p.enable),(1,p.threshold)]) (vO) w:=hst
     obtain ⟨s13,e13,hs13⟩:∃ s,X 13=Value.slice (some ⟨s,0,none⟩) 2 2∧Blk w s #[Value.int IntKind.u32 ((p.pending:Nat):Int),Value.int IntKind.u32 ((p.busy:Nat):Int)] 22:=(pS ψ 13 .data :)
     have eV:=hst.1
     go_simp
     go_at_call 47
     refine (za8 hst.2 s13 2 2 [p.pending,p.busy] hs13 rfl (by intro x hx;simp only [List.mem_cons,List.not_mem_nil,or_false] at hx;have:=hok;unfold So.Plic.Ok at this;rcases hx with rfl | rfl  <;> omega) (by simp [Tl.row,Tl.le_length]<;>omega)).mono ?_
     rintro e w2 ⟨rfl,ho,hr⟩
     go_simp
     exact HK.out _ _ _ (by (try simp only [e13,eV]);rfl) hr trivial ⟨rfl,ho.cast (by simp [Tl.row])⟩
    refine cS 15 3 ?_ ?_
    ·
     intro X w hR ψ χ hst K HK
     have hst:X 14=(vO)∧OutV B (Tl.row ((List.range 7).map fun i=>(1,p.pri (i+1)))++Tl.row [(4,p.enable),(1,p.threshold),(4,p.pending),(4,p.busy)]) (vO) w:=hst
     have eV:=hst.1
     go_simp
     go_at_call 49
     refine (zai hst.2).mono ?_
     rintro e w2 ⟨A,k,rfl,hbs,hr⟩
     go_simp
     exact HK.out _ _ _ (by (try simp only [eV]);rfl) hr trivial ⟨A,k,rfl,hbs⟩
    refine cS 16 4 ?_ ?_
    ·
     intro X w hR ψ χ hst K HK
     have hst:∃ A k,X 15=Value.slice A (Tl.row ((List.range 7).map fun i=>(1,p.pri (i+1)))++Tl.row [(4,p.enable),(1,p.threshold),(4,p.pending),(4,p.busy)]).length k∧Bs w A (Tl.row ((List.range 7).map fun i=>(1,p.pri (i+1)))++Tl.row [(4,p.enable),(1,p.threshold),(4,p.pending),(4,p.busy)]).length k (Tl.row ((List.range 7).map fun i=>(1,p.pri (i+1)))++Tl.row [(4,p.enable),(1,p.threshold),(4,p.pending),(4,p.busy)]):=hst
     obtain ⟨A,k,e15,hbs⟩:=hst
     go_simp
     exact HK.out _ _ _ (by (try simp only [e15]);rfl) (Outs.refl _ _) trivial ⟨A,k,rfl,hbs⟩
    exact zi.nil
   ·
    intro X1 wE1 hR1 hall1 hS1
    obtain ⟨A,k,eL,hbs⟩:∃ A k,X1 16=Value.slice A (Tl.row ((List.range 7).map fun i=>(1,p.pri (i+1)))++Tl.row [(4,p.enable),(1,p.threshold),(4,p.pending),(4,p.busy)]).length k∧Bs wE1 A (Tl.row ((List.range 7).map fun i=>(1,p.pri (i+1)))++Tl.row [(4,p.enable),(1,p.threshold),(4,p.pending),(4,p.busy)]).length k (Tl.row ((List.range 7).map fun i=>(1,p.pri (i+1)))++Tl.row [(4,p.enable),(1,p.threshold),(4,p.pending),(4,p.busy)]):=hS1
    clear hall1
    go_wp2_with fail
    go_ret
    have hO:=hbel.trans (((hR0.trans (hR.trans hR1)).below hBs).mono hgB)
    have eO:So.sSources p=Tl.row ((List.range 7).map fun i=>(1,p.pri (i+1)))++Tl.row [(4,p.enable),(1,p.threshold),(4,p.pending),(4,p.busy)]:=by simp [So.sSources]
    exact ⟨A,k,by rw [eO];first | rw [eL];rfl | rw [←eL];rfl,by rw [eO];exact hbs,hO⟩
def qs (p:So.Virt) (k:Nat):List So.Que:=[p.q0,p.q1].take k
theorem zoP {p:So.Virt} {w:World} {g:Nat} {T:TypeId} (h:Blk w g (So.virtL p).toArray T):w.rangeAt g 7 (So.queL p.q0++So.queL p.q1):=fun j v hv=>by
 refine h.cell (7+j) ?_
 rw [List.getElem?_toArray]
 unfold So.virtL
 rw [List.getElem?_append_right (by simp)]
 simpa using hv
theorem zoQ (p:So.Virt) (k:Nat) (hk:k<2):∃ q,((k=0∧q=p.q0)∨(k=1∧q=p.q1))∧∀ w,(Instr.index 84 (.agg (So.queL p.q0++So.queL p.q1).toArray) (.int .i64 k)).run Tryz.prog w=.ok (.agg #[.bool q.ready,.int .i64 q.size,.int .u32 (q.desc:Int),.int .u32 (q.avail:Int),.int .u32 (q.used:Int),.int .u16 (q.last:Int),.int .u16 (q.put:Int)]) w:=by
 match k,hk with
 | 0,_=>exact ⟨p.q0,.inl ⟨rfl,rfl⟩,fun w=>by kernel_rfl⟩
 | 1,_=>exact ⟨p.q1,.inr ⟨rfl,rfl⟩,fun w=>by kernel_rfl⟩
def zcx (B:Nat) (v0:Value) (l0:List Nat) (p:So.Virt):Nat→(Nat→Value)→World→Prop:=fun k X w=>match k with
 | 0=>True
 | 1=>OutV B ([]:List Nat) (X 0) w
 | 2=>OutV B (Tl.row [(4,p.status),(4,p.feat),(4,p.drvsel),(4,p.sel),(4,p.irq),(4,p.drv0),(4,p.drv1)]) (X 18) w
 | 3=>OutV B (Tl.row [(4,p.status),(4,p.feat),(4,p.drvsel),(4,p.sel),(4,p.irq),(4,p.drv0),(4,p.drv1)]) (X 19) w
 | _=>False
theorem zdw (B:Nat) (v0:Value) (l0:List Nat) (p:So.Virt):∀ k X w w',zcx B v0 l0 p k X w→Below w.heap.size w w'→zcx B v0 l0 p k X w':=by
 intro k X w w' h hb
 match k,h with
 | 0,h=>exact trivial
 | 1,h=>exact OutV.keep h hb
 | 2,h=>exact OutV.keep h hb
 | 3,h=>exact OutV.keep h hb
 | _+4,h=>exact h.elim
def zcy (B:Nat) (v0:Value) (l0:List Nat) (q:So.Que):Nat→(Nat→Value)→World→Prop:=fun k X w=>match k with
 | 0=>OutV B l0 v0 w
 | 1=>X 4=v0∧OutV B (l0++Tl.row [(1,So.one (q.ready))]) v0 w
 | 2=>X 9=v0∧OutV B (l0++Tl.row [(1,So.one (q.ready)),(2,So.w64 (q.size))]) v0 w
 | 3=>X 20=v0∧OutV B (l0++Tl.row [(1,So.one (q.ready)),(2,So.w64 (q.size)),(4,q.desc),(4,q.avail),(4,q.used)]) v0 w
 | _=>False
theorem zdx (B:Nat) (v0:Value) (l0:List Nat) (q:So.Que):∀ k X w w',zcy B v0 l0 q k X w→Below w.heap.size w w'→zcy B v0 l0 q k X w':=by
 intro k X w w' h hb
 match k,h with
 | 0,h=>exact OutV.keep h hb
 | 1,h=>exact ⟨h.1,OutV.keep h.2 hb⟩
 | 2,h=>exact ⟨h.1,OutV.keep h.2 hb⟩
 | 3,h=>exact ⟨h.1,OutV.keep h.2 hb⟩
 | _+4,h=>exact h.elim
def zg5 (B:Nat) (v0:Value) (l0:List Nat) (q:So.Que):Nat→(Nat→Value)→World→Prop:=fun k X w=>match k with
 | 0=>OutV B l0 v0 w
 | 1=>X 5=v0∧OutV B (l0++Tl.row [(2,q.last)]) v0 w
 | 2=>X 10=v0∧OutV B (l0++Tl.row [(2,q.last),(2,q.put)]) v0 w
 | _=>False
theorem zen (p:So.Virt) (hok:p.Ok) (w:World):Calls Tryz.prog 58 #[.agg (So.virtL p).toArray] w (MkB w (So.sSetting p)):=by
 go_enter Tryz.func58,Tryz.ntmps58
 go_wp2_with fail
 have hB:=Blk.new w (So.virtL p).toArray 86
 have hbel:=za (Below.refl w.heap.size w) (.cells (So.virtL p).toArray 86)
 generalize w.alloc (.cells (So.virtL p).toArray 86)=W1 at hB hbel ⊢
 have hbB:=hbel.size
 obtain ⟨g,hg⟩:∃ g,g=w.heap.size:=⟨_,rfl⟩
 rw [←hg] at hB ⊢
 clear hg
 obtain ⟨B,hBB⟩:∃ B,B=w.heap.size:=⟨_,rfl⟩
 have hBs:B≤W1.heap.size:=by omega
 have hgB:w.heap.size≤B:=by omega
 clear hBB
 refine zc (by kernel_rfl) (fun X=>⟨#[.agg (So.virtL p).toArray,.pointer (some ⟨g,0,none⟩),.slice none 0 0,X 19,undef,undef,X 0,X 1,X 2,X 3,X 4,X 5,X 6,X 7,X 8,X 9,X 10,X 11,X 12,X 13,X 14,X 15,X 16,X 17,X 18,undef,undef,undef,undef,undef,undef,undef,undef,undef,undef,undef,undef,undef,undef,undef,undef,undef,undef,undef,undef,undef,undef,undef,undef,undef,undef,undef,undef,undef,undef,undef,undef,undef,undef,undef,undef,undef,undef,undef,undef],[]⟩) (Outs B) (fun i v w=>match i with | 1=>(v=.pointer (some ⟨g,0,none⟩)) | 2=>(v=.int .u32 ((p.status:Nat):Int)) | 3=>(v=.pointer (some ⟨g,1,none⟩)) | 4=>(v=.int .u32 ((p.feat:Nat):Int)) | 5=>(v=.pointer (some ⟨g,2,none⟩)) | 6=>(v=.int .u32 ((p.drvsel:Nat):Int)) | 7=>(v=.pointer (some ⟨g,3,none⟩)) | 8=>(v=.int .u32 ((p.sel:Nat):Int)) | 9=>(v=.pointer (some ⟨g,4,none⟩)) | 10=>(v=.int .u32 ((p.irq:Nat):Int)) | 11=>(v=.pointer (some ⟨g,5,none⟩)) | 12=>(v=.pointer (some ⟨g,5,none⟩)) | 13=>(v=.int .u32 ((p.drv0:Nat):Int)) | 14=>(v=.pointer (some ⟨g,5,none⟩)) | 15=>(v=.pointer (some ⟨g,6,none⟩)) | 16=>(v=.int .u32 ((p.drv1:Nat):Int)) | 17=>(∃ s,v=.slice (some ⟨s,0,none⟩) 7 7∧Blk w s #[.int .u32 ((p.status:Nat):Int),.int .u32 ((p.feat:Nat):Int),.int .u32 ((p.drvsel:Nat):Int),.int .u32 ((p.sel:Nat):Int),.int .u32 ((p.irq:Nat):Int),.int .u32 ((p.drv0:Nat):Int),.int .u32 ((p.drv1:Nat):Int)] 22) | _=>True) (fun i=>([1,0,0,0,0,0,0,0,0,0,0,0,0,0,0,0,0,0,2,3]:List Nat).getD i 0) 3 (zcx B (undef) ([]) p) _ (fun _=>undef) (fun u v w a b=>a.trans b) ?_ (by kernel_rfl) (by kernel_rfl) (Outs.drew _) (trivial) ?_ ?_
 ·
  intro i v w w' h hb
  match i,h with
  | 1,h=>exact h
  | 2,h=>exact h
  | 3,h=>exact h
  | 4,h=>exact h
  | 5,h=>exact h
  | 6,h=>exact h
  | 7,h=>exact h
  | 8,h=>exact h
  | 9,h=>exact h
  | 10,h=>exact h
  | 11,h=>exact h
  | 12,h=>exact h
  | 13,h=>exact h
  | 14,h=>exact h
  | 15,h=>exact h
  | 16,h=>exact h
  | 17,h=>exact (let ⟨s,e,hb'⟩:=h;⟨s,e,hb.blk hb' (by decide) (by decide)⟩)
  | 0,h=>exact trivial
  | 18,h=>exact trivial
  | 19,h=>exact trivial
  | _+20,h=>exact trivial
 ·
  refine cS 0 0 ?_ ?_
  ·
   intro X w hR ψ χ hst K HK
   go_simp
   go_at_call 48
   refine (zay B _ (Nat.le_trans hBs hR.size)).mono ?_
   rintro e w2 ⟨v,rfl,ho,hr⟩
   go_simp
   exact HK.out _ _ _ rfl hr trivial ho
  refine cQ 1 ?_ ?_
  ·
   intro X w hR ψ χ K HK
   go_simp
   exact HK.out _ _ _ rfl (Outs.refl _ _) rfl iD
  refine cQ 2 ?_ ?_
  ·
   intro X w hR ψ χ K HK
   have e1:X 1=.pointer (some ⟨g,0,none⟩):=(pS ψ 1 .data :)
   have c2:=(hR.blk hB (by decide) (by decide)).cell 0 rfl
   go_simp
   exact HK.out _ _ _ (by (try simp only [e1]);rfl) (Outs.refl _ _) rfl iD
  refine cQ 3 ?_ ?_
  ·
   intro X w hR ψ χ K HK
   go_simp
   exact HK.out _ _ _ rfl (Outs.refl _ _) rfl iD
  refine cQ 4 ?_ ?_
  ·
   intro X w hR ψ χ K HK
   have e3:X 3=.pointer (some ⟨g,1,none⟩):=(pS ψ 3 .data :)
   have c4:=(hR.blk hB (by decide) (by decide)).cell 1 rfl
   go_simp
   exact HK.out _ _ _ (by (try simp only [e3]);rfl) (Outs.refl _ _) rfl iD
  refine cQ 5 ?_ ?_
  ·
   intro X w hR ψ χ K HK
   go_simp
   exact HK.out _ _ _ rfl (Outs.refl _ _) rfl iD
  refine cQ 6 ?_ ?_
  ·
   intro X w hR ψ χ K HK
   have e5:X 5=.pointer (some ⟨g,2,none⟩):=(pS ψ 5 .data :)
   have c6:=(hR.blk hB (by decide) (by decide)).cell 2 rfl
   go_simp
   exact HK.out _ _ _ (by (try simp only [e5]);rfl) (Outs.refl _ _) rfl iD
  refine cQ 7 ?_ ?_
  ·
   intro X w hR ψ χ K HK
   go_simp
   exact HK.out _ _ _ rfl (Outs.refl _ _) rfl iD
  refine cQ 8 ?_ ?_
  ·
   intro X w hR ψ χ K HK
   have e7:X 7=.pointer (some ⟨g,3,none⟩):=(pS ψ 7 .data :)
   have c8:=(hR.blk hB (by decide) (by decide)).cell 3 rfl
   go_simp
   exact HK.out _ _ _ (by (try simp only [e7]);rfl) (Outs.refl _ _) rfl iD
  refine cQ 9 ?_ ?_
  ·
   intro X w hR ψ χ K HK
   go_simp
   exact HK.out _ _ _ rfl (Outs.refl _ _) rfl iD
  refine cQ 10 ?_ ?_
  ·
   intro X w hR ψ χ K HK
   have e9:X 9=.pointer (some ⟨g,4,none⟩):=(pS ψ 9 .data :)
   have c10:=(hR.blk hB (by decide) (by decide)).cell 4 rfl
   go_simp
   exact HK.out _ _ _ (by (try simp only [e9]);rfl) (Outs.refl _ _) rfl iD
  refine cQ 11 ?_ ?_
  ·
   intro X w hR ψ χ K HK
   go_simp
   exact HK.out _ _ _ rfl (Outs.refl _ _) rfl iD
  refine cQ 12 ?_ ?_
  ·
   intro X w hR ψ χ K HK
   have e11:X 11=.pointer (some ⟨g,5,none⟩):=(pS ψ 11 .data :)
   go_simp
   exact HK.out _ _ _ (by (try simp only [e11]);rfl) (Outs.refl _ _) rfl iD
  refine cQ 13 ?_ ?_
  ·
   intro X w hR ψ χ K HK
   have e12:X 12=.pointer (some ⟨g,5,none⟩):=(pS ψ 12 .data :)
   have c13:=(hR.blk hB (by decide) (by decide)).cell 5 rfl
   go_simp
   exact HK.out _ _ _ (by (try simp only [e12]);rfl) (Outs.refl _ _) rfl iD
  refine cQ 14 ?_ ?_
  ·
   intro X w hR ψ χ K HK
   go_simp
   exact HK.out _ _ _ rfl (Outs.refl _ _) rfl iD
  refine cQ 15 ?_ ?_
  ·
   intro X w hR ψ χ K HK
   have e14:X 14=.pointer (some ⟨g,5,none⟩):=(pS ψ 14 .data :)
   go_simp
   exact HK.out _ _ _ (by (try simp only [e14]);rfl) (Outs.refl _ _) rfl iD
  refine cQ 16 ?_ ?_
  ·
   intro X w hR ψ χ K HK
   have e15:X 15=.pointer (some ⟨g,6,none⟩):=(pS ψ 15 .data :)
   have c16:=(hR.blk hB (by decide) (by decide)).cell 6 rfl
   go_simp
   exact HK.out _ _ _ (by (try simp only [e15]);rfl) (Outs.refl _ _) rfl iD
  refine cQ 17 ?_ ?_
  ·
   intro X w hR ψ χ K HK
   have e2:X 2=.int IntKind.u32 ((p.status:Nat):Int):=(pS ψ 2 .data :)
   have e4:X 4=.int IntKind.u32 ((p.feat:Nat):Int):=(pS ψ 4 .data :)
   have e6:X 6=.int IntKind.u32 ((p.drvsel:Nat):Int):=(pS ψ 6 .data :)
   have e8:X 8=.int IntKind.u32 ((p.sel:Nat):Int):=(pS ψ 8 .data :)
   have e10:X 10=.int IntKind.u32 ((p.irq:Nat):Int):=(pS ψ 10 .data :)
   have e13:X 13=.int IntKind.u32 ((p.drv0:Nat):Int):=(pS ψ 13 .data :)
   have e16:X 16=.int IntKind.u32 ((p.drv1:Nat):Int):=(pS ψ 16 .data :)
   go_simp
   exact HK.out _ _ _ (by (try simp only [e2,e4,e6,e8,e10,e13,e16]);rfl) (Outs.alloc _ _) ⟨_,rfl,Blk.new _ _ _⟩ (fun k _ h=>zdw B (undef) ([]) p _ _ _ _ h (za (Below.refl _ _) _))
  refine cS 18 1 ?_ ?_
  ·
   intro X w hR ψ χ hst K HK
   have hst:OutV B ([]:List Nat) (X 0) w:=hst
   obtain ⟨s17,e17,hs17⟩:∃ s,X 17=Value.slice (some ⟨s,0,none⟩) 7 7∧Blk w s #[Value.int IntKind.u32 ((p.status:Nat):Int),Value.int IntKind.u32 ((p.feat:Nat):Int),Value.int IntKind.u32 ((p.drvsel:Nat):Int),Value.int IntKind.u32 ((p.sel:Nat):Int),Value.int IntKind.u32 ((p.irq:Nat):Int),Value.int IntKind.u32 ((p.drv0:Nat):Int),Value.int IntKind.u32 ((p.drv1:Nat):Int)] 22:=(pS ψ 17 .data :)
   go_simp
   go_at_call 47
   refine (za8 hst s17 7 7 [p.status,p.feat,p.drvsel,p.sel,p.irq,p.drv0,p.drv1] hs17 rfl (by intro x hx;simp only [List.mem_cons,List.not_mem_nil,or_false] at hx;have:=hok;unfold So.Virt.Ok at this;rcases hx with rfl | rfl | rfl | rfl | rfl | rfl | rfl  <;> omega) (by simp [Tl.row,Tl.le_length])).mono ?_
   rintro e w2 ⟨rfl,ho,hr⟩
   go_simp
   exact HK.out _ _ _ (by (try simp only [e17]);rfl) hr trivial (ho.cast (by simp [Tl.row]))
  refine cS 19 2 ?_ ?_
  ·
   intro X w hR ψ χ hst K HK
   have hst:OutV B (Tl.row [(4,p.status),(4,p.feat),(4,p.drvsel),(4,p.sel),(4,p.irq),(4,p.drv0),(4,p.drv1)]) (X 18) w:=hst
   go_simp
   exact HK.out _ _ _ rfl (Outs.refl _ _) trivial hst
  exact zi.nil
 ·
  intro X1 wE1 hR1 hall1 hS1
  have hO1:OutV B (Tl.row [(4,p.status),(4,p.feat),(4,p.drvsel),(4,p.sel),(4,p.irq),(4,p.drv0),(4,p.drv1)]) (X1 19) wE1:=hS1
  clear hall1 hS1
  have hB1:=hR1.blk hB (by decide) (by decide)
  have hBs1:=Nat.le_trans hBs hR1.size
  clear hB
  go_wp2_with (refine wpList_load_mid rfl 84 (.tmp 25) rfl g 7 rfl (So.queL p.q0++So.queL p.q1) _ (zoP hB1) Tryz.underlying84 rfl rfl ?_)
  go_loopw [5,27] (fun _ i wr=>∃ k:Nat,k≤2∧i=.int .i64 k∧OutV B (Tl.row [(4,p.status),(4,p.feat),(4,p.drvsel),(4,p.sel),(4,p.irq),(4,p.drv0),(4,p.drv1)]++(qs p k).flatMap So.sQue) (X1 19) wr∧Outs B wE1 wr) (fun _ i _=>2-(intOf i).toNat)
  case atStart=>exact ⟨0,Nat.zero_le _,rfl,by simpa [qs] using hO1,Outs.refl _ _⟩
  case round =>
   obtain ⟨k,hk,rfl,hO,hR⟩:=hrel
   have hBs2:=Nat.le_trans hBs1 hR.size
   by_cases hlt:k<2
   ·
    obtain ⟨q,hqk,hix⟩:=zoQ p k hlt
    have hqo:q.Ok:=by
     have:=hok
     unfold So.Virt.Ok at this
     rcases hqk with ⟨rfl,rfl⟩ | ⟨rfl,rfl⟩
     · exact this.2.2.2.2.2.2.2.1
     · exact this.2.2.2.2.2.2.2.2
    have hsn:(qs p (k+1)).flatMap So.sQue=(qs p k).flatMap So.sQue++So.sQue q:=by
     rcases hqk with ⟨rfl,rfl⟩ | ⟨rfl,rfl⟩<;>simp [qs]
    have hl0:(Tl.row [(4,p.status),(4,p.feat),(4,p.drvsel),(4,p.sel),(4,p.irq),(4,p.drv0),(4,p.drv1)]++(qs p k).flatMap So.sQue).length≤1000:=by
     rcases hqk with ⟨rfl,rfl⟩ | ⟨rfl,rfl⟩<;>simp [qs,So.sQue,Tl.row,Tl.le_length]
    generalize hLL:Tl.row [(4,p.status),(4,p.feat),(4,p.drvsel),(4,p.sel),(4,p.irq),(4,p.drv0),(4,p.drv1)]++(qs p k).flatMap So.sQue=L0 at hO hl0
    have HLL:=qH hLL
    have Hsn:=qH hsn
    clear hLL hsn
    have hkn:(k:Int)<2:=by omega
    clear hqk
    go_wp2_with fail
    have hT:=Blk.new wr (So.queL q).toArray 83
    have hRT:=Outs.alloc (B:=B) wr (.cells (So.queL q).toArray 83)
    have hOT:=hO.keep (za (Below.refl _ _) (.cells (So.queL q).toArray 83))
    generalize hWT:wr.alloc (.cells (So.queL q).toArray 83)=WT at hT hRT hOT
    unfold So.queL at hWT
    rw [hWT]
    clear hix hWT
    have hBsT:=Nat.le_trans hBs2 hRT.size
    generalize wr.heap.size=gT at hT ⊢
    refine zc (by kernel_rfl) (fun X=>⟨#[.agg (So.virtL p).toArray,.pointer (some ⟨g,0,none⟩),.slice none 0 0,X1 19,undef,.pointer (some ⟨gT,0,none⟩),X1 0,X1 1,X1 2,X1 3,X1 4,X1 5,X1 6,X1 7,X1 8,X1 9,X1 10,X1 11,X1 12,X1 13,X1 14,X1 15,X1 16,X1 17,X1 18,.pointer (some ⟨g,7,none⟩),.agg (So.queL p.q0++So.queL p.q1).toArray,.int .i64 ↑k,.bool true,.agg #[.bool q.ready,.int .i64 q.size,.int .u32 ↑q.desc,.int .u32 ↑q.avail,.int .u32 ↑q.used,.int .u16 ↑q.last,.int .u16 ↑q.put],X 0,X 1,X 2,X 3,X 4,X 5,X 6,X 7,X 8,X 9,X 10,X 11,X 12,X 13,X 14,X 15,X 16,X 17,X 18,X 19,X 20,u51,u52,u53,u54,u55,u56,u57,u58,u59,u60,u61,u62,undef,undef],[]⟩) (Outs B) (fun i v w=>match i with | 0=>(v=X1 19) | 1=>(v=.pointer (some ⟨gT,0,none⟩)) | 2=>(v=.bool (q.ready)) | 3=>(v=.int .u64 ((So.one (q.ready):Nat):Int)) | 5=>(v=.pointer (some ⟨gT,1,none⟩)) | 6=>(v=.pointer (some ⟨gT,1,none⟩)) | 7=>(v=.int .i64 (q.size)) | 8=>(v=.int .u64 ((So.w64 (q.size):Nat):Int)) | 10=>(v=.pointer (some ⟨gT,1,none⟩)) | 11=>(v=.pointer (some ⟨gT,2,none⟩)) | 12=>(v=.int .u32 ((q.desc:Nat):Int)) | 13=>(v=.pointer (some ⟨gT,1,none⟩)) | 14=>(v=.pointer (some ⟨gT,3,none⟩)) | 15=>(v=.int .u32 ((q.avail:Nat):Int)) | 16=>(v=.pointer (some ⟨gT,1,none⟩)) | 17=>(v=.pointer (some ⟨gT,4,none⟩)) | 18=>(v=.int .u32 ((q.used:Nat):Int)) | 19=>(∃ s,v=.slice (some ⟨s,0,none⟩) 3 3∧Blk w s #[.int .u32 ((q.desc:Nat):Int),.int .u32 ((q.avail:Nat):Int),.int .u32 ((q.used:Nat):Int)] 22) | _=>True) (fun i=>([0,0,0,0,1,0,0,0,0,2,0,0,0,0,0,0,0,0,0,0,3]:List Nat).getD i 0) 3 (zcy B (X1 19) (L0) q) _ (fun i=>if i=0 then u30 else if i=1 then u31 else if i=2 then u32 else if i=3 then u33 else if i=4 then u34 else if i=5 then u35 else if i=6 then u36 else if i=7 then u37 else if i=8 then u38 else if i=9 then u39 else if i=10 then u40 else if i=11 then u41 else if i=12 then u42 else if i=13 then u43 else if i=14 then u44 else if i=15 then u45 else if i=16 then u46 else if i=17 then u47 else if i=18 then u48 else if i=19 then u49 else if i=20 then u50 else undef) (fun u v w a b=>a.trans b) ?_ (by kernel_rfl) (by kernel_rfl) (Outs.drew _) ((hOT.keep (zr (Below.refl _ _)))) ?_ ?_
    ·
     intro i v w w' h hb
     match i,h with
     | 0,h=>exact h
     | 1,h=>exact h
     | 2,h=>exact h
     | 3,h=>exact h
     | 5,h=>exact h
     | 6,h=>exact h
     | 7,h=>exact h
     | 8,h=>exact h
     | 10,h=>exact h
     | 11,h=>exact h
     | 12,h=>exact h
     | 13,h=>exact h
     | 14,h=>exact h
     | 15,h=>exact h
     | 16,h=>exact h
     | 17,h=>exact h
     | 18,h=>exact h
     | 19,h=>exact (let ⟨s,e,hb'⟩:=h;⟨s,e,hb.blk hb' (by decide) (by decide)⟩)
     | 4,h=>exact trivial
     | 9,h=>exact trivial
     | 20,h=>exact trivial
     | _+21,h=>exact trivial
    ·
     refine cQ 0 ?_ ?_
     ·
      intro X w hR ψ χ K HK
      go_simp
      exact HK.out _ _ _ rfl (Outs.refl _ _) rfl iD
     refine cQ 1 ?_ ?_
     ·
      intro X w hR ψ χ K HK
      go_simp
      exact HK.out _ _ _ rfl (Outs.refl _ _) rfl iD
     refine cQ 2 ?_ ?_
     ·
      intro X w hR ψ χ K HK
      have e1:X 1=.pointer (some ⟨gT,0,none⟩):=(pS ψ 1 .data :)
      have c2:=(hR.blk hT (by decide) (by decide)).cell 0 rfl
      go_simp
      exact HK.out _ _ _ (by (try simp only [e1]);rfl) (Outs.refl _ _) rfl iD
     refine cQ 3 ?_ ?_
     ·
      intro X w hR ψ χ K HK
      have e2:X 2=.bool (q.ready):=(pS ψ 2 .data :)
      go_simp
      go_at_call 131
      refine (zbK (q.ready) _).mono ?_
      rintro e w2 ⟨rfl,rfl⟩
      go_simp
      exact HK.out _ _ _ (by (try simp only [e2]);rfl) (Outs.refl _ _) rfl iD
     refine cS 4 0 ?_ ?_
     ·
      intro X w hR ψ χ hst K HK
      have e0:X 0=X1 19:=(pS ψ 0 .data :)
      have e3:X 3=.int IntKind.u64 ((So.one (q.ready):Nat):Int):=(pS ψ 3 .data :)
      go_simp
      go_at_call 50
      refine (zO (show OutV B (L0) (X1 19) _ from hst) (So.one (q.ready)) 1 (by exact zdl _) (by omega) (by omega) (by simp [Tl.row,Tl.le_length]<;>omega)).mono ?_
      rintro e w2 ⟨rfl,ho,hr⟩
      go_simp
      exact HK.out _ _ _ (by (try simp only [e0,e3]);rfl) hr trivial ⟨rfl,ho.cast (by simp [Tl.row])⟩
     refine cQ 5 ?_ ?_
     ·
      intro X w hR ψ χ K HK
      go_simp
      exact HK.out _ _ _ rfl (Outs.refl _ _) rfl iD
     refine cQ 6 ?_ ?_
     ·
      intro X w hR ψ χ K HK
      have e5:X 5=.pointer (some ⟨gT,1,none⟩):=(pS ψ 5 .data :)
      go_simp
      exact HK.out _ _ _ (by (try simp only [e5]);rfl) (Outs.refl _ _) rfl iD
     refine cQ 7 ?_ ?_
     ·
      intro X w hR ψ χ K HK
      have e6:X 6=.pointer (some ⟨gT,1,none⟩):=(pS ψ 6 .data :)
      have c7:=(hR.blk hT (by decide) (by decide)).cell 1 rfl
      go_simp
      exact HK.out _ _ _ (by (try simp only [e6]);rfl) (Outs.refl _ _) rfl iD
     refine cQ 8 ?_ ?_
     ·
      intro X w hR ψ χ K HK
      have e7:X 7=.int IntKind.i64 (q.size):=(pS ψ 7 .data :)
      have q8:=zdO (q.size)
      go_simp
      exact HK.out _ _ _ (by (try simp only [e7]);rfl) (Outs.refl _ _) rfl iD
     refine cS 9 1 ?_ ?_
     ·
      intro X w hR ψ χ hst K HK
      have hst:X 4=(X1 19)∧OutV B (L0++Tl.row [(1,So.one (q.ready))]) (X1 19) w:=hst
      have e8:X 8=.int IntKind.u64 ((So.w64 (q.size):Nat):Int):=(pS ψ 8 .data :)
      have eV:=hst.1
      go_simp
      go_at_call 50
      refine (zO hst.2 (So.w64 (q.size)) 2 (by exact w64_lt _) (by omega) (by omega) (by simp [Tl.row,Tl.le_length]<;>omega)).mono ?_
      rintro e w2 ⟨rfl,ho,hr⟩
      go_simp
      exact HK.out _ _ _ (by (try simp only [e8,eV]);rfl) hr trivial ⟨rfl,ho.cast (by simp [Tl.row])⟩
     refine cQ 10 ?_ ?_
     ·
      intro X w hR ψ χ K HK
      go_simp
      exact HK.out _ _ _ rfl (Outs.refl _ _) rfl iD
     refine cQ 11 ?_ ?_
     ·
      intro X w hR ψ χ K HK
      have e10:X 10=.pointer (some ⟨gT,1,none⟩):=(pS ψ 10 .data :)
      go_simp
      exact HK.out _ _ _ (by (try simp only [e10]);rfl) (Outs.refl _ _) rfl iD
     refine cQ 12 ?_ ?_
     ·
      intro X w hR ψ χ K HK
      have e11:X 11=.pointer (some ⟨gT,2,none⟩):=(pS ψ 11 .data :)
      have c12:=(hR.blk hT (by decide) (by decide)).cell 2 rfl
      go_simp
      exact HK.out _ _ _ (by (try simp only [e11]);rfl) (Outs.refl _ _) rfl iD
     refine cQ 13 ?_ ?_
     ·
      intro X w hR ψ χ K HK
      go_simp
      exact HK.out _ _ _ rfl (Outs.refl _ _) rfl iD
     refine cQ 14 ?_ ?_
     ·
      intro X w hR ψ χ K HK
      have e13:X 13=.pointer (some ⟨gT,1,none⟩):=(pS ψ 13 .data :)
      go_simp
      exact HK.out _ _ _ (by (try simp only [e13]);rfl) (Outs.refl _ _) rfl iD
     refine cQ 15 ?_ ?_
     ·
      intro X w hR ψ χ K HK
      have e14:X 14=.pointer (some ⟨gT,3,none⟩):=(pS ψ 14 .data :)
      have c15:=(hR.blk hT (by decide) (by decide)).cell 3 rfl
      go_simp
      exact HK.out _ _ _ (by (try simp only [e14]);rfl) (Outs.refl _ _) rfl iD
     refine cQ 16 ?_ ?_
     ·
      intro X w hR ψ χ K HK
      go_simp
      exact HK.out _ _ _ rfl (Outs.refl _ _) rfl iD
     refine cQ 17 ?_ ?_
     ·
      intro X w hR ψ χ K HK
      have e16:X 16=.pointer (some ⟨gT,1,none⟩):=(pS ψ 16 .data :)
      go_simp
      exact HK.out _ _ _ (by (try simp only [e16]);rfl) (Outs.refl _ _) rfl iD
     refine cQ 18 ?_ ?_
     ·
      intro X w hR ψ χ K HK
      have e17:X 17=.pointer (some ⟨gT,4,none⟩):=(pS ψ 17 .data :)
      have c18:=(hR.blk hT (by decide) (by decide)).cell 4 rfl
      go_simp
      exact HK.out _ _ _ (by (try simp only [e17]);rfl) (Outs.refl _ _) rfl iD
     refine cQ 19 ?_ ?_
     ·
      intro X w hR ψ χ K HK
      have e12:X 12=.int IntKind.u32 ((q.desc:Nat):Int):=(pS ψ 12 .data :)
      have e15:X 15=.int IntKind.u32 ((q.avail:Nat):Int):=(pS ψ 15 .data :)
      have e18:X 18=.int IntKind.u32 ((q.used:Nat):Int):=(pS ψ 18 .data :)
      go_simp
      exact HK.out _ _ _ (by (try simp only [e12,e15,e18]);rfl) (Outs.alloc _ _) ⟨_,rfl,Blk.new _ _ _⟩ (fun k _ h=>zdx B (X1 19) (L0) q _ _ _ _ h (za (Below.refl _ _) _))
     refine cS 20 2 ?_ ?_
     ·
      intro X w hR ψ χ hst K HK
      have hst:X 9=(X1 19)∧OutV B (L0++Tl.row [(1,So.one (q.ready)),(2,So.w64 (q.size))]) (X1 19) w:=hst
      obtain ⟨s19,e19,hs19⟩:∃ s,X 19=Value.slice (some ⟨s,0,none⟩) 3 3∧Blk w s #[Value.int IntKind.u32 ((q.desc:Nat):Int),Value.int IntKind.u32 ((q.avail:Nat):Int),Value.int IntKind.u32 ((q.used:Nat):Int)] 22:=(pS ψ 19 .data :)
      have eV:=hst.1
      go_simp
      go_at_call 47
      refine (za8 hst.2 s19 3 3 [q.desc,q.avail,q.used] hs19 rfl (by intro x hx;simp only [List.mem_cons,List.not_mem_nil,or_false] at hx;have:=hqo;unfold So.Que.Ok at this;rcases hx with rfl | rfl | rfl  <;> omega) (by simp [Tl.row,Tl.le_length]<;>omega)).mono ?_
      rintro e w2 ⟨rfl,ho,hr⟩
      go_simp
      exact HK.out _ _ _ (by (try simp only [e19,eV]);rfl) hr trivial ⟨rfl,ho.cast (by simp [Tl.row])⟩
     exact zi.nil
    ·
     intro X2 wE2 hR2 hall2 hS2
     obtain ⟨eX2,hO2⟩:X2 20=(X1 19)∧OutV B (L0++Tl.row [(1,So.one (q.ready)),(2,So.w64 (q.size)),(4,q.desc),(4,q.avail),(4,q.used)]) (X1 19) wE2:=hS2
     clear hall2 eX2
     have hT2:=hR2.blk hT (by decide) (by decide)
     have hBs3:=Nat.le_trans hBsT hR2.size
     have hl1:(L0++Tl.row [(1,So.one (q.ready)),(2,So.w64 (q.size)),(4,q.desc),(4,q.avail),(4,q.used)]).length≤1000000:=by simp [Tl.row,Tl.le_length];omega
     go_wp2_with fail
     refine zc (by kernel_rfl) (fun X=>⟨#[.agg (So.virtL p).toArray,.pointer (some ⟨g,0,none⟩),.slice none 0 0,X1 19,undef,.pointer (some ⟨gT,0,none⟩),X1 0,X1 1,X1 2,X1 3,X1 4,X1 5,X1 6,X1 7,X1 8,X1 9,X1 10,X1 11,X1 12,X1 13,X1 14,X1 15,X1 16,X1 17,X1 18,.pointer (some ⟨g,7,none⟩),.agg (So.queL p.q0++So.queL p.q1).toArray,.int .i64 ↑k,.bool true,.agg #[.bool q.ready,.int .i64 q.size,.int .u32 ↑q.desc,.int .u32 ↑q.avail,.int .u32 ↑q.used,.int .u16 ↑q.last,.int .u16 ↑q.put],X2 0,X2 1,X2 2,X2 3,X2 4,X2 5,X2 6,X2 7,X2 8,X2 9,X2 10,X2 11,X2 12,X2 13,X2 14,X2 15,X2 16,X2 17,X2 18,X2 19,X2 20,X 0,X 1,X 2,X 3,X 4,X 5,X 6,X 7,X 8,X 9,X 10,u62,undef,undef],[]⟩) (Outs B) (fun i v w=>match i with | 0=>(v=X1 19) | 1=>(v=.pointer (some ⟨gT,1,none⟩)) | 2=>(v=.pointer (some ⟨gT,5,none⟩)) | 3=>(v=.int .u16 ((q.last:Nat):Int)) | 4=>(v=.int .u64 ((q.last:Nat):Int)) | 6=>(v=.pointer (some ⟨gT,1,none⟩)) | 7=>(v=.pointer (some ⟨gT,6,none⟩)) | 8=>(v=.int .u16 ((q.put:Nat):Int)) | 9=>(v=.int .u64 ((q.put:Nat):Int)) | _=>True) (fun i=>([0,0,0,0,0,1,0,0,0,0,2]:List Nat).getD i 0) 2 (zg5 B (X1 19) ((L0++Tl.row [(1,So.one (q.ready)),(2,So.w64 (q.size)),(4,q.desc),(4,q.avail),(4,q.used)])) q) _ (fun i=>if i=0 then u51 else if i=1 then u52 else if i=2 then u53 else if i=3 then u54 else if i=4 then u55 else if i=5 then u56 else if i=6 then u57 else if i=7 then u58 else if i=8 then u59 else if i=9 then u60 else if i=10 then u61 else undef) (fun u v w a b=>a.trans b) ?_ (by kernel_rfl) (by kernel_rfl) (Outs.drew _) ((hO2.keep (zr (Below.refl _ _)))) ?_ ?_
     ·
      intro i v w w' h hb
      match i,h with
      | 0,h=>exact h
      | 1,h=>exact h
      | 2,h=>exact h
      | 3,h=>exact h
      | 4,h=>exact h
      | 6,h=>exact h
      | 7,h=>exact h
      | 8,h=>exact h
      | 9,h=>exact h
      | 5,h=>exact trivial
      | 10,h=>exact trivial
      | _+11,h=>exact trivial
     ·
      refine cQ 0 ?_ ?_
      ·
       intro X w hR ψ χ K HK
       go_simp
       exact HK.out _ _ _ rfl (Outs.refl _ _) rfl iD
      refine cQ 1 ?_ ?_
      ·
       intro X w hR ψ χ K HK
       go_simp
       exact HK.out _ _ _ rfl (Outs.refl _ _) rfl iD
      refine cQ 2 ?_ ?_
      ·
       intro X w hR ψ χ K HK
       have e1:X 1=.pointer (some ⟨gT,1,none⟩):=(pS ψ 1 .data :)
       go_simp
       exact HK.out _ _ _ (by (try simp only [e1]);rfl) (Outs.refl _ _) rfl iD
      refine cQ 3 ?_ ?_
      ·
       intro X w hR ψ χ K HK
       have e2:X 2=.pointer (some ⟨gT,5,none⟩):=(pS ψ 2 .data :)
       have c3:=(hR.blk hT2 (by decide) (by decide)).cell 5 rfl
       go_simp
       exact HK.out _ _ _ (by (try simp only [e2]);rfl) (Outs.refl _ _) rfl iD
      refine cQ 4 ?_ ?_
      ·
       intro X w hR ψ χ K HK
       have e3:X 3=.int IntKind.u16 ((q.last:Nat):Int):=(pS ψ 3 .data :)
       have q4:=zY (q.last) (by have:=hqo;unfold So.Que.Ok at this;omega)
       go_simp
       exact HK.out _ _ _ (by (try simp only [e3]);rfl) (Outs.refl _ _) rfl iD
      refine cS 5 0 ?_ ?_
      ·
       intro X w hR ψ χ hst K HK
       have e0:X 0=X1 19:=(pS ψ 0 .data :)
       have e4:X 4=.int IntKind.u64 ((q.last:Nat):Int):=(pS ψ 4 .data :)
       go_simp
       go_at_call 50
       refine (zO (show OutV B ((L0++Tl.row [(1,So.one (q.ready)),(2,So.w64 (q.size)),(4,q.desc),(4,q.avail),(4,q.used)])) (X1 19) _ from hst) (q.last) 2 (by have:=hqo;unfold So.Que.Ok at this;omega) (by omega) (by omega) (by simp [Tl.row,Tl.le_length]<;>omega)).mono ?_
       rintro e w2 ⟨rfl,ho,hr⟩
       go_simp
       exact HK.out _ _ _ (by (try simp only [e0,e4]);rfl) hr trivial ⟨rfl,ho.cast (by simp [Tl.row])⟩
      refine cQ 6 ?_ ?_
      ·
       intro X w hR ψ χ K HK
       go_simp
       exact HK.out _ _ _ rfl (Outs.refl _ _) rfl iD
      refine cQ 7 ?_ ?_
      ·
       intro X w hR ψ χ K HK
       have e6:X 6=.pointer (some ⟨gT,1,none⟩):=(pS ψ 6 .data :)
       go_simp
       exact HK.out _ _ _ (by (try simp only [e6]);rfl) (Outs.refl _ _) rfl iD
      refine cQ 8 ?_ ?_
      ·
       intro X w hR ψ χ K HK
       have e7:X 7=.pointer (some ⟨gT,6,none⟩):=(pS ψ 7 .data :)
       have c8:=(hR.blk hT2 (by decide) (by decide)).cell 6 rfl
       go_simp
       exact HK.out _ _ _ (by (try simp only [e7]);rfl) (Outs.refl _ _) rfl iD
      refine cQ 9 ?_ ?_
      ·
       intro X w hR ψ χ K HK
       have e8:X 8=.int IntKind.u16 ((q.put:Nat):Int):=(pS ψ 8 .data :)
       have q9:=zY (q.put) (by have:=hqo;unfold So.Que.Ok at this;omega)
       go_simp
       exact HK.out _ _ _ (by (try simp only [e8]);rfl) (Outs.refl _ _) rfl iD
      refine cS 10 1 ?_ ?_
      ·
       intro X w hR ψ χ hst K HK
       have hst:X 5=(X1 19)∧OutV B ((L0++Tl.row [(1,So.one (q.ready)),(2,So.w64 (q.size)),(4,q.desc),(4,q.avail),(4,q.used)])++Tl.row [(2,q.last)]) (X1 19) w:=hst
       have e9:X 9=.int IntKind.u64 ((q.put:Nat):Int):=(pS ψ 9 .data :)
       have eV:=hst.1
       go_simp
       go_at_call 50
       refine (zO hst.2 (q.put) 2 (by have:=hqo;unfold So.Que.Ok at this;omega) (by omega) (by omega) (by simp [Tl.row,Tl.le_length]<;>omega)).mono ?_
       rintro e w2 ⟨rfl,ho,hr⟩
       go_simp
       exact HK.out _ _ _ (by (try simp only [e9,eV]);rfl) hr trivial ⟨rfl,ho.cast (by simp [Tl.row])⟩
      exact zi.nil
     ·
      intro X3 wE3 hR3 hall3 hS3
      obtain ⟨eX3,hO3⟩:X3 10=(X1 19)∧OutV B ((L0++Tl.row [(1,So.one (q.ready)),(2,So.w64 (q.size)),(4,q.desc),(4,q.avail),(4,q.used)])++Tl.row [(2,q.last),(2,q.put)]) (X1 19) wE3:=hS3
      clear hall3 eX3
      go_wp2_with fail
      go_roundw
      case rel=>exact ⟨k+1,by omega,by go_num,by rw [Hsn.out,←List.append_assoc,HLL.out];exact hO3.cast (by simp [So.sQue,Tl.row]),hR.trans (hRT.trans (hR2.trans hR3))⟩
      case measure=>simp [intOf];omega
   ·
    obtain rfl:2=k:=by omega
    clear hlt
    have Hout:Hid (Tl.row [(4,p.status),(4,p.feat),(4,p.drvsel),(4,p.sel),(4,p.irq),(4,p.drv0),(4,p.drv1)]++(qs p 2).flatMap So.sQue=So.sSetting p):=qH (by simp [qs,So.sSetting])
    generalize Tl.row [(4,p.status),(4,p.feat),(4,p.drvsel),(4,p.sel),(4,p.irq),(4,p.drv0),(4,p.drv1)]++(qs p 2).flatMap So.sQue=L at hO Hout
    go_wp2_with fail
    refine (zai hO).mono ?_
    rintro e w3 ⟨A,c,rfl,hbs,hr2⟩
    go_wp2_with fail
    go_ret
    have hO9:=hbel.trans (((hR1.trans (hR.trans hr2)).below hBs).mono hgB)
    rw [Hout.out] at hbs
    exact ⟨A,c,by rw [←Hout.out];rfl,hbs,hO9⟩
def zkO (B:Nat) (v0:Value) (l0:List Nat) (A0:Option Addr) (n:Nat) (c0:Nat) (q:List So.Post):Nat→(Nat→Value)→World→Prop:=fun k X w=>match k with
 | 0=>True
 | 1=>OutV B ([]:List Nat) (X 0) w
 | 2=>OutV B (Tl.row [(1,n)]) (X 5) w
 | 3=>OutV B (Tl.row [(1,n)]) (X 6) w
 | _=>False
def zkP (B:Nat) (v0:Value) (l0:List Nat) (po:So.Post):Nat→(Nat→Value)→World→Prop:=fun k X w=>match k with
 | 0=>OutV B l0 v0 w
 | 1=>X 4=v0∧OutV B (l0++Tl.row [(1,So.w64 (po.dev))]) v0 w
 | 2=>X 8=v0∧OutV B (l0++Tl.row [(1,So.w64 (po.dev)),(4,po.at_)]) v0 w
 | 3=>X 12=v0∧OutV B (l0++Tl.row [(1,So.w64 (po.dev)),(4,po.at_),(1,So.w64 (po.n))]) v0 w
 | 4=>X 16=v0∧OutV B (l0++Tl.row [(1,So.w64 (po.dev)),(4,po.at_),(1,So.w64 (po.n)),(4,po.value)]) v0 w
 | _=>False
theorem zkQ (A0:Option Addr) (n:Nat) (c0:Nat) (q:List So.Post) (w:World) (hQ:Posts w A0 n c0 q) (hok:∀ p∈q,p.Ok) (hq8:n≤100000):Calls Tryz.prog 53 #[.agg ([Value.slice A0 n c0]).toArray] w (MkB w (So.sQueue q)):=by
 go_enter Tryz.func53,Tryz.ntmps53
 go_wp2_with fail
 have hB:=Blk.new w ([Value.slice A0 n c0]).toArray 74
 have hbel:=za (Below.refl w.heap.size w) (.cells ([Value.slice A0 n c0]).toArray 74)
 generalize w.alloc (.cells ([Value.slice A0 n c0]).toArray 74)=W1 at hB hbel ⊢
 have hbB:=hbel.size
 obtain ⟨g,hg⟩:∃ g,g=w.heap.size:=⟨_,rfl⟩
 rw [←hg] at hB ⊢
 clear hg
 obtain ⟨B,hBB⟩:∃ B,B=w.heap.size:=⟨_,rfl⟩
 have hBs:B≤W1.heap.size:=by omega
 have hgB:w.heap.size≤B:=by omega
 clear hBB
 refine zc (by kernel_rfl) (fun X=>⟨#[.agg #[.slice A0 n c0],.pointer (some ⟨g,0,none⟩),.slice none 0 0,X 6,undef,undef,X 0,X 1,X 2,X 3,X 4,X 5,undef,undef,undef,undef,undef,undef,undef,undef,undef,undef,undef,undef,undef,undef,undef,undef,undef,undef,undef,undef,undef,undef,undef,undef,undef,undef,undef],[]⟩) (Outs B) (fun i v w=>match i with | 1=>(v=.pointer (some ⟨g,0,none⟩)) | 2=>(v=.slice A0 n c0) | 3=>(v=.int .i64 ((n:Nat):Int)) | 4=>(v=.int .u64 ((n:Nat):Int)) | _=>True) (fun i=>([1,0,0,0,0,2,3]:List Nat).getD i 0) 3 (zkO B (undef) ([]) A0 n c0 q) _ (fun _=>undef) (fun u v w a b=>a.trans b) ?_ (by kernel_rfl) (by kernel_rfl) (Outs.drew _) (trivial) ?_ ?_
 ·
  intro i v w w' h hb
  match i,h with
  | 1,h=>exact h
  | 2,h=>exact h
  | 3,h=>exact h
  | 4,h=>exact h
  | 0,h=>exact trivial
  | 5,h=>exact trivial
  | 6,h=>exact trivial
  | _+7,h=>exact trivial
 ·
  refine cS 0 0 ?_ ?_
  ·
   intro X w hR ψ χ hst K HK
   go_simp
   go_at_call 48
   refine (zay B _ (Nat.le_trans hBs hR.size)).mono ?_
   rintro e w2 ⟨v,rfl,ho,hr⟩
   go_simp
   exact HK.out _ _ _ rfl hr trivial ho
  refine cQ 1 ?_ ?_
  ·
   intro X w hR ψ χ K HK
   go_simp
   exact HK.out _ _ _ rfl (Outs.refl _ _) rfl iD
  refine cQ 2 ?_ ?_
  ·
   intro X w hR ψ χ K HK
   have e1:X 1=.pointer (some ⟨g,0,none⟩):=(pS ψ 1 .data :)
   have c2:=(hR.blk hB (by decide) (by decide)).cell 0 rfl
   go_simp
   exact HK.out _ _ _ (by (try simp only [e1]);rfl) (Outs.refl _ _) rfl iD
  refine cQ 3 ?_ ?_
  ·
   intro X w hR ψ χ K HK
   have e2:X 2=.slice A0 n c0:=(pS ψ 2 .data :)
   go_simp
   exact HK.out _ _ _ (by (try simp only [e2]);rfl) (Outs.refl _ _) rfl iD
  refine cQ 4 ?_ ?_
  ·
   intro X w hR ψ χ K HK
   have e3:X 3=.int IntKind.i64 ((n:Nat):Int):=(pS ψ 3 .data :)
   have q4:=zY (n) (by skip;omega)
   go_simp
   exact HK.out _ _ _ (by (try simp only [e3]);rfl) (Outs.refl _ _) rfl iD
  refine cS 5 1 ?_ ?_
  ·
   intro X w hR ψ χ hst K HK
   have hst:OutV B ([]:List Nat) (X 0) w:=hst
   have e4:X 4=.int IntKind.u64 ((n:Nat):Int):=(pS ψ 4 .data :)
   go_simp
   go_at_call 50
   refine (zO hst (n) 1 (by skip;omega) (by omega) (by omega) (by simp [Tl.row,Tl.le_length])).mono ?_
   rintro e w2 ⟨rfl,ho,hr⟩
   go_simp
   exact HK.out _ _ _ (by (try simp only [e4]);rfl) hr trivial (ho.cast (by simp [Tl.row]))
  refine cS 6 2 ?_ ?_
  ·
   intro X w hR ψ χ hst K HK
   have hst:OutV B (Tl.row [(1,n)]) (X 5) w:=hst
   go_simp
   exact HK.out _ _ _ rfl (Outs.refl _ _) trivial hst
  exact zi.nil
 ·
  intro X1 wE1 hR1 hall1 hS1
  have hO1:OutV B (Tl.row [(1,n)]) (X1 6) wE1:=hS1
  clear hall1 hS1
  have hB1:=hR1.blk hB (by decide) (by decide)
  have hBs1:=Nat.le_trans hBs hR1.size
  have hlq:=hQ.len
  have hq0:wE1.cell? ⟨g,0,none⟩=some (.slice A0 n c0):=hB1.cell 0 rfl
  have hmq:=hQ.max
  clear hB
  go_wp2_with fail
  go_loopw [5,15] (fun _ i wr=>∃ k:Nat,k≤n∧i=.int .i64 k∧OutV B (Tl.row [(1,n)]++(q.take k).flatMap So.sPost) (X1 6) wr∧Outs B wE1 wr) (fun _ i _=>n-(intOf i).toNat)
  case atStart=>exact ⟨0,Nat.zero_le _,rfl,by simpa using hO1,Outs.refl _ _⟩
  case round =>
   obtain ⟨k,hk,rfl,hO,hR⟩:=hrel
   have hQr:=hQ.keep (hbel.trans (((hR1.trans hR).below hBs).mono hgB))
   have hBs2:=Nat.le_trans hBs1 hR.size
   by_cases hlt:k<n
   ·
    obtain ⟨po,b,off,hpk,rfl,hc0,hc1,hc2,hc3⟩:=hQr.at_ k hlt
    have hpo:=hok po (List.mem_of_getElem? hpk)
    have hsn:=qH (zdR So.sPost q k po hpk)
    have hl0:(Tl.row [(1,n)]++(q.take k).flatMap So.sPost).length≤100000000:=by
     have:=zlB q k
     rw [List.length_append]
     simp only [Tl.row,Tl.le_length,List.length_append,List.length_nil]
     omega
    generalize hLL:Tl.row [(1,n)]++(q.take k).flatMap So.sPost=L0 at hO hl0
    have HLL:=qH hLL
    clear hLL
    have hkn:(k:Int)<(n:Int):=by omega
    go_wp2_with fail
    have hT:=Blk.new wr (So.postL po).toArray 188
    have hRT:=Outs.alloc (B:=B) wr (.cells (So.postL po).toArray 188)
    have hOT:=hO.keep (za (Below.refl _ _) (.cells (So.postL po).toArray 188))
    generalize hWT:wr.alloc (.cells (So.postL po).toArray 188)=WT at hT hRT hOT
    unfold So.postL at hWT
    rw [hWT]
    clear hWT hc0 hc1 hc2 hc3
    have hBsT:=Nat.le_trans hBs2 hRT.size
    generalize wr.heap.size=gT at hT ⊢
    refine zc (by kernel_rfl) (fun X=>⟨#[.agg #[.slice (some { block:=b,off:=off }) n c0],.pointer (some ⟨g,0,none⟩),.slice none 0 0,X1 6,undef,.pointer (some ⟨gT,0,none⟩),X1 0,X1 1,X1 2,X1 3,X1 4,X1 5,.pointer (some ⟨g,0,none⟩),.slice (some { block:=b,off:=off }) n c0,.int .i64 ↑n,.int .i64 ↑k,.bool true,.pointer (some { block:=b,off:=off+k*4 }),.agg #[.int .i64 po.dev,.int .u32 ↑po.at_,.int .i64 po.n,.int .u32 ↑po.value],X 0,X 1,X 2,X 3,X 4,X 5,X 6,X 7,X 8,X 9,X 10,X 11,X 12,X 13,X 14,X 15,X 16,u36,undef,undef],[]⟩) (Outs B) (fun i v w=>match i with | 0=>(v=X1 6) | 1=>(v=.pointer (some ⟨gT,0,none⟩)) | 2=>(v=.int .i64 (po.dev)) | 3=>(v=.int .u64 ((So.w64 (po.dev):Nat):Int)) | 5=>(v=.pointer (some ⟨gT,1,none⟩)) | 6=>(v=.int .u32 ((po.at_:Nat):Int)) | 7=>(v=.int .u64 ((po.at_:Nat):Int)) | 9=>(v=.pointer (some ⟨gT,2,none⟩)) | 10=>(v=.int .i64 (po.n)) | 11=>(v=.int .u64 ((So.w64 (po.n):Nat):Int)) | 13=>(v=.pointer (some ⟨gT,3,none⟩)) | 14=>(v=.int .u32 ((po.value:Nat):Int)) | 15=>(v=.int .u64 ((po.value:Nat):Int)) | _=>True) (fun i=>([0,0,0,0,1,0,0,0,2,0,0,0,3,0,0,0,4]:List Nat).getD i 0) 4 (zkP B (X1 6) (L0) po) _ (fun i=>if i=0 then u19 else if i=1 then u20 else if i=2 then u21 else if i=3 then u22 else if i=4 then u23 else if i=5 then u24 else if i=6 then u25 else if i=7 then u26 else if i=8 then u27 else if i=9 then u28 else if i=10 then u29 else if i=11 then u30 else if i=12 then u31 else if i=13 then u32 else if i=14 then u33 else if i=15 then u34 else if i=16 then u35 else undef) (fun u v w a b=>a.trans b) ?_ (by kernel_rfl) (by kernel_rfl) (Outs.drew _) ((hOT.keep (zr (Below.refl _ _)))) ?_ ?_
    ·
     intro i v w w' h hb
     match i,h with
     | 0,h=>exact h
     | 1,h=>exact h
     | 2,h=>exact h
     | 3,h=>exact h
     | 5,h=>exact h
     | 6,h=>exact h
     | 7,h=>exact h
     | 9,h=>exact h
     | 10,h=>exact h
     | 11,h=>exact h
     | 13,h=>exact h
     | 14,h=>exact h
     | 15,h=>exact h
     | 4,h=>exact trivial
     | 8,h=>exact trivial
     | 12,h=>exact trivial
     | 16,h=>exact trivial
     | _+17,h=>exact trivial
    ·
     refine cQ 0 ?_ ?_
     ·
      intro X w hR ψ χ K HK
      go_simp
      exact HK.out _ _ _ rfl (Outs.refl _ _) rfl iD
     refine cQ 1 ?_ ?_
     ·
      intro X w hR ψ χ K HK
      go_simp
      exact HK.out _ _ _ rfl (Outs.refl _ _) rfl iD
     refine cQ 2 ?_ ?_
     ·
      intro X w hR ψ χ K HK
      have e1:X 1=.pointer (some ⟨gT,0,none⟩):=(pS ψ 1 .data :)
      have c2:=(hR.blk hT (by decide) (by decide)).cell 0 rfl
      go_simp
      exact HK.out _ _ _ (by (try simp only [e1]);rfl) (Outs.refl _ _) rfl iD
     refine cQ 3 ?_ ?_
     ·
      intro X w hR ψ χ K HK
      have e2:X 2=.int IntKind.i64 (po.dev):=(pS ψ 2 .data :)
      have q3:=zdO (po.dev)
      go_simp
      exact HK.out _ _ _ (by (try simp only [e2]);rfl) (Outs.refl _ _) rfl iD
     refine cS 4 0 ?_ ?_
     ·
      intro X w hR ψ χ hst K HK
      have e0:X 0=X1 6:=(pS ψ 0 .data :)
      have e3:X 3=.int IntKind.u64 ((So.w64 (po.dev):Nat):Int):=(pS ψ 3 .data :)
      go_simp
      go_at_call 50
      refine (zO (show OutV B (L0) (X1 6) _ from hst) (So.w64 (po.dev)) 1 (by exact w64_lt _) (by omega) (by omega) (by simp [Tl.row,Tl.le_length]<;>omega)).mono ?_
      rintro e w2 ⟨rfl,ho,hr⟩
      go_simp
      exact HK.out _ _ _ (by (try simp only [e0,e3]);rfl) hr trivial ⟨rfl,ho.cast (by simp [Tl.row])⟩
     refine cQ 5 ?_ ?_
     ·
      intro X w hR ψ χ K HK
      go_simp
      exact HK.out _ _ _ rfl (Outs.refl _ _) rfl iD
     refine cQ 6 ?_ ?_
     ·
      intro X w hR ψ χ K HK
      have e5:X 5=.pointer (some ⟨gT,1,none⟩):=(pS ψ 5 .data :)
      have c6:=(hR.blk hT (by decide) (by decide)).cell 1 rfl
      go_simp
      exact HK.out _ _ _ (by (try simp only [e5]);rfl) (Outs.refl _ _) rfl iD
     refine cQ 7 ?_ ?_
     ·
      intro X w hR ψ χ K HK
      have e6:X 6=.int IntKind.u32 ((po.at_:Nat):Int):=(pS ψ 6 .data :)
      have q7:=zY (po.at_) (by have:=hpo;unfold So.Post.Ok at this;omega)
      go_simp
      exact HK.out _ _ _ (by (try simp only [e6]);rfl) (Outs.refl _ _) rfl iD
     refine cS 8 1 ?_ ?_
     ·
      intro X w hR ψ χ hst K HK
      have hst:X 4=(X1 6)∧OutV B (L0++Tl.row [(1,So.w64 (po.dev))]) (X1 6) w:=hst
      have e7:X 7=.int IntKind.u64 ((po.at_:Nat):Int):=(pS ψ 7 .data :)
      have eV:=hst.1
      go_simp
      go_at_call 50
      refine (zO hst.2 (po.at_) 4 (by have:=hpo;unfold So.Post.Ok at this;omega) (by omega) (by omega) (by simp [Tl.row,Tl.le_length]<;>omega)).mono ?_
      rintro e w2 ⟨rfl,ho,hr⟩
      go_simp
      exact HK.out _ _ _ (by (try simp only [e7,eV]);rfl) hr trivial ⟨rfl,ho.cast (by simp [Tl.row])⟩
     refine cQ 9 ?_ ?_
     ·
      intro X w hR ψ χ K HK
      go_simp
      exact HK.out _ _ _ rfl (Outs.refl _ _) rfl iD
     refine cQ 10 ?_ ?_
     ·
      intro X w hR ψ χ K HK
      have e9:X 9=.pointer (some ⟨gT,2,none⟩):=(pS ψ 9 .data :)
      have c10:=(hR.blk hT (by decide) (by decide)).cell 2 rfl
      go_simp
      exact HK.out _ _ _ (by (try simp only [e9]);rfl) (Outs.refl _ _) rfl iD
     refine cQ 11 ?_ ?_
     ·
      intro X w hR ψ χ K HK
      have e10:X 10=.int IntKind.i64 (po.n):=(pS ψ 10 .data :)
      have q11:=zdO (po.n)
      go_simp
      exact HK.out _ _ _ (by (try simp only [e10]);rfl) (Outs.refl _ _) rfl iD
     refine cS 12 2 ?_ ?_
     ·
      intro X w hR ψ χ hst K HK
      have hst:X 8=(X1 6)∧OutV B (L0++Tl.row [(1,So.w64 (po.dev)),(4,po.at_)]) (X1 6) w:=hst
      have e11:X 11=.int IntKind.u64 ((So.w64 (po.n):Nat):Int):=(pS ψ 11 .data :)
      have eV:=hst.1
      go_simp
      go_at_call 50
      refine (zO hst.2 (So.w64 (po.n)) 1 (by exact w64_lt _) (by omega) (by omega) (by simp [Tl.row,Tl.le_length]<;>omega)).mono ?_
      rintro e w2 ⟨rfl,ho,hr⟩
      go_simp
      exact HK.out _ _ _ (by (try simp only [e11,eV]);rfl) hr trivial ⟨rfl,ho.cast (by simp [Tl.row])⟩
     refine cQ 13 ?_ ?_
     ·
      intro X w hR ψ χ K HK
      go_simp
      exact HK.out _ _ _ rfl (Outs.refl _ _) rfl iD
     refine cQ 14 ?_ ?_
     ·
      intro X w hR ψ χ K HK
      have e13:X 13=.pointer (some ⟨gT,3,none⟩):=(pS ψ 13 .data :)
      have c14:=(hR.blk hT (by decide) (by decide)).cell 3 rfl
      go_simp
      exact HK.out _ _ _ (by (try simp only [e13]);rfl) (Outs.refl _ _) rfl iD
     refine cQ 15 ?_ ?_
     ·
      intro X w hR ψ χ K HK
      have e14:X 14=.int IntKind.u32 ((po.value:Nat):Int):=(pS ψ 14 .data :)
      have q15:=zY (po.value) (by have:=hpo;unfold So.Post.Ok at this;omega)
      go_simp
      exact HK.out _ _ _ (by (try simp only [e14]);rfl) (Outs.refl _ _) rfl iD
     refine cS 16 3 ?_ ?_
     ·
      intro X w hR ψ χ hst K HK
      have hst:X 12=(X1 6)∧OutV B (L0++Tl.row [(1,So.w64 (po.dev)),(4,po.at_),(1,So.w64 (po.n))]) (X1 6) w:=hst
      have e15:X 15=.int IntKind.u64 ((po.value:Nat):Int):=(pS ψ 15 .data :)
      have eV:=hst.1
      go_simp
      go_at_call 50
      refine (zO hst.2 (po.value) 4 (by have:=hpo;unfold So.Post.Ok at this;omega) (by omega) (by omega) (by simp [Tl.row,Tl.le_length]<;>omega)).mono ?_
      rintro e w2 ⟨rfl,ho,hr⟩
      go_simp
      exact HK.out _ _ _ (by (try simp only [e15,eV]);rfl) hr trivial ⟨rfl,ho.cast (by simp [Tl.row])⟩
     exact zi.nil
    ·
     intro X2 wE2 hR2 hall2 hS2
     have hO2:X2 16=(X1 6)∧OutV B (L0++Tl.row [(1,So.w64 (po.dev)),(4,po.at_),(1,So.w64 (po.n)),(4,po.value)]) (X1 6) wE2:=hS2
     clear hall2 hS2
     go_wp2_with fail
     go_roundw
     case rel=>exact ⟨k+1,by omega,by go_num,by rw [hsn.out,←List.append_assoc,HLL.out];exact hO2.2.cast (by simp [So.sPost,Tl.row]),hR.trans (hRT.trans hR2)⟩
     case measure=>simp [intOf];omega
   ·
    obtain rfl:n=k:=by omega
    clear hlt
    have Hout:Hid (Tl.row [(1,n)]++(q.take n).flatMap So.sPost=So.sQueue q):=qH (by rw [List.take_of_length_le (by omega)];unfold So.sQueue;rw [hlq])
    generalize Tl.row [(1,n)]++(q.take n).flatMap So.sPost=L at hO Hout
    go_wp2_with fail
    refine (zai hO).mono ?_
    rintro e w3 ⟨A,c,rfl,hbs,hr2⟩
    go_wp2_with fail
    go_ret
    have hO9:=hbel.trans (((hR1.trans (hR.trans hr2)).below hBs).mono hgB)
    rw [Hout.out] at hbs
    exact ⟨A,c,by rw [←Hout.out];rfl,hbs,hO9⟩
end Go.Proofs.YtdffbihilhkkjaaGreatDoor
