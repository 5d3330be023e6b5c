import Derived.Test.YtdffbihilhkkjaaGreatDoorZ8
namespace Go.Proofs.YtdffbihilhkkjaaGreatDoor
open Go.RowKit
set_option linter.unusedVariables false
set_option linter.unusedSimpArgs false
set_option maxRecDepth 100000
set_option maxHeartbeats 8000000
def zcv (B:Nat) (v0:Value) (l0:List Nat) (c:So.Csr):Nat→(Nat→Value)→World→Prop:=fun k X w=>match k with
 | 0=>True
 | 1=>OutV B ([]:List Nat) (X 0) w
 | 2=>OutV B (Tl.row [(4,c.status),(4,c.enable),(4,c.vector),(4,c.scratch),(4,c.epc),(4,c.cause),(4,c.value)]) (X 16) w
 | 3=>OutV B (Tl.row [(4,c.status),(4,c.enable),(4,c.vector),(4,c.scratch),(4,c.epc),(4,c.cause),(4,c.value),(8,c.count)]) (X 19) w
 | 4=>∃ A k,X 20=Value.slice A (Tl.row [(4,c.status),(4,c.enable),(4,c.vector),(4,c.scratch),(4,c.epc),(4,c.cause),(4,c.value),(8,c.count)]).length k∧Bs w A (Tl.row [(4,c.status),(4,c.enable),(4,c.vector),(4,c.scratch),(4,c.epc),(4,c.cause),(4,c.value),(8,c.count)]).length k (Tl.row [(4,c.status),(4,c.enable),(4,c.vector),(4,c.scratch),(4,c.epc),(4,c.cause),(4,c.value),(8,c.count)])
 | 5=>∃ A k,X 21=Value.slice A (Tl.row [(4,c.status),(4,c.enable),(4,c.vector),(4,c.scratch),(4,c.epc),(4,c.cause),(4,c.value),(8,c.count)]).length k∧Bs w A (Tl.row [(4,c.status),(4,c.enable),(4,c.vector),(4,c.scratch),(4,c.epc),(4,c.cause),(4,c.value),(8,c.count)]).length k (Tl.row [(4,c.status),(4,c.enable),(4,c.vector),(4,c.scratch),(4,c.epc),(4,c.cause),(4,c.value),(8,c.count)])
 | _=>False
theorem zdv (B:Nat) (v0:Value) (l0:List Nat) (c:So.Csr):∀ k X w w',zcv B v0 l0 c k X w→Below w.heap.size w w'→zcv B v0 l0 c k X w':=by
 intro k X w w' h hb
 match k,h with
 | 0,h=>exact trivial
 | 1,h=>exact OutV.keep h hb
 | 2,h=>exact OutV.keep h hb
 | 3,h=>exact OutV.keep h hb
 | 4,h=>exact (let ⟨A,c,e,hq⟩:=h;⟨A,c,e,hq.keep hb⟩)
 | 5,h=>exact (let ⟨A,c,e,hq⟩:=h;⟨A,c,e,hq.keep hb⟩)
 | _+6,h=>exact h.elim
theorem zg3 (c:So.Csr) (hok:c.Ok) (w:World):Calls Tryz.prog 52 #[.agg (So.csrL c).toArray] w (MkB w (So.sControl c)):=by
 go_enter Tryz.func52,Tryz.ntmps52
 go_wp2_with fail
 have hB:=Blk.new w (So.csrL c).toArray 69
 have hbel:=za (Below.refl w.heap.size w) (.cells (So.csrL c).toArray 69)
 generalize w.alloc (.cells (So.csrL c).toArray 69)=W1 at hB hbel ⊢
 have hbB:=hbel.size
 obtain ⟨g,hg⟩:∃ g,g=w.heap.size:=⟨_,rfl⟩
 rw [←hg] at hB ⊢
 clear hg
 obtain ⟨B,hBB⟩:∃ B,B=w.heap.size:=⟨_,rfl⟩
 have hBs:B≤W1.heap.size:=by omega
 have hgB:w.heap.size≤B:=by omega
 clear hBB
 refine zc (by kernel_rfl) (fun X=>⟨#[.agg (So.csrL c).toArray,.pointer (some ⟨g,0,none⟩),X 21,X 0,X 1,X 2,X 3,X 4,X 5,X 6,X 7,X 8,X 9,X 10,X 11,X 12,X 13,X 14,X 15,X 16,X 17,X 18,X 19,X 20],[]⟩) (Outs B) (fun i v w=>match i with | 1=>(v=.pointer (some ⟨g,0,none⟩)) | 2=>(v=.int .u32 ((c.status:Nat):Int)) | 3=>(v=.pointer (some ⟨g,1,none⟩)) | 4=>(v=.int .u32 ((c.enable:Nat):Int)) | 5=>(v=.pointer (some ⟨g,2,none⟩)) | 6=>(v=.int .u32 ((c.vector:Nat):Int)) | 7=>(v=.pointer (some ⟨g,3,none⟩)) | 8=>(v=.int .u32 ((c.scratch:Nat):Int)) | 9=>(v=.pointer (some ⟨g,4,none⟩)) | 10=>(v=.int .u32 ((c.epc:Nat):Int)) | 11=>(v=.pointer (some ⟨g,5,none⟩)) | 12=>(v=.int .u32 ((c.cause:Nat):Int)) | 13=>(v=.pointer (some ⟨g,6,none⟩)) | 14=>(v=.int .u32 ((c.value:Nat):Int)) | 15=>(∃ s,v=.slice (some ⟨s,0,none⟩) 7 7∧Blk w s #[.int .u32 ((c.status:Nat):Int),.int .u32 ((c.enable:Nat):Int),.int .u32 ((c.vector:Nat):Int),.int .u32 ((c.scratch:Nat):Int),.int .u32 ((c.epc:Nat):Int),.int .u32 ((c.cause:Nat):Int),.int .u32 ((c.value:Nat):Int)] 22) | 17=>(v=.pointer (some ⟨g,7,none⟩)) | 18=>(v=.int .u64 ((c.count:Nat):Int)) | _=>True) (fun i=>([1,0,0,0,0,0,0,0,0,0,0,0,0,0,0,0,2,0,0,3,4,5]:List Nat).getD i 0) 5 (zcv B (undef) ([]) c) _ (fun i=>if i=21 then .slice none 0 0 else undef) (fun u v w a b=>a.trans b) ?_ (by kernel_rfl) (by kernel_rfl) (Outs.drew _) (trivial) ?_ ?_
 ·
  intro i v w w' h hb
  match i,h with
  | 1,h=>exact h
  | 2,h=>exact h
  | 3,h=>exact h
  | 4,h=>exact h
  | 5,h=>exact h
  | 6,h=>exact h
  | 7,h=>exact h
  | 8,h=>exact h
  | 9,h=>exact h
  | 10,h=>exact h
  | 11,h=>exact h
  | 12,h=>exact h
  | 13,h=>exact h
  | 14,h=>exact h
  | 15,h=>exact (let ⟨s,e,hb'⟩:=h;⟨s,e,hb.blk hb' (by decide) (by decide)⟩)
  | 17,h=>exact h
  | 18,h=>exact h
  | 0,h=>exact trivial
  | 16,h=>exact trivial
  | 19,h=>exact trivial
  | 20,h=>exact trivial
  | 21,h=>exact trivial
  | _+22,h=>exact trivial
 ·
  refine cS 0 0 ?_ ?_
  ·
   intro X w hR ψ χ hst K HK
   go_simp
   go_at_call 48
   refine (zay B _ (Nat.le_trans hBs hR.size)).mono ?_
   rintro e w2 ⟨v,rfl,ho,hr⟩
   go_simp
   exact HK.out _ _ _ rfl hr trivial ho
  refine cQ 1 ?_ ?_
  ·
   intro X w hR ψ χ K HK
   go_simp
   exact HK.out _ _ _ rfl (Outs.refl _ _) rfl iD
  refine cQ 2 ?_ ?_
  ·
   intro X w hR ψ χ K HK
   have e1:X 1=.pointer (some ⟨g,0,none⟩):=(pS ψ 1 .data :)
   have c2:=(hR.blk hB (by decide) (by decide)).cell 0 rfl
   go_simp
   exact HK.out _ _ _ (by (try simp only [e1]);rfl) (Outs.refl _ _) rfl iD
  refine cQ 3 ?_ ?_
  ·
   intro X w hR ψ χ K HK
   go_simp
   exact HK.out _ _ _ rfl (Outs.refl _ _) rfl iD
  refine cQ 4 ?_ ?_
  ·
   intro X w hR ψ χ K HK
   have e3:X 3=.pointer (some ⟨g,1,none⟩):=(pS ψ 3 .data :)
   have c4:=(hR.blk hB (by decide) (by decide)).cell 1 rfl
   go_simp
   exact HK.out _ _ _ (by (try simp only [e3]);rfl) (Outs.refl _ _) rfl iD
  refine cQ 5 ?_ ?_
  ·
   intro X w hR ψ χ K HK
   go_simp
   exact HK.out _ _ _ rfl (Outs.refl _ _) rfl iD
  refine cQ 6 ?_ ?_
  ·
   intro X w hR ψ χ K HK
   have e5:X 5=.pointer (some ⟨g,2,none⟩):=(pS ψ 5 .data :)
   have c6:=(hR.blk hB (by decide) (by decide)).cell 2 rfl
   go_simp
   exact HK.out _ _ _ (by (try simp only [e5]);rfl) (Outs.refl _ _) rfl iD
  refine cQ 7 ?_ ?_
  ·
   intro X w hR ψ χ K HK
   go_simp
   exact HK.out _ _ _ rfl (Outs.refl _ _) rfl iD
  refine cQ 8 ?_ ?_
  ·
   intro X w hR ψ χ K HK
   have e7:X 7=.pointer (some ⟨g,3,none⟩):=(pS ψ 7 .data :)
   have c8:=(hR.blk hB (by decide) (by decide)).cell 3 rfl
   go_simp
   exact HK.out _ _ _ (by (try simp only [e7]);rfl) (Outs.refl _ _) rfl iD
  refine cQ 9 ?_ ?_
  ·
   intro X w hR ψ χ K HK
   go_simp
   exact HK.out _ _ _ rfl (Outs.refl _ _) rfl iD
  refine cQ 10 ?_ ?_
  ·
   intro X w hR ψ χ K HK
   have e9:X 9=.pointer (some ⟨g,4,none⟩):=(pS ψ 9 .data :)
   have c10:=(hR.blk hB (by decide) (by decide)).cell 4 rfl
   go_simp
   exact HK.out _ _ _ (by (try simp only [e9]);rfl) (Outs.refl _ _) rfl iD
  refine cQ 11 ?_ ?_
  ·
   intro X w hR ψ χ K HK
   go_simp
   exact HK.out _ _ _ rfl (Outs.refl _ _) rfl iD
  refine cQ 12 ?_ ?_
  ·
   intro X w hR ψ χ K HK
   have e11:X 11=.pointer (some ⟨g,5,none⟩):=(pS ψ 11 .data :)
   have c12:=(hR.blk hB (by decide) (by decide)).cell 5 rfl
   go_simp
   exact HK.out _ _ _ (by (try simp only [e11]);rfl) (Outs.refl _ _) rfl iD
  refine cQ 13 ?_ ?_
  ·
   intro X w hR ψ χ K HK
   go_simp
   exact HK.out _ _ _ rfl (Outs.refl _ _) rfl iD
  refine cQ 14 ?_ ?_
  ·
   intro X w hR ψ χ K HK
   have e13:X 13=.pointer (some ⟨g,6,none⟩):=(pS ψ 13 .data :)
   have c14:=(hR.blk hB (by decide) (by decide)).cell 6 rfl
   go_simp
   exact HK.out _ _ _ (by (try simp only [e13]);rfl) (Outs.refl _ _) rfl iD
  refine cQ 15 ?_ ?_
  ·
   intro X w hR ψ χ K HK
   have e2:X 2=.int IntKind.u32 ((c.status:Nat):Int):=(pS ψ 2 .data :)
   have e4:X 4=.int IntKind.u32 ((c.enable:Nat):Int):=(pS ψ 4 .data :)
   have e6:X 6=.int IntKind.u32 ((c.vector:Nat):Int):=(pS ψ 6 .data :)
   have e8:X 8=.int IntKind.u32 ((c.scratch:Nat):Int):=(pS ψ 8 .data :)
   have e10:X 10=.int IntKind.u32 ((c.epc:Nat):Int):=(pS ψ 10 .data :)
   have e12:X 12=.int IntKind.u32 ((c.cause:Nat):Int):=(pS ψ 12 .data :)
   have e14:X 14=.int IntKind.u32 ((c.value:Nat):Int):=(pS ψ 14 .data :)
   go_simp
   exact HK.out _ _ _ (by (try simp only [e2,e4,e6,e8,e10,e12,e14]);rfl) (Outs.alloc _ _) ⟨_,rfl,Blk.new _ _ _⟩ (fun k _ h=>zdv B (undef) ([]) c _ _ _ _ h (za (Below.refl _ _) _))
  refine cS 16 1 ?_ ?_
  ·
   intro X w hR ψ χ hst K HK
   have hst:OutV B ([]:List Nat) (X 0) w:=hst
   obtain ⟨s15,e15,hs15⟩:∃ s,X 15=Value.slice (some ⟨s,0,none⟩) 7 7∧Blk w s #[Value.int IntKind.u32 ((c.status:Nat):Int),Value.int IntKind.u32 ((c.enable:Nat):Int),Value.int IntKind.u32 ((c.vector:Nat):Int),Value.int IntKind.u32 ((c.scratch:Nat):Int),Value.int IntKind.u32 ((c.epc:Nat):Int),Value.int IntKind.u32 ((c.cause:Nat):Int),Value.int IntKind.u32 ((c.value:Nat):Int)] 22:=(pS ψ 15 .data :)
   go_simp
   go_at_call 47
   refine (za8 hst s15 7 7 [c.status,c.enable,c.vector,c.scratch,c.epc,c.cause,c.value] hs15 rfl (by intro x hx;simp only [List.mem_cons,List.not_mem_nil,or_false] at hx;have:=hok;unfold So.Csr.Ok at this;rcases hx with rfl | rfl | rfl | rfl | rfl | rfl | rfl  <;> omega) (by simp [Tl.row,Tl.le_length])).mono ?_
   rintro e w2 ⟨rfl,ho,hr⟩
   go_simp
   exact HK.out _ _ _ (by (try simp only [e15]);rfl) hr trivial (ho.cast (by simp [Tl.row]))
  refine cQ 17 ?_ ?_
  ·
   intro X w hR ψ χ K HK
   go_simp
   exact HK.out _ _ _ rfl (Outs.refl _ _) rfl iD
  refine cQ 18 ?_ ?_
  ·
   intro X w hR ψ χ K HK
   have e17:X 17=.pointer (some ⟨g,7,none⟩):=(pS ψ 17 .data :)
   have c18:=(hR.blk hB (by decide) (by decide)).cell 7 rfl
   go_simp
   exact HK.out _ _ _ (by (try simp only [e17]);rfl) (Outs.refl _ _) rfl iD
  refine cS 19 2 ?_ ?_
  ·
   intro X w hR ψ χ hst K HK
   have hst:OutV B (Tl.row [(4,c.status),(4,c.enable),(4,c.vector),(4,c.scratch),(4,c.epc),(4,c.cause),(4,c.value)]) (X 16) w:=hst
   have e18:X 18=.int IntKind.u64 ((c.count:Nat):Int):=(pS ψ 18 .data :)
   go_simp
   go_at_call 50
   refine (zO hst (c.count) 8 (by have:=hok;unfold So.Csr.Ok at this;omega) (by omega) (by omega) (by simp [Tl.row,Tl.le_length])).mono ?_
   rintro e w2 ⟨rfl,ho,hr⟩
   go_simp
   exact HK.out _ _ _ (by (try simp only [e18]);rfl) hr trivial (ho.cast (by simp [Tl.row]))
  refine cS 20 3 ?_ ?_
  ·
   intro X w hR ψ χ hst K HK
   have hst:OutV B (Tl.row [(4,c.status),(4,c.enable),(4,c.vector),(4,c.scratch),(4,c.epc),(4,c.cause),(4,c.value),(8,c.count)]) (X 19) w:=hst
   go_simp
   go_at_call 49
   refine (zai hst).mono ?_
   rintro e w2 ⟨A,k,rfl,hbs,hr⟩
   go_simp
   exact HK.out _ _ _ rfl hr trivial ⟨A,k,rfl,hbs⟩
  refine cS 21 4 ?_ ?_
  ·
   intro X w hR ψ χ hst K HK
   have hst:∃ A k,X 20=Value.slice A (Tl.row [(4,c.status),(4,c.enable),(4,c.vector),(4,c.scratch),(4,c.epc),(4,c.cause),(4,c.value),(8,c.count)]).length k∧Bs w A (Tl.row [(4,c.status),(4,c.enable),(4,c.vector),(4,c.scratch),(4,c.epc),(4,c.cause),(4,c.value),(8,c.count)]).length k (Tl.row [(4,c.status),(4,c.enable),(4,c.vector),(4,c.scratch),(4,c.epc),(4,c.cause),(4,c.value),(8,c.count)]):=hst
   obtain ⟨A,k,e20,hbs⟩:=hst
   go_simp
   exact HK.out _ _ _ (by (try simp only [e20]);rfl) (Outs.refl _ _) trivial ⟨A,k,rfl,hbs⟩
  exact zi.nil
 ·
  intro X1 wE1 hR1 hall1 hS1
  obtain ⟨A,k,eL,hbs⟩:∃ A k,X1 21=Value.slice A (Tl.row [(4,c.status),(4,c.enable),(4,c.vector),(4,c.scratch),(4,c.epc),(4,c.cause),(4,c.value),(8,c.count)]).length k∧Bs wE1 A (Tl.row [(4,c.status),(4,c.enable),(4,c.vector),(4,c.scratch),(4,c.epc),(4,c.cause),(4,c.value),(8,c.count)]).length k (Tl.row [(4,c.status),(4,c.enable),(4,c.vector),(4,c.scratch),(4,c.epc),(4,c.cause),(4,c.value),(8,c.count)]):=hS1
  clear hall1
  go_wp2_with fail
  go_ret
  have hO:=hbel.trans ((hR1.below hBs).mono hgB)
  have eO:So.sControl c=Tl.row [(4,c.status),(4,c.enable),(4,c.vector),(4,c.scratch),(4,c.epc),(4,c.cause),(4,c.value),(8,c.count)]:=by simp [So.sControl,Tl.row]
  exact ⟨A,k,by rw [eO];first | rw [eL];rfl | rw [←eL];rfl,by rw [eO];exact hbs,hO⟩
def zkM (B:Nat) (v0:Value) (l0:List Nat) (c:So.Clint):Nat→(Nat→Value)→World→Prop:=fun k X w=>match k with
 | 0=>True
 | 1=>OutV B ([]:List Nat) (X 0) w
 | 2=>OutV B (Tl.row [(1,c.soft)]) (X 4) w
 | 3=>OutV B (Tl.row [(1,c.soft),(8,c.time)]) (X 7) w
 | 4=>OutV B (Tl.row [(1,c.soft),(8,c.time),(8,c.cmp)]) (X 10) w
 | 5=>∃ A k,X 11=Value.slice A (Tl.row [(1,c.soft),(8,c.time),(8,c.cmp)]).length k∧Bs w A (Tl.row [(1,c.soft),(8,c.time),(8,c.cmp)]).length k (Tl.row [(1,c.soft),(8,c.time),(8,c.cmp)])
 | 6=>∃ A k,X 12=Value.slice A (Tl.row [(1,c.soft),(8,c.time),(8,c.cmp)]).length k∧Bs w A (Tl.row [(1,c.soft),(8,c.time),(8,c.cmp)]).length k (Tl.row [(1,c.soft),(8,c.time),(8,c.cmp)])
 | _=>False
theorem zkN (c:So.Clint) (hok:c.Ok) (w:World):Calls Tryz.prog 54 #[.agg (So.clintL c).toArray] w (MkB w (So.sTimer c)):=by
 go_enter Tryz.func54,Tryz.ntmps54
 go_wp2_with fail
 have hB:=Blk.new w (So.clintL c).toArray 75
 have hbel:=za (Below.refl w.heap.size w) (.cells (So.clintL c).toArray 75)
 generalize w.alloc (.cells (So.clintL c).toArray 75)=W1 at hB hbel ⊢
 have hbB:=hbel.size
 obtain ⟨g,hg⟩:∃ g,g=w.heap.size:=⟨_,rfl⟩
 rw [←hg] at hB ⊢
 clear hg
 obtain ⟨B,hBB⟩:∃ B,B=w.heap.size:=⟨_,rfl⟩
 have hBs:B≤W1.heap.size:=by omega
 have hgB:w.heap.size≤B:=by omega
 clear hBB
 refine zc (by kernel_rfl) (fun X=>⟨#[.agg (So.clintL c).toArray,.pointer (some ⟨g,0,none⟩),X 12,X 0,X 1,X 2,X 3,X 4,X 5,X 6,X 7,X 8,X 9,X 10,X 11],[]⟩) (Outs B) (fun i v w=>match i with | 1=>(v=.pointer (some ⟨g,0,none⟩)) | 2=>(v=.int .u32 ((c.soft:Nat):Int)) | 3=>(v=.int .u64 ((c.soft:Nat):Int)) | 5=>(v=.pointer (some ⟨g,1,none⟩)) | 6=>(v=.int .u64 ((c.time:Nat):Int)) | 8=>(v=.pointer (some ⟨g,2,none⟩)) | 9=>(v=.int .u64 ((c.cmp:Nat):Int)) | _=>True) (fun i=>([1,0,0,0,2,0,0,3,0,0,4,5,6]:List Nat).getD i 0) 6 (zkM B (undef) ([]) c) _ (fun i=>if i=12 then .slice none 0 0 else undef) (fun u v w a b=>a.trans b) ?_ (by kernel_rfl) (by kernel_rfl) (Outs.drew _) (trivial) ?_ ?_
 ·
  intro i v w w' h hb
  match i,h with
  | 1,h=>exact h
  | 2,h=>exact h
  | 3,h=>exact h
  | 5,h=>exact h
  | 6,h=>exact h
  | 8,h=>exact h
  | 9,h=>exact h
  | 0,h=>exact trivial
  | 4,h=>exact trivial
  | 7,h=>exact trivial
  | 10,h=>exact trivial
  | 11,h=>exact trivial
  | 12,h=>exact trivial
  | _+13,h=>exact trivial
 ·
  refine cS 0 0 ?_ ?_
  ·
   intro X w hR ψ χ hst K HK
   go_simp
   go_at_call 48
   refine (zay B _ (Nat.le_trans hBs hR.size)).mono ?_
   rintro e w2 ⟨v,rfl,ho,hr⟩
   go_simp
   exact HK.out _ _ _ rfl hr trivial ho
  refine cQ 1 ?_ ?_
  ·
   intro X w hR ψ χ K HK
   go_simp
   exact HK.out _ _ _ rfl (Outs.refl _ _) rfl iD
  refine cQ 2 ?_ ?_
  ·
   intro X w hR ψ χ K HK
   have e1:X 1=.pointer (some ⟨g,0,none⟩):=(pS ψ 1 .data :)
   have c2:=(hR.blk hB (by decide) (by decide)).cell 0 rfl
   go_simp
   exact HK.out _ _ _ (by (try simp only [e1]);rfl) (Outs.refl _ _) rfl iD
  refine cQ 3 ?_ ?_
  ·
   intro X w hR ψ χ K HK
   have e2:X 2=.int IntKind.u32 ((c.soft:Nat):Int):=(pS ψ 2 .data :)
   have q3:=zY (c.soft) (by have:=hok;unfold So.Clint.Ok at this;omega)
   go_simp
   exact HK.out _ _ _ (by (try simp only [e2]);rfl) (Outs.refl _ _) rfl iD
  refine cS 4 1 ?_ ?_
  ·
   intro X w hR ψ χ hst K HK
   have hst:OutV B ([]:List Nat) (X 0) w:=hst
   have e3:X 3=.int IntKind.u64 ((c.soft:Nat):Int):=(pS ψ 3 .data :)
   go_simp
   go_at_call 50
   refine (zO hst (c.soft) 1 (by have:=hok;unfold So.Clint.Ok at this;omega) (by omega) (by omega) (by simp [Tl.row,Tl.le_length])).mono ?_
   rintro e w2 ⟨rfl,ho,hr⟩
   go_simp
   exact HK.out _ _ _ (by (try simp only [e3]);rfl) hr trivial (ho.cast (by simp [Tl.row]))
  refine cQ 5 ?_ ?_
  ·
   intro X w hR ψ χ K HK
   go_simp
   exact HK.out _ _ _ rfl (Outs.refl _ _) rfl iD
  refine cQ 6 ?_ ?_
  ·
   intro X w hR ψ χ K HK
   have e5:X 5=.pointer (some ⟨g,1,none⟩):=(pS ψ 5 .data :)
   have c6:=(hR.blk hB (by decide) (by decide)).cell 1 rfl
   go_simp
   exact HK.out _ _ _ (by (try simp only [e5]);rfl) (Outs.refl _ _) rfl iD
  refine cS 7 2 ?_ ?_
  ·
   intro X w hR ψ χ hst K HK
   have hst:OutV B (Tl.row [(1,c.soft)]) (X 4) w:=hst
   have e6:X 6=.int IntKind.u64 ((c.time:Nat):Int):=(pS ψ 6 .data :)
   go_simp
   go_at_call 50
   refine (zO hst (c.time) 8 (by have:=hok;unfold So.Clint.Ok at this;omega) (by omega) (by omega) (by simp [Tl.row,Tl.le_length])).mono ?_
   rintro e w2 ⟨rfl,ho,hr⟩
   go_simp
   exact HK.out _ _ _ (by (try simp only [e6]);rfl) hr trivial (ho.cast (by simp [Tl.row]))
  refine cQ 8 ?_ ?_
  ·
   intro X w hR ψ χ K HK
   go_simp
   exact HK.out _ _ _ rfl (Outs.refl _ _) rfl iD
  refine cQ 9 ?_ ?_
  ·
   intro X w hR ψ χ K HK
   have e8:X 8=.pointer (some ⟨g,2,none⟩):=(pS ψ 8 .data :)
   have c9:=(hR.blk hB (by decide) (by decide)).cell 2 rfl
   go_simp
   exact HK.out _ _ _ (by (try simp only [e8]);rfl) (Outs.refl _ _) rfl iD
  refine cS 10 3 ?_ ?_
  ·
   intro X w hR ψ χ hst K HK
   have hst:OutV B (Tl.row [(1,c.soft),(8,c.time)]) (X 7) w:=hst
   have e9:X 9=.int IntKind.u64 ((c.cmp:Nat):Int):=(pS ψ 9 .data :)
   go_simp
   go_at_call 50
   refine (zO hst (c.cmp) 8 (by have:=hok;unfold So.Clint.Ok at this;omega) (by omega) (by omega) (by simp [Tl.row,Tl.le_length])).mono ?_
   rintro e w2 ⟨rfl,ho,hr⟩
   go_simp
   exact HK.out _ _ _ (by (try simp only [e9]);rfl) hr trivial (ho.cast (by simp [Tl.row]))
  refine cS 11 4 ?_ ?_
  ·
   intro X w hR ψ χ hst K HK
   have hst:OutV B (Tl.row [(1,c.soft),(8,c.time),(8,c.cmp)]) (X 10) w:=hst
   go_simp
   go_at_call 49
   refine (zai hst).mono ?_
   rintro e w2 ⟨A,k,rfl,hbs,hr⟩
   go_simp
   exact HK.out _ _ _ rfl hr trivial ⟨A,k,rfl,hbs⟩
  refine cS 12 5 ?_ ?_
  ·
   intro X w hR ψ χ hst K HK
   have hst:∃ A k,X 11=Value.slice A (Tl.row [(1,c.soft),(8,c.time),(8,c.cmp)]).length k∧Bs w A (Tl.row [(1,c.soft),(8,c.time),(8,c.cmp)]).length k (Tl.row [(1,c.soft),(8,c.time),(8,c.cmp)]):=hst
   obtain ⟨A,k,e11,hbs⟩:=hst
   go_simp
   exact HK.out _ _ _ (by (try simp only [e11]);rfl) (Outs.refl _ _) trivial ⟨A,k,rfl,hbs⟩
  exact zi.nil
 ·
  intro X1 wE1 hR1 hall1 hS1
  obtain ⟨A,k,eL,hbs⟩:∃ A k,X1 12=Value.slice A (Tl.row [(1,c.soft),(8,c.time),(8,c.cmp)]).length k∧Bs wE1 A (Tl.row [(1,c.soft),(8,c.time),(8,c.cmp)]).length k (Tl.row [(1,c.soft),(8,c.time),(8,c.cmp)]):=hS1
  clear hall1
  go_wp2_with fail
  go_ret
  have hO:=hbel.trans ((hR1.below hBs).mono hgB)
  have eO:So.sTimer c=Tl.row [(1,c.soft),(8,c.time),(8,c.cmp)]:=by simp [So.sTimer,Tl.row]
  exact ⟨A,k,by rw [eO];first | rw [eL];rfl | rw [←eL];rfl,by rw [eO];exact hbs,hO⟩
def znW (B:Nat) (v0:Value) (l0:List Nat) (n:So.Nic):Nat→(Nat→Value)→World→Prop:=fun k X w=>match k with
 | 0=>True
 | 1=>OutV B ([]:List Nat) (X 0) w
 | 2=>OutV B (Tl.row [(1,So.one (n.bell))]) (X 4) w
 | 3=>OutV B (Tl.row [(1,So.one (n.bell)),(4,n.lost)]) (X 8) w
 | 4=>∃ A k,X 9=Value.slice A (Tl.row [(1,So.one (n.bell)),(4,n.lost)]).length k∧Bs w A (Tl.row [(1,So.one (n.bell)),(4,n.lost)]).length k (Tl.row [(1,So.one (n.bell)),(4,n.lost)])
 | 5=>∃ A k,X 10=Value.slice A (Tl.row [(1,So.one (n.bell)),(4,n.lost)]).length k∧Bs w A (Tl.row [(1,So.one (n.bell)),(4,n.lost)]).length k (Tl.row [(1,So.one (n.bell)),(4,n.lost)])
 | _=>False
theorem znX (n:So.Nic) (hok:n.Ok) (w:World):Calls Tryz.prog 60 #[.agg (So.nicL n).toArray] w (MkB w (So.sNet n)):=by
 go_enter Tryz.func60,Tryz.ntmps60
 go_wp2_with fail
 have hB:=Blk.new w (So.nicL n).toArray 91
 have hbel:=za (Below.refl w.heap.size w) (.cells (So.nicL n).toArray 91)
 generalize w.alloc (.cells (So.nicL n).toArray 91)=W1 at hB hbel ⊢
 have hbB:=hbel.size
 obtain ⟨g,hg⟩:∃ g,g=w.heap.size:=⟨_,rfl⟩
 rw [←hg] at hB ⊢
 clear hg
 obtain ⟨B,hBB⟩:∃ B,B=w.heap.size:=⟨_,rfl⟩
 have hBs:B≤W1.heap.size:=by omega
 have hgB:w.heap.size≤B:=by omega
 clear hBB
 refine zc (by kernel_rfl) (fun X=>⟨#[.agg (So.nicL n).toArray,.pointer (some ⟨g,0,none⟩),X 10,X 0,X 1,X 2,X 3,X 4,X 5,X 6,X 7,X 8,X 9],[]⟩) (Outs B) (fun i v w=>match i with | 1=>(v=.pointer (some ⟨g,21,none⟩)) | 2=>(v=.bool (n.bell)) | 3=>(v=.int .u64 ((So.one (n.bell):Nat):Int)) | 5=>(v=.pointer (some ⟨g,22,none⟩)) | 6=>(v=.int .u32 ((n.lost:Nat):Int)) | 7=>(v=.int .u64 ((n.lost:Nat):Int)) | _=>True) (fun i=>([1,0,0,0,2,0,0,0,3,4,5]:List Nat).getD i 0) 5 (znW B (undef) ([]) n) _ (fun i=>if i=10 then .slice none 0 0 else undef) (fun u v w a b=>a.trans b) ?_ (by kernel_rfl) (by kernel_rfl) (Outs.drew _) (trivial) ?_ ?_
 ·
  intro i v w w' h hb
  match i,h with
  | 1,h=>exact h
  | 2,h=>exact h
  | 3,h=>exact h
  | 5,h=>exact h
  | 6,h=>exact h
  | 7,h=>exact h
  | 0,h=>exact trivial
  | 4,h=>exact trivial
  | 8,h=>exact trivial
  | 9,h=>exact trivial
  | 10,h=>exact trivial
  | _+11,h=>exact trivial
 ·
  refine cS 0 0 ?_ ?_
  ·
   intro X w hR ψ χ hst K HK
   go_simp
   go_at_call 48
   refine (zay B _ (Nat.le_trans hBs hR.size)).mono ?_
   rintro e w2 ⟨v,rfl,ho,hr⟩
   go_simp
   exact HK.out _ _ _ rfl hr trivial ho
  refine cQ 1 ?_ ?_
  ·
   intro X w hR ψ χ K HK
   go_simp
   exact HK.out _ _ _ rfl (Outs.refl _ _) rfl iD
  refine cQ 2 ?_ ?_
  ·
   intro X w hR ψ χ K HK
   have e1:X 1=.pointer (some ⟨g,21,none⟩):=(pS ψ 1 .data :)
   have c2:=(hR.blk hB (by decide) (by decide)).cell 21 rfl
   go_simp
   exact HK.out _ _ _ (by (try simp only [e1]);rfl) (Outs.refl _ _) rfl iD
  refine cQ 3 ?_ ?_
  ·
   intro X w hR ψ χ K HK
   have e2:X 2=.bool (n.bell):=(pS ψ 2 .data :)
   go_simp
   go_at_call 131
   refine (zbK (n.bell) _).mono ?_
   rintro e w2 ⟨rfl,rfl⟩
   go_simp
   exact HK.out _ _ _ (by (try simp only [e2]);rfl) (Outs.refl _ _) rfl iD
  refine cS 4 1 ?_ ?_
  ·
   intro X w hR ψ χ hst K HK
   have hst:OutV B ([]:List Nat) (X 0) w:=hst
   have e3:X 3=.int IntKind.u64 ((So.one (n.bell):Nat):Int):=(pS ψ 3 .data :)
   go_simp
   go_at_call 50
   refine (zO hst (So.one (n.bell)) 1 (by exact zdl _) (by omega) (by omega) (by simp [Tl.row,Tl.le_length])).mono ?_
   rintro e w2 ⟨rfl,ho,hr⟩
   go_simp
   exact HK.out _ _ _ (by (try simp only [e3]);rfl) hr trivial (ho.cast (by simp [Tl.row]))
  refine cQ 5 ?_ ?_
  ·
   intro X w hR ψ χ K HK
   go_simp
   exact HK.out _ _ _ rfl (Outs.refl _ _) rfl iD
  refine cQ 6 ?_ ?_
  ·
   intro X w hR ψ χ K HK
   have e5:X 5=.pointer (some ⟨g,22,none⟩):=(pS ψ 5 .data :)
   have c6:=(hR.blk hB (by decide) (by decide)).cell 22 rfl
   go_simp
   exact HK.out _ _ _ (by (try simp only [e5]);rfl) (Outs.refl _ _) rfl iD
  refine cQ 7 ?_ ?_
  ·
   intro X w hR ψ χ K HK
   have e6:X 6=.int IntKind.u32 ((n.lost:Nat):Int):=(pS ψ 6 .data :)
   have q7:=zY (n.lost) (by have:=hok;unfold So.Nic.Ok at this;omega)
   go_simp
   exact HK.out _ _ _ (by (try simp only [e6]);rfl) (Outs.refl _ _) rfl iD
  refine cS 8 2 ?_ ?_
  ·
   intro X w hR ψ χ hst K HK
   have hst:OutV B (Tl.row [(1,So.one (n.bell))]) (X 4) w:=hst
   have e7:X 7=.int IntKind.u64 ((n.lost:Nat):Int):=(pS ψ 7 .data :)
   go_simp
   go_at_call 50
   refine (zO hst (n.lost) 4 (by have:=hok;unfold So.Nic.Ok at this;omega) (by omega) (by omega) (by simp [Tl.row,Tl.le_length])).mono ?_
   rintro e w2 ⟨rfl,ho,hr⟩
   go_simp
   exact HK.out _ _ _ (by (try simp only [e7]);rfl) hr trivial (ho.cast (by simp [Tl.row]))
  refine cS 9 3 ?_ ?_
  ·
   intro X w hR ψ χ hst K HK
   have hst:OutV B (Tl.row [(1,So.one (n.bell)),(4,n.lost)]) (X 8) w:=hst
   go_simp
   go_at_call 49
   refine (zai hst).mono ?_
   rintro e w2 ⟨A,k,rfl,hbs,hr⟩
   go_simp
   exact HK.out _ _ _ rfl hr trivial ⟨A,k,rfl,hbs⟩
  refine cS 10 4 ?_ ?_
  ·
   intro X w hR ψ χ hst K HK
   have hst:∃ A k,X 9=Value.slice A (Tl.row [(1,So.one (n.bell)),(4,n.lost)]).length k∧Bs w A (Tl.row [(1,So.one (n.bell)),(4,n.lost)]).length k (Tl.row [(1,So.one (n.bell)),(4,n.lost)]):=hst
   obtain ⟨A,k,e9,hbs⟩:=hst
   go_simp
   exact HK.out _ _ _ (by (try simp only [e9]);rfl) (Outs.refl _ _) trivial ⟨A,k,rfl,hbs⟩
  exact zi.nil
 ·
  intro X1 wE1 hR1 hall1 hS1
  obtain ⟨A,k,eL,hbs⟩:∃ A k,X1 10=Value.slice A (Tl.row [(1,So.one (n.bell)),(4,n.lost)]).length k∧Bs wE1 A (Tl.row [(1,So.one (n.bell)),(4,n.lost)]).length k (Tl.row [(1,So.one (n.bell)),(4,n.lost)]):=hS1
  clear hall1
  go_wp2_with fail
  go_ret
  have hO:=hbel.trans ((hR1.below hBs).mono hgB)
  have eO:So.sNet n=Tl.row [(1,So.one (n.bell)),(4,n.lost)]:=by simp [So.sNet,Tl.row]
  exact ⟨A,k,by rw [eO];first | rw [eL];rfl | rw [←eL];rfl,by rw [eO];exact hbs,hO⟩
def zde (B:Nat) (v0:Value) (l0:List Nat) (d:So.Dma):Nat→(Nat→Value)→World→Prop:=fun k X w=>match k with
 | 0=>True
 | 1=>OutV B ([]:List Nat) (X 0) w
 | 2=>OutV B (Tl.row [(1,d.code)]) (X 4) w
 | 3=>OutV B (Tl.row [(1,d.code),(4,d.head),(4,d.at_)]) (X 10) w
 | 4=>OutV B (Tl.row [(1,d.code),(4,d.head),(4,d.at_),(1,d.steps)]) (X 14) w
 | 5=>OutV B (Tl.row [(1,d.code),(4,d.head),(4,d.at_),(1,d.steps)]) (X 15) w
 | _=>False
theorem zek (B:Nat) (v0:Value) (l0:List Nat) (d:So.Dma):∀ k X w w',zde B v0 l0 d k X w→Below w.heap.size w w'→zde B v0 l0 d k X w':=by
 intro k X w w' h hb
 match k,h with
 | 0,h=>exact trivial
 | 1,h=>exact OutV.keep h hb
 | 2,h=>exact OutV.keep h hb
 | 3,h=>exact OutV.keep h hb
 | 4,h=>exact OutV.keep h hb
 | 5,h=>exact OutV.keep h hb
 | _+6,h=>exact h.elim
def zdf (B:Nat) (v0:Value) (l0:List Nat) (d:So.Dma):Nat→(Nat→Value)→World→Prop:=fun k X w=>match k with
 | 0=>OutV B l0 v0 w
 | 1=>X 4=v0∧OutV B (l0++Tl.row [(4,d.moved)]) v0 w
 | 2=>X 8=v0∧OutV B (l0++Tl.row [(4,d.moved),(1,So.one (d.have_))]) v0 w
 | 3=>X 9=v0∧OutV B (l0++Tl.row [(4,d.moved),(1,So.one (d.have_))]) v0 w
 | _=>False
theorem zel (B:Nat) (v0:Value) (l0:List Nat) (d:So.Dma):∀ k X w w',zdf B v0 l0 d k X w→Below w.heap.size w w'→zdf B v0 l0 d k X w':=by
 intro k X w w' h hb
 match k,h with
 | 0,h=>exact OutV.keep h hb
 | 1,h=>exact ⟨h.1,OutV.keep h.2 hb⟩
 | 2,h=>exact ⟨h.1,OutV.keep h.2 hb⟩
 | 3,h=>exact ⟨h.1,OutV.keep h.2 hb⟩
 | _+4,h=>exact h.elim
def zdg (B:Nat) (v0:Value) (l0:List Nat) (d:So.Dma):Nat→(Nat→Value)→World→Prop:=fun k X w=>match k with
 | 0=>OutV B l0 v0 w
 | 1=>X 10=v0∧OutV B (l0++Tl.row [(4,d.from_),(4,d.to),(4,d.left),(4,d.next)]) v0 w
 | 2=>X 14=v0∧OutV B (l0++Tl.row [(4,d.from_),(4,d.to),(4,d.left),(4,d.next),(1,So.one (d.asks))]) v0 w
 | 3=>∃ A k,X 15=Value.slice A (l0++Tl.row [(4,d.from_),(4,d.to),(4,d.left),(4,d.next),(1,So.one (d.asks))]).length k∧Bs w A (l0++Tl.row [(4,d.from_),(4,d.to),(4,d.left),(4,d.next),(1,So.one (d.asks))]).length k (l0++Tl.row [(4,d.from_),(4,d.to),(4,d.left),(4,d.next),(1,So.one (d.asks))])
 | 4=>∃ A k,X 16=Value.slice A (l0++Tl.row [(4,d.from_),(4,d.to),(4,d.left),(4,d.next),(1,So.one (d.asks))]).length k∧Bs w A (l0++Tl.row [(4,d.from_),(4,d.to),(4,d.left),(4,d.next),(1,So.one (d.asks))]).length k (l0++Tl.row [(4,d.from_),(4,d.to),(4,d.left),(4,d.next),(1,So.one (d.asks))])
 | _=>False
theorem zem (B:Nat) (v0:Value) (l0:List Nat) (d:So.Dma):∀ k X w w',zdg B v0 l0 d k X w→Below w.heap.size w w'→zdg B v0 l0 d k X w':=by
 intro k X w w' h hb
 match k,h with
 | 0,h=>exact OutV.keep h hb
 | 1,h=>exact ⟨h.1,OutV.keep h.2 hb⟩
 | 2,h=>exact ⟨h.1,OutV.keep h.2 hb⟩
 | 3,h=>exact (let ⟨A,c,e,hq⟩:=h;⟨A,c,e,hq.keep hb⟩)
 | 4,h=>exact (let ⟨A,c,e,hq⟩:=h;⟨A,c,e,hq.keep hb⟩)
 | _+5,h=>exact h.elim
theorem zjd (d:So.Dma) (hok:d.Ok) (w:World):Calls Tryz.prog 57 #[.agg (So.dmaL d).toArray] w (MkB w (So.sEngine d)):=by
 go_enter Tryz.func57,Tryz.ntmps57
 go_wp2_with fail
 have hB:=Blk.new w (So.dmaL d).toArray 80
 have hbel:=za (Below.refl w.heap.size w) (.cells (So.dmaL d).toArray 80)
 generalize w.alloc (.cells (So.dmaL d).toArray 80)=W1 at hB hbel ⊢
 have hbB:=hbel.size
 obtain ⟨g,hg⟩:∃ g,g=w.heap.size:=⟨_,rfl⟩
 rw [←hg] at hB ⊢
 clear hg
 obtain ⟨B,hBB⟩:∃ B,B=w.heap.size:=⟨_,rfl⟩
 have hBs:B≤W1.heap.size:=by omega
 have hgB:w.heap.size≤B:=by omega
 clear hBB
 refine zc (by kernel_rfl) (fun X=>⟨#[.agg (So.dmaL d).toArray,.pointer (some ⟨g,0,none⟩),.slice none 0 0,X 15,X 0,X 1,X 2,X 3,X 4,X 5,X 6,X 7,X 8,X 9,X 10,X 11,X 12,X 13,X 14,undef,undef,undef,undef,undef,undef,undef,undef,undef,undef,undef,undef,undef,undef,undef,undef,undef,undef,undef,undef,undef,undef,undef,undef,undef],[]⟩) (Outs B) (fun i v w=>match i with | 1=>(v=.pointer (some ⟨g,0,none⟩)) | 2=>(v=.int .u32 ((d.code:Nat):Int)) | 3=>(v=.int .u64 ((d.code:Nat):Int)) | 5=>(v=.pointer (some ⟨g,1,none⟩)) | 6=>(v=.int .u32 ((d.head:Nat):Int)) | 7=>(v=.pointer (some ⟨g,2,none⟩)) | 8=>(v=.int .u32 ((d.at_:Nat):Int)) | 9=>(∃ s,v=.slice (some ⟨s,0,none⟩) 2 2∧Blk w s #[.int .u32 ((d.head:Nat):Int),.int .u32 ((d.at_:Nat):Int)] 22) | 11=>(v=.pointer (some ⟨g,3,none⟩)) | 12=>(v=.int .u32 ((d.steps:Nat):Int)) | 13=>(v=.int .u64 ((d.steps:Nat):Int)) | _=>True) (fun i=>([1,0,0,0,2,0,0,0,0,0,3,0,0,0,4,5]:List Nat).getD i 0) 5 (zde B (undef) ([]) d) _ (fun _=>undef) (fun u v w a b=>a.trans b) ?_ (by kernel_rfl) (by kernel_rfl) (Outs.drew _) (trivial) ?_ ?_
 ·
  intro i v w w' h hb
  match i,h with
  | 1,h=>exact h
  | 2,h=>exact h
  | 3,h=>exact h
  | 5,h=>exact h
  | 6,h=>exact h
  | 7,h=>exact h
  | 8,h=>exact h
  | 9,h=>exact (let ⟨s,e,hb'⟩:=h;⟨s,e,hb.blk hb' (by decide) (by decide)⟩)
  | 11,h=>exact h
  | 12,h=>exact h
  | 13,h=>exact h
  | 0,h=>exact trivial
  | 4,h=>exact trivial
  | 10,h=>exact trivial
  | 14,h=>exact trivial
  | 15,h=>exact trivial
  | _+16,h=>exact trivial
 ·
  refine cS 0 0 ?_ ?_
  ·
   intro X w hR ψ χ hst K HK
   go_simp
   go_at_call 48
   refine (zay B _ (Nat.le_trans hBs hR.size)).mono ?_
   rintro e w2 ⟨v,rfl,ho,hr⟩
   go_simp
   exact HK.out _ _ _ rfl hr trivial ho
  refine cQ 1 ?_ ?_
  ·
   intro X w hR ψ χ K HK
   go_simp
   exact HK.out _ _ _ rfl (Outs.refl _ _) rfl iD
  refine cQ 2 ?_ ?_
  ·
   intro X w hR ψ χ K HK
   have e1:X 1=.pointer (some ⟨g,0,none⟩):=(pS ψ 1 .data :)
   have c2:=(hR.blk hB (by decide) (by decide)).cell 0 rfl
   go_simp
   exact HK.out _ _ _ (by (try simp only [e1]);rfl) (Outs.refl _ _) rfl iD
  refine cQ 3 ?_ ?_
  ·
   intro X w hR ψ χ K HK
   have e2:X 2=.int IntKind.u32 ((d.code:Nat):Int):=(pS ψ 2 .data :)
   have q3:=zY (d.code) (by have:=hok;unfold So.Dma.Ok at this;omega)
   go_simp
   exact HK.out _ _ _ (by (try simp only [e2]);rfl) (Outs.refl _ _) rfl iD
  refine cS 4 1 ?_ ?_
  ·
   intro X w hR ψ χ hst K HK
   have hst:OutV B ([]:List Nat) (X 0) w:=hst
   have e3:X 3=.int IntKind.u64 ((d.code:Nat):Int):=(pS ψ 3 .data :)
   go_simp
   go_at_call 50
   refine (zO hst (d.code) 1 (by have:=hok;unfold So.Dma.Ok at this;omega) (by omega) (by omega) (by simp [Tl.row,Tl.le_length])).mono ?_
   rintro e w2 ⟨rfl,ho,hr⟩
   go_simp
   exact HK.out _ _ _ (by (try simp only [e3]);rfl) hr trivial (ho.cast (by simp [Tl.row]))
  refine cQ 5 ?_ ?_
  ·
   intro X w hR ψ χ K HK
   go_simp
   exact HK.out _ _ _ rfl (Outs.refl _ _) rfl iD
  refine cQ 6 ?_ ?_
  ·
   intro X w hR ψ χ K HK
   have e5:X 5=.pointer (some ⟨g,1,none⟩):=(pS ψ 5 .data :)
   have c6:=(hR.blk hB (by decide) (by decide)).cell 1 rfl
   go_simp
   exact HK.out _ _ _ (by (try simp only [e5]);rfl) (Outs.refl _ _) rfl iD
  refine cQ 7 ?_ ?_
  ·
   intro X w hR ψ χ K HK
   go_simp
   exact HK.out _ _ _ rfl (Outs.refl _ _) rfl iD
  refine cQ 8 ?_ ?_
  ·
   intro X w hR ψ χ K HK
   have e7:X 7=.pointer (some ⟨g,2,none⟩):=(pS ψ 7 .data :)
   have c8:=(hR.blk hB (by decide) (by decide)).cell 2 rfl
   go_simp
   exact HK.out _ _ _ (by (try simp only [e7]);rfl) (Outs.refl _ _) rfl iD
  refine cQ 9 ?_ ?_
  ·
   intro X w hR ψ χ K HK
   have e6:X 6=.int IntKind.u32 ((d.head:Nat):Int):=(pS ψ 6 .data :)
   have e8:X 8=.int IntKind.u32 ((d.at_:Nat):Int):=(pS ψ 8 .data :)
   go_simp
   exact HK.out _ _ _ (by (try simp only [e6,e8]);rfl) (Outs.alloc _ _) ⟨_,rfl,Blk.new _ _ _⟩ (fun k _ h=>zek B (undef) ([]) d _ _ _ _ h (za (Below.refl _ _) _))
  refine cS 10 2 ?_ ?_
  ·
   intro X w hR ψ χ hst K HK
   have hst:OutV B (Tl.row [(1,d.code)]) (X 4) w:=hst
   obtain ⟨s9,e9,hs9⟩:∃ s,X 9=Value.slice (some ⟨s,0,none⟩) 2 2∧Blk w s #[Value.int IntKind.u32 ((d.head:Nat):Int),Value.int IntKind.u32 ((d.at_:Nat):Int)] 22:=(pS ψ 9 .data :)
   go_simp
   go_at_call 47
   refine (za8 hst s9 2 2 [d.head,d.at_] hs9 rfl (by intro x hx;simp only [List.mem_cons,List.not_mem_nil,or_false] at hx;have:=hok;unfold So.Dma.Ok at this;rcases hx with rfl | rfl  <;> omega) (by simp [Tl.row,Tl.le_length])).mono ?_
   rintro e w2 ⟨rfl,ho,hr⟩
   go_simp
   exact HK.out _ _ _ (by (try simp only [e9]);rfl) hr trivial (ho.cast (by simp [Tl.row]))
  refine cQ 11 ?_ ?_
  ·
   intro X w hR ψ χ K HK
   go_simp
   exact HK.out _ _ _ rfl (Outs.refl _ _) rfl iD
  refine cQ 12 ?_ ?_
  ·
   intro X w hR ψ χ K HK
   have e11:X 11=.pointer (some ⟨g,3,none⟩):=(pS ψ 11 .data :)
   have c12:=(hR.blk hB (by decide) (by decide)).cell 3 rfl
   go_simp
   exact HK.out _ _ _ (by (try simp only [e11]);rfl) (Outs.refl _ _) rfl iD
  refine cQ 13 ?_ ?_
  ·
   intro X w hR ψ χ K HK
   have e12:X 12=.int IntKind.u32 ((d.steps:Nat):Int):=(pS ψ 12 .data :)
   have q13:=zY (d.steps) (by have:=hok;unfold So.Dma.Ok at this;omega)
   go_simp
   exact HK.out _ _ _ (by (try simp only [e12]);rfl) (Outs.refl _ _) rfl iD
  refine cS 14 3 ?_ ?_
  ·
   intro X w hR ψ χ hst K HK
   have hst:OutV B (Tl.row [(1,d.code),(4,d.head),(4,d.at_)]) (X 10) w:=hst
   have e13:X 13=.int IntKind.u64 ((d.steps:Nat):Int):=(pS ψ 13 .data :)
   go_simp
   go_at_call 50
   refine (zO hst (d.steps) 1 (by have:=hok;unfold So.Dma.Ok at this;omega) (by omega) (by omega) (by simp [Tl.row,Tl.le_length])).mono ?_
   rintro e w2 ⟨rfl,ho,hr⟩
   go_simp
   exact HK.out _ _ _ (by (try simp only [e13]);rfl) hr trivial (ho.cast (by simp [Tl.row]))
  refine cS 15 4 ?_ ?_
  ·
   intro X w hR ψ χ hst K HK
   have hst:OutV B (Tl.row [(1,d.code),(4,d.head),(4,d.at_),(1,d.steps)]) (X 14) w:=hst
   go_simp
   exact HK.out _ _ _ rfl (Outs.refl _ _) trivial hst
  exact zi.nil
 ·
  intro X1 wE1 hR1 hall1 hS1
  have hO1:OutV B (Tl.row [(1,d.code),(4,d.head),(4,d.at_),(1,d.steps)]) (X1 15) wE1:=hS1
  clear hall1 hS1
  have hB1:=hR1.blk hB (by decide) (by decide)
  have hBs1:=Nat.le_trans hBs hR1.size
  have hl0:(Tl.row [(1,d.code),(4,d.head),(4,d.at_),(1,d.steps)]).length≤1000:=by simp [Tl.row,Tl.le_length]
  go_wp2_with fail
  refine zc (by kernel_rfl) (fun X=>⟨#[.agg (So.dmaL d).toArray,.pointer (some ⟨g,0,none⟩),.slice none 0 0,X 9,X1 0,X1 1,X1 2,X1 3,X1 4,X1 5,X1 6,X1 7,X1 8,X1 9,X1 10,X1 11,X1 12,X1 13,X1 14,X 0,X 1,X 2,X 3,X 4,X 5,X 6,X 7,X 8,undef,undef,undef,undef,undef,undef,undef,undef,undef,undef,undef,undef,undef,undef,undef,undef],[]⟩) (Outs B) (fun i v w=>match i with | 0=>(v=X1 15) | 1=>(v=.pointer (some ⟨g,4,none⟩)) | 2=>(v=.int .u32 ((d.moved:Nat):Int)) | 3=>(∃ s,v=.slice (some ⟨s,0,none⟩) 1 1∧Blk w s #[.int .u32 ((d.moved:Nat):Int)] 22) | 5=>(v=.pointer (some ⟨g,5,none⟩)) | 6=>(v=.bool (d.have_)) | 7=>(v=.int .u64 ((So.one (d.have_):Nat):Int)) | _=>True) (fun i=>([0,0,0,0,1,0,0,0,2,3]:List Nat).getD i 0) 3 (zdf B (X1 15) (Tl.row [(1,d.code),(4,d.head),(4,d.at_),(1,d.steps)]) d) _ (fun i=>if i=9 then X1 15 else undef) (fun u v w a b=>a.trans b) ?_ (by kernel_rfl) (by kernel_rfl) (Outs.drew _) ((hO1.keep (zr (Below.refl _ _)))) ?_ ?_
  ·
   intro i v w w' h hb
   match i,h with
   | 0,h=>exact h
   | 1,h=>exact h
   | 2,h=>exact h
   | 3,h=>exact (let ⟨s,e,hb'⟩:=h;⟨s,e,hb.blk hb' (by decide) (by decide)⟩)
   | 5,h=>exact h
   | 6,h=>exact h
   | 7,h=>exact h
   | 4,h=>exact trivial
   | 8,h=>exact trivial
   | 9,h=>exact trivial
   | _+10,h=>exact trivial
  ·
   refine cQ 0 ?_ ?_
   ·
    intro X w hR ψ χ K HK
    have ei0:X 9=X1 15:=χ.out 9 _ rfl ⟨⟨0,.phase⟩,by simp,by kernel_rfl,rfl⟩
    go_simp
    exact HK.out _ _ _ (by (try simp only [ei0]);rfl) (Outs.refl _ _) rfl iD
   refine cQ 1 ?_ ?_
   ·
    intro X w hR ψ χ K HK
    go_simp
    exact HK.out _ _ _ rfl (Outs.refl _ _) rfl iD
   refine cQ 2 ?_ ?_
   ·
    intro X w hR ψ χ K HK
    have e1:X 1=.pointer (some ⟨g,4,none⟩):=(pS ψ 1 .data :)
    have c2:=(hR.blk hB1 (by decide) (by decide)).cell 4 rfl
    go_simp
    exact HK.out _ _ _ (by (try simp only [e1]);rfl) (Outs.refl _ _) rfl iD
   refine cQ 3 ?_ ?_
   ·
    intro X w hR ψ χ K HK
    have e2:X 2=.int IntKind.u32 ((d.moved:Nat):Int):=(pS ψ 2 .data :)
    go_simp
    exact HK.out _ _ _ (by (try simp only [e2]);rfl) (Outs.alloc _ _) ⟨_,rfl,Blk.new _ _ _⟩ (fun k _ h=>zel B (X1 15) (Tl.row [(1,d.code),(4,d.head),(4,d.at_),(1,d.steps)]) d _ _ _ _ h (za (Below.refl _ _) _))
   refine cS 4 0 ?_ ?_
   ·
    intro X w hR ψ χ hst K HK
    have e0:X 0=X1 15:=(pS ψ 0 .data :)
    obtain ⟨s3,e3,hs3⟩:∃ s,X 3=Value.slice (some ⟨s,0,none⟩) 1 1∧Blk w s #[Value.int IntKind.u32 ((d.moved:Nat):Int)] 22:=(pS ψ 3 .data :)
    go_simp
    go_at_call 47
    refine (za8 (show OutV B (Tl.row [(1,d.code),(4,d.head),(4,d.at_),(1,d.steps)]) (X1 15) _ from hst) s3 1 1 [d.moved] hs3 rfl (by intro x hx;simp only [List.mem_cons,List.not_mem_nil,or_false] at hx;have:=hok;unfold So.Dma.Ok at this;rcases hx with rfl  <;> omega) (by simp [Tl.row,Tl.le_length]<;>omega)).mono ?_
    rintro e w2 ⟨rfl,ho,hr⟩
    go_simp
    exact HK.out _ _ _ (by (try simp only [e0,e3]);rfl) hr trivial ⟨rfl,ho.cast (by simp [Tl.row])⟩
   refine cQ 5 ?_ ?_
   ·
    intro X w hR ψ χ K HK
    go_simp
    exact HK.out _ _ _ rfl (Outs.refl _ _) rfl iD
   refine cQ 6 ?_ ?_
   ·
    intro X w hR ψ χ K HK
    have e5:X 5=.pointer (some ⟨g,5,none⟩):=(pS ψ 5 .data :)
    have c6:=(hR.blk hB1 (by decide) (by decide)).cell 5 rfl
    go_simp
    exact HK.out _ _ _ (by (try simp only [e5]);rfl) (Outs.refl _ _) rfl iD
   refine cQ 7 ?_ ?_
   ·
    intro X w hR ψ χ K HK
    have e6:X 6=.bool (d.have_):=(pS ψ 6 .data :)
    go_simp
    go_at_call 131
    refine (zbK (d.have_) _).mono ?_
    rintro e w2 ⟨rfl,rfl⟩
    go_simp
    exact HK.out _ _ _ (by (try simp only [e6]);rfl) (Outs.refl _ _) rfl iD
   refine cS 8 1 ?_ ?_
   ·
    intro X w hR ψ χ hst K HK
    have hst:X 4=(X1 15)∧OutV B (Tl.row [(1,d.code),(4,d.head),(4,d.at_),(1,d.steps)]++Tl.row [(4,d.moved)]) (X1 15) w:=hst
    have e7:X 7=.int IntKind.u64 ((So.one (d.have_):Nat):Int):=(pS ψ 7 .data :)
    have eV:=hst.1
    go_simp
    go_at_call 50
    refine (zO hst.2 (So.one (d.have_)) 1 (by exact zdl _) (by omega) (by omega) (by simp [Tl.row,Tl.le_length]<;>omega)).mono ?_
    rintro e w2 ⟨rfl,ho,hr⟩
    go_simp
    exact HK.out _ _ _ (by (try simp only [e7,eV]);rfl) hr trivial ⟨rfl,ho.cast (by simp [Tl.row])⟩
   refine cS 9 2 ?_ ?_
   ·
    intro X w hR ψ χ hst K HK
    have hst:X 8=(X1 15)∧OutV B (Tl.row [(1,d.code),(4,d.head),(4,d.at_),(1,d.steps)]++Tl.row [(4,d.moved),(1,So.one (d.have_))]) (X1 15) w:=hst
    have eV:=hst.1
    go_simp
    exact HK.out _ _ _ (by (try simp only [eV]);rfl) (Outs.refl _ _) trivial ⟨rfl,hst.2⟩
   exact zi.nil
  ·
   intro X2 wE2 hR2 hall2 hS2
   obtain ⟨eX2,hO2⟩:X2 9=(X1 15)∧OutV B (Tl.row [(1,d.code),(4,d.head),(4,d.at_),(1,d.steps)]++Tl.row [(4,d.moved),(1,So.one (d.have_))]) (X1 15) wE2:=hS2
   rw [←eX2] at hO2
   clear hall2 eX2
   have hB2:=hR2.blk hB1 (by decide) (by decide)
   have hBs2:=Nat.le_trans hBs1 hR2.size
   replace hl0:(Tl.row [(1,d.code),(4,d.head),(4,d.at_),(1,d.steps)]++Tl.row [(4,d.moved),(1,So.one (d.have_))]).length≤1000:=by simp [Tl.row,Tl.le_length]
   go_wp2_with fail
   refine zc (by kernel_rfl) (fun X=>⟨#[.agg (So.dmaL d).toArray,.pointer (some ⟨g,0,none⟩),X 16,X2 9,X1 0,X1 1,X1 2,X1 3,X1 4,X1 5,X1 6,X1 7,X1 8,X1 9,X1 10,X1 11,X1 12,X1 13,X1 14,X2 0,X2 1,X2 2,X2 3,X2 4,X2 5,X2 6,X2 7,X2 8,X 0,X 1,X 2,X 3,X 4,X 5,X 6,X 7,X 8,X 9,X 10,X 11,X 12,X 13,X 14,X 15],[]⟩) (Outs B) (fun i v w=>match i with | 0=>(v=X2 9) | 1=>(v=.pointer (some ⟨g,6,none⟩)) | 2=>(v=.int .u32 ((d.from_:Nat):Int)) | 3=>(v=.pointer (some ⟨g,7,none⟩)) | 4=>(v=.int .u32 ((d.to:Nat):Int)) | 5=>(v=.pointer (some ⟨g,8,none⟩)) | 6=>(v=.int .u32 ((d.left:Nat):Int)) | 7=>(v=.pointer (some ⟨g,9,none⟩)) | 8=>(v=.int .u32 ((d.next:Nat):Int)) | 9=>(∃ s,v=.slice (some ⟨s,0,none⟩) 4 4∧Blk w s #[.int .u32 ((d.from_:Nat):Int),.int .u32 ((d.to:Nat):Int),.int .u32 ((d.left:Nat):Int),.int .u32 ((d.next:Nat):Int)] 22) | 11=>(v=.pointer (some ⟨g,10,none⟩)) | 12=>(v=.bool (d.asks)) | 13=>(v=.int .u64 ((So.one (d.asks):Nat):Int)) | _=>True) (fun i=>([0,0,0,0,0,0,0,0,0,0,1,0,0,0,2,3,4]:List Nat).getD i 0) 4 (zdg B (X2 9) ((Tl.row [(1,d.code),(4,d.head),(4,d.at_),(1,d.steps)]++Tl.row [(4,d.moved),(1,So.one (d.have_))])) d) _ (fun i=>if i=16 then .slice none 0 0 else undef) (fun u v w a b=>a.trans b) ?_ (by kernel_rfl) (by kernel_rfl) (Outs.drew _) ((hO2.keep (zr (Below.refl _ _)))) ?_ ?_
   ·
    intro i v w w' h hb
    match i,h with
    | 0,h=>exact h
    | 1,h=>exact h
    | 2,h=>exact h
    | 3,h=>exact h
    | 4,h=>exact h
    | 5,h=>exact h
    | 6,h=>exact h
    | 7,h=>exact h
    | 8,h=>exact h
    | 9,h=>exact (let ⟨s,e,hb'⟩:=h;⟨s,e,hb.blk hb' (by decide) (by decide)⟩)
    | 11,h=>exact h
    | 12,h=>exact h
    | 13,h=>exact h
    | 10,h=>exact trivial
    | 14,h=>exact trivial
    | 15,h=>exact trivial
    | 16,h=>exact trivial
    | _+17,h=>exact trivial
   ·
    refine cQ 0 ?_ ?_
    ·
     intro X w hR ψ χ K HK
     go_simp
     exact HK.out _ _ _ rfl (Outs.refl _ _) rfl iD
    refine cQ 1 ?_ ?_
    ·
     intro X w hR ψ χ K HK
     go_simp
     exact HK.out _ _ _ rfl (Outs.refl _ _) rfl iD
    refine cQ 2 ?_ ?_
    ·
     intro X w hR ψ χ K HK
     have e1:X 1=.pointer (some ⟨g,6,none⟩):=(pS ψ 1 .data :)
     have c2:=(hR.blk hB2 (by decide) (by decide)).cell 6 rfl
     go_simp
     exact HK.out _ _ _ (by (try simp only [e1]);rfl) (Outs.refl _ _) rfl iD
    refine cQ 3 ?_ ?_
    ·
     intro X w hR ψ χ K HK
     go_simp
     exact HK.out _ _ _ rfl (Outs.refl _ _) rfl iD
    refine cQ 4 ?_ ?_
    ·
     intro X w hR ψ χ K HK
     have e3:X 3=.pointer (some ⟨g,7,none⟩):=(pS ψ 3 .data :)
     have c4:=(hR.blk hB2 (by decide) (by decide)).cell 7 rfl
     go_simp
     exact HK.out _ _ _ (by (try simp only [e3]);rfl) (Outs.refl _ _) rfl iD
    refine cQ 5 ?_ ?_
    ·
     intro X w hR ψ χ K HK
     go_simp
     exact HK.out _ _ _ rfl (Outs.refl _ _) rfl iD
    refine cQ 6 ?_ ?_
    ·
     intro X w hR ψ χ K HK
     have e5:X 5=.pointer (some ⟨g,8,none⟩):=(pS ψ 5 .data :)
     have c6:=(hR.blk hB2 (by decide) (by decide)).cell 8 rfl
     go_simp
     exact HK.out _ _ _ (by (try simp only [e5]);rfl) (Outs.refl _ _) rfl iD
    refine cQ 7 ?_ ?_
    ·
     intro X w hR ψ χ K HK
     go_simp
     exact HK.out _ _ _ rfl (Outs.refl _ _) rfl iD
    refine cQ 8 ?_ ?_
    ·
     intro X w hR ψ χ K HK
     have e7:X 7=.pointer (some ⟨g,9,none⟩):=(pS ψ 7 .data :)
     have c8:=(hR.blk hB2 (by decide) (by decide)).cell 9 rfl
     go_simp
     exact HK.out _ _ _ (by (try simp only [e7]);rfl) (Outs.refl _ _) rfl iD
    refine cQ 9 ?_ ?_
    ·
     intro X w hR ψ χ K HK
     have e2:X 2=.int IntKind.u32 ((d.from_:Nat):Int):=(pS ψ 2 .data :)
     have e4:X 4=.int IntKind.u32 ((d.to:Nat):Int):=(pS ψ 4 .data :)
     have e6:X 6=.int IntKind.u32 ((d.left:Nat):Int):=(pS ψ 6 .data :)
     have e8:X 8=.int IntKind.u32 ((d.next:Nat):Int):=(pS ψ 8 .data :)
     go_simp
     exact HK.out _ _ _ (by (try simp only [e2,e4,e6,e8]);rfl) (Outs.alloc _ _) ⟨_,rfl,Blk.new _ _ _⟩ (fun k _ h=>zem B (X2 9) ((Tl.row [(1,d.code),(4,d.head),(4,d.at_),(1,d.steps)]++Tl.row [(4,d.moved),(1,So.one (d.have_))])) d _ _ _ _ h (za (Below.refl _ _) _))
    refine cS 10 0 ?_ ?_
    ·
     intro X w hR ψ χ hst K HK
     have e0:X 0=X2 9:=(pS ψ 0 .data :)
     obtain ⟨s9,e9,hs9⟩:∃ s,X 9=Value.slice (some ⟨s,0,none⟩) 4 4∧Blk w s #[Value.int IntKind.u32 ((d.from_:Nat):Int),Value.int IntKind.u32 ((d.to:Nat):Int),Value.int IntKind.u32 ((d.left:Nat):Int),Value.int IntKind.u32 ((d.next:Nat):Int)] 22:=(pS ψ 9 .data :)
     go_simp
     go_at_call 47
     refine (za8 (show OutV B ((Tl.row [(1,d.code),(4,d.head),(4,d.at_),(1,d.steps)]++Tl.row [(4,d.moved),(1,So.one (d.have_))])) (X2 9) _ from hst) s9 4 4 [d.from_,d.to,d.left,d.next] hs9 rfl (by intro x hx;simp only [List.mem_cons,List.not_mem_nil,or_false] at hx;have:=hok;unfold So.Dma.Ok at this;rcases hx with rfl | rfl | rfl | rfl  <;> omega) (by simp [Tl.row,Tl.le_length]<;>omega)).mono ?_
     rintro e w2 ⟨rfl,ho,hr⟩
     go_simp
     exact HK.out _ _ _ (by (try simp only [e0,e9]);rfl) hr trivial ⟨rfl,ho.cast (by simp [Tl.row])⟩
    refine cQ 11 ?_ ?_
    ·
     intro X w hR ψ χ K HK
     go_simp
     exact HK.out _ _ _ rfl (Outs.refl _ _) rfl iD
    refine cQ 12 ?_ ?_
    ·
     intro X w hR ψ χ K HK
     have e11:X 11=.pointer (some ⟨g,10,none⟩):=(pS ψ 11 .data :)
     have c12:=(hR.blk hB2 (by decide) (by decide)).cell 10 rfl
     go_simp
     exact HK.out _ _ _ (by (try simp only [e11]);rfl) (Outs.refl _ _) rfl iD
    refine cQ 13 ?_ ?_
    ·
     intro X w hR ψ χ K HK
     have e12:X 12=.bool (d.asks):=(pS ψ 12 .data :)
     go_simp
     go_at_call 131
     refine (zbK (d.asks) _).mono ?_
     rintro e w2 ⟨rfl,rfl⟩
     go_simp
     exact HK.out _ _ _ (by (try simp only [e12]);rfl) (Outs.refl _ _) rfl iD
    refine cS 14 1 ?_ ?_
    ·
     intro X w hR ψ χ hst K HK
     have hst:X 10=(X2 9)∧OutV B ((Tl.row [(1,d.code),(4,d.head),(4,d.at_),(1,d.steps)]++Tl.row [(4,d.moved),(1,So.one (d.have_))])++Tl.row [(4,d.from_),(4,d.to),(4,d.left),(4,d.next)]) (X2 9) w:=hst
     have e13:X 13=.int IntKind.u64 ((So.one (d.asks):Nat):Int):=(pS ψ 13 .data :)
     have eV:=hst.1
     go_simp
     go_at_call 50
     refine (zO hst.2 (So.one (d.asks)) 1 (by exact zdl _) (by omega) (by omega) (by simp [Tl.row,Tl.le_length]<;>omega)).mono ?_
     rintro e w2 ⟨rfl,ho,hr⟩
     go_simp
     exact HK.out _ _ _ (by (try simp only [e13,eV]);rfl) hr trivial ⟨rfl,ho.cast (by simp [Tl.row])⟩
    refine cS 15 2 ?_ ?_
    ·
     intro X w hR ψ χ hst K HK
     have hst:X 14=(X2 9)∧OutV B ((Tl.row [(1,d.code),(4,d.head),(4,d.at_),(1,d.steps)]++Tl.row [(4,d.moved),(1,So.one (d.have_))])++Tl.row [(4,d.from_),(4,d.to),(4,d.left),(4,d.next),(1,So.one (d.asks))]) (X2 9) w:=hst
     have eV:=hst.1
     go_simp
     go_at_call 49
     refine (zai hst.2).mono ?_
     rintro e w2 ⟨A,k,rfl,hbs,hr⟩
     go_simp
     exact HK.out _ _ _ (by (try simp only [eV]);rfl) hr trivial ⟨A,k,rfl,hbs⟩
    refine cS 16 3 ?_ ?_
    ·
     intro X w hR ψ χ hst K HK
     have hst:∃ A k,X 15=Value.slice A ((Tl.row [(1,d.code),(4,d.head),(4,d.at_),(1,d.steps)]++Tl.row [(4,d.moved),(1,So.one (d.have_))])++Tl.row [(4,d.from_),(4,d.to),(4,d.left),(4,d.next),(1,So.one (d.asks))]).length k∧Bs w A ((Tl.row [(1,d.code),(4,d.head),(4,d.at_),(1,d.steps)]++Tl.row [(4,d.moved),(1,So.one (d.have_))])++Tl.row [(4,d.from_),(4,d.to),(4,d.left),(4,d.next),(1,So.one (d.asks))]).length k ((Tl.row [(1,d.code),(4,d.head),(4,d.at_),(1,d.steps)]++Tl.row [(4,d.moved),(1,So.one (d.have_))])++Tl.row [(4,d.from_),(4,d.to),(4,d.left),(4,d.next),(1,So.one (d.asks))]):=hst
     obtain ⟨A,k,e15,hbs⟩:=hst
     go_simp
     exact HK.out _ _ _ (by (try simp only [e15]);rfl) (Outs.refl _ _) trivial ⟨A,k,rfl,hbs⟩
    exact zi.nil
   ·
    intro X3 wE3 hR3 hall3 hS3
    obtain ⟨A,k,eL,hbs⟩:∃ A k,X3 16=Value.slice A ((Tl.row [(1,d.code),(4,d.head),(4,d.at_),(1,d.steps)]++Tl.row [(4,d.moved),(1,So.one (d.have_))])++Tl.row [(4,d.from_),(4,d.to),(4,d.left),(4,d.next),(1,So.one (d.asks))]).length k∧Bs wE3 A ((Tl.row [(1,d.code),(4,d.head),(4,d.at_),(1,d.steps)]++Tl.row [(4,d.moved),(1,So.one (d.have_))])++Tl.row [(4,d.from_),(4,d.to),(4,d.left),(4,d.next),(1,So.one (d.asks))]).length k ((Tl.row [(1,d.code),(4,d.head),(4,d.at_),(1,d.steps)]++Tl.row [(4,d.moved),(1,So.one (d.have_))])++Tl.row [(4,d.from_),(4,d.to),(4,d.left),(4,d.next),(1,So.one (d.asks))]):=hS3
    clear hall3
    go_wp2_with fail
    go_ret
    have hO:=hbel.trans (((hR1.trans (hR2.trans hR3)).below hBs).mono hgB)
    have eO:So.sEngine d=(Tl.row [(1,d.code),(4,d.head),(4,d.at_),(1,d.steps)]++Tl.row [(4,d.moved),(1,So.one (d.have_))])++Tl.row [(4,d.from_),(4,d.to),(4,d.left),(4,d.next),(1,So.one (d.asks))]:=by simp [So.sEngine,Tl.row]
    exact ⟨A,k,by rw [eO];first | rw [eL];rfl | rw [←eL];rfl,by rw [eO];exact hbs,hO⟩
theorem zoN (h:So.Hart) (k:Nat) (hk:k<31):(So.hartL h).toArray[1+1+k]?=some (.int .u32 ((h.x (k+1):Nat):Int)):=by
 rw [List.getElem?_toArray]
 unfold So.hartL
 rw [show 1+1+k=(k+1)+1 by omega,List.getElem?_cons_succ,List.getElem?_append_left (by simp;omega)]
 simp [List.getElem?_range,show k+1<32 by omega]
def zmi (B:Nat) (v0:Value) (l0:List Nat) (h:So.Hart):Nat→(Nat→Value)→World→Prop:=fun k X w=>match k with
 | 0=>True
 | 1=>OutV B ([]:List Nat) (X 0) w
 | 2=>OutV B (Tl.row [(4,h.pc)]) (X 4) w
 | 3=>OutV B (Tl.row [(4,h.pc)]) (X 5) w
 | _=>False
theorem zmj (h:So.Hart) (hok:h.Ok) (w:World):Calls Tryz.prog 51 #[.agg (So.hartL h).toArray] w (MkB w (So.sRegs h)):=by
 go_enter Tryz.func51,Tryz.ntmps51
 go_wp2_with fail
 have hB:=Blk.new w (So.hartL h).toArray 71
 have hbel:=za (Below.refl w.heap.size w) (.cells (So.hartL h).toArray 71)
 generalize w.alloc (.cells (So.hartL h).toArray 71)=W1 at hB hbel ⊢
 have hbB:=hbel.size
 obtain ⟨g,hg⟩:∃ g,g=w.heap.size:=⟨_,rfl⟩
 rw [←hg] at hB ⊢
 clear hg
 obtain ⟨B,hBB⟩:∃ B,B=w.heap.size:=⟨_,rfl⟩
 have hBs:B≤W1.heap.size:=by omega
 have hgB:w.heap.size≤B:=by omega
 clear hBB
 refine zc (by kernel_rfl) (fun X=>⟨#[.agg (So.hartL h).toArray,.pointer (some ⟨g,0,none⟩),.slice none 0 0,X 5,undef,undef,X 0,X 1,X 2,X 3,X 4,undef,undef,undef,undef,undef,undef,undef,undef,undef,undef,undef,undef,undef,undef,undef,undef,undef,undef],[]⟩) (Outs B) (fun i v w=>match i with | 1=>(v=.pointer (some ⟨g,0,none⟩)) | 2=>(v=.int .u32 ((h.pc:Nat):Int)) | 3=>(v=.int .u64 ((h.pc:Nat):Int)) | _=>True) (fun i=>([1,0,0,0,2,3]:List Nat).getD i 0) 3 (zmi B (undef) ([]) h) _ (fun _=>undef) (fun u v w a b=>a.trans b) ?_ (by kernel_rfl) (by kernel_rfl) (Outs.drew _) (trivial) ?_ ?_
 ·
  intro i v w w' h hb
  match i,h with
  | 1,h=>exact h
  | 2,h=>exact h
  | 3,h=>exact h
  | 0,h=>exact trivial
  | 4,h=>exact trivial
  | 5,h=>exact trivial
  | _+6,h=>exact trivial
 ·
  refine cS 0 0 ?_ ?_
  ·
   intro X w hR ψ χ hst K HK
   go_simp
   go_at_call 48
   refine (zay B _ (Nat.le_trans hBs hR.size)).mono ?_
   rintro e w2 ⟨v,rfl,ho,hr⟩
   go_simp
   exact HK.out _ _ _ rfl hr trivial ho
  refine cQ 1 ?_ ?_
  ·
   intro X w hR ψ χ K HK
   go_simp
   exact HK.out _ _ _ rfl (Outs.refl _ _) rfl iD
  refine cQ 2 ?_ ?_
  ·
   intro X w hR ψ χ K HK
   have e1:X 1=.pointer (some ⟨g,0,none⟩):=(pS ψ 1 .data :)
   have c2:=(hR.blk hB (by decide) (by decide)).cell 0 rfl
   go_simp
   exact HK.out _ _ _ (by (try simp only [e1]);rfl) (Outs.refl _ _) rfl iD
  refine cQ 3 ?_ ?_
  ·
   intro X w hR ψ χ K HK
   have e2:X 2=.int IntKind.u32 ((h.pc:Nat):Int):=(pS ψ 2 .data :)
   have q3:=zY (h.pc) (by have:=hok;unfold So.Hart.Ok at this;omega)
   go_simp
   exact HK.out _ _ _ (by (try simp only [e2]);rfl) (Outs.refl _ _) rfl iD
  refine cS 4 1 ?_ ?_
  ·
   intro X w hR ψ χ hst K HK
   have hst:OutV B ([]:List Nat) (X 0) w:=hst
   have e3:X 3=.int IntKind.u64 ((h.pc:Nat):Int):=(pS ψ 3 .data :)
   go_simp
   go_at_call 50
   refine (zO hst (h.pc) 4 (by have:=hok;unfold So.Hart.Ok at this;omega) (by omega) (by omega) (by simp [Tl.row,Tl.le_length])).mono ?_
   rintro e w2 ⟨rfl,ho,hr⟩
   go_simp
   exact HK.out _ _ _ (by (try simp only [e3]);rfl) hr trivial (ho.cast (by simp [Tl.row]))
  refine cS 5 2 ?_ ?_
  ·
   intro X w hR ψ χ hst K HK
   have hst:OutV B (Tl.row [(4,h.pc)]) (X 4) w:=hst
   go_simp
   exact HK.out _ _ _ rfl (Outs.refl _ _) trivial hst
  exact zi.nil
 ·
  intro X1 wE1 hR1 hall1 hS1
  have hO1:OutV B (Tl.row [(4,h.pc)]) (X1 5) wE1:=hS1
  clear hall1 hS1
  have hB1:=hR1.blk hB (by decide) (by decide)
  have hBs1:=Nat.le_trans hBs hR1.size
  have hx:=hok.2.1
  clear hB
  go_wp2_with fail
  go_loopw [5,14] (fun _ i wr=>∃ k:Nat,k≤31∧i=.int .i64 k∧OutV B (Tl.row [(4,h.pc)]++Tl.row ((List.range k).map fun i=>(4,h.x (i+1)))) (X1 5) wr∧Outs B wE1 wr) (fun _ i _=>31-(intOf i).toNat)
  case atStart=>exact ⟨0,Nat.zero_le _,rfl,by simpa [Tl.row] using hO1,Outs.refl _ _⟩
  case round =>
   obtain ⟨k,hk,rfl,hO,hR⟩:=hrel
   have hBr:=hR.blk hB1 (by decide) (by decide)
   have hBs2:=Nat.le_trans hBs1 hR.size
   by_cases hlt:k<31
   ·
    have hc:=hBr.cell (1+1+k) (zoN h k hlt)
    have hln:(Tl.row [(4,h.pc)]++Tl.row ((List.range k).map fun i=>(4,h.x (i+1)))).length+4≤140737488355328:=by
     simp [Tl.row,Tl.le_length,za7];omega
    have hsn:Tl.row [(4,h.pc)]++Tl.row ((List.range (k+1)).map fun i=>(4,h.x (i+1)))=(Tl.row [(4,h.pc)]++Tl.row ((List.range k).map fun i=>(4,h.x (i+1))))++Tl.le 4 (h.x (k+1)):=by
     rw [List.range_succ,List.map_append,List.map_cons,List.map_nil,zdB,List.append_assoc]
    have Hln:=qH hln
    have Hsn:=qH hsn
    have hx1:=hx (k+1)
    generalize h.x (k+1)=x at hc hx1 Hsn
    clear hln hsn
    have hq:=zY x (by omega)
    have hlk:(k:Int)<31:=by omega
    go_wp2_with (go_at_call 50;refine (zO hO x 4 (by omega) (by omega) (by omega) Hln.out).mono ?_;rintro e w2 ⟨rfl,ho,hr⟩)
    go_roundw
    case rel=>exact ⟨k+1,by omega,by go_num,by rw [Hsn.out];exact ho,hR.trans hr⟩
    case measure=>simp [intOf];omega
   ·
    have hk':k=31:=by omega
    subst hk'
    have hc:=hBr.cell 33 (v:=.bool h.wait) rfl
    have hln:(Tl.row [(4,h.pc)]++Tl.row ((List.range 31).map fun i=>(4,h.x (i+1)))).length+1≤140737488355328:=by
     simp [Tl.row,Tl.le_length,za7]
    have Hln:=qH hln
    have Hout:Hid ((Tl.row [(4,h.pc)]++Tl.row ((List.range 31).map fun i=>(4,h.x (i+1))))++Tl.le 1 (So.one h.wait)=So.sRegs h):=qH (by simp [So.sRegs,Tl.row])
    clear hln
    generalize Tl.row [(4,h.pc)]++Tl.row ((List.range 31).map fun i=>(4,h.x (i+1)))=L at hO Hln Hout
    have hol:=zdl h.wait
    generalize hone:So.one h.wait=ow at hol Hout
    have Hone:=qH hone
    clear hone
    go_wp2_with fail
    refine (zbK h.wait _).mono ?_
    rintro e w2 ⟨rfl,rfl⟩
    rw [Hone.out]
    go_wp2_with fail
    refine (zO hO ow 1 hol (by omega) (by omega) Hln.out).mono ?_
    rintro e w2 ⟨rfl,ho,hr⟩
    go_wp2_with fail
    refine (zai ho).mono ?_
    rintro e w3 ⟨A,c,rfl,hbs,hr2⟩
    go_wp2_with fail
    go_ret
    rw [Hout.out] at hbs
    exact ⟨A,c,by rw [←Hout.out,List.length_append];rfl,hbs,hbel.trans (((hR1.trans (hR.trans (hr.trans hr2))).below hBs).mono hgB)⟩
end Go.Proofs.YtdffbihilhkkjaaGreatDoor
