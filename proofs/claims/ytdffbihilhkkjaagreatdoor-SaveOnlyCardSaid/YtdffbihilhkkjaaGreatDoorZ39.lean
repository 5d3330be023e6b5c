import Derived.Test.YtdffbihilhkkjaaGreatDoorZ2
import Derived.Test.YtdffbihilhkkjaaGreatDoorZ4
import Derived.Test.YtdffbihilhkkjaaGreatDoorZ5
import Derived.Test.YtdffbihilhkkjaaGreatDoorZ8
import Derived.Test.YtdffbihilhkkjaaGreatDoorZ11
import Derived.Test.YtdffbihilhkkjaaGreatDoorZ36
import Derived.Test.YtdffbihilhkkjaaGreatDoorZ37
import Derived.Test.YtdffbihilhkkjaaGreatDoorZ38
import Derived.BigFrame
import Derived.BigQuiet
import Derived.Deep.QuietTactic
namespace Go.Proofs.YtdffbihilhkkjaaGreatDoor
open Go.RowKit
set_option linter.unusedVariables false
set_option linter.unusedSimpArgs false
set_option maxRecDepth 100000
set_option maxHeartbeats 8000000
structure DecIn (b:List Nat) (c:So.Config) (s:So.State) (pg:Nat→Option (List Nat)) (p:List Nat):Prop where
 e:Tl.decE b=0
 v:Tl.decV b=3
 l:(Tl.decL b).length=14
 t:Tl.tagAt (Tl.decL b) 13=14
 last:Tl.decL b=(Tl.decL b).take 13++[⟨14,p⟩]
 w:zJ ((Tl.decL b).take 13)=(0,c,s)
 f:Fl.fill c.pages.toNat p=some pg
theorem zmA {l:List Tl.Sec} (hl:l.length=14) (ht:Tl.tagAt l 13=14):l=l.take 13++[⟨14,(l.getD 13 ⟨0,[]⟩).b⟩]:=by
 have h13:l[13]?=some (l[13]'(by omega)):=List.getElem?_eq_getElem (by omega)
 have e1:l.getD 13 ⟨0,[]⟩=l[13]'(by omega):=by rw [List.getD_eq_getElem?_getD,h13];rfl
 have e2:Tl.tagAt l 13=(l[13]'(by omega)).tag:=by
  unfold Tl.tagAt
  rw [List.getD_eq_getElem?_getD,List.getElem?_map,h13]
  rfl
 rw [e2] at ht
 rw [e1]
 have e3:(⟨14,(l[13]'(by omega)).b⟩:Tl.Sec)=l[13]'(by omega):=by rw [←ht]
 rw [e3]
 have:=List.take_append_drop 13 l
 conv=>lhs;rw [←this]
 congr 1
 rw [List.drop_eq_getElem_cons (by omega),List.drop_of_length_le (by omega)]
theorem zli {b:List Nat} {c:So.Config} {s:So.State} {pg:Nat→Option (List Nat)} (h:decM b=.ok (c,s,pg)):∃ p,DecIn b c s pg p:=by
 rcases Nat.decEq (Tl.decE b) 0 with h1 | h1
 · rw [zlb h1] at h;cases h
 rcases Nat.decEq (Tl.decV b) 3 with h2 | h2
 · rw [zm4 h1 h2] at h;cases h
 rcases Nat.decEq (Tl.decL b).length 14 with h3 | h3
 · rw [zh3 h1 h2 (.inl h3)] at h;cases h
 rcases Nat.decEq (Tl.tagAt (Tl.decL b) 13) 14 with h4 | h4
 · rw [zh3 h1 h2 (.inr h4)] at h;cases h
 rcases Nat.decEq (zJ ((Tl.decL b).take 13)).1 0 with h5 | h5
 · rw [zm5 h1 h2 h3 h4 h5] at h;cases h
 obtain ⟨n0,c0,s0⟩:∃ _:Nat,∃ _:So.Config,∃ _:So.State,True:=⟨0,So.zConfig,So.zState,trivial⟩
 have hw:zJ ((Tl.decL b).take 13)=(0,(zJ ((Tl.decL b).take 13)).2.1,(zJ ((Tl.decL b).take 13)).2.2):=Prod.ext h5 rfl
 have hlast:=zmA h3 h4
 have hg:(Tl.decL b).getD 13 ⟨0,[]⟩=⟨14,((Tl.decL b).getD 13 ⟨0,[]⟩).b⟩:=by
  have h13:(Tl.decL b)[13]?=some ((Tl.decL b)[13]'(by omega)):=List.getElem?_eq_getElem (by omega)
  have e2:Tl.tagAt (Tl.decL b) 13=((Tl.decL b)[13]'(by omega)).tag:=by
   unfold Tl.tagAt
   rw [List.getD_eq_getElem?_getD,List.getElem?_map,h13]
   rfl
  rw [List.getD_eq_getElem?_getD,h13]
  rw [e2] at h4
  show (Tl.decL b)[13]'(by omega)=⟨14,((Tl.decL b)[13]'(by omega)).b⟩
  rw [←h4]
 rw [zh4 h1 h2 h3 h4 hw hg] at h
 cases hf:Fl.fill (zJ ((Tl.decL b).take 13)).2.1.pages.toNat ((Tl.decL b).getD 13 ⟨0,[]⟩).b with
 | none=>rw [hf] at h;cases h
 | some pg' =>
  rw [hf] at h
  have h:=Except.ok.inj h
  simp only [Prod.mk.injEq] at h
  obtain ⟨rfl,rfl,rfl⟩:=h
  exact ⟨_,h1,h2,h3,h4,hlast,hw,hf⟩
theorem zhd {l:List Tl.Sec} (h:zc9 l=true):So.tagged (l.map (·.b))=l:=by
 unfold zc9 at h
 simp only [Bool.and_eq_true,decide_eq_true_eq] at h
 apply List.ext_getElem?
 intro j
 by_cases hj:j<l.length
 ·
  have h1:=List.getElem?_eq_getElem hj
  have ht:=List.all_eq_true.1 h.2 j (List.mem_range.2 (by omega))
  simp only [decide_eq_true_eq] at ht
  unfold Tl.tagAt at ht
  rw [List.getD_eq_getElem?_getD,List.getElem?_map,h1] at ht
  have ht:(l[j]).tag=j+1:=ht
  rw [So.tagged_get (l.map (·.b)) j (l[j]).b (by rw [List.getElem?_map,h1];rfl),h1,←ht]
 · rw [List.getElem?_eq_none (by rw [So.tagged_len,List.length_map];omega),List.getElem?_eq_none (by omega)]
theorem zdk {b:List Nat} (hb:∀ x∈b,x<256) (h:Tl.decE b=0):∀ s∈Tl.decL b,Tl.Small s.b:=fun s hs=>((Tl.file_dec b hb h).2.2.1 s hs).2
theorem DecIn.whole {b:List Nat} {c:So.Config} {s:So.State} {pg:Nat→Option (List Nat)} {p:List Nat} (h:DecIn b c s pg p) (hb:∀ x∈b,x<256):So.stateB c s=true∧So.Told c s∧So.parts c s=((Tl.decL b).take 13).map (·.b)∧zc9 ((Tl.decL b).take 13)=true:=by
 have:=zgd (l:=(Tl.decL b).take 13) (fun x hx=>zdk hb h.e x (List.mem_of_mem_take hx)) (by rw [h.w])
 rw [h.w] at this
 exact this
theorem DecIn.small {b:List Nat} {c:So.Config} {s:So.State} {pg:Nat→Option (List Nat)} {p:List Nat} (h:DecIn b c s pg p) (hb:∀ x∈b,x<256):∀ x∈p,x<256 :=
 zdk hb h.e ⟨14,p⟩ (by rw [h.last];simp)
theorem zer {b:List Nat} {c:So.Config} {s:So.State} {pg:Nat→Option (List Nat)} {p:List Nat} (h:DecIn b c s pg p) (hb:∀ x∈b,x<256) {M:RamM} (hn:M.n=c.pages.toNat) (hp:M.pg=pg):zey c s M=b∧za4 c s M=Tl.decL b:=by
 obtain ⟨h1,h2,h3,h4⟩:=h.whole hb
 have hpg:=(Fl.fill_pages (h.small hb) h.f).1
 have e:za4 c s M=Tl.decL b:=by
  rw [zcU,h3,zhd h4,Fl.pagesB_of hn hp,hpg]
  exact h.last.symm
 refine ⟨?_,e⟩
 unfold zey
 rw [e]
 have:=(Tl.file_dec b hb h.e).1
 rwa [h.v] at this
theorem zge {c:So.Config} {s:So.State} (h:So.stateB c s=true) (hf:So.Fit c s):zJ (So.tagged (So.parts c s))=(0,c,So.norm s):=by
 have ht:zc9 (So.tagged (So.parts c s))=true:=zhG (by rw [So.tagged_len];rfl) (fun j hj=>So.tagged_tag _ j hj)
 unfold zJ
 rw [ht,if_pos rfl,So.tagged_b,So.sections_tell c s hf]
 simp only [So.norm_may h,if_true]
theorem zlj {c:So.Config} {s:So.State} {M:RamM} (h:So.stateB c s=true) (hf:So.Fit c s) (hn:M.n=c.pages.toNat) (hmax:M.n≤16384) (hal:∀ i,i<M.n→(M.at_ i).length=4096) (hps:∀ x∈zN M,x<256):decM (zey c s M)=.ok (c,So.norm s,Fl.told M):=by
 obtain ⟨d1,d2,d3⟩:=zk3 hf (zeS M hmax hal) hps
 have hlen:(za4 c s M).length=14:=by unfold za4;rw [So.tagged_len];rfl
 have htag:Tl.tagAt (za4 c s M) 13=14:=So.tagged_tag _ 13 (by rw [List.length_append,zaV];exact (by decide:13<14))
 have ht13:(za4 c s M).take 13=So.tagged (So.parts c s):=by
  rw [zcU,List.take_append_of_le_length (by rw [So.tagged_len,zaV];decide),List.take_of_length_le (by rw [So.tagged_len,zaV];decide)]
 have hg:(za4 c s M).getD 13 ⟨0,[]⟩=⟨14,zN M⟩:=by
  rw [zcU,List.getD_eq_getElem?_getD,List.getElem?_append_right (by rw [So.tagged_len,zaV];decide),So.tagged_len,zaV]
  rfl
 rw [zh4 d1 d3 (by rw [d2];exact hlen) (by rw [d2];exact htag) (by rw [d2,ht13];exact zge h hf) (by rw [d2];exact hg),←hn,Fl.fill_told M hmax hal]
theorem zhe {b:List Nat} (h:zaI b=false):Tl.decE b≠0:=by
 have hw:Tl.wholeE b≠0:=by
  unfold Tl.wholeE
  rw [if_neg (show ¬ zaI b=true by simp [h])]
  split
  · decide
  ·
   split
   · decide
   · split<;>decide
 unfold Tl.decE
 rw [if_pos hw]
 exact hw
theorem zhf {i v:Nat} {l:List Tl.Sec} {y:List Nat} (hl:∀ s∈l,Tl.SecOk s) (h:AlikeB i (Tl.file v l) y) (hne:y≠Tl.file v l):Tl.decE y≠0:=by
 have hsm:∀ c∈Tl.head v l.length++Tl.body l,c<256:=fun x hx=>(List.mem_append.1 hx).elim (Tl.head_small _ _ x) (Tl.body_small l hl x)
 exact zhe (zlh hsm h.alike hne).1
theorem RamAt.other {w w1:World} {G H:RamG} {M N:RamM} (h:RamAt w H N) (g:Blk w G.p (ramV G M) 240) (hne:G.p≠H.p) (k:Kept (fun i=>i=G.p) w w1):RamAt w1 H N:=h.kept k (fun i hi e=>by
 have e:i=G.p:=e
 rcases hi with r | r | r | ⟨hd,r⟩ | ⟨j,hj,hs,r⟩
 · exact hne (e ▸ r)
 · exact h.pages.apart g (by decide) (r ▸ e)
 · exact h.dirty.apart g (by decide) (r ▸ e)
 · exact (h.blank hd).apart g (by decide) (r ▸ e)
 ·
  obtain ⟨l,hl⟩:=Option.isSome_iff_exists.1 hs
  exact (h.page j l hj hl).1.apart g (by decide) (r ▸ e))
theorem zlk (A B:Option Addr) (n c m d:Nat) (l:List Nat) (w:World) (ha:Bs w A n c l) (hb:Bs w B m d l):Calls Tryz.prog 166 #[.slice A n c,.slice B m d] w fun e w'=>e=.returned (.bool true)∧w=w':=by
 have e1:=zck (P:=Tryz.prog) 65 5 9 Tryz.underlying65 Tryz.underlying5 Tryz.underlying9 ha
 have e2:=zck (P:=Tryz.prog) 65 5 9 Tryz.underlying65 Tryz.underlying5 Tryz.underlying9 hb
 clear ha hb
 go_enter Tryz.func166,Tryz.ntmps166
 go_wp2
 go_ret
 exact ⟨by simp,rfl⟩
def zo0 (w:World) (G H:RamG) (M N:RamM) (e:Ending) (w':World):Prop:=∃ z d z' d',e=.returned (.bool true)∧RamAt w' { G with z:=z } { M with done:=d }∧RamAt w' { H with z:=z' } { N with done:=d' }∧Kept (fun k=>k=G.p∨k=H.p) w w'
theorem zhg (G H:RamG) (M N:RamM) (w:World) (hG:RamAt w G M) (hH:RamAt w H N) (hne:G.p≠H.p) (hn:N.n=M.n) (heq:∀ i,i<M.n→M.at_ i=N.at_ i):Calls Tryz.prog 103 #[.pointer (some ⟨G.p,0,none⟩),.pointer (some ⟨H.p,0,none⟩)] w (zo0 w G H M N):=by
 have c0:w.cell? ⟨G.p,0,none⟩=some (.slice (some ⟨G.pb,0,none⟩) M.n M.n):=hG.ram.cell 0 rfl
 have c1:w.cell? ⟨H.p,0,none⟩=some (.slice (some ⟨H.pb,0,none⟩) M.n M.n):=by rw [←hn];exact hH.ram.cell 0 rfl
 have hmax:=hG.max
 have HEQ:=qH heq
 have HN:=qH hn
 clear heq hn
 have HNE:=qH hne
 clear hne
 go_enter Tryz.func103,Tryz.ntmps103
 go_upto_region 1 with (fail)
 go_quiet (fail)
 go_wp2_with fail
 have hG0:=hG.keep (zI (Below.refl _ _) nq)
 have hH0:=hH.keep (zI (Below.refl _ _) nq)
 go_loopw [5,30] (fun _ i wr=>∃ (k z z':Nat) (d d':Bool),k≤M.n∧i=.int .i64 (k:Int)∧RamAt wr { G with z:=z } { M with done:=d }∧RamAt wr { H with z:=z' } { N with done:=d' }∧Kept (fun k=>k=G.p∨k=H.p) w wr) (fun _ i _=>M.n-(intOf i).toNat)
 case atStart=>exact ⟨0,G.z,H.z,M.done,N.done,Nat.zero_le _,rfl,hG0,hH0,(Kept.refl _ _).drewN _⟩
 case round =>
  obtain ⟨k,z,z',d,d',hk,rfl,hG1,hH1,hk1⟩:=hrel
  by_cases hlt:k<M.n
  ·
   have hkn:(k:Int)<(M.n:Int):=by omega
   have hl1:=hG1.at_ok k hlt
   have hPG:=zjU G M z d k hlt wr hG1
   have hPH:=fun W (h:RamAt W { H with z:=z' } { N with done:=d' })=>zjU H N z' d' k (by rw [HN.out];exact hlt) W h
   have HPH:=qH hPH
   clear hPH
   go_wp2_with (first
    | (go_at_call_of 92 (Value.pointer (some ⟨G.p,0,none⟩));refine hPG.mono ?_;rintro e w2 ⟨z2,d2,g2,rfl,hG2,hb2,hk2,hz2⟩;have hH2:=hH1.other (G:={ G with z:=z }) hG1.ram HNE.out hk2)
    | (go_at_call_of 92 (Value.pointer (some ⟨H.p,0,none⟩));refine (HPH.out _ hH2).mono ?_;rintro e w3 ⟨z3,d3,g3,rfl,hH3,hb3,hk3,hz3⟩;have hG3:=hG2.other (G:={ H with z:=z' }) hH2.ram (Ne.symm HNE.out) hk3;have hb2':=hb2.kept hk3 (fun e=>(hb2.apart hH2.ram (by decide)) e))
    | (go_at_call 166;rw [←HEQ.out k hlt] at hb3;refine (zlk _ _ _ _ _ _ (M.at_ k) _ (zc1 hb2' 4096 hl1.1 (by decide) hl1.2) (zc1 hb3 4096 hl1.1 (by decide) hl1.2)).mono ?_;rintro e w4 ⟨rfl,rfl⟩)
    | fail)
   go_roundw
   case rel=>exact ⟨k+1,z2,z3,d2,d3,by omega,by go_num,hG3,hH3,(hk1.trans (hk2.mono (fun i _ e=>.inl e))).trans (hk3.mono (fun i _ e=>.inr e))⟩
   case measure=>simp [intOf];omega
  ·
   obtain rfl:k=M.n:=by omega
   clear hlt
   go_wp2_with fail
   go_ret
   exact ⟨z,d,z',d',rfl,hG1,hH1,hk1⟩
def zgf:Value→LK
 | .int k _=>.i k
 | _=>.b
def zo1:Value→Bool
 | .int _ _=>true
 | .bool _=>true
 | _=>false
theorem zaC:∀ xs:List Value,xs.all zo1=true→zaY (xs.map zgf) xs
 | [],_=>trivial
 | v::xs,h=>by
  simp only [List.all_cons,Bool.and_eq_true] at h
  refine ⟨?_,zaC xs h.2⟩
  cases v<;>first | exact ⟨_,rfl⟩ | (exact absurd h.1 Bool.false_ne_true)
theorem zmB (s:So.State) (Q I Q2 I2:So.Hdr) (w:World) (Qn:Q.n=0) (In:I.n=0) (Q2n:Q2.n=0) (I2n:I2.n=0):Calls Tryz.prog 102 #[.agg (So.stL s Q I).toArray,.agg (So.stL s Q2 I2).toArray] w (RetP w (.bool true)):=by
 have fhart:=qH (zaC (So.hartL s.h) (by kernel_rfl))
 have phart:Hid (plan Tryz.prog 8 71=some ((So.hartL s.h).map zgf)):=qH (by kernel_rfl)
 have fclint:=qH (zaC (So.clintL s.c) (by kernel_rfl))
 have pclint:Hid (plan Tryz.prog 8 75=some ((So.clintL s.c).map zgf)):=qH (by kernel_rfl)
 have fplic:=qH (zaC (So.plicL s.p) (by kernel_rfl))
 have pplic:Hid (plan Tryz.prog 8 76=some ((So.plicL s.p).map zgf)):=qH (by kernel_rfl)
 have fuart:=qH (zaC (So.uartL s.u) (by kernel_rfl))
 have puart:Hid (plan Tryz.prog 8 79=some ((So.uartL s.u).map zgf)):=qH (by kernel_rfl)
 have fdma:=qH (zaC (So.dmaL s.d) (by kernel_rfl))
 have pdma:Hid (plan Tryz.prog 8 80=some ((So.dmaL s.d).map zgf)):=qH (by kernel_rfl)
 have fnic:=qH (zaC (So.nicL s.n) (by kernel_rfl))
 have pnic:Hid (plan Tryz.prog 8 91=some ((So.nicL s.n).map zgf)):=qH (by kernel_rfl)
 have fvirtio:=qH (zaC (So.virtL s.b.p) (by kernel_rfl))
 have pvirtio:Hid (plan Tryz.prog 8 86=some ((So.virtL s.b.p).map zgf)):=qH (by kernel_rfl)
 go_enter Tryz.func102,Tryz.ntmps102
 go_upto_region 1 with (fail)
 obtain ⟨W0,hW0⟩:=qX (w.alloc (.cells (So.stL s Q I).toArray 93))
 have hA0:=Blk.new w (So.stL s Q I).toArray 93
 have hb0:=za (Below.refl w.heap.size w) (.cells (So.stL s Q I).toArray 93)
 rw [hW0] at hA0 hb0
 have hs0:W0.heap.size=w.heap.size+1:=by rw [←hW0];simp
 obtain ⟨W1,hW1⟩:=qX (W0.alloc (.cells (So.stL s Q2 I2).toArray 93))
 have hB:=Blk.new W0 (So.stL s Q2 I2).toArray 93
 have hA:=hA0.alloc (.cells (So.stL s Q2 I2).toArray 93)
 have hbel:=za hb0 (.cells (So.stL s Q2 I2).toArray 93)
 rw [hW1,hs0] at hB
 rw [hW1] at hA hbel
 rw [hW0,hW1]
 clear hW0 hW1 hs0 hA0 hb0
 obtain ⟨g,hg⟩:=qX w.heap.size
 rw [hg] at hA hB ⊢
 have Hg:=qH hg
 clear hg
 generalize g+1=q at hB ⊢
 have rhartg:Hid (W1.rangeAt g 1 (So.hartL s.h)):=qH (zd hA 1 42 (by kernel_rfl))
 have rhartq:Hid (W1.rangeAt q 1 (So.hartL s.h)):=qH (zd hB 1 42 (by kernel_rfl))
 have rclintg:Hid (W1.rangeAt g 44 (So.clintL s.c)):=qH (zd hA 44 3 (by kernel_rfl))
 have rclintq:Hid (W1.rangeAt q 44 (So.clintL s.c)):=qH (zd hB 44 3 (by kernel_rfl))
 have rplicg:Hid (W1.rangeAt g 47 (So.plicL s.p)):=qH (zd hA 47 12 (by kernel_rfl))
 have rplicq:Hid (W1.rangeAt q 47 (So.plicL s.p)):=qH (zd hB 47 12 (by kernel_rfl))
 have ruartg:Hid (W1.rangeAt g 59 (So.uartL s.u)):=qH (zd hA 59 42 (by kernel_rfl))
 have ruartq:Hid (W1.rangeAt q 59 (So.uartL s.u)):=qH (zd hB 59 42 (by kernel_rfl))
 have rdmag:Hid (W1.rangeAt g 101 (So.dmaL s.d)):=qH (zd hA 101 11 (by kernel_rfl))
 have rdmaq:Hid (W1.rangeAt q 101 (So.dmaL s.d)):=qH (zd hB 101 11 (by kernel_rfl))
 have rnicg:Hid (W1.rangeAt g 137 (So.nicL s.n)):=qH (zd hA 137 23 (by kernel_rfl))
 have rnicq:Hid (W1.rangeAt q 137 (So.nicL s.n)):=qH (zd hB 137 23 (by kernel_rfl))
 have rvirtiog:Hid (W1.rangeAt g 112 (So.virtL s.b.p)):=qH (zd hA 112 21 (by kernel_rfl))
 have rvirtioq:Hid (W1.rangeAt q 112 (So.virtL s.b.p)):=qH (zd hB 112 21 (by kernel_rfl))
 have cg0:W1.cell? ⟨g,0,none⟩=some (.int .u64 (s.ticks:Int)):=hA.cell 0 (by kernel_rfl)
 have cq0:W1.cell? ⟨q,0,none⟩=some (.int .u64 (s.ticks:Int)):=hB.cell 0 (by kernel_rfl)
 have cg43:W1.cell? ⟨g,43,none⟩=some (.slice Q.A 0 Q.c):=by rw [←Qn];exact hA.cell 43 (by kernel_rfl)
 have cq43:W1.cell? ⟨q,43,none⟩=some (.slice Q2.A 0 Q2.c):=by rw [←Q2n];exact hB.cell 43 (by kernel_rfl)
 have cg133:W1.cell? ⟨g,133,none⟩=some (.int .u32 (s.b.sectors:Int)):=hA.cell 133 (by kernel_rfl)
 have cq133:W1.cell? ⟨q,133,none⟩=some (.int .u32 (s.b.sectors:Int)):=hB.cell 133 (by kernel_rfl)
 have cg134:W1.cell? ⟨g,134,none⟩=some (.bool s.b.bell):=hA.cell 134 (by kernel_rfl)
 have cq134:W1.cell? ⟨q,134,none⟩=some (.bool s.b.bell):=hB.cell 134 (by kernel_rfl)
 have cg135:W1.cell? ⟨g,135,none⟩=some (.int .u32 (s.b.next:Int)):=hA.cell 135 (by kernel_rfl)
 have cq135:W1.cell? ⟨q,135,none⟩=some (.int .u32 (s.b.next:Int)):=hB.cell 135 (by kernel_rfl)
 have cg136:W1.cell? ⟨g,136,none⟩=some (.slice I.A 0 I.c):=by rw [←In];exact hA.cell 136 (by kernel_rfl)
 have cq136:W1.cell? ⟨q,136,none⟩=some (.slice I2.A 0 I2.c):=by rw [←I2n];exact hB.cell 136 (by kernel_rfl)
 clear hA hB Qn In Q2n I2n
 go_wp2_with (first
  | (refine ze 71 (.tmp 14) rfl g 1 rfl (So.hartL s.h) _ rhartg.out Tryz.underlying71 rfl (by kernel_rfl) (by rfl) ?_;go_simp)
  | (refine ze 71 (.tmp 16) rfl q 1 rfl (So.hartL s.h) _ rhartq.out Tryz.underlying71 rfl (by kernel_rfl) (by rfl) ?_;go_simp)
  | (refine zaq 71 71 (.tmp 15) (.tmp 17) rfl phart.out (by decide) (by kernel_rfl) (by kernel_rfl) fhart.out fhart.out rfl rfl (by rfl) ?_;rw [zaT fhart.out];go_simp)
  | (refine ze 75 (.tmp 21) rfl g 44 rfl (So.clintL s.c) _ rclintg.out Tryz.underlying75 rfl (by kernel_rfl) (by rfl) ?_;go_simp)
  | (refine ze 75 (.tmp 23) rfl q 44 rfl (So.clintL s.c) _ rclintq.out Tryz.underlying75 rfl (by kernel_rfl) (by rfl) ?_;go_simp)
  | (refine zaq 75 75 (.tmp 22) (.tmp 24) rfl pclint.out (by decide) (by kernel_rfl) (by kernel_rfl) fclint.out fclint.out rfl rfl (by rfl) ?_;rw [zaT fclint.out];go_simp)
  | (refine ze 76 (.tmp 28) rfl g 47 rfl (So.plicL s.p) _ rplicg.out Tryz.underlying76 rfl (by kernel_rfl) (by rfl) ?_;go_simp)
  | (refine ze 76 (.tmp 30) rfl q 47 rfl (So.plicL s.p) _ rplicq.out Tryz.underlying76 rfl (by kernel_rfl) (by rfl) ?_;go_simp)
  | (refine zaq 76 76 (.tmp 29) (.tmp 31) rfl pplic.out (by decide) (by kernel_rfl) (by kernel_rfl) fplic.out fplic.out rfl rfl (by rfl) ?_;rw [zaT fplic.out];go_simp)
  | (refine ze 79 (.tmp 35) rfl g 59 rfl (So.uartL s.u) _ ruartg.out Tryz.underlying79 rfl (by kernel_rfl) (by rfl) ?_;go_simp)
  | (refine ze 79 (.tmp 37) rfl q 59 rfl (So.uartL s.u) _ ruartq.out Tryz.underlying79 rfl (by kernel_rfl) (by rfl) ?_;go_simp)
  | (refine zaq 79 79 (.tmp 36) (.tmp 38) rfl puart.out (by decide) (by kernel_rfl) (by kernel_rfl) fuart.out fuart.out rfl rfl (by rfl) ?_;rw [zaT fuart.out];go_simp)
  | (refine ze 80 (.tmp 42) rfl g 101 rfl (So.dmaL s.d) _ rdmag.out Tryz.underlying80 rfl (by kernel_rfl) (by rfl) ?_;go_simp)
  | (refine ze 80 (.tmp 44) rfl q 101 rfl (So.dmaL s.d) _ rdmaq.out Tryz.underlying80 rfl (by kernel_rfl) (by rfl) ?_;go_simp)
  | (refine zaq 80 80 (.tmp 43) (.tmp 45) rfl pdma.out (by decide) (by kernel_rfl) (by kernel_rfl) fdma.out fdma.out rfl rfl (by rfl) ?_;rw [zaT fdma.out];go_simp)
  | (refine ze 91 (.tmp 49) rfl g 137 rfl (So.nicL s.n) _ rnicg.out Tryz.underlying91 rfl (by kernel_rfl) (by rfl) ?_;go_simp)
  | (refine ze 91 (.tmp 51) rfl q 137 rfl (So.nicL s.n) _ rnicq.out Tryz.underlying91 rfl (by kernel_rfl) (by rfl) ?_;go_simp)
  | (refine zaq 91 91 (.tmp 50) (.tmp 52) rfl pnic.out (by decide) (by kernel_rfl) (by kernel_rfl) fnic.out fnic.out rfl rfl (by rfl) ?_;rw [zaT fnic.out];go_simp)
  | (refine ze 86 (.tmp 57) rfl g 112 rfl (So.virtL s.b.p) _ rvirtiog.out Tryz.underlying86 rfl (by kernel_rfl) (by rfl) ?_;go_simp)
  | (refine ze 86 (.tmp 60) rfl q 112 rfl (So.virtL s.b.p) _ rvirtioq.out Tryz.underlying86 rfl (by kernel_rfl) (by rfl) ?_;go_simp)
  | (refine zaq 86 86 (.tmp 58) (.tmp 61) rfl pvirtio.out (by decide) (by kernel_rfl) (by kernel_rfl) fvirtio.out fvirtio.out rfl rfl (by rfl) ?_;rw [zaT fvirtio.out];go_simp)
  | fail)
 go_loopw [5,115] (fun _ i wr=>i=.int .i64 0∧W1=wr) (fun _ _ _=>0)
 case atStart=>exact ⟨rfl,rfl⟩
 case round =>
  obtain ⟨rfl,rfl⟩:=hrel
  go_wp2_with fail
  go_loopw [6,136] (fun _ i wr=>i=.int .i64 0∧W1=wr) (fun _ _ _=>0)
  case atStart=>exact ⟨rfl,rfl⟩
  case round =>
   obtain ⟨rfl,rfl⟩:=hrel
   go_wp2_with fail
   go_ret
   exact ⟨rfl,hbel⟩
def zn6 (G H:RamG) (M N:RamM):Nat→(Nat→Value)→World→Prop:=fun k _ w=>match k with
 | 0=>RamAt w G M∧RamAt w H N
 | 1=>∃ (z:Nat) (d:Bool) (z':Nat) (d':Bool),RamAt w { G with z:=z } { M with done:=d }∧RamAt w { H with z:=z' } { N with done:=d' }
 | _=>False
theorem zq {G H:RamG} {M N:RamM} {k:Nat} {X X':Nat→Value} {w w1:World} (h:zn6 G H M N k X w) (hb:Below w.heap.size w w1):zn6 G H M N k X' w1:=by
 match k,h with
 | 0,h=>exact ⟨h.1.keep hb,h.2.keep hb⟩
 | 1,h =>
  obtain ⟨z,d,z',d',h1,h2⟩:=h
  exact ⟨z,d,z',d',h1.keep hb,h2.keep hb⟩
 | _+2,h=>exact h.elim
theorem zjo (base b2 x y:Nat) (c:So.Config) (s:So.State) (Q I Q2 I2:So.Hdr) (Rs Rs2:List (So.Req×So.Hdr)) (G H:RamG) (M N:RamM) (w:World) (hX:MachAt w base x c s Q I Rs G M) (hY:MachAt w b2 y c s Q2 I2 Rs2 H N) (hne:G.p≠H.p) (hn:N.n=M.n) (heq:∀ i,i<M.n→M.at_ i=N.at_ i) (hq:s.q=[]) (hi:s.b.ins=[]):Calls Tryz.prog 39 #[.pointer (some ⟨x,0,none⟩),.pointer (some ⟨y,0,none⟩)] w (zo0 w G H M N):=by
 have Qn:Hid (Q.n=0):=qH (by rw [hX.lists.qn,hq];rfl)
 have Q2n:Hid (Q2.n=0):=qH (by rw [hY.lists.qn,hq];rfl)
 have In:Hid (I.n=0):=qH (by rw [hX.lists.rn,←List.length_map (f:=(·.1)),hX.lists.ins,hi];rfl)
 have I2n:Hid (I2.n=0):=qH (by rw [hY.lists.rn,←List.length_map (f:=(·.1)),hY.lists.ins,hi];rfl)
 have hXb:=hX.blk
 have hYb:=hY.blk
 have hGR:=hX.ram
 have hHR:=hY.ram
 have hxk:¬ (x=G.p∨x=H.p):=fun e=>e.elim (hXb.apart hGR.ram (by decide)) (hXb.apart hHR.ram (by decide))
 have hyk:¬ (y=G.p∨y=H.p):=fun e=>e.elim (hYb.apart hGR.ram (by decide)) (hYb.apart hHR.ram (by decide))
 have HEQ:=qH heq
 have HN:=qH hn
 have HNE:=qH hne
 have HS0:=qH hq
 have HS1:=qH hi
 clear hX hY heq hn hne hq hi
 go_enter Tryz.func39,Tryz.ntmps39
 go_upto_region 1 with (fail)
 refine zc (by kernel_rfl) (fun X=>⟨#[.pointer (some ⟨x,0,none⟩),.pointer (some ⟨y,0,none⟩),undef,undef,X 39,X 0,X 1,X 2,X 3,X 4,X 5,X 6,X 7,X 8,X 9,X 10,X 11,X 12,X 13,X 14,X 15,X 16,X 17,X 18,X 19,X 20,X 21,X 22,X 23,X 24,X 25,X 26,X 27,X 28,X 29,X 30,X 31,X 32,X 33,X 34,X 35,X 36,X 37,X 38],[]⟩) (Kept (fun k=>k=G.p∨k=H.p)) (fun i v w=>match i with | 0=>(v=.pointer (some ⟨x,0,none⟩)) | 1=>(v=.bool true) | 2=>(v=.bool true) | 3=>(v=.pointer (some ⟨y,0,none⟩)) | 4=>(v=.bool true) | 5=>(v=.bool true) | 6=>(v=.bool true) | 7=>(v=.pointer (some ⟨x,0,none⟩)) | 8=>(v=.pointer (some ⟨x,0,none⟩)) | 9=>(v=.pointer (some ⟨x,0,none⟩)) | 10=>(v=.agg #[.int .i64 c.pages,.int .u32 (c.sectors:Int)]) | 11=>(v=.pointer (some ⟨y,0,none⟩)) | 12=>(v=.pointer (some ⟨y,0,none⟩)) | 13=>(v=.pointer (some ⟨y,0,none⟩)) | 14=>(v=.agg #[.int .i64 c.pages,.int .u32 (c.sectors:Int)]) | 15=>(v=.bool true) | 16=>(v=.bool true) | 17=>(v=.bool true) | 18=>(v=.pointer (some ⟨x,0,none⟩)) | 19=>(v=.pointer (some ⟨x,0,none⟩)) | 20=>(v=.pointer (some ⟨x,2,none⟩)) | 21=>(v=.agg (So.stL s Q I).toArray) | 22=>(v=.pointer (some ⟨y,0,none⟩)) | 23=>(v=.pointer (some ⟨y,0,none⟩)) | 24=>(v=.pointer (some ⟨y,2,none⟩)) | 25=>(v=.agg (So.stL s Q2 I2).toArray) | 26=>(v=.bool true) | 27=>(v=.bool true) | 28=>(v=.bool true) | 29=>(v=.pointer (some ⟨x,0,none⟩)) | 30=>(v=.pointer (some ⟨x,0,none⟩)) | 31=>(v=.pointer (some ⟨x,162,none⟩)) | 32=>(v=.pointer (some ⟨G.p,0,none⟩)) | 33=>(v=.pointer (some ⟨y,0,none⟩)) | 34=>(v=.pointer (some ⟨y,0,none⟩)) | 35=>(v=.pointer (some ⟨y,162,none⟩)) | 36=>(v=.pointer (some ⟨H.p,0,none⟩)) | 37=>(v=.bool true) | 38=>(v=.bool true) | 39=>(v=.bool true) | _=>True) (fun i=>([0,0,0,0,0,0,0,0,0,0,0,0,0,0,0,0,0,0,0,0,0,0,0,0,0,0,0,0,0,0,0,0,0,0,0,0,0,1,0,0]:List Nat).getD i 0) 1 (zn6 G H M N) _ (fun i=>if i=39 then .bool false else undef) (fun u v w a b=>a.trans b) ?_ (by kernel_rfl) (by kernel_rfl) ((Kept.refl _ _).drew) ((show RamAt _ G M∧RamAt _ H N from ⟨hGR.keep (zr (Below.refl _ _)),hHR.keep (zr (Below.refl _ _))⟩)) ?_ ?_
 ·
  intro i v w w' h hb
  match i,h with
  | 0,h=>exact h
  | 1,h=>exact h
  | 2,h=>exact h
  | 3,h=>exact h
  | 4,h=>exact h
  | 5,h=>exact h
  | 6,h=>exact h
  | 7,h=>exact h
  | 8,h=>exact h
  | 9,h=>exact h
  | 10,h=>exact h
  | 11,h=>exact h
  | 12,h=>exact h
  | 13,h=>exact h
  | 14,h=>exact h
  | 15,h=>exact h
  | 16,h=>exact h
  | 17,h=>exact h
  | 18,h=>exact h
  | 19,h=>exact h
  | 20,h=>exact h
  | 21,h=>exact h
  | 22,h=>exact h
  | 23,h=>exact h
  | 24,h=>exact h
  | 25,h=>exact h
  | 26,h=>exact h
  | 27,h=>exact h
  | 28,h=>exact h
  | 29,h=>exact h
  | 30,h=>exact h
  | 31,h=>exact h
  | 32,h=>exact h
  | 33,h=>exact h
  | 34,h=>exact h
  | 35,h=>exact h
  | 36,h=>exact h
  | 37,h=>exact h
  | 38,h=>exact h
  | 39,h=>exact h
  | _+40,h=>exact trivial
 ·
  refine cQ 0 ?_ ?_
  ·
   intro X w hR ψ χ K HK
   go_simp
   exact HK.out _ _ _ rfl (Kept.refl _ _) rfl (fun k _ h=>zq h (Below.refl _ _))
  refine cQ 1 ?_ ?_
  ·
   intro X w hR ψ χ K HK
   have e0:X 0=.pointer (some { block:=x,off:=0 }):=(pR ψ 0 .data 0 :)
   go_simp
   exact HK.out _ _ _ (by (try simp only [e0])<;>rfl) (Kept.refl _ _) rfl (fun k _ h=>zq h (Below.refl _ _))
  refine cQ 2 ?_ ?_
  ·
   intro X w hR ψ χ K HK
   have e1:X 1=.bool true:=(pR ψ 1 .data 0 :)
   go_simp
   exact HK.out _ _ _ (by (try simp only [e1])<;>rfl) (Kept.refl _ _) rfl (fun k _ h=>zq h (Below.refl _ _))
  refine cQ 3 ?_ ?_
  ·
   intro X w hR ψ χ K HK
   have e2:X 2=.bool true:=(pR ψ 2 .guard 0 :)
   go_simp
   exact HK.out _ _ _ (by (try simp only [e2])<;>rfl) (Kept.refl _ _) rfl (fun k _ h=>zq h (Below.refl _ _))
  refine cQ 4 ?_ ?_
  ·
   intro X w hR ψ χ K HK
   have e3:X 3=.pointer (some { block:=y,off:=0 }):=(pR ψ 3 .data 0 :)
   have e2:X 2=.bool true:=(pR ψ 2 .guard 1 :)
   go_simp
   exact HK.out _ _ _ (by (try simp only [e3,e2])<;>rfl) (Kept.refl _ _) rfl (fun k _ h=>zq h (Below.refl _ _))
  refine cQ 5 ?_ ?_
  ·
   intro X w hR ψ χ K HK
   have e2:X 2=.bool true:=(pR ψ 2 .data 0 :)
   have e4:X 4=.bool true:=(pR ψ 4 .data 1 :)
   go_simp
   exact HK.out _ _ _ (by (try simp only [e2,e4])<;>rfl) (Kept.refl _ _) rfl (fun k _ h=>zq h (Below.refl _ _))
  refine cQ 6 ?_ ?_
  ·
   intro X w hR ψ χ K HK
   have e5:X 5=.bool true:=(pR ψ 5 .data 0 :)
   go_simp
   exact HK.out _ _ _ (by (try simp only [e5])<;>rfl) (Kept.refl _ _) rfl (fun k _ h=>zq h (Below.refl _ _))
  refine cQ 7 ?_ ?_
  ·
   intro X w hR ψ χ K HK
   have e6:X 6=.bool true:=(pR ψ 6 .guard 0 :)
   go_simp
   exact HK.out _ _ _ (by (try simp only [e6])<;>rfl) (Kept.refl _ _) rfl (fun k _ h=>zq h (Below.refl _ _))
  refine cQ 8 ?_ ?_
  ·
   intro X w hR ψ χ K HK
   have e7:X 7=.pointer (some { block:=x,off:=0 }):=(pR ψ 7 .data 0 :)
   have e6:X 6=.bool true:=(pR ψ 6 .guard 1 :)
   go_simp
   exact HK.out _ _ _ (by (try simp only [e7,e6])<;>rfl) (Kept.refl _ _) rfl (fun k _ h=>zq h (Below.refl _ _))
  refine cQ 9 ?_ ?_
  ·
   intro X w hR ψ χ K HK
   have e8:X 8=.pointer (some ⟨x,0,none⟩):=(pR ψ 8 .data 0 :)
   have e6:X 6=.bool true:=(pR ψ 6 .guard 1 :)
   go_simp
   exact HK.out _ _ _ (by (try simp only [e8,e6])<;>rfl) (Kept.refl _ _) rfl (fun k _ h=>zq h (Below.refl _ _))
  refine cQ 10 ?_ ?_
  ·
   intro X w hR ψ χ K HK
   have e9:X 9=.pointer (some ⟨x,0,none⟩):=(pR ψ 9 .data 0 :)
   have e6:X 6=.bool true:=(pR ψ 6 .guard 1 :)
   have ca10:=(hXb.kept hR hxk).cell 0 (v:=Value.int .i64 c.pages) rfl
   have cb10:=(hXb.kept hR hxk).cell 1 (v:=Value.int .u32 (c.sectors:Int)) rfl
   go_simp
   exact HK.out _ _ _ (by (try simp only [e9,e6])<;>rfl) (Kept.refl _ _) rfl (fun k _ h=>zq h (Below.refl _ _))
  refine cQ 11 ?_ ?_
  ·
   intro X w hR ψ χ K HK
   have e6:X 6=.bool true:=(pR ψ 6 .guard 0 :)
   go_simp
   exact HK.out _ _ _ (by (try simp only [e6])<;>rfl) (Kept.refl _ _) rfl (fun k _ h=>zq h (Below.refl _ _))
  refine cQ 12 ?_ ?_
  ·
   intro X w hR ψ χ K HK
   have e11:X 11=.pointer (some ⟨y,0,none⟩):=(pR ψ 11 .data 0 :)
   have e6:X 6=.bool true:=(pR ψ 6 .guard 1 :)
   go_simp
   exact HK.out _ _ _ (by (try simp only [e11,e6])<;>rfl) (Kept.refl _ _) rfl (fun k _ h=>zq h (Below.refl _ _))
  refine cQ 13 ?_ ?_
  ·
   intro X w hR ψ χ K HK
   have e12:X 12=.pointer (some ⟨y,0,none⟩):=(pR ψ 12 .data 0 :)
   have e6:X 6=.bool true:=(pR ψ 6 .guard 1 :)
   go_simp
   exact HK.out _ _ _ (by (try simp only [e12,e6])<;>rfl) (Kept.refl _ _) rfl (fun k _ h=>zq h (Below.refl _ _))
  refine cQ 14 ?_ ?_
  ·
   intro X w hR ψ χ K HK
   have e13:X 13=.pointer (some ⟨y,0,none⟩):=(pR ψ 13 .data 0 :)
   have e6:X 6=.bool true:=(pR ψ 6 .guard 1 :)
   have ca14:=(hYb.kept hR hyk).cell 0 (v:=Value.int .i64 c.pages) rfl
   have cb14:=(hYb.kept hR hyk).cell 1 (v:=Value.int .u32 (c.sectors:Int)) rfl
   go_simp
   exact HK.out _ _ _ (by (try simp only [e13,e6])<;>rfl) (Kept.refl _ _) rfl (fun k _ h=>zq h (Below.refl _ _))
  refine cQ 15 ?_ ?_
  ·
   intro X w hR ψ χ K HK
   have e10:X 10=.agg #[Value.int .i64 c.pages,Value.int .u32 (c.sectors:Int)]:=(pR ψ 10 .data 0 :)
   have e14:X 14=.agg #[Value.int .i64 c.pages,Value.int .u32 (c.sectors:Int)]:=(pR ψ 14 .data 1 :)
   have e6:X 6=.bool true:=(pR ψ 6 .guard 2 :)
   go_simp
   exact HK.out _ _ _ (by (try simp only [e10,e14,e6])<;>rfl) (Kept.refl _ _) rfl (fun k _ h=>zq h (Below.refl _ _))
  refine cQ 16 ?_ ?_
  ·
   intro X w hR ψ χ K HK
   have e6:X 6=.bool true:=(pR ψ 6 .data 0 :)
   have e15:X 15=.bool true:=(pR ψ 15 .data 1 :)
   go_simp
   exact HK.out _ _ _ (by (try simp only [e6,e15])<;>rfl) (Kept.refl _ _) rfl (fun k _ h=>zq h (Below.refl _ _))
  refine cQ 17 ?_ ?_
  ·
   intro X w hR ψ χ K HK
   have e16:X 16=.bool true:=(pR ψ 16 .data 0 :)
   go_simp
   exact HK.out _ _ _ (by (try simp only [e16])<;>rfl) (Kept.refl _ _) rfl (fun k _ h=>zq h (Below.refl _ _))
  refine cQ 18 ?_ ?_
  ·
   intro X w hR ψ χ K HK
   have e17:X 17=.bool true:=(pR ψ 17 .guard 0 :)
   go_simp
   exact HK.out _ _ _ (by (try simp only [e17])<;>rfl) (Kept.refl _ _) rfl (fun k _ h=>zq h (Below.refl _ _))
  refine cQ 19 ?_ ?_
  ·
   intro X w hR ψ χ K HK
   have e18:X 18=.pointer (some { block:=x,off:=0 }):=(pR ψ 18 .data 0 :)
   have e17:X 17=.bool true:=(pR ψ 17 .guard 1 :)
   go_simp
   exact HK.out _ _ _ (by (try simp only [e18,e17])<;>rfl) (Kept.refl _ _) rfl (fun k _ h=>zq h (Below.refl _ _))
  refine cQ 20 ?_ ?_
  ·
   intro X w hR ψ χ K HK
   have e19:X 19=.pointer (some ⟨x,0,none⟩):=(pR ψ 19 .data 0 :)
   have e17:X 17=.bool true:=(pR ψ 17 .guard 1 :)
   go_simp
   exact HK.out _ _ _ (by (try simp only [e19,e17])<;>rfl) (Kept.refl _ _) rfl (fun k _ h=>zq h (Below.refl _ _))
  refine cQ 21 ?_ ?_
  ·
   intro X w hR ψ χ K HK
   have e20:X 20=.pointer (some ⟨x,2,none⟩):=(pR ψ 20 .data 0 :)
   have e17:X 17=.bool true:=(pR ψ 17 .guard 1 :)
   rw [if_pos (by go_simp)]
   refine wp_load_mid 93 (.tmp 25) rfl x 2 (show X 20=_ from e20) (So.stL s Q I) _ (zd (hXb.kept hR hxk) 2 160 (by kernel_rfl)) Tryz.underlying93 rfl (by kernel_rfl) ?_
   exact HK.out _ _ _ (by (try simp only [e20,e17])<;>rfl) (Kept.refl _ _) rfl (fun k _ h=>zq h (Below.refl _ _))
  refine cQ 22 ?_ ?_
  ·
   intro X w hR ψ χ K HK
   have e17:X 17=.bool true:=(pR ψ 17 .guard 0 :)
   go_simp
   exact HK.out _ _ _ (by (try simp only [e17])<;>rfl) (Kept.refl _ _) rfl (fun k _ h=>zq h (Below.refl _ _))
  refine cQ 23 ?_ ?_
  ·
   intro X w hR ψ χ K HK
   have e22:X 22=.pointer (some ⟨y,0,none⟩):=(pR ψ 22 .data 0 :)
   have e17:X 17=.bool true:=(pR ψ 17 .guard 1 :)
   go_simp
   exact HK.out _ _ _ (by (try simp only [e22,e17])<;>rfl) (Kept.refl _ _) rfl (fun k _ h=>zq h (Below.refl _ _))
  refine cQ 24 ?_ ?_
  ·
   intro X w hR ψ χ K HK
   have e23:X 23=.pointer (some ⟨y,0,none⟩):=(pR ψ 23 .data 0 :)
   have e17:X 17=.bool true:=(pR ψ 17 .guard 1 :)
   go_simp
   exact HK.out _ _ _ (by (try simp only [e23,e17])<;>rfl) (Kept.refl _ _) rfl (fun k _ h=>zq h (Below.refl _ _))
  refine cQ 25 ?_ ?_
  ·
   intro X w hR ψ χ K HK
   have e24:X 24=.pointer (some ⟨y,2,none⟩):=(pR ψ 24 .data 0 :)
   have e17:X 17=.bool true:=(pR ψ 17 .guard 1 :)
   rw [if_pos (by go_simp)]
   refine wp_load_mid 93 (.tmp 29) rfl y 2 (show X 24=_ from e24) (So.stL s Q2 I2) _ (zd (hYb.kept hR hyk) 2 160 (by kernel_rfl)) Tryz.underlying93 rfl (by kernel_rfl) ?_
   exact HK.out _ _ _ (by (try simp only [e24,e17])<;>rfl) (Kept.refl _ _) rfl (fun k _ h=>zq h (Below.refl _ _))
  refine cQ 26 ?_ ?_
  ·
   intro X w hR ψ χ K HK
   have e21:X 21=.agg (So.stL s Q I).toArray:=(pR ψ 21 .data 0 :)
   have e25:X 25=.agg (So.stL s Q2 I2).toArray:=(pR ψ 25 .data 1 :)
   have e17:X 17=.bool true:=(pR ψ 17 .chain 2 :)
   go_simp
   go_at_call 102
   refine (zmB s Q I Q2 I2 w Qn.out In.out Q2n.out I2n.out).mono ?_
   rintro e w2 ⟨rfl,hb2⟩
   go_simp
   exact HK.out _ _ _ (by (try simp only [e21,e25,e17])<;>rfl) (Kept.of_below hb2) rfl (fun k _ h=>zq h hb2)
  refine cQ 27 ?_ ?_
  ·
   intro X w hR ψ χ K HK
   have e17:X 17=.bool true:=(pR ψ 17 .data 0 :)
   have e26:X 26=.bool true:=(pR ψ 26 .data 1 :)
   go_simp
   exact HK.out _ _ _ (by (try simp only [e17,e26])<;>rfl) (Kept.refl _ _) rfl (fun k _ h=>zq h (Below.refl _ _))
  refine cQ 28 ?_ ?_
  ·
   intro X w hR ψ χ K HK
   have e27:X 27=.bool true:=(pR ψ 27 .data 0 :)
   go_simp
   exact HK.out _ _ _ (by (try simp only [e27])<;>rfl) (Kept.refl _ _) rfl (fun k _ h=>zq h (Below.refl _ _))
  refine cQ 29 ?_ ?_
  ·
   intro X w hR ψ χ K HK
   have e28:X 28=.bool true:=(pR ψ 28 .guard 0 :)
   go_simp
   exact HK.out _ _ _ (by (try simp only [e28])<;>rfl) (Kept.refl _ _) rfl (fun k _ h=>zq h (Below.refl _ _))
  refine cQ 30 ?_ ?_
  ·
   intro X w hR ψ χ K HK
   have e29:X 29=.pointer (some ⟨x,0,none⟩):=(pR ψ 29 .data 0 :)
   have e28:X 28=.bool true:=(pR ψ 28 .guard 1 :)
   go_simp
   exact HK.out _ _ _ (by (try simp only [e29,e28])<;>rfl) (Kept.refl _ _) rfl (fun k _ h=>zq h (Below.refl _ _))
  refine cQ 31 ?_ ?_
  ·
   intro X w hR ψ χ K HK
   have e30:X 30=.pointer (some ⟨x,0,none⟩):=(pR ψ 30 .data 0 :)
   have e28:X 28=.bool true:=(pR ψ 28 .guard 1 :)
   go_simp
   exact HK.out _ _ _ (by (try simp only [e30,e28])<;>rfl) (Kept.refl _ _) rfl (fun k _ h=>zq h (Below.refl _ _))
  refine cQ 32 ?_ ?_
  ·
   intro X w hR ψ χ K HK
   have e31:X 31=.pointer (some ⟨x,162,none⟩):=(pR ψ 31 .data 0 :)
   have e28:X 28=.bool true:=(pR ψ 28 .guard 1 :)
   have c32:=(hXb.kept hR hxk).cell 162 (v:=Value.pointer (some ⟨G.p,0,none⟩)) (by kernel_rfl)
   go_simp
   exact HK.out _ _ _ (by (try simp only [e31,e28])<;>rfl) (Kept.refl _ _) rfl (fun k _ h=>zq h (Below.refl _ _))
  refine cQ 33 ?_ ?_
  ·
   intro X w hR ψ χ K HK
   have e28:X 28=.bool true:=(pR ψ 28 .guard 0 :)
   go_simp
   exact HK.out _ _ _ (by (try simp only [e28])<;>rfl) (Kept.refl _ _) rfl (fun k _ h=>zq h (Below.refl _ _))
  refine cQ 34 ?_ ?_
  ·
   intro X w hR ψ χ K HK
   have e33:X 33=.pointer (some ⟨y,0,none⟩):=(pR ψ 33 .data 0 :)
   have e28:X 28=.bool true:=(pR ψ 28 .guard 1 :)
   go_simp
   exact HK.out _ _ _ (by (try simp only [e33,e28])<;>rfl) (Kept.refl _ _) rfl (fun k _ h=>zq h (Below.refl _ _))
  refine cQ 35 ?_ ?_
  ·
   intro X w hR ψ χ K HK
   have e34:X 34=.pointer (some ⟨y,0,none⟩):=(pR ψ 34 .data 0 :)
   have e28:X 28=.bool true:=(pR ψ 28 .guard 1 :)
   go_simp
   exact HK.out _ _ _ (by (try simp only [e34,e28])<;>rfl) (Kept.refl _ _) rfl (fun k _ h=>zq h (Below.refl _ _))
  refine cQ 36 ?_ ?_
  ·
   intro X w hR ψ χ K HK
   have e35:X 35=.pointer (some ⟨y,162,none⟩):=(pR ψ 35 .data 0 :)
   have e28:X 28=.bool true:=(pR ψ 28 .guard 1 :)
   have c36:=(hYb.kept hR hyk).cell 162 (v:=Value.pointer (some ⟨H.p,0,none⟩)) (by kernel_rfl)
   go_simp
   exact HK.out _ _ _ (by (try simp only [e35,e28])<;>rfl) (Kept.refl _ _) rfl (fun k _ h=>zq h (Below.refl _ _))
  refine cS 37 0 ?_ ?_
  ·
   intro X w hR ψ χ hst K HK
   have e32:X 32=.pointer (some ⟨G.p,0,none⟩):=(pR ψ 32 .data 0 :)
   have e36:X 36=.pointer (some ⟨H.p,0,none⟩):=(pR ψ 36 .data 1 :)
   have e28:X 28=.bool true:=(pR ψ 28 .chain 2 :)
   obtain ⟨hg37,hh37⟩:RamAt w G M∧RamAt w H N:=hst
   go_simp
   go_at_call 103
   refine (zhg G H M N w hg37 hh37 HNE.out HN.out HEQ.out).mono ?_
   rintro e w2 ⟨z,d,z',d',rfl,hg2,hh2,hk2⟩
   go_simp
   exact HK.out _ _ _ (by (try simp only [e32,e36,e28])<;>rfl) hk2 rfl ⟨z,d,z',d',hg2,hh2⟩
  refine cQ 38 ?_ ?_
  ·
   intro X w hR ψ χ K HK
   have e28:X 28=.bool true:=(pR ψ 28 .data 0 :)
   have e37:X 37=.bool true:=(pR ψ 37 .data 1 :)
   go_simp
   exact HK.out _ _ _ (by (try simp only [e28,e37])<;>rfl) (Kept.refl _ _) rfl (fun k _ h=>zq h (Below.refl _ _))
  refine cQ 39 ?_ ?_
  ·
   intro X w hR ψ χ K HK
   have e38:X 38=.bool true:=(pR ψ 38 .data 0 :)
   go_simp
   exact HK.out _ _ _ (by (try simp only [e38])<;>rfl) (Kept.refl _ _) rfl (fun k _ h=>zq h (Below.refl _ _))
  exact zi.nil
 ·
  intro X wE hR hall hS
  obtain ⟨z,d,z',d',hg2,hh2⟩:∃ (z:Nat) (d:Bool) (z':Nat) (d':Bool),RamAt wE { G with z:=z } { M with done:=d }∧RamAt wE { H with z:=z' } { N with done:=d' }:=hS
  have e39:X 39=.bool true:=hall 39 (by decide)
  clear hall
  rw [e39]
  go_wp2_with fail
  go_ret
  exact ⟨z,d,z',d',rfl,hg2,hh2,hR⟩
theorem zll {l:List Tl.Sec} (hl:l.length=14) (ht:Tl.tagAt l 13=14):l.getD 13 ⟨0,[]⟩=⟨14,(l.getD 13 ⟨0,[]⟩).b⟩:=by
 have h13:l[13]?=some (l[13]'(by omega)):=List.getElem?_eq_getElem (by omega)
 have e2:Tl.tagAt l 13=(l[13]'(by omega)).tag:=by
  unfold Tl.tagAt
  rw [List.getD_eq_getElem?_getD,List.getElem?_map,h13]
  rfl
 rw [List.getD_eq_getElem?_getD,h13]
 rw [e2] at ht
 show l[13]'(by omega)=⟨14,(l[13]'(by omega)).b⟩
 rw [←ht]
theorem zm7 {c:So.Config} {s:So.State} (h:So.stateB c s=true):1≤c.pages∧c.pages≤16384:=by
 have h1:=(So.stateB_all h).1
 simp only [So.mayB,Bool.and_eq_true,decide_eq_true_eq] at h1
 exact h1.1
theorem zes (A:Option Addr) (n c:Nat) (b:List Nat) (w:World) (hb:Bs w A n c b) (hT:TabW w) (hR:RegW w):Calls Tryz.prog 18 #[.slice A n c] w (DecM w b):=by
 rcases Nat.decEq (Tl.decE b) 0 with h1 | h1
 · exact zpN A n c b w hb hT h1
 rcases Nat.decEq (Tl.decV b) 3 with h2 | h2
 · exact zpO A n c b w hb hT h1 h2
 rcases Nat.decEq (Tl.decL b).length 14 with h3 | h3
 · exact zpP A n c b w hb hT h1 h2 h3
 rcases Nat.decEq (Tl.tagAt (Tl.decL b) 13) 14 with h4 | h4
 · exact zpQ A n c b w hb hT h1 h2 h3 h4
 have hw:=zgd (l:=(Tl.decL b).take 13) (fun x hx=>zdk hb.small h1 x (List.mem_of_mem_take hx))
 obtain ⟨r,cf,st,hW⟩:∃ r cf st,zJ ((Tl.decL b).take 13)=(r,cf,st):=⟨_,_,_,rfl⟩
 rw [hW] at hw
 rcases Nat.decEq r 0 with h5 | h5
 · exact zpS A n c b w hb hT hR h1 h2 h3 h4 r cf st hW h5
 obtain ⟨hB,htold,_,_⟩:=hw h5
 have hB:So.stateB cf st=true:=hB
 have htold:So.Told cf st:=htold
 subst h5
 obtain ⟨hm1,hm2⟩:=zm7 hB
 obtain ⟨pg,sc⟩:=cf
 have hm1:1≤pg:=hm1
 have hm2:pg≤16384:=hm2
 obtain ⟨n0,rfl⟩:∃ n0:Nat,pg=(n0:Int):=⟨pg.toNat,by omega⟩
 have hp:=zll h3 h4
 cases hF:Fl.fill n0 ((Tl.decL b).getD 13 ⟨0,[]⟩).b with
 | none=>exact zpT A n c b w hb hT hR h1 h2 h3 h4 n0 sc st _ (by omega) (by omega) hW hp hF
 | some q=>exact zpU A n c b w hb hT hR h1 h2 h3 h4 n0 sc st _ (by omega) (by omega) hW hp q hF htold.cok htold.ok (zeW htold) hB
theorem zcb (A:Option Addr) (n c:Nat) (b:List Nat) (r:So.Config×So.State×(Nat→Option (List Nat))) (w:World) (hb:Bs w A n c b) (hT:TabW w) (hR:RegW w) (h:decM b=.ok r):Calls Tryz.prog 18 #[.slice A n c] w fun e w'=>∃ x Q I Rs G M,e=.returned (.tuple #[.pointer (some ⟨x,0,none⟩),.nilIface])∧MachOk w' w.heap.size x r.1 r.2.1 Q I Rs G M∧M.pg=r.2.2∧(∀ i,M.dirty i=false)∧RamNew w G M∧w.heap.size≤x∧Below w.heap.size w w' :=
 (zes A n c b w hb hT hR).mono (fun e w' h1=>by unfold DecM at h1;rw [h] at h1;exact h1)
theorem zeX (A:Option Addr) (n c:Nat) (b:List Nat) (k:Nat) (w:World) (hb:Bs w A n c b) (hT:TabW w) (hR:RegW w) (h:decM b=.error k):Calls Tryz.prog 18 #[.slice A n c] w fun e w'=>e=.returned (.tuple #[.pointer none,.iface 149 (.int .i64 (k:Int))])∧Below w.heap.size w w' :=
 (zes A n c b w hb hT hR).mono (fun e w' h1=>by unfold DecM at h1;rw [h] at h1;exact h1)
def zjp (c d:So.Config):Bool:=eqVs (So.configL c) (So.configL d)
def cfgV (b:Bool):Value:=if b then .nilIface else .iface 149 (.int .i64 32)
theorem zdF (c:So.Config):zaY [.i .i64,.i .u32] (So.configL c):=⟨⟨_,rfl⟩,⟨_,rfl⟩,trivial⟩
theorem zo2:cfgV true=.nilIface:=rfl
theorem zo3:cfgV false=.iface 149 (.int .i64 32):=rfl
theorem zjq (A:Option Addr) (n c:Nat) (b:List Nat) (r:So.Config×So.State×(Nat→Option (List Nat))) (base x:Nat) (cf:So.Config) (s:So.State) (Q I:So.Hdr) (Rs:List (So.Req×So.Hdr)) (G:RamG) (M:RamM) (w:World) (hX:MachAt w base x cf s Q I Rs G M) (hb:Bs w A n c b) (hT:TabW w) (hR:RegW w) (h:decM b=.ok r):Calls Tryz.prog 24 #[.pointer (some ⟨x,0,none⟩),.slice A n c] w fun e w'=>(∃ v,e=.returned (.tuple #[v,cfgV (zjp r.1 cf)]))∧Below w.heap.size w w':=by
 have HD:=qH (zcb A n c b r w hb hT hR h)
 have HX:=qH hX
 clear hX hb hT hR h
 cases hq:zjp r.1 cf with
 | true =>
  have HQ:=qH hq
  clear hq
  unfold zjp at HQ
  rw [zo2]
  go_enter Tryz.func24,Tryz.ntmps24
  go_upto_if 20 with (first
   | (go_at_call 18;refine HD.out.mono ?_;rintro e w1 ⟨y,Q2,I2,Rs2,G2,M2,rfl,hm,_,_,_,_,hb1⟩)
   | (go_at_call_of 22 (Value.pointer (some ⟨y,0,none⟩));refine (zaU hm.at_).mono ?_;rintro e w2 ⟨rfl,hb2⟩)
   | (go_at_call_of 22 (Value.pointer (some ⟨x,0,none⟩));refine (zaU (HX.out.keep (zb hb1 hb2))).mono ?_;rintro e w3 ⟨rfl,hb3⟩;have hbe:=zb (zb hb1 hb2) hb3)
   | (refine zaq 68 68 (.tmp 22) (.tmp 24) rfl (d:=3) (by kernel_rfl) (by decide) (by kernel_rfl) (by kernel_rfl) (zdF r.1) (zdF cf) rfl rfl (by rfl) ?_;rw [HQ.out];go_simp)
   | fail)
  go_wp2_with fail
  go_ret2
  exact ⟨⟨_,rfl⟩,hbe⟩
 | false =>
  have HQ:=qH hq
  clear hq
  unfold zjp at HQ
  rw [zo3]
  go_enter Tryz.func24,Tryz.ntmps24
  go_upto_if 20 with (first
   | (go_at_call 18;refine HD.out.mono ?_;rintro e w1 ⟨y,Q2,I2,Rs2,G2,M2,rfl,hm,_,_,_,_,hb1⟩)
   | (go_at_call_of 22 (Value.pointer (some ⟨y,0,none⟩));refine (zaU hm.at_).mono ?_;rintro e w2 ⟨rfl,hb2⟩)
   | (go_at_call_of 22 (Value.pointer (some ⟨x,0,none⟩));refine (zaU (HX.out.keep (zb hb1 hb2))).mono ?_;rintro e w3 ⟨rfl,hb3⟩;have hbe:=zb (zb hb1 hb2) hb3)
   | (refine zaq 68 68 (.tmp 22) (.tmp 24) rfl (d:=3) (by kernel_rfl) (by decide) (by kernel_rfl) (by kernel_rfl) (zdF r.1) (zdF cf) rfl rfl (by rfl) ?_;rw [HQ.out];go_simp)
   | fail)
  go_wp2_with fail
  go_ret2
  exact ⟨⟨_,rfl⟩,hbe⟩
theorem zn7 (n sc:Nat) (h1:1≤n) (h2:n≤16384) (hs:sc≤1048576):So.stateB ⟨(n:Int),sc⟩ (st0 ⟨(n:Int),sc⟩)=true:=by
 have hm:So.mayB ⟨(n:Int),sc⟩=true:=by
  unfold So.mayB
  rw [decide_eq_true (show (1:Int)≤(n:Int) by omega),decide_eq_true (show (n:Int)≤16384 by omega),decide_eq_true hs]
  rfl
 have hb:So.blkB (st0 ⟨(n:Int),sc⟩).b (n:Int)=true:=by
  unfold So.blkB
  rw [decide_eq_true (show (0:Int)≤(n:Int) by omega)]
  exact (by decide:(true&&So.virtB So.zVirt&&decide (0≤8)&&decide (So.index [] 0<0)&&true&&true)=true)
 unfold So.stateB
 rw [hm,show So.blkB (st0 ⟨(n:Int),sc⟩).b (⟨(n:Int),sc⟩:So.Config).pages=true from hb]
 have e1:((st0 ⟨(n:Int),sc⟩).b.sectors==(⟨(n:Int),sc⟩:So.Config).sectors)=true:=beq_self_eq_true sc
 rw [e1]
 exact (by decide:(true&&true&&So.hartB zb3&&So.queueB []&&So.clintB So.zState.c&&So.plicB So.zState.p&&So.uartB So.zUart&&So.dmaB So.zState.d&&true&&So.virtB So.zVirt)=true)
theorem zh5:So.zVirt.Ok:=⟨by decide,by decide,by decide,by decide,by decide,by decide,by decide,⟨by decide,by decide,by decide,by decide,by decide⟩,⟨by decide,by decide,by decide,by decide,by decide⟩⟩
theorem zmC:zb3.Ok:=⟨by decide,fun _=>(by decide:0<4294967296),⟨by decide,by decide,by decide,by decide,by decide,by decide,by decide,by decide⟩⟩
theorem zmD:So.zState.p.Ok:=⟨fun _=>(by decide:0<4294967296),by decide,by decide,by decide,by decide⟩
theorem zmE:So.zUart.Ok:=⟨fun _=>(by decide:0<256),fun _=>(by decide:0<256),by decide,by decide,by decide,by decide,by decide,by decide⟩
theorem zn8:So.zState.d.Ok:=⟨by decide,by decide,by decide,by decide,by decide,by decide,by decide,by decide,by decide⟩
theorem zlm:So.zState.c.Ok:=⟨by decide,by decide,by decide⟩
theorem zn9:So.zState.n.Ok:=⟨zh5,by decide⟩
theorem zo4 (n:Int) (sc:Nat) (hs:sc≤1048576):(st0 ⟨n,sc⟩).Ok :=
 ⟨(by decide:0<18446744073709551616),zmC,(fun p hp=>by cases hp),zlm,zmD,zmE,zn8,⟨zh5,(by omega:sc<4294967296),(by decide:0<4294967296),(fun r hr=>by cases hr)⟩,zn9⟩
theorem zo5 {w w':World} {n sc x:Nat} {G:RamG} {M:RamM} (h1:1≤n) (h2:n≤16384) (hs:sc≤1048576) (h:MachAt w' w.heap.size x ⟨(n:Int),sc⟩ (st0 ⟨(n:Int),sc⟩) nilH nilH [] G M) (hn:(M.n:Int)=(n:Int)):MachOk w' w.heap.size x ⟨(n:Int),sc⟩ (st0 ⟨(n:Int),sc⟩) nilH nilH [] G M :=
 ⟨h,zn7 n sc h1 h2 hs,zo4 n sc hs,by show sc<4294967296;omega,hn⟩
theorem MachAt.norm {w:World} {base x:Nat} {c:So.Config} {s:So.State} {Q I:So.Hdr} {Rs:List (So.Req×So.Hdr)} {G:RamG} {M:RamM} (h:MachAt w base x c (So.norm s) Q I Rs G M) (hB:So.stateB c s=true):MachAt w base x c s Q I Rs G M :=
 ⟨by
  have e:zbh c (So.norm s) Q I G.p=zbh c s Q I G.p:=by unfold zbh;rw [So.norm_cells hB]
  rw [←e]
  exact h.blk,⟨h.lists.q,h.lists.qn,h.lists.i,h.lists.ins,h.lists.rn,h.lists.seg⟩,h.ram⟩
theorem MachAt.harm2 {w w1 : World} {base x : Nat} {c : So.Config} {s : So.State} {Q I : So.Hdr} {Rs : List (So.Req × So.Hdr)} {G H : RamG} {M N : RamM} (h : MachAt w base x c s Q I Rs G M) (hH : RamAt w H N) (k : Kept (fun i => i = G.p ∨ i = H.p) w w1) {z : Nat} {d : Bool} (hR : RamAt w1 { G with z := z } { M with done := d }) : MachAt w1 base x c s Q I Rs { G with z := z } { M with done := d } :=
  ⟨h.blk.kept k (fun e => e.elim (h.blk.apart h.ram.ram (by decide)) (h.blk.apart hH.ram (by decide))),
   ⟨h.lists.q.kept k (fun b hb e => e.elim (fun e => h.lists.q.far h.ram.ram (by decide) (e ▸ hb)) (fun e => h.lists.q.far hH.ram (by decide) (e ▸ hb))), h.lists.qn,
    h.lists.i.kept k (fun b hb e=>e.elim (fun e=>h.lists.i.far h.ram.ram (by decide) (e ▸ hb)) (fun e=>h.lists.i.far hH.ram (by decide) (e ▸ hb))),h.lists.ins,h.lists.rn,
    fun y hy=>(h.lists.seg y hy).kept k (fun b hb e=>e.elim (fun e=>(h.lists.seg y hy).1.far h.ram.ram (by decide) (e ▸ hb)) (fun e=>(h.lists.seg y hy).1.far hH.ram (by decide) (e ▸ hb)))⟩,hR⟩
theorem zhh (M:RamM) (hn:M.n=1) (hp:∀ i,M.pg i=none):zN M=[0,0,0,0]:=by
 have e:M.at_ 0=noughts:=by unfold RamM.at_;rw [hp];rfl
 unfold zN zaL countB
 rw [hn]
 simp only [List.range_succ,List.range_zero,List.nil_append,List.flatMap_cons,List.flatMap_nil,List.filter_cons,List.filter_nil,zbQ,e,Fl.noughts_hold]
 decide
theorem str4:strOf [0,0,0,0]={ data:=#[0,0,0,0] }:=by decide
theorem zhi {w:World} {A:Option Addr} {n c:Nat} {l:List Nat} {x:ByteArray} (h:Bs w A n c l) (e:strOf l=x):(convert 65 9 (.slice A n c)).run Tryz.prog w=.ok (.string x) w:=by
 rw [←e]
 exact zck (P:=Tryz.prog) 65 5 9 Tryz.underlying65 Tryz.underlying5 Tryz.underlying9 h
theorem zdG (w:World) (hT:TabW w) (hR:RegW w):Calls Tryz.prog 8 #[] w (RetP w (.bool true)):=by
 have HT:=qH hT
 have HR:=qH hR
 clear hT hR
 have HN:=qH (fun W=>zkL 1 0 (by decide) (by decide) (by decide) W)
 go_enter Tryz.func8,Tryz.ntmps8
 go_upto_region 4 with (first
  | (go_at_call 20;refine (HN.out w).mono ?_;rintro e w1 ⟨x,G,M,rfl,hm1,hn1,hp1,hb1,hg1⟩)
  | fail)
 have ho1:=zo5 (by decide) (by decide) (by decide) hm1 hn1
 have Hn1:=qH hn1
 have Hp1:=qH hp1
 have hE:=zeq w.heap.size x ⟨((1:Nat):Int),0⟩ (st0 ⟨((1:Nat):Int),0⟩) nilH nilH [] G M w1 ho1 (HT.out.keep hb1)
 clear hn1 hp1
 generalize hc:(⟨((1:Nat):Int),0⟩:So.Config)=c at hm1 ho1 hE
 have HC:=qH hc
 clear hc
 generalize hs:st0 c=s at hm1 ho1 hE
 have HS:=qH hs
 clear hs
 go_upto_region 6 with (first
  | (go_at_call 19;refine hE.mono ?_;rintro e w2 ⟨A,n,k,z,d,rfl,hown2,hm2,hk2⟩;have hb2:=zQ hb1 hk2 (fun i hi e=>by have e:i=G.p:=e;omega))
  | (go_at_call 18;refine (zcb A n k (zey c s M) (c,So.norm s,Fl.told M) _ hown2.bs (HT.out.keep hb2) (HR.out.keep hb2) (zlj ho1.may ho1.fit (by have:=ho1.pages;omega) hm1.ram.max (RamM.at_len hm1.ram) (RamM.pages_small hm1.ram))).mono ?_;rintro e w3 ⟨y,Q3,I3,Rs3,H,N,rfl,hm3,hpg3,hd3,hnew3,hy3,hb3⟩)
  | fail)
 have hb3':=zb hb2 hb3
 have hn3:N.n=M.n:=by
  have h1:=hm3.pages
  have h2:=ho1.pages
  have h1:(N.n:Int)=c.pages:=h1
  omega
 have heq:∀ i,i<M.n→M.at_ i=N.at_ i:=fun i hi=>by
  have h1:=Fl.told_at M (RamM.at_len hm1.ram) i hi
  rw [←h1]
  show (Fl.told M i).getD noughts=(N.pg i).getD noughts
  rw [hpg3]
 have hq0:s.q=[]:=by rw [←HS.out];rfl
 have hi0:s.b.ins=[]:=by rw [←HS.out];rfl
 have hmx:=hm2.at_.keep hb3
 have hmy:=MachAt.norm hm3.at_ ho1.may
 have hne:({ G with z:=z } : RamG).p≠H.p:=fun e=>by
  have h1:=hnew3.p
  have h2:=hm2.at_.ram.ram.lt
  have e:G.p=H.p:=e
  have h2:G.p<w2.heap.size:=h2
  omega
 have hSM:=zjo w.heap.size w2.heap.size x y c s nilH nilH Q3 I3 [] Rs3 { G with z:=z } H { M with done:=d } N w3 hmx hmy hne hn3 heq hq0 hi0
 have HSM:=qH hSM
 have hpl:=zhh M (by have:=Hn1.out;omega) Hp1.out
 have HPL:=qH hpl
 clear hE hn3 heq hq0 hi0 hne hpg3 hd3 hSM hpl hm2 hown2
 go_wp2_with (first
  | (go_at_call 39;refine HSM.out.mono ?_;rintro e w4 ⟨z4,d4,z5,d5,rfl,hg4,hh4,hk4⟩;have hb4:=zQ hb3' hk4 (fun i hi e=>e.elim (fun e=>by have e:i=G.p:=e;omega) (fun e=>by have e:i=H.p:=e;have:=hnew3.p;have:=hb2.size;omega));have hm4:=hmx.harm2 hmy.ram hk4 hg4)
  | (go_at_call 34;refine (zmZ hm4).mono ?_;rintro e w5 ⟨rfl,hb5⟩)
  | (go_at_call 30;refine (zcG { G with z:=z4 } { M with done:=d4 } _ (hg4.keep hb5)).mono ?_;rintro e w6 ⟨A6,n6,c6,z6,d6,rfl,hown6,hR6,hk6⟩;have hcv:=zhi hown6.bs ((congrArg strOf (show zN { M with done:=d4 }=[0,0,0,0] from HPL.out)).trans str4);have hb6:=zQ (zb hb4 hb5) hk6 (fun i hi e=>by have e:i=G.p:=e;omega))
  | fail)
 go_ret
 exact ⟨rfl,hb6⟩
structure Good (S:World→Prop) where
 val:World
 ok:S val
section
variable {P:Program} {S:World→Prop}
theorem zbr {id : Nat} {Q : Exit → Act → World → Prop} {a : Act} {w : World} {l : List Oper} (S : World → Prop) (hm : P.follows .mixedOrders = true) (hB : Region.lexB .any l.toArray = true) (hS : S w.drew)
    (h:wpQuiet P l.toArray (fun w'=>∃ x:Good S,w'=x.val) (fun a'=>∀ w',(∃ x:Good S,w'=x.val)→Q .normal a' w') l a):(Code.region id l.toArray true).wp P Q a w :=
  wp_region_quiet (C:=fun w'=>∃ x:Good S,w'=x.val) hm hB ⟨⟨w.drew,hS⟩,rfl⟩ (by simpa using h)
theorem z8 {f:FuncId} {args:Array Value} {x:Good S} {v:Value} (hk:∀ w w',S w→Below w.heap.size w w'→S w') (h:Calls P f args x.val fun e w'=>e=.returned v∧Below x.val.heap.size x.val w'):Calls P f args x.val fun e w''=>e=.returned v∧∃ y:Good S,w''=y.val :=
 h.mono fun _ w' ⟨he,hb⟩=>⟨he,⟨w',hk _ _ x.ok hb⟩,rfl⟩
end
theorem zoa (at_:Int) (L:Nat) (hL:0<L):∃ f:Nat,f<L∧(IntKind.u64.wrap at_).tmod (L:Int)=(f:Int):=by
 have h:=wrap_u64_nonneg at_
 refine ⟨((IntKind.u64.wrap at_).tmod (L:Int)).toNat,?_,?_⟩<;>rw [Int.tmod_eq_emod_of_nonneg h]
 ·
  have:=Int.emod_lt_of_pos (IntKind.u64.wrap at_) (show (0:Int)<(L:Int) by omega)
  have:=Int.emod_nonneg (IntKind.u64.wrap at_) (show (L:Int)≠0 by omega)
  omega
 ·
  have:=Int.emod_nonneg (IntKind.u64.wrap at_) (show (L:Int)≠0 by omega)
  omega
theorem zln (A:Option Addr) (n c:Nat) (at_:Int) (y:Nat) (w:World) (hT:TabW w) (hR:RegW w) (hn:40000<n):Calls Tryz.prog 4 #[.slice A n c,.int .i64 at_,.int .u8 (y:Int)] w (RetP w (.bool true)):=by
 have hn1:(40000:Int)<(n:Int):=by omega
 have HS:=qH (zdG w hT hR)
 clear hT hR hn
 go_enter Tryz.func4,Tryz.ntmps4
 go_wp2_with (first | (go_at_call 8;refine HS.out.mono ?_;rintro e w1 ⟨rfl,hb1⟩) | fail)
 go_ret
 exact ⟨rfl,hb1⟩
theorem zmF (A:Option Addr) (n c:Nat) (l:List Nat) (at_:Int) (y k:Nat) (w:World) (hb:Bs w A n c l) (hT:TabW w) (hR:RegW w) (hn:n≤40000) (h:decM l=.error k):Calls Tryz.prog 4 #[.slice A n c,.int .i64 at_,.int .u8 (y:Int)] w (RetP w (.bool true)):=by
 have hn1:¬ (40000:Int)<(n:Int):=by omega
 have HD:=qH (zeX A n c l k w hb hT hR h)
 have HS:=qH (fun W (hk:Below w.heap.size w W)=>zdG W (hT.keep hk) (hR.keep hk))
 clear hT hR hn h hb
 go_enter Tryz.func4,Tryz.ntmps4
 go_wp2_with (first
  | (go_at_call 18;refine HD.out.mono ?_;rintro e w1 ⟨rfl,hb1⟩)
  | (go_at_call 8;refine (HS.out _ hb1).mono ?_;rintro e w2 ⟨rfl,hb2⟩;have hbe:=zb hb1 hb2)
  | fail)
 go_ret
 exact ⟨rfl,hbe⟩
theorem zmG (n0 sc:Nat):zjp ⟨(n0:Int),sc⟩ ⟨1,77⟩=(((n0:Int)==1)&&((sc:Int)==77)):=by
 show (((n0:Int)==1)&&(((sc:Int)==77)&&true))=_
 rw [Bool.and_true]
theorem zlo (A:Option Addr) (n c:Nat) (l:List Nat) (at_:Int) (y:Nat) (w:World) (n0 sc:Nat) (st:So.State) (pg:Nat→Option (List Nat)) (hb:Bs w A n c l) (hy:y<256) (hT:TabW w) (hE:ErrW w) (hR:RegW w) (hn:n≤40000) (h:decM l=.ok (⟨(n0:Int),sc⟩,st,pg)):Calls Tryz.prog 4 #[.slice A n c,.int .i64 at_,.int .u8 (y:Int)] w (RetP w (.bool true)):=by
 obtain ⟨p,hin⟩:=zli h
 have HIN:=qH hin
 have HSM:=qH hb.small
 have hn1:¬ (40000:Int)<(n:Int):=by omega
 have HT:=qH hT
 have HE:=qH hE
 have HR:=qH hR
 have HB:=qH hb
 have HOK:=qH h
 have hDC:=qH (zcb A n c l (⟨(n0:Int),sc⟩,st,pg) w hb hT hR h)
 have HWH:=qH (hin.whole hb.small)
 clear hin hT hE hR hb h
 go_enter Tryz.func4,Tryz.ntmps4
 go_upto_region 6 with (first
  | (go_at_call 18;refine hDC.out.mono ?_;rintro e w1 ⟨x,Q,I,Rs,G,M,rfl,hm1,hpg1,hd1,hnew1,hx1,hb1⟩)
  | fail)
 have hm1:MachOk w1 w.heap.size x ⟨(n0:Int),sc⟩ st Q I Rs G M:=hm1
 have hmn:M.n=n0:=by
  have h1:(M.n:Int)=(n0:Int):=hm1.pages
  omega
 have hfile:zey ⟨(n0:Int),sc⟩ st M=l:=(zer HIN.out HSM.out (by rw [hmn];rfl) hpg1).1
 have hsecs:za4 ⟨(n0:Int),sc⟩ st M=Tl.decL l:=(zer HIN.out HSM.out (by rw [hmn];rfl) hpg1).2
 have h16:16≤n:=by
  have h1:=Tl.file_length 3 (za4 ⟨(n0:Int),sc⟩ st M)
  have h2:(Tl.file 3 (za4 ⟨(n0:Int),sc⟩ st M)).length=n:=by
   show (zey ⟨(n0:Int),sc⟩ st M).length=n
   rw [hfile];exact HB.out.len
  have:=zgv (za4 ⟨(n0:Int),sc⟩ st M)
  omega
 have hE1:=qH (zeq w.heap.size x ⟨(n0:Int),sc⟩ st Q I Rs G M w1 hm1 (HT.out.keep hb1))
 have HFI:=qH hfile
 have HSE:=qH hsecs
 clear hfile hsecs hmn
 go_upto_region 7 with (first
  | (go_at_call 19;refine hE1.out.mono ?_;rintro e w2 ⟨A9,n9,k9,z,d,rfl,hown2,hm2,hk2⟩)
  | fail)
 rw [HFI.out] at hown2
 obtain rfl:n9=n:=hown2.bs.len.symm.trans HB.out.len
 have hb2:=zQ hb1 hk2 (fun i hi e=>by have e:i=G.p:=e;have:=hnew1.p;omega)
 clear hE1 hk2
 go_upto_region 8 with (first
  | (go_at_call 20;refine (zkL 1 77 (by decide) (by decide) (by decide) _).mono ?_;rintro e w3 ⟨x3,G3,M3,rfl,hm3,hn3,hp3,hb3,hg3⟩)
  | fail)
 have hbw3:=zb hb2 hb3
 have e1:=zck (P:=Tryz.prog) 65 5 9 Tryz.underlying65 Tryz.underlying5 Tryz.underlying9 (hown2.bs.keep hb3)
 have e2:=zck (P:=Tryz.prog) 65 5 9 Tryz.underlying65 Tryz.underlying5 Tryz.underlying9 (HB.out.keep hbw3)
 have hmx:=qH (hm2.at_.keep hb3)
 have hmo:=qH hm3
 have hsh:=qH (zeW HWH.out.2.1)
 clear hm3 hn3 hp3 hg3 hown2
 go_upto_region 10 with (first
  | (go_at_call 22;refine (zaU hmx.out).mono ?_;rintro e w4 ⟨rfl,hb4⟩)
  | (go_at_call 23;refine (zhS (hmx.out.keep hb4) hsh.out).mono ?_;rintro e w5 ⟨Q5,I5,Rs5,rfl,hl5,hb5⟩;have hb45:=zb hb4 hb5)
  | (go_at_call 21;refine (zmY ⟨(n0:Int),sc⟩ st Q5 I5 Rs5 w4.heap.size _ (HR.out.keep (zb hbw3 hb45)) hl5 HWH.out.2.1.ok HWH.out.2.1.cok HWH.out.2.1.q HWH.out.2.1.ins HWH.out.2.1.req).mono ?_;rintro e w6 ⟨rfl,hb6⟩;rw [HWH.out.1,show ckV true=.nilIface from rfl];have hbw6:=zb (zb hbw3 hb45) hb6;have hmx6:=qH ((hmx.out.keep hb45).keep hb6);have hmo6:=qH ((hmo.out.keep hb45).keep hb6))
  | fail)
 clear e1 e2
 go_upto_region 12 with (first
  | (go_at_call_of 24 (Value.pointer (some ⟨x3,0,none⟩));refine (zjq A n9 c l (⟨(n0:Int),sc⟩,st,pg) _ x3 _ _ _ _ _ G3 M3 w6 hmo6.out (HB.out.keep hbw6) (HT.out.keep hbw6) (HR.out.keep hbw6) HOK.out).mono ?_;rintro e w7 ⟨⟨v7,rfl⟩,hb7⟩;have hbw7:=zb hbw6 hb7)
  | (go_at_call 24;refine (zg2 _ _).mono ?_;rintro e w8 ⟨rfl,rfl⟩)
  | fail)
 generalize hV:cfgV (zjp ⟨(n0:Int),sc⟩ ⟨1,77⟩)=V
 have HV:=qH hV
 clear hV
 go_cut [100] (fun v wx=>v=.bool false∧Below w.heap.size w wx)
 case first =>
  have hmx7:=qH (hmx6.out.keep hb7)
  have hmo7:=qH (hmo6.out.keep hb7)
  have hcx:∀ z:Good (fun W=>Below w7.heap.size w7 W),Calls Tryz.prog 22 #[.pointer (some ⟨x,0,none⟩)] z.val (RetP z.val (.agg #[.int .i64 (n0:Int),.int .u32 (sc:Int)])):=fun z=>zaU (hmx7.out.keep z.ok)
  have hco:∀ z:Good (fun W=>Below w7.heap.size w7 W),Calls Tryz.prog 22 #[.pointer (some ⟨x3,0,none⟩)] z.val (RetP z.val (.agg #[.int .i64 1,.int .u32 77])):=fun z=>zaU (hmo7.out.keep z.ok)
  have hcn:∀ (z:Good (fun W=>Below w7.heap.size w7 W)) (v:Value) (k:Int),ErrV v k→Calls Tryz.prog 17 #[v] z.val fun e w'=>e=.returned (.int .i64 k)∧Below z.val.heap.size z.val w':=fun z v k hv=>zjB v k _ hv ((HE.out.keep hbw7).keep z.ok)
  have HCX:=qH hcx
  have HCO:=qH hco
  have HCN:=qH hcn
  clear hcx hco hcn
  have hSk:∀ a b:World,Below w7.heap.size w7 a→Below a.heap.size a b→Below w7.heap.size w7 b:=fun a b h hb=>zb h hb
  have hS0:Below w7.heap.size w7 w7.drew:=zr (Below.refl _ _)
  have hne:Nonempty (Good (fun W=>Below w7.heap.size w7 W)):=⟨⟨_,hS0⟩⟩
  have hend:∀ z:Good (fun W=>Below w7.heap.size w7 W),Below w.heap.size w z.val:=fun z=>zb hbw7 z.ok
  clear hbw7 hb7
  have hV:=HV.out
  rw [zmG] at hV
  clear HV
  by_cases h1:(n0:Int)=1
  ·
   by_cases h2:(sc:Int)=77
   ·
    have q1:((n0:Int)==1)=true:=by simp [h1]
    have q2:((sc:Int)==77)=true:=by simp [h2]
    rw [q1,q2] at hV
    obtain rfl:Value.nilIface=V:=hV
    clear h1 h2
    refine zbr (fun W=>Below w7.heap.size w7 W) (by kernel_rfl) (by kernel_rfl) hS0 ?_
    repeat (go_big_quiet_step (first
     | (go_at_call_of 22 (Value.pointer (some ⟨x,0,none⟩));exact z8 hSk (HCX.out _))
     | (go_at_call_of 22 (Value.pointer (some ⟨x3,0,none⟩));exact z8 hSk (HCO.out _))
     | (go_at_call_of 17 (Value.int .i64 32);exact z8 hSk (HCN.out _ _ 32 (ErrV.num 32)))
     | (go_at_call 17;exact z8 hSk (HCN.out _ _ 1 (ErrV.num 1)))))
    refine wpQuiet_nil ?_
    intro _ hw'
    obtain ⟨z,rfl⟩:=hw'
    go_wp2
    go_meet
    exact ⟨rfl,hend z⟩
   ·
    have q1:((n0:Int)==1)=true:=by simp [h1]
    have q2:((sc:Int)==77)=false:=beq_eq_false_iff_ne.2 h2
    rw [q1,q2] at hV
    obtain rfl:Value.iface 149 (.int .i64 32)=V:=hV
    clear h1 h2
    refine zbr (fun W=>Below w7.heap.size w7 W) (by kernel_rfl) (by kernel_rfl) hS0 ?_
    repeat (go_big_quiet_step (first
     | (go_at_call_of 22 (Value.pointer (some ⟨x,0,none⟩));exact z8 hSk (HCX.out _))
     | (go_at_call_of 22 (Value.pointer (some ⟨x3,0,none⟩));exact z8 hSk (HCO.out _))
     | (go_at_call_of 17 (Value.int .i64 32);exact z8 hSk (HCN.out _ _ 32 (ErrV.num 32)))
     | (go_at_call 17;exact z8 hSk (HCN.out _ _ 1 (ErrV.num 1)))))
    refine wpQuiet_nil ?_
    intro _ hw'
    obtain ⟨z,rfl⟩:=hw'
    go_wp2
    go_meet
    exact ⟨rfl,hend z⟩
  ·
   have q1:((n0:Int)==1)=false:=beq_eq_false_iff_ne.2 h1
   rw [q1,Bool.false_and] at hV
   obtain rfl:Value.iface 149 (.int .i64 32)=V:=hV
   clear h1
   refine zbr (fun W=>Below w7.heap.size w7 W) (by kernel_rfl) (by kernel_rfl) hS0 ?_
   repeat (go_big_quiet_step (first
    | (go_at_call_of 22 (Value.pointer (some ⟨x,0,none⟩));exact z8 hSk (HCX.out _))
    | (go_at_call_of 22 (Value.pointer (some ⟨x3,0,none⟩));exact z8 hSk (HCO.out _))
    | (go_at_call_of 17 (Value.int .i64 32);exact z8 hSk (HCN.out _ _ 32 (ErrV.num 32)))
    | (go_at_call 17;exact z8 hSk (HCN.out _ _ 1 (ErrV.num 1)))))
   refine wpQuiet_nil ?_
   intro _ hw'
   obtain ⟨z,rfl⟩:=hw'
   go_wp2
   go_meet
   exact ⟨rfl,hend z⟩
 obtain ⟨rfl,hbw8⟩:=hcut
 have hb9:=(HB.out.keep hbw8)
 have hnw:IntKind.u64.wrap (n9:Int)=(n9:Int):=by rw [IntKind.wrap_u64];omega
 have hn0':((n9:Int)==0)=false:=by rw [beq_eq_false_iff_ne];omega
 obtain ⟨f,hf8,hfe⟩:=zoa at_ n9 (by omega)
 have hfw:wrap64 (f:Int)=(f:Int):=by unfold wrap64;omega
 clear hmx6 hmo6 hbw7 hb7 hbw6 hb6 hb45 hl5 hb5 hb4 hbw3 hb3 hb2 hm2 hmx hmo
 go_upto_region 17 with (first
  | (at_builtin;refine zaO rfl (.tmp 101) (.tmp 102) 65 5 rfl Tryz.underlying65 Tryz.info5 w.heap.size none 0 0 [] A n9 c l n9 (by omega) rfl rfl (Own.nil _ _ _) hb9 hbw8.size (by omega) ?_;intro A4 c4 w9 hown9 hg9 hat9;have hbw9:=zaJ hbw8 hg9 (fun q hq=>by cases hq))
  | fail)
 have hat9':=hat9
 simp only [List.nil_append] at hown9
 obtain ⟨g,rfl,hg,hgs,hgf⟩:=hown9.form (by omega)
 obtain ⟨hcq,hfq,hgw,hgr⟩:=hown9.cell f (by omega)
 have hv:=zcW HSM.out f
 have hfl:f<l.length:=by rw [HB.out.len];exact hf8
 obtain ⟨v,hvv⟩:=qX (l.getD f 0)
 rw [hvv] at hcq hv
 have HVV:=qH hvv
 clear hvv
 have hset:=(AlikeB.refl f l HSM.out).set 0 (v^^^y) (by decide) (Nat.xor_lt_two_pow (n:=8) hv hy)
 have hq0:(0:Int)≤(f:Int):=by omega
 have hq1:(f:Int)<(n9:Int):=by omega
 have HXR:=qH (u8_xor_nat v y hv hy)
 have HSET:=qH hset
 have hown10:=hown9.set f (v^^^y) (Nat.xor_lt_two_pow (n:=8) hv hy)
 have hgk:Kept (fun k=>k=g) w9 (w9.setCell ⟨g,f,none⟩ (.int .u8 ((v^^^y:Nat):Int))):=(Kept.refl (fun k=>k=g) w9).set (p:=⟨g,f,none⟩) (fun _=>rfl) _
 have hbw10:=zQ hbw9 hgk (fun i hi e=>by have e:i=g:=e;omega)
 clear hset hgf hat9 hat9'
 go_upto_region 18 with (fail)
 rw [HXR.out]
 generalize w9.setCell ⟨g,f,none⟩ (.int .u8 ((v^^^y:Nat):Int))=w10 at hown10 hgk hbw10 ⊢
 have hbs10:=hown10.bs
 clear hcq hfq hgw hgr hgk hown9 hown10
 rcases Nat.decEq y 0 with hy0 | rfl
 ·
  have hyb:((y:Int)==0)=false:=by rw [beq_eq_false_iff_ne];omega
  have hne:l.set f (v^^^y)≠l:=fun e=>by
   have h1:(l.set f (v^^^y))[f]?=l[f]?:=by rw [e]
   rw [List.getElem?_set,if_pos rfl,if_pos hfl,List.getElem?_eq_getElem hfl] at h1
   have h2:v=l[f]:=by
    have:=HVV.out
    rw [List.getD_eq_getElem?_getD,List.getElem?_eq_getElem hfl] at this
    exact this.symm
   have h3:v^^^y=v:=by rw [Option.some.inj h1,←h2]
   have h4:v^^^y^^^v=v^^^v:=by rw [h3]
   rw [Nat.xor_self,Nat.xor_comm v y,Nat.xor_assoc,Nat.xor_self,Nat.xor_zero] at h4
   exact hy0 h4
  have hdE:Tl.decE (l.set f (v^^^y))≠0:=by
   have hok:∀ x∈za4 ⟨(n0:Int),sc⟩ st M,Tl.SecOk x:=by
    rw [HSE.out]
    exact (Tl.file_dec l HSM.out HIN.out.e).2.2.1
   have e0:Tl.file 3 (za4 ⟨(n0:Int),sc⟩ st M)=l:=HFI.out
   exact zhf (i:=f) (v:=3) hok (by rw [e0];exact HSET.out) (by rw [e0];exact hne)
  have hD:=qH (zeX _ _ _ _ (Tl.decE (l.set f (v^^^y))) w10 hbs10 (HT.out.keep hbw10) (HR.out.keep hbw10) (zlb hdE))
  clear hne hdE hbs10
  go_wp2_with (first
   | (go_at_call 18;refine hD.out.mono ?_;rintro e w11 ⟨rfl,hb11⟩;have hbw11:=zb hbw10 hb11)
   | (go_at_call 8;refine (zdG _ (HT.out.keep hbw11) (HR.out.keep hbw11)).mono ?_;rintro e w12 ⟨rfl,hb12⟩;have hbw12:=zb hbw11 hb12)
   | fail)
  go_ret
  exact ⟨rfl,hbw12⟩
 ·
  have hyb:(((0:Nat):Int)==0)=true:=rfl
  have he:l.set f (v^^^0)=l:=by
   rw [Nat.xor_zero,←HVV.out,List.getD_eq_getElem?_getD,List.getElem?_eq_getElem hfl]
   show l.set f l[f]=l
   exact List.set_getElem_self hfl
  rw [he] at hbs10
  have hD:=qH (zcb _ _ _ _ _ w10 hbs10 (HT.out.keep hbw10) (HR.out.keep hbw10) HOK.out)
  clear he hbs10
  go_wp2_with (first
   | (go_at_call 18;refine hD.out.mono ?_;rintro e w11 ⟨x11,Q11,I11,Rs11,G11,M11,rfl,_,_,_,_,_,hb11⟩;have hbw11:=zb hbw10 hb11)
   | (go_at_call 8;refine (zdG _ (HT.out.keep hbw11) (HR.out.keep hbw11)).mono ?_;rintro e w12 ⟨rfl,hb12⟩;have hbw12:=zb hbw11 hb12)
   | fail)
  go_ret
  exact ⟨rfl,hbw12⟩
theorem law_saveonly (A:Option Addr) (n c:Nat) (l:List Nat) (at_:Int) (y:Nat) (w:World) (hb:Bs w A n c l) (hy:y<256) (hT:TabW w) (hE:ErrW w) (hR:RegW w):Calls Tryz.prog 4 #[.slice A n c,.int .i64 at_,.int .u8 (y:Int)] w fun e w'=>e=.returned (.bool true)∧Below w.heap.size w w':=by
 by_cases hn:40000<n
 · exact zln A n c at_ y w hT hR hn
 ·
  cases h:decM l with
  | error k=>exact zmF A n c l at_ y k w hb hT hR (by omega) h
  | ok r =>
   obtain ⟨⟨pg,sc⟩,st,q⟩:=r
   obtain ⟨p,hin⟩:=zli h
   obtain ⟨h1,h2⟩:=zm7 (hin.whole hb.small).1
   have h1:1≤pg:=h1
   obtain ⟨n0,rfl⟩:∃ n0:Nat,pg=(n0:Int):=⟨pg.toNat,by omega⟩
   exact zlo A n c l at_ y w n0 sc st q hb hy hT hE hR (by omega) h
end Go.Proofs.YtdffbihilhkkjaaGreatDoor
