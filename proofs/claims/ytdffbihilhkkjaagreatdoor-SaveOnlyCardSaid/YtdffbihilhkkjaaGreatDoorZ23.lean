import Derived.Test.YtdffbihilhkkjaaGreatDoorZ6
import Derived.Test.YtdffbihilhkkjaaGreatDoorZ10
import Derived.Test.YtdffbihilhkkjaaGreatDoorZ21
import Derived.Test.YtdffbihilhkkjaaGreatDoorZ22
import Derived.Laws.BitsAllLaws
namespace Go.Proofs.YtdffbihilhkkjaaGreatDoor
open Go.RowKit
set_option linter.unusedVariables false
set_option linter.unusedSimpArgs false
set_option maxRecDepth 100000
set_option maxHeartbeats 8000000
def RegW (w:World):Prop:=∀ d:Nat,1≤d→d≤6→w.cell? ⟨1,d*3+1,none⟩=some (.int .u32 (So.devSize d:Int))∧w.cell? ⟨1,d*3+2,none⟩=some (.int .i64 (So.devBy d))
theorem RegW.keep {w w1:World} (h:RegW w) (hb:Below w.heap.size w w1):RegW w1:=fun d h1 h2=>⟨zm (h d h1 h2).1 hb,zm (h d h1 h2).2 hb⟩
theorem RegW.lt {w:World} (h:RegW w):1<w.heap.size:=World.block_lt_of_cell? w _ (h 1 (by decide) (by decide)).1
theorem RegW.kept {S:Nat→Prop} {w w1:World} (h:RegW w) (k:Kept S w w1) (hn:¬ S 1):RegW w1:=fun d h1 h2=>⟨k.cell (h d h1 h2).1 hn,k.cell (h d h1 h2).2 hn⟩
def nilH:So.Hdr:=⟨none,0,0⟩
theorem zbf:Tryz.zeroCells93=(So.stL So.zState nilH nilH).toArray:=by kernel_rfl
def zCfA:Array Value:=#[Value.int IntKind.i64 0,Value.int IntKind.u32 0]
theorem zkj:zCfA=(So.configL So.zConfig).toArray:=by kernel_rfl
def zc9 (l:List Tl.Sec):Bool:=decide (l.length=13)&&(List.range 13).all fun j=>decide (Tl.tagAt l j=j+1)
def zJ (l:List Tl.Sec):Nat×So.Config×So.State :=
 if zc9 l=true then match So.sections 1 (l.map (·.b)) So.zConfig So.zState with
  | none=>(3,So.zConfig,So.zState)
  | some x=>if So.stateB x.1 x.2=true then (0,x.1,x.2) else (33,So.zConfig,So.zState)
 else (31,So.zConfig,So.zState)
theorem zec (k:Nat) (hk1:1≤k) (hk2:k≤13) (base g pc p:Nat) (i:Tl.In) (hsm:Tl.Small i.b) (c:So.Config) (s:So.State) (Q I:So.Hdr) (Rs:List (So.Req×So.Hdr)) (w0 w:World) (hI:InW w0 w g i) (hC:Blk w pc (So.configL c).toArray 68) (hS:StAt w base p s Q I Rs) (hp:w0.heap.size≤p) (hpc:w0.heap.size≤pc) (h5:k=5→s.q=[]∧Q=nilH) (h11:k=11→s.b.ins=[]∧I=nilH) (hba:base≤w.heap.size):Calls Tryz.prog 41 #[tkV g,.int .u32 (k:Int),.pointer (some ⟨pc,0,none⟩),.pointer (some ⟨p,0,none⟩)] w (SecW w0 w base g pc p k i c s Q I):=by
 have h:k=1∨k=2∨k=3∨k=4∨k=5∨k=6∨k=7∨k=8∨k=9∨k=10∨k=11∨k=12∨k=13:=by omega
 rcases h with rfl | rfl | rfl | rfl | rfl | rfl | rfl | rfl | rfl | rfl | rfl | rfl | rfl
 · exact sec1 base g pc p i hsm c s Q I Rs w0 w hI hC hS hp hpc hba
 · exact sec2 base g pc p i hsm c s Q I Rs w0 w hI hC hS hp hpc hba
 · exact sec3 base g pc p i hsm c s Q I Rs w0 w hI hC hS hp hpc hba
 · exact sec4 base g pc p i hsm c s Q I Rs w0 w hI hC hS hp hpc hba
 · exact sec5 base g pc p i hsm c s Q I Rs w0 w hI hC hS hp hpc (h5 rfl).1 (h5 rfl).2 hba
 · exact sec6 base g pc p i hsm c s Q I Rs w0 w hI hC hS hp hpc hba
 · exact sec7 base g pc p i hsm c s Q I Rs w0 w hI hC hS hp hpc hba
 · exact sec8 base g pc p i hsm c s Q I Rs w0 w hI hC hS hp hpc hba
 · exact sec9 base g pc p i hsm c s Q I Rs w0 w hI hC hS hp hpc hba
 · exact zpq base g pc p i hsm c s Q I Rs w0 w hI hC hS hp hpc hba
 · exact zpp base g pc p i hsm c s Q I Rs w0 w hI hC hS hp hpc (h11 rfl).1 (h11 rfl).2 hba
 · exact zpr base g pc p i hsm c s Q I Rs w0 w hI hC hS hp hpc hba
 · exact zpo base g pc p i hsm c s Q I Rs w0 w hI hC hS hp hpc hba
structure ListsAt (w:World) (base:Nat) (s:So.State) (Q I:So.Hdr) (Rs:List (So.Req×So.Hdr)):Prop where
 q:RowE w base 188 4 Q.A Q.n Q.c (s.q.flatMap So.postL)
 qn:Q.n=s.q.length
 i:RowE w base 287 6 I.A I.n I.c (zbJ Rs)
 ins:Rs.map (·.1)=s.b.ins
 rn:I.n=Rs.length
 seg:∀ r∈Rs,zau w base r
theorem StAt.lists {w:World} {base p:Nat} {s:So.State} {Q I:So.Hdr} {Rs:List (So.Req×So.Hdr)} (h:StAt w base p s Q I Rs):ListsAt w base s Q I Rs:=⟨h.q,h.qn,h.i,h.ins,h.rn,h.seg⟩
theorem ListsAt.nil (w:World) (base:Nat):ListsAt w base So.zState nilH nilH []:=⟨RowE.nil _ _ _ _,rfl,RowE.nil _ _ _ _,rfl,rfl,fun r hr=>by cases hr⟩
theorem ListsAt.keep {w w1:World} {base:Nat} {s:So.State} {Q I:So.Hdr} {Rs:List (So.Req×So.Hdr)} (h:ListsAt w base s Q I Rs) (hb:Below w.heap.size w w1):ListsAt w1 base s Q I Rs :=
 ⟨h.q.keep hb,h.qn,h.i.keep hb,h.ins,h.rn,fun r hr=>(h.seg r hr).kept (S:=fun _=>False) (Kept.of_below hb) (fun _ _ h=>h)⟩
def zff (w:World) (r:Nat×So.Config×So.State) (e:Ending) (w':World):Prop :=
 ∃ Q I Rs V,e=.returned (.tuple #[.agg (So.configL r.2.1).toArray,.agg (So.stL r.2.2 Q I).toArray,V])∧ErrN V r.1∧ListsAt w' w.heap.size r.2.2 Q I Rs∧Below w.heap.size w w'
theorem zw {w:World} {b:Nat} {T:TypeId} {l:List Value} (h:Blk w b l.toArray T):w.rangeAt b 0 l:=fun j v hv=>by
 rw [Nat.zero_add]
 exact h.cell j (by rw [List.getElem?_toArray];exact hv)
theorem zcM {w : World} {rc rs : Nat} {c : So.Config} {s : So.State} {Q I : So.Hdr} {V : Value} {tmps : Array Value} (hc : Blk w rc (So.configL c).toArray 68) (hs : Blk w rs (So.stL s Q I).toArray 93) (h2 : tmps.getD 2 undef = .pointer (some ⟨rc, 0, none⟩)) (h3 : tmps.getD 3 undef = .pointer (some ⟨rs, 0, none⟩)) (h4 : tmps.getD 4 undef = V) :
    (results Tryz.f9 tmps).run Tryz.prog w=.ok (.tuple #[.agg (So.configL c).toArray,.agg (So.stL s Q I).toArray,V]) w:=by
  have e1:=run_loadVar_mid (P:=Tryz.prog) w rc 0 68 (So.configL c) _ (zw hc) Tryz.underlying68 rfl rfl
  have e2:=run_loadVar_mid (P:=Tryz.prog) w rs 0 93 (So.stL s Q I) _ (zw hs) Tryz.underlying93 rfl rfl
  rw [Array.getD_eq_getD_getElem?] at h2 h3 h4
  simp [results,Tryz.results9,h2,h3,h4,asAddr,e1,e2]
theorem zkk {w:World} {rc rs:Nat} {c0:So.Config} {s0:So.State} {Q I:So.Hdr} (hC:Blk w rc (So.configL c0).toArray 68) (hS:Blk w rs (So.stL s0 Q I).toArray 93) (hne:rc≠rs):Blk ((w.setCells rc 0 #[Value.int IntKind.i64 0,Value.int IntKind.u32 0].toList).setCells rs 0 Tryz.zeroCells93.toList) rc (So.configL So.zConfig).toArray 68:=by
 have h1:=hC.setMid #[Value.int IntKind.i64 0,Value.int IntKind.u32 0].toList 0
 rw [zS _ 0 _ rfl] at h1
 exact (h1.kept (Kept.setCells (S:=fun k=>k=rs) rfl _ 0 _ (Kept.refl _ _)) hne)
theorem zkl {w:World} {rc rs:Nat} {c0:So.Config} {s0:So.State} {Q I:So.Hdr} (hC:Blk w rc (So.configL c0).toArray 68) (hS:Blk w rs (So.stL s0 Q I).toArray 93) (hne:rc≠rs):Blk ((w.setCells rc 0 #[Value.int IntKind.i64 0,Value.int IntKind.u32 0].toList).setCells rs 0 Tryz.zeroCells93.toList) rs (So.stL So.zState nilH nilH).toArray 93:=by
 have h1:=(hS.kept (Kept.setCells (S:=fun k=>k=rc) rfl #[Value.int IntKind.i64 0,Value.int IntKind.u32 0].toList 0 w (Kept.refl _ _)) (Ne.symm hne)).setMid Tryz.zeroCells93.toList 0
 have hz:Tryz.zeroCells93.toList.length=160:=by rw [zbf];exact So.stL_len _ _ _
 rw [zS _ 0 _ (by rw [zv,hz])] at h1
 simp only [List.take_zero,List.nil_append] at h1
 rw [zbf] at h1 ⊢
 exact h1
theorem zda {w w2:World} {rc rs:Nat} (hb:Below w.heap.size w w2) (h1:w.heap.size≤rc) (h2:w.heap.size≤rs) (l m:List Value):Below w.heap.size w ((w2.setCells rc 0 l).setCells rs 0 m) :=
 zQ (zQ hb (Kept.setCells (S:=fun k=>k=rc) rfl l 0 _ (Kept.refl _ _)) (fun i hi e=>by have e:i=rc:=e;omega)) (Kept.setCells (S:=fun k=>k=rs) rfl m 0 _ (Kept.refl _ _)) (fun i hi e=>by have e:i=rs:=e;omega)
def ckV (b:Bool):Value:=if b then .nilIface else .iface 149 (.int .i64 1)
def zmW:Prop:=∀ (c:So.Config) (s:So.State) (Q I:So.Hdr) (Rs:List (So.Req×So.Hdr)) (base:Nat) (w:World),RegW w→ListsAt w base s Q I Rs→s.Ok→c.Ok→s.q.length≤8→s.b.ins.length≤8→(∀ r∈s.b.ins,So.ReqT r)→Calls Tryz.prog 21 #[.agg (So.configL c).toArray,.agg (So.stL s Q I).toArray] w fun e w'=>e=.returned (ckV (So.stateB c s))∧Below w.heap.size w w'
theorem znH {l:List Tl.Sec} {j:Nat} (hj:j<13) (h:Tl.tagAt l j≠j+1):zc9 l=false:=by
 unfold zc9
 rw [Bool.and_eq_false_iff]
 right
 rw [List.all_eq_false]
 exact ⟨j,List.mem_range.2 hj,by simpa using h⟩
theorem zhG {l:List Tl.Sec} (hl:l.length=13) (h:∀ j,j<13→Tl.tagAt l j=j+1):zc9 l=true:=by
 unfold zc9
 rw [decide_eq_true hl,Bool.true_and,List.all_eq_true]
 intro j hj
 simpa using h j (List.mem_range.1 hj)
theorem zkm {L:List SecV} {k:Nat} {s:SecV} (h:L[k]?=some s):((secL L).map (·.b)).drop k=s.b::((secL L).map (·.b)).drop (k+1):=by
 have hk:=(List.getElem?_eq_some_iff.1 h).1
 rw [List.drop_eq_getElem_cons (by simp [secL];exact hk)]
 congr 1
 have e:=(List.getElem?_eq_some_iff.1 h).2
 simp only [secL,List.map_map,List.getElem_map,Function.comp_apply,SecV.sec]
 rw [e]
def zgU (rc rs:Nat) (cf:So.Config) (st:So.State) (Q I:So.Hdr) (w:World) (k:Nat):Prop:=match k with
 | 0=>Blk w rc (So.configL So.zConfig).toArray 68∧Blk w rs (So.stL So.zState nilH nilH).toArray 93
 | 1=>Blk w rc (So.configL cf).toArray 68∧Blk w rs (So.stL So.zState nilH nilH).toArray 93
 | 2=>Blk w rc (So.configL cf).toArray 68∧Blk w rs (So.stL st Q I).toArray 93
 | _=>False
section
variable {rc rs:Nat} {cf:So.Config} {st:So.State} {Q I:So.Hdr} {w:World}
theorem znI (hA:Blk w rc (So.configL So.zConfig).toArray 68) (hB:Blk w rs (So.stL So.zState nilH nilH).toArray 93):zgU rc rs cf st Q I w 0:=⟨hA,hB⟩
theorem ziM (h:zgU rc rs cf st Q I w 0):Blk w rc (So.configL So.zConfig).toArray 68∧Blk w rs (So.stL So.zState nilH nilH).toArray 93:=h
theorem ziN (h:zgU rc rs cf st Q I w 1):Blk w rc (So.configL cf).toArray 68∧Blk w rs (So.stL So.zState nilH nilH).toArray 93:=h
theorem ziO (h:zgU rc rs cf st Q I w 2):Blk w rc (So.configL cf).toArray 68∧Blk w rs (So.stL st Q I).toArray 93:=h
theorem znJ (hA:Blk w rc (So.configL So.zConfig).toArray 68) (hB:Blk w rs (So.stL So.zState nilH nilH).toArray 93) (hne:rc≠rs):zgU rc rs cf st Q I (w.setCells rc 0 (So.configL cf)) 1:=by
 refine ⟨?_,hB.kept (Kept.setCells (S:=fun k=>k=rc) rfl _ 0 w (Kept.refl _ _)) (Ne.symm hne)⟩
 have h1:=hA.setMid (So.configL cf) 0
 rw [zS _ 0 _ (by rfl)] at h1
 exact h1
theorem znK (hA:Blk w rc (So.configL cf).toArray 68) (hB:Blk w rs (So.stL So.zState nilH nilH).toArray 93) (hne:rc≠rs):zgU rc rs cf st Q I (w.setCells rs 0 (So.stL st Q I)) 2:=by
 refine ⟨hA.kept (Kept.setCells (S:=fun k=>k=rs) rfl _ 0 w (Kept.refl _ _)) hne,?_⟩
 have h1:=hB.setMid (So.stL st Q I) 0
 rw [zS _ 0 _ (by rw [zv,So.stL_len])] at h1
 exact h1
end
theorem ListsAt.kept {w w1:World} {base rc rs:Nat} {s:So.State} {Q I:So.Hdr} {Rs:List (So.Req×So.Hdr)} (h:ListsAt w base s Q I Rs) (k:Kept (fun k=>k=rc∨k=rs) w w1) {C S:Array Value} (hC:Blk w rc C 68) (hS:Blk w rs S 93):ListsAt w1 base s Q I Rs :=
 have far:∀ {e sz A n c xs},RowE w base e sz A n c xs→e≠68→e≠93→∀ b,A.map (·.block)=some b→¬ (b=rc∨b=rs):=fun r h1 h2 b hb e=>e.elim (fun e=>r.far hC (fun e=>h1 e.symm) (e ▸ hb)) (fun e=>r.far hS (fun e=>h2 e.symm) (e ▸ hb))
 ⟨h.q.kept k (far h.q (by decide) (by decide)),h.qn,h.i.kept k (far h.i (by decide) (by decide)),h.ins,h.rn,fun r hr=>(h.seg r hr).kept k (far (h.seg r hr).1 (by decide) (by decide))⟩
theorem ziP (c:So.Config):∀ v∈So.configL c,v.oneCell'=true:=by
 intro v hv
 simp only [So.configL,List.mem_cons,List.not_mem_nil,or_false] at hv
 rcases hv with rfl | rfl<;>rfl
theorem zkn (s:So.State) (Q I:So.Hdr):∀ v∈So.stL s Q I,v.oneCell'=true:=by
 have h:(So.stL s Q I).all (·.oneCell')=true:=by kernel_rfl
 exact fun v hv=>List.all_eq_true.1 h v hv
theorem zko {V:Value} (h:ErrN V 0):V=.nilIface:=by
 cases h with
 | none=>rfl
 | num x h=>exact absurd rfl h
theorem zl4 {V:Value} {x:Nat} (h:ErrN V x) (hx:x≠0):V=.iface 149 (.int .i64 (x:Int)):=by
 cases h with
 | none=>exact absurd rfl hx
 | num x h=>rfl
theorem zps {k:Nat} {i:Tl.In} {c:So.Config} {s:So.State} (h1:1≤k) (h2:k≤13) (h:k≠5):(So.section_ k i c s).2.2.q=s.q:=by
 have hk:k=1∨k=2∨k=3∨k=4∨k=6∨k=7∨k=8∨k=9∨k=10∨k=11∨k=12∨k=13:=by omega
 rcases hk with rfl | rfl | rfl | rfl | rfl | rfl | rfl | rfl | rfl | rfl | rfl | rfl<;>rfl
theorem znL {k:Nat} {i:Tl.In} {c:So.Config} {s:So.State} (h1:1≤k) (h2:k≤13) (h:k≠11):(So.section_ k i c s).2.2.b.ins=s.b.ins:=by
 have hk:k=1∨k=2∨k=3∨k=4∨k=5∨k=6∨k=7∨k=8∨k=9∨k=10∨k=12∨k=13:=by omega
 rcases hk with rfl | rfl | rfl | rfl | rfl | rfl | rfl | rfl | rfl | rfl | rfl | rfl<;>rfl
theorem zl5 {k t:Nat} {b:List Nat} {l:List (List Nat)} {c:So.Config} {s:So.State} {tot:Option (So.Config×So.State)} (ht:t=k+1) (hd:Tl.done (So.section_ t ⟨b,0⟩ c s).1=0) (h:So.sections (k+1) (b::l) c s=tot):So.sections (k+1+1) l (So.section_ t ⟨b,0⟩ c s).2.1 (So.section_ t ⟨b,0⟩ c s).2.2=tot:=by
 subst ht
 unfold So.sections at h
 rw [if_pos hd] at h
 exact h
theorem zl6 {k t:Nat} {b:List Nat} {l:List (List Nat)} {c:So.Config} {s:So.State} {tot:Option (So.Config×So.State)} (ht:t=k+1) (hd:Tl.done (So.section_ t ⟨b,0⟩ c s).1≠0) (h:So.sections (k+1) (b::l) c s=tot):tot=none:=by
 subst ht
 unfold So.sections at h
 rw [if_neg hd] at h
 exact h.symm
theorem zkp {w:World} {g p pc:Nat} (h1:g<w.heap.size) (h2:p<w.heap.size) (h3:pc<w.heap.size):¬ inPC g p pc w.heap.size:=fun e=>by
 rcases e with e | e | e<;>omega
theorem zl7 (HCK:Hid zmW) (A:Option Addr) (n c:Nat) (hn:n=13) (L:List SecV) (w:World) (hRW:RegW w) (hSec:Secs w A n c L):Calls Tryz.prog 9 #[.slice A n c] w (zff w (zJ (secL L))):=by
 have HRW:=qH hRW
 clear hRW
 have hcap:=hSec.cap
 have hlen:=hSec.len
 have hnb:((n:Int) != 13)=false:=by simp;omega
 have hnb2:(n:Int)≤13:=by omega
 have hnb3:(13:Int)≤(n:Int):=by omega
 have HF:Hid (∀ e w' x,zJ (secL L)=x→(∃ Q I Rs V,e=.returned (.tuple #[.agg (So.configL x.2.1).toArray,.agg (So.stL x.2.2 Q I).toArray,V])∧ErrN V x.1∧ListsAt w' w.heap.size x.2.2 Q I Rs∧Below w.heap.size w w')→zff w (zJ (secL L)) e w'):=qH (fun e w' x hx h=>by rw [hx];exact h)
 have HL:=qH hlen
 have Hn:=qH hn
 clear hlen hn
 go_enter Tryz.func9,Tryz.ntmps9
 go_upto_region 1 with (fail)
 obtain ⟨W1,hW1⟩:=qX (w.alloc (.cells zCfA 68))
 have hC:=Blk.new w zCfA 68
 have hb1:=za (Below.refl w.heap.size w) (.cells zCfA 68)
 have hs1:w.heap.size+1=W1.heap.size:=by rw [←hW1];simp
 rw [hW1] at hC hb1
 have hW1':w.alloc (.cells #[Value.int IntKind.i64 0,Value.int IntKind.u32 0] 68)=W1:=hW1
 rw [hW1']
 clear hW1 hW1'
 obtain ⟨W2,hW2⟩:=qX (W1.alloc (.cells Tryz.zeroCells93 93))
 have hS:=Blk.new W1 Tryz.zeroCells93 93
 have hC2:=hC.alloc (.cells Tryz.zeroCells93 93)
 have hb2:=za hb1 (.cells Tryz.zeroCells93 93)
 rw [hW2] at hS hC2 hb2 ⊢
 clear hW2 hC hb1
 rw [←hs1] at hS
 clear hs1
 rw [zkj] at hC2
 rw [zbf] at hS
 have hrc:w.heap.size≤w.heap.size:=Nat.le_refl _
 have hrs:w.heap.size≤w.heap.size+1:=by omega
 have hT1:=hC2.there 0 2 (by decide)
 have hT2:=hS.there 0 160 (by rw [zv];decide)
 obtain ⟨rc,hrce⟩:=qX w.heap.size
 rw [hrce] at hC2 hS hrc hrs hT1 hT2 ⊢
 have Hrc:=qH hrce
 have hne:rc≠rc+1:=by omega
 clear hrce
 generalize hrse:rc+1=rs at hS hrs hT2 hne ⊢
 clear hrse
 go_wp2_with fail
 have HrcB:=qH hb2
 go_loopw [5,6,20] (fun _ _ i wr=>∃ k:Nat,k≤n∧i=.int .i64 k∧(∀ j,j<k→Tl.tagAt (secL L) j=j+1)∧Below w.heap.size w wr∧Blk wr rc (So.configL So.zConfig).toArray 68∧Blk wr rs (So.stL So.zState nilH nilH).toArray 93) (fun _ _ i _=>n-(intOf i).toNat)
 case atStart=>exact ⟨0,Nat.zero_le _,rfl,fun j hj=>absurd hj (by omega),hb2,hC2,hS⟩
 case round =>
  obtain ⟨k,hk,rfl,htg,hbel,hC3,hS3⟩:=hrel
  have HT:=qH htg
  clear htg
  by_cases hlt:k<n
  ·
   obtain ⟨s,b,off,hLk,rfl,hc0,hc1,htag,hbs⟩:=(hSec.keep hbel).at_ k hlt
   have hkn:(k:Int)<(n:Int):=by omega
   have hk0:(0:Int)≤(k:Int):=by omega
   have hu:IntKind.u32.wrap ((k:Int)+1)=(k:Int)+1:=by rw [IntKind.wrap_u32];omega
   have htk:=zaP hLk
   have Htk:=qH htk
   have HLk:=qH hLk
   clear htk hLk hbs
   by_cases he:s.tag=k+1
   ·
    have heb:((s.tag:Int) != (k:Int)+1)=false:=by simp;omega
    have heb2:((s.tag:Int)==(k:Int)+1)=true:=by simp;omega
    have He:=qH he
    clear he
    go_wp2_with fail
    go_roundw
    case rel=>exact ⟨k+1,by omega,by go_num,fun j hj=>by
      rcases Nat.lt_or_ge j k with h | h
      · exact HT.out j h
      ·
       obtain rfl:j=k:=by omega
       rw [Htk.out];exact He.out,by first | exact za hbel _ | exact zfv (za hbel _) (by simp;exact hbel.size) _ | skip,by first | exact hC3.alloc _ | skip,by first | exact hS3.alloc _ | skip⟩
    case measure=>simp [intOf];omega
   ·
    have heb:((s.tag:Int) != (k:Int)+1)=true:=by simp;omega
    have he3:¬ ((s.tag:Int)=(k:Int)+1):=by omega
    have He:=qH he
    clear he
    go_upto_region 7 with (fail)
    have hb3:=za hbel (.cells #[Value.int IntKind.u32 (s.tag:Int),Value.slice s.A s.n s.c] 150)
    have hC4:=hC3.alloc (.cells #[Value.int IntKind.u32 (s.tag:Int),Value.slice s.A s.n s.c] 150)
    have hS4:=hS3.alloc (.cells #[Value.int IntKind.u32 (s.tag:Int),Value.slice s.A s.n s.c] 150)
    generalize wr.alloc (.cells #[Value.int IntKind.u32 (s.tag:Int),Value.slice s.A s.n s.c] 150)=W3 at hb3 hC4 hS4 ⊢
    have hT1:=hC4.there 0 2 (by decide)
    have hT2:=hS4.there 0 160 (by rw [zv];decide)
    go_wp2_with (first | (refine wpList_store_mid rfl 68 (.tmp 2) (.tmp 31) rfl rc 0 #[Value.int IntKind.i64 0,Value.int IntKind.u32 0] rfl rfl hT1 (by kernel_rfl) (by kernel_rfl) ?_) | (refine wpList_store_mid rfl 93 (.tmp 3) (.tmp 32) rfl rs 0 Tryz.zeroCells93 rfl rfl (World.there_setCells (by rw [zbf,zv];exact hT2) _ _ _) (by kernel_rfl) (by kernel_rfl) ?_) | fail)
    refine bodyPost_ret (v:=.tuple #[.agg (So.configL So.zConfig).toArray,.agg (So.stL So.zState nilH nilH).toArray,.iface 149 (.int .i64 31)]) (zcM (zkk hC4 hS4 hne) (zkl hC4 hS4 hne) rfl rfl rfl) rfl ?_
    exact HF.out _ _ (31,So.zConfig,So.zState) (by unfold zJ;rw [znH (j:=k) (by have:=Hn.out;omega) (by rw [Htk.out];exact He.out)];rfl) ⟨nilH,nilH,[],_,rfl,ErrN.num 31 (by decide),ListsAt.nil _ _,zda hb3 (Nat.le_of_eq Hrc.out) (by have:=Hrc.out;omega) _ _⟩
  ·
   obtain rfl:n=k:=by omega
   have htags:zc9 (secL L)=true:=zhG (by rw [zae,HL.out,Hn.out]) (fun j hj=>HT.out j (by rw [Hn.out];exact hj))
   have Htags:=qH htags
   clear htags hlt
   obtain ⟨tot,htot⟩:=qX (So.sections 1 ((secL L).map (·.b)) So.zConfig So.zState)
   have Htot:=qH htot
   clear htot
   go_upto_region 11 with (fail)
   obtain ⟨W4,hW4⟩:=qX (wr.alloc (.cells zCfA 68))
   have hc5:=Blk.new wr zCfA 68
   have hC5:=hC3.alloc (.cells zCfA 68)
   have hS5:=hS3.alloc (.cells zCfA 68)
   have hb5:=za hbel (.cells zCfA 68)
   have hs5:wr.heap.size+1=W4.heap.size:=by rw [←hW4];simp
   rw [hW4] at hc5 hC5 hS5 hb5
   have hW4':wr.alloc (.cells #[Value.int IntKind.i64 0,Value.int IntKind.u32 0] 68)=W4:=hW4
   rw [hW4']
   clear hW4 hW4'
   obtain ⟨W5,hW5⟩:=qX (W4.alloc (.cells Tryz.zeroCells93 93))
   have hp6:=Blk.new W4 Tryz.zeroCells93 93
   have hc6:=hc5.alloc (.cells Tryz.zeroCells93 93)
   have hC6:=hC5.alloc (.cells Tryz.zeroCells93 93)
   have hS6:=hS5.alloc (.cells Tryz.zeroCells93 93)
   have hb6:=za hb5 (.cells Tryz.zeroCells93 93)
   rw [hW5] at hp6 hc6 hC6 hS6 hb6 ⊢
   have hlt5:W4.heap.size<W5.heap.size:=hp6.lt
   clear hW5 hc5 hC5 hS5 hb5
   rw [←hs5] at hp6 hlt5
   rw [zkj] at hc6
   rw [zbf] at hp6
   have hww:w.heap.size≤wr.heap.size:=hbel.size
   have hrcl:rc<wr.heap.size:=hC3.lt
   have hrsl:rs<wr.heap.size:=hS3.lt
   obtain ⟨pc,hpce⟩:=qX wr.heap.size
   rw [hpce] at hc6 hp6 hlt5 hww hrcl hrsl ⊢
   have hpcp:pc≠pc+1:=by omega
   have hwp:w.heap.size≤pc+1:=by omega
   have hrsp:rs≠pc+1:=by omega
   have hrcp:rc≠pc+1:=by omega
   have hrcc:rc≠pc:=by omega
   have hrsc:rs≠pc:=by omega
   clear hpce hs5
   generalize hpe:pc+1=p at hp6 hlt5 hpcp hwp hrsp hrcp ⊢
   clear hpe hC3 hS3 hbel
   have hSt0:StAt W5 w.heap.size p So.zState nilH nilH []:=⟨hp6,RowE.nil _ _ _ _,rfl,RowE.nil _ _ _ _,rfl,rfl,fun r hr=>by cases hr⟩
   obtain ⟨wo,rfl⟩:∃ wo:World,wo=wr:=⟨_,rfl⟩
   have hwpc:w.heap.size≤pc:=hww
   have hsml:∀ l∈(secL L).map (·.b),Tl.Small l:=fun l hl=>by
    simp only [secL,List.map_map,List.mem_map,Function.comp_apply,SecV.sec] at hl
    obtain ⟨x,hx,rfl⟩:=hl
    exact (hSec.ok x hx).2.small
   have Hsml:=qH hsml
   clear hsml hww
   go_wp2_with fail
   go_loopw [10,11,37] (fun _ _ i wr=>∃ k:Nat,k≤n∧i=.int .i64 k∧Below w.heap.size w wr∧Blk wr rc (So.configL So.zConfig).toArray 68∧Blk wr rs (So.stL So.zState nilH nilH).toArray 93∧∃ cf st Q I Rs,Blk wr pc (So.configL cf).toArray 68∧StAt wr w.heap.size p st Q I Rs∧So.sections (k+1) (((secL L).map (·.b)).drop k) cf st=tot∧(k≤4→st.q=[]∧Q=nilH)∧(k≤10→st.b.ins=[]∧I=nilH)) (fun _ _ i _=>n-(intOf i).toNat)
   case atStart=>exact ⟨0,Nat.zero_le _,rfl,hb6,hC6,hS6,So.zConfig,So.zState,nilH,nilH,[],hc6,hSt0,Htot.out,fun _=>⟨rfl,rfl⟩,fun _=>⟨rfl,rfl⟩⟩
   case round =>
    obtain ⟨k,hk,rfl,hbel,hC7,hS7,cf,st,Q,I,Rs,hcf,hst,hsec,h5,h11⟩:=hrel
    clear hC6 hS6 hb6 hc6 hp6 hSt0 hC2 hS hb2
    have Hsec:=qH hsec
    have H5:=qH h5
    have H11:=qH h11
    clear hsec h5 h11
    by_cases hlt:k<n
    ·
     obtain ⟨s,b,off,hLk,rfl,hc0,hc1,htag,hbs⟩:=(hSec.keep hbel).at_ k hlt
     have hbs0:=(hSec.ok s (List.mem_of_getElem? hLk)).2
     have hkn:(k:Int)<(n:Int):=by omega
     have hk0:(0:Int)≤(k:Int):=by omega
     have htk:s.tag=k+1:=by rw [←zaP hLk];exact HT.out k hlt
     have ht1:1≤s.tag:=by omega
     have ht13:s.tag≤13:=by have:=Hn.out;omega
     have HLk:=qH hLk
     have Htk:=qH htk
     have hstep:=Hsec.out
     rw [zkm hLk] at hstep
     have Hstep:=qH hstep
     clear hLk htk hbs hstep
     have hsb:=hbs0.small
     by_cases hd:Tl.done (So.section_ s.tag ⟨s.b,0⟩ cf st).1=0
     ·
      have Hd:=qH hd
      clear hd
      go_wp2_with (first | (go_at_call 40;refine (InW.new s.A s.n s.c s.b w _ hbs0 (za hbel _)).mono ?_;rintro e w2 ⟨g,rfl,hI2,hbn,hg2⟩;have hal:=Nat.le_trans (za (Below.refl wr.heap.size wr) (.cells #[Value.int IntKind.u32 (s.tag:Int),Value.slice s.A s.n s.c] 150)).size hg2;have hb8:=zb (za (Below.refl wr.heap.size wr) (.cells #[Value.int IntKind.u32 (s.tag:Int),Value.slice s.A s.n s.c] 150)) hbn;have hY2:=(Blk.new wr #[Value.int IntKind.u32 (s.tag:Int),Value.slice s.A s.n s.c] 150).keep hbn;have hy0:=hY2.cell 0 rfl;have hyl:=hY2.lt;have hy9:=zao hy0 (.cells #[Value.pointer (some ⟨g,0,none⟩)] 154)) | fail)
      refine (zec s.tag ht1 ht13 w.heap.size g pc p ⟨s.b,0⟩ hsb cf st Q I Rs w _ (hI2.keep (za (Below.refl _ _) _)) (hcf.keep (za hb8 _)) (hst.keep (za hb8 _)) hwp hwpc (fun h=>H5.out (by have:=Htk.out;omega)) (fun h=>H11.out (by have:=Htk.out;omega)) (Nat.le_trans hbel.size (za hb8 _).size)).mono ?_
      rintro e w3 ⟨rfl,hI3,hcf3,⟨Q3,I3,Rs3,hst3,hq3,hi3⟩,hk3⟩
      have hX3:=(Blk.new w2 #[Value.pointer (some ⟨g,0,none⟩)] 154).kept hk3 (zkp hI2.lt (hst.keep hb8).blk.lt (hcf.keep hb8).lt)
      have hxc:=hX3.cell 0 rfl
      have hC9:=(hC7.keep (za hb8 _)).kept hk3 (fun e=>e.elim (fun e=>by have:=hI2.ge;have:=hg2;have:=hC7.lt;have:=hb8.size;omega) (fun e=>e.elim hrcp hrcc))
      have hS9:=(hS7.keep (za hb8 _)).kept hk3 (fun e=>e.elim (fun e=>by have:=hg2;have:=hS7.lt;have:=hb8.size;omega) (fun e=>e.elim hrsp hrsc))
      have hb9:Below w.heap.size w w3:=zQ (zb hbel (za hb8 _)) hk3 (fun i hi e=>by have:=hI2.ge;rcases e with e | e | e<;>omega)
      go_wp2_with (first | (go_at_call 42;refine (zeC g _ _ hI3.in_).mono ?_;rintro e w4 ⟨V,rfl,hV,rfl⟩;obtain rfl:=zko (Hd.out ▸ hV)) | fail)
      go_roundw
      case rel=>exact ⟨k+1,by omega,by go_num,hb9,hC9,hS9,_,_,Q3,I3,Rs3,hcf3,hst3,zl5 Htk.out Hd.out Hstep.out,fun h=>by rw [zps ht1 ht13 (by have:=Htk.out;omega),hq3 (by have:=Htk.out;omega)];exact H5.out (by omega),fun h=>by rw [znL ht1 ht13 (by have:=Htk.out;omega),hi3 (by have:=Htk.out;omega)];exact H11.out (by omega)⟩
      case measure=>simp [intOf];omega
     ·
      have Hd:=qH hd
      clear hd
      go_wp2_with (first | (go_at_call 40;refine (InW.new s.A s.n s.c s.b w _ hbs0 (za hbel _)).mono ?_;rintro e w2 ⟨g,rfl,hI2,hbn,hg2⟩;have hal:=Nat.le_trans (za (Below.refl wr.heap.size wr) (.cells #[Value.int IntKind.u32 (s.tag:Int),Value.slice s.A s.n s.c] 150)).size hg2;have hb8:=zb (za (Below.refl wr.heap.size wr) (.cells #[Value.int IntKind.u32 (s.tag:Int),Value.slice s.A s.n s.c] 150)) hbn;have hY2:=(Blk.new wr #[Value.int IntKind.u32 (s.tag:Int),Value.slice s.A s.n s.c] 150).keep hbn;have hy0:=hY2.cell 0 rfl;have hyl:=hY2.lt;have hy9:=zao hy0 (.cells #[Value.pointer (some ⟨g,0,none⟩)] 154)) | fail)
      refine (zec s.tag ht1 ht13 w.heap.size g pc p ⟨s.b,0⟩ hsb cf st Q I Rs w _ (hI2.keep (za (Below.refl _ _) _)) (hcf.keep (za hb8 _)) (hst.keep (za hb8 _)) hwp hwpc (fun h=>H5.out (by have:=Htk.out;omega)) (fun h=>H11.out (by have:=Htk.out;omega)) (Nat.le_trans hbel.size (za hb8 _).size)).mono ?_
      rintro e w3 ⟨rfl,hI3,hcf3,⟨Q3,I3,Rs3,hst3,hq3,hi3⟩,hk3⟩
      have hX3:=(Blk.new w2 #[Value.pointer (some ⟨g,0,none⟩)] 154).kept hk3 (zkp hI2.lt (hst.keep hb8).blk.lt (hcf.keep hb8).lt)
      have hxc:=hX3.cell 0 rfl
      have hC9:=(hC7.keep (za hb8 _)).kept hk3 (fun e=>e.elim (fun e=>by have:=hI2.ge;have:=hg2;have:=hC7.lt;have:=hb8.size;omega) (fun e=>e.elim hrcp hrcc))
      have hS9:=(hS7.keep (za hb8 _)).kept hk3 (fun e=>e.elim (fun e=>by have:=hg2;have:=hS7.lt;have:=hb8.size;omega) (fun e=>e.elim hrsp hrsc))
      have hb9:Below w.heap.size w w3:=zQ (zb hbel (za hb8 _)) hk3 (fun i hi e=>by have:=hI2.ge;rcases e with e | e | e<;>omega)
      have hT1:=hC9.there 0 2 (by decide)
      have hT2:=hS9.there 0 160 (by rw [zv];decide)
      go_wp2_with (first | (go_at_call 42;refine (zeC g _ _ hI3.in_).mono ?_;rintro e w4 ⟨V,rfl,hV,rfl⟩;obtain rfl:=zl4 hV Hd.out) | (refine wpList_store_mid rfl 68 (.tmp 2) (.tmp 53) rfl rc 0 #[Value.int IntKind.i64 0,Value.int IntKind.u32 0] rfl rfl hT1 (by kernel_rfl) (by kernel_rfl) ?_) | (refine wpList_store_mid rfl 93 (.tmp 3) (.tmp 54) rfl rs 0 Tryz.zeroCells93 rfl rfl (World.there_setCells (by rw [zbf,zv];exact hT2) _ _ _) (by kernel_rfl) (by kernel_rfl) ?_) | fail)
      refine bodyPost_ret (v:=.tuple #[.agg (So.configL So.zConfig).toArray,.agg (So.stL So.zState nilH nilH).toArray,.iface 149 (.int .i64 3)]) (zcM (zkk hC9 hS9 hne) (zkl hC9 hS9 hne) rfl rfl rfl) rfl ?_
      exact HF.out _ _ (3,So.zConfig,So.zState) (by unfold zJ;rw [Htags.out,if_pos rfl,Htot.out,zl6 Htk.out Hd.out Hstep.out]) ⟨nilH,nilH,[],_,rfl,ErrN.num 3 (by decide),ListsAt.nil _ _,zda hb9 (Nat.le_of_eq Hrc.out) (by have:=Hrc.out;omega) _ _⟩
    ·
     obtain rfl:n=k:=by omega
     clear hlt
     have hdrop:((secL L).map (·.b)).drop n=[]:=List.drop_eq_nil_of_le (by rw [List.length_map,zae,HL.out];exact Nat.le_refl _)
     have htot2:tot=some (cf,st):=by
      have:=Hsec.out
      rw [hdrop] at this
      exact this.symm
     have told:=(So.sections_good (l:=(secL L).map (·.b)) (by rw [List.length_map,zae,HL.out,Hn.out]) Hsml.out (Htot.out.trans htot2)).2
     have Htot2:=qH htot2
     have hck:=fun W (h:ListsAt W w.heap.size st Q I Rs) (hr:RegW W)=>HCK.out cf st Q I Rs w.heap.size W hr h told.ok told.cok told.q told.ins told.req
     clear hdrop htot2 told
     have hl0:=hst.lists
     have hrg1:=zw hcf
     have hrg2:=zw hst.blk
     have hone1:∀ v∈So.configL cf,v.oneCell'=true:=ziP cf
     have hone2:∀ v∈So.stL st Q I,v.oneCell'=true:=zkn st Q I
     cases hb:So.stateB cf st with
     | false =>
      have Hb:=qH hb
      rw [hb] at hck
      have Hck:=qH hck
      clear hck hb
      go_wp2_with (first | (refine wpList_load_mid rfl 68 (.tmp 7) rfl pc 0 rfl (So.configL cf) _ hrg1 Tryz.underlying68 rfl (by kernel_rfl) ?_) | (refine wpList_load_mid rfl 93 (.tmp 8) rfl p 0 rfl (So.stL st Q I) _ hrg2 Tryz.underlying93 rfl (by kernel_rfl) ?_) | (go_at_call 21;refine (Hck.out _ hl0 (HRW.out.keep hbel)).mono ?_;rintro e w5 ⟨rfl,hb5⟩;rw [show ckV false=.iface 149 (.int .i64 1) from rfl];have hC9:=hC7.keep hb5;have hS9:=hS7.keep hb5;have hT1:=hC9.there 0 2 (by decide);have hT2:=hS9.there 0 160 (by rw [zv];decide)) | (refine wpList_store_mid rfl 68 (.tmp 2) (.tmp 61) rfl rc 0 #[Value.int IntKind.i64 0,Value.int IntKind.u32 0] rfl rfl hT1 (by kernel_rfl) (by kernel_rfl) ?_) | (refine wpList_store_mid rfl 93 (.tmp 3) (.tmp 62) rfl rs 0 Tryz.zeroCells93 rfl rfl (World.there_setCells (by rw [zbf,zv];exact hT2) _ _ _) (by kernel_rfl) (by kernel_rfl) ?_) | fail)
      refine bodyPost_ret (v:=.tuple #[.agg (So.configL So.zConfig).toArray,.agg (So.stL So.zState nilH nilH).toArray,.iface 149 (.int .i64 33)]) (zcM (zkk hC9 hS9 hne) (zkl hC9 hS9 hne) rfl rfl rfl) rfl ?_
      exact HF.out _ _ (33,So.zConfig,So.zState) (by unfold zJ;rw [Htags.out,if_pos rfl,Htot.out,Htot2.out];simp only [Hb.out];rfl) ⟨nilH,nilH,[],_,rfl,ErrN.num 33 (by decide),ListsAt.nil _ _,zda (zb hbel hb5) (Nat.le_of_eq Hrc.out) (by have:=Hrc.out;omega) _ _⟩
     | true =>
      have Hb:=qH hb
      rw [hb] at hck
      have Hck:=qH hck
      clear hck hb
      go_wp2_with (first | (refine wpList_load_mid rfl 68 (.tmp 7) rfl pc 0 rfl (So.configL cf) _ hrg1 Tryz.underlying68 rfl (by kernel_rfl) ?_) | (refine wpList_load_mid rfl 93 (.tmp 8) rfl p 0 rfl (So.stL st Q I) _ hrg2 Tryz.underlying93 rfl (by kernel_rfl) ?_) | (go_at_call 21;refine (Hck.out _ hl0 (HRW.out.keep hbel)).mono ?_;rintro e w5 ⟨rfl,hb5⟩;rw [show ckV true=.nilIface from rfl]) | fail)
      have hC9:=hC7.keep hb5
      have hS9:=hS7.keep hb5
      have hcf9:=hcf.keep hb5
      have hst9:=hst.blk.keep hb5
      have hlists:=hl0.keep hb5
      have hbe:=zb hbel hb5
      have hT1:=hC9.there 0 2 (by decide)
      refine zc (by kernel_rfl) (fun X=>⟨#[.slice A n c,undef,.pointer (some ⟨rc,0,none⟩),.pointer (some ⟨rs,0,none⟩),X 4,u5,u6,.pointer (some ⟨pc,0,none⟩),.pointer (some ⟨p,0,none⟩),undef,u10,u11,.slice A n c,.int .i64 ↑n,.bool false,undef,undef,undef,.slice A n c,.int .i64 ↑n,.int .i64 ↑n,.bool false,u22,u23,u24,u25,u26,u27,u28,u29,u30,u31,u32,u33,u34,.slice A n c,.int .i64 ↑n,.int .i64 ↑n,.bool false,u39,u40,u41,u42,u43,u44,u45,u46,u47,u48,u49,u50,u51,u52,u53,u54,u55,u56,.agg (So.configL cf).toArray,.agg (So.stL st Q I).toArray,.nilIface,.bool false,undef,undef,undef,X 0,X 1],[]⟩) (Kept (fun k=>k=rc∨k=rs)) (fun i v w=>match i with | 0=>(v=.agg (So.configL cf).toArray) | 1=>(v=.agg (So.stL st Q I).toArray) | 4=>(v=.nilIface) | _=>True) (fun i=>([0,0,1,2,0]:List Nat).getD i 0) 2 (fun kk _ w=>zgU rc rs cf st Q I w kk) _ (fun i=>if i=4 then u4 else undef) (fun u v w a b=>a.trans b) ?_ (by kernel_rfl) (by kernel_rfl) ((Kept.refl _ _).drew) ((znI (hC9.keep (zr (Below.refl _ _))) (hS9.keep (zr (Below.refl _ _))))) ?_ ?_
      ·
       intro i v w w' h hb
       match i,h with
       | 0,h=>exact h
       | 1,h=>exact h
       | 4,h=>exact h
       | 2,h=>exact trivial
       | 3,h=>exact trivial
       | _+5,h=>exact trivial
      ·
       refine cQ 0 ?_ ?_
       ·
        intro X w hR ψ χ K HK
        have hB0:=hcf9.kept hR (fun e=>e.elim (Ne.symm hrcc) (Ne.symm hrsc))
        rw [if_pos (zo rfl)]
        refine wp_load_mid 68 (.tmp 7) rfl pc 0 rfl (So.configL cf) _ (zw hB0) Tryz.underlying68 rfl (by kernel_rfl) ?_
        exact HK.out _ _ _ rfl (Kept.refl _ _) rfl (fun kk _ h=>h)
       refine cQ 1 ?_ ?_
       ·
        intro X w hR ψ χ K HK
        have hB1:=hst9.kept hR (fun e=>e.elim (Ne.symm hrcp) (Ne.symm hrsp))
        rw [if_pos (zo rfl)]
        refine wp_load_mid 93 (.tmp 8) rfl p 0 rfl (So.stL st Q I) _ (zw hB1) Tryz.underlying93 rfl (by kernel_rfl) ?_
        exact HK.out _ _ _ rfl (Kept.refl _ _) rfl (fun kk _ h=>h)
       refine cS 2 0 ?_ ?_
       ·
        intro X w hR ψ χ hst K HK
        have e0:X 0=.agg (So.configL cf).toArray:=(pR ψ 0 .data 0 :)
        obtain ⟨hA,hB⟩:=ziM hst
        rw [if_pos (zo rfl)]
        refine wp_store_mid 68 (.tmp 2) (.tmp 64) rfl rc 0 _ rfl (show X 0=_ from e0) (hA.there 0 2 (by decide)) (by kernel_rfl) (all_oneCell_toArray hone1) ?_
        exact HK.out undef _ _ (by (try simp only [e0])<;>rfl) (Kept.setCells (S:=fun k=>k=rc∨k=rs) (.inl rfl) _ 0 w (Kept.refl _ _)) trivial (znJ hA hB hne)
       refine cS 3 1 ?_ ?_
       ·
        intro X w hR ψ χ hst K HK
        skip
        have e1:X 1=.agg (So.stL st Q I).toArray:=(pR ψ 1 .data 0 :)
        obtain ⟨hA,hB⟩:=ziN hst
        rw [if_pos (zo rfl)]
        refine wp_store_mid 93 (.tmp 3) (.tmp 65) rfl rs 0 _ rfl (show X 1=_ from e1) (hB.there 0 160 (by rw [zv];decide)) (by kernel_rfl) (all_oneCell_toArray hone2) ?_
        exact HK.out undef _ _ (by (try simp only [e1])<;>rfl) (Kept.setCells (S:=fun k=>k=rc∨k=rs) (.inr rfl) _ 0 w (Kept.refl _ _)) trivial (znK hA hB hne)
       refine cQ 4 ?_ ?_
       ·
        intro X w hR ψ χ K HK
        go_simp
        exact HK.out _ _ _ rfl (Kept.refl _ _) rfl (fun kk _ h=>h)
       exact zi.nil
      ·
       intro X1 wE1 hR1 hall1 hS1
       have e4:X1 4=.nilIface:=hall1 4 (by decide)
       obtain ⟨hA,hB⟩:=ziO hS1
       clear hall1
       go_wp2_with fail
       refine bodyPost_ret (v:=.tuple #[.agg (So.configL cf).toArray,.agg (So.stL st Q I).toArray,.nilIface]) (zcM hA hB rfl rfl (by simp [e4])) rfl ?_
       exact HF.out _ _ (0,cf,st) (by unfold zJ;rw [Htags.out,if_pos rfl,Htot.out,Htot2.out];simp only [Hb.out];rfl) ⟨Q,I,Rs,_,rfl,ErrN.none,hlists.kept hR1 hC9 hS9,zQ hbe hR1 (fun i hi e=>by have:=Hrc.out;rcases e with e | e<;>omega)⟩
def CkP (w:World) (b:Bool) (e:Ending) (w':World):Prop:=e=.returned (ckV b)∧Below w.heap.size w w'
theorem zu {w w':World} {b:Bool} (h:b=false) (hb:Below w.heap.size w w'):CkP w b (.returned (.iface 149 (.int .i64 1))) w':=by
 subst h
 exact ⟨rfl,hb⟩
theorem zU {w w':World} {b:Bool} (h:b=true) (hb:Below w.heap.size w w'):CkP w b (.returned .nilIface) w':=by
 subst h
 exact ⟨rfl,hb⟩
theorem zex (c:So.Clint) (w:World):Calls Tryz.prog 81 #[.agg (So.clintL c).toArray] w (CkP w (So.clintB c)):=by
 have hP:Hid (∀ e w',CkP w (So.clintB c) e w'→CkP w (So.clintB c) e w'):=qH (fun _ _ h=>h)
 by_cases h:c.soft≤1
 ·
  have hb:Hid (So.clintB c=true):=qH (by unfold So.clintB;rw [decide_eq_true h])
  have h':(c.soft:Int)≤1:=by omega
  unfold So.clintL
  go_enter Tryz.func81,Tryz.ntmps81
  go_wp2
  go_ret
  exact zU hb.out (za (Below.refl _ _) _)
 ·
  have hb:Hid (So.clintB c=false):=qH (by unfold So.clintB;rw [decide_eq_false h])
  have h':¬ (c.soft:Int)≤1:=by omega
  have h2:(1:Int)<c.soft:=by omega
  unfold So.clintL
  go_enter Tryz.func81,Tryz.ntmps81
  go_wp2
  go_ret
  exact zu hb.out (za (Below.refl _ _) _)
theorem zbl (c:So.Csr) (hok:c.Ok) (w:World):Calls Tryz.prog 144 #[.agg (So.csrL c).toArray] w (CkP w (So.csrB c)):=by
 have eb1:bits .andNot .u32 (c.status:Int) 136=((c.status&&&4294967159:Nat):Int):=u32_andNot_nat c.status 136 hok.1 (by decide)
 have eb2:bits .andNot .u32 (c.enable:Int) 2184=((c.enable&&&4294965111:Nat):Int):=u32_andNot_nat c.enable 2184 hok.2.1 (by decide)
 have eb3:bits .and .u32 (c.vector:Int) 2=((c.vector&&&2:Nat):Int):=u32_and_nat c.vector 2 hok.2.2.1 (by decide)
 have eb4:bits .and .u32 (c.epc:Int) 3=((c.epc&&&3:Nat):Int):=u32_and_nat c.epc 3 hok.2.2.2.2.1 (by decide)
 have hB:So.csrB c=(c.status&&&4294967159==0&&c.enable&&&4294965111==0&&c.vector&&&2==0&&c.epc&&&3==0):=rfl
 obtain ⟨b1,hb1⟩:=qX (c.status&&&4294967159)
 rw [hb1] at eb1 hB
 obtain ⟨b2,hb2⟩:=qX (c.enable&&&4294965111)
 rw [hb2] at eb2 hB
 obtain ⟨b3,hb3⟩:=qX (c.vector&&&2)
 rw [hb3] at eb3 hB
 obtain ⟨b4,hb4⟩:=qX (c.epc&&&3)
 rw [hb4] at eb4 hB
 have HB:=qH hB
 clear hB hok hb1 hb2 hb3 hb4
 unfold So.csrL
 by_cases gb1:b1=0
 ·
  rw [gb1] at eb1
  have fb1:=qH gb1
  clear gb1
  have eb1':bits .andNot .u32 (c.status:Int) 136=0:=eb1
  clear eb1
  by_cases gb2:b2=0
  ·
   rw [gb2] at eb2
   have fb2:=qH gb2
   clear gb2
   have eb2':bits .andNot .u32 (c.enable:Int) 2184=0:=eb2
   clear eb2
   by_cases gb3:b3=0
   ·
    rw [gb3] at eb3
    have fb3:=qH gb3
    clear gb3
    have eb3':bits .and .u32 (c.vector:Int) 2=0:=eb3
    clear eb3
    by_cases gb4:b4=0
    ·
     rw [gb4] at eb4
     have fb4:=qH gb4
     clear gb4
     have eb4':bits .and .u32 (c.epc:Int) 3=0:=eb4
     clear eb4
     go_enter Tryz.func144,Tryz.ntmps144
     go_wp2_with (fail)
     go_ret
     exact zU (by rw [HB.out,fb1.out,fb2.out,fb3.out,fb4.out];rfl) (za (Below.refl _ _) _)
    ·
     have nb4:¬ ((b4:Int)=0):=by omega
     go_enter Tryz.func144,Tryz.ntmps144
     go_wp2_with (fail)
     go_ret
     exact zu (by rw [HB.out];simp [gb4]) (za (Below.refl _ _) _)
   ·
    have nb3:¬ ((b3:Int)=0):=by omega
    go_enter Tryz.func144,Tryz.ntmps144
    go_wp2_with (fail)
    go_ret
    exact zu (by rw [HB.out];simp [gb3]) (za (Below.refl _ _) _)
  ·
   have nb2:¬ ((b2:Int)=0):=by omega
   go_enter Tryz.func144,Tryz.ntmps144
   go_wp2_with (fail)
   go_ret
   exact zu (by rw [HB.out];simp [gb2]) (za (Below.refl _ _) _)
 ·
  have nb1:¬ ((b1:Int)=0):=by omega
  go_enter Tryz.func144,Tryz.ntmps144
  go_wp2_with (fail)
  go_ret
  exact zu (by rw [HB.out];simp [gb1]) (za (Below.refl _ _) _)
theorem zfg (h:So.Hart) (w:World) (hok:h.Ok):Calls Tryz.prog 79 #[.agg (So.hartL h).toArray] w (CkP w (So.hartB h)):=by
 have e1:bits .and .u32 (h.pc:Int) 3=((h.pc&&&3:Nat):Int):=u32_and_nat h.pc 3 hok.1 (by decide)
 have hBB:So.hartB h=(h.pc&&&3==0&&h.x 0==0&&So.csrB h.c):=rfl
 obtain ⟨b1,hb1⟩:=qX (h.pc&&&3)
 rw [hb1] at e1 hBB
 have HB:=qH hBB
 clear hBB hb1
 by_cases gb1:b1=0
 ·
  rw [gb1] at e1
  have fb1:=qH gb1
  clear gb1
  have e1':bits .and .u32 (h.pc:Int) 3=0:=e1
  clear e1
  have HC:Hid (ckV (So.csrB h.c)=ckV (So.csrB h.c)):=qH rfl
  by_cases gb2:h.x 0=0
  ·
   have fb2:=qH gb2
   have n2:((h.x 0:Int))=0:=by omega
   clear gb2
   by_cases gb3:So.csrB h.c=true
   ·
    have fb3:=qH gb3
    clear HC
    have HC:Hid (ckV (So.csrB h.c)=.nilIface):=qH (by rw [gb3];rfl)
    clear gb3
    go_enter Tryz.func79,Tryz.ntmps79
    go_upto_region 1 with (fail)
    have hB:=Blk.new w (So.hartL h).toArray 71
    have hbel:=za (Below.refl w.heap.size w) (.cells (So.hartL h).toArray 71)
    generalize w.alloc (.cells (So.hartL h).toArray 71)=W1 at hB hbel ⊢
    obtain ⟨g,hg⟩:=qX w.heap.size
    rw [hg] at hB ⊢
    clear hg
    have c0:W1.cell? ⟨g,0,none⟩=some (.int .u32 (h.pc:Int)):=hB.cell 0 rfl
    have c1:W1.cell? ⟨g,1,none⟩=some (.int .u32 (h.x 0:Int)):=hB.cell 1 rfl
    have k0:W1.cell? ⟨g,34,none⟩=some (.int .u32 (h.c.status:Int)):=hB.cell 34 rfl
    have k1:W1.cell? ⟨g,35,none⟩=some (.int .u32 (h.c.enable:Int)):=hB.cell 35 rfl
    have k2:W1.cell? ⟨g,36,none⟩=some (.int .u32 (h.c.vector:Int)):=hB.cell 36 rfl
    have k3:W1.cell? ⟨g,37,none⟩=some (.int .u32 (h.c.scratch:Int)):=hB.cell 37 rfl
    have k4:W1.cell? ⟨g,38,none⟩=some (.int .u32 (h.c.epc:Int)):=hB.cell 38 rfl
    have k5:W1.cell? ⟨g,39,none⟩=some (.int .u32 (h.c.cause:Int)):=hB.cell 39 rfl
    have k6:W1.cell? ⟨g,40,none⟩=some (.int .u32 (h.c.value:Int)):=hB.cell 40 rfl
    have k7:W1.cell? ⟨g,41,none⟩=some (.int .u64 (h.c.count:Int)):=hB.cell 41 rfl
    go_wp2_with (first | (go_at_call 144;refine (zbl h.c hok.2.2 _).mono ?_;rintro e w2 ⟨rfl,hb2⟩;rw [HC.out]) | fail)
    go_ret
    exact zU (by rw [HB.out,fb1.out,fb2.out,fb3.out];rfl) (by first | exact zb hbel hb2 | exact hbel)
   ·
    clear HC
    have HC:Hid (ckV (So.csrB h.c)=.iface 149 (.int .i64 1)):=qH (by cases hc:So.csrB h.c with | true=>exact absurd hc gb3 | false=>rfl)
    go_enter Tryz.func79,Tryz.ntmps79
    go_upto_region 1 with (fail)
    have hB:=Blk.new w (So.hartL h).toArray 71
    have hbel:=za (Below.refl w.heap.size w) (.cells (So.hartL h).toArray 71)
    generalize w.alloc (.cells (So.hartL h).toArray 71)=W1 at hB hbel ⊢
    obtain ⟨g,hg⟩:=qX w.heap.size
    rw [hg] at hB ⊢
    clear hg
    have c0:W1.cell? ⟨g,0,none⟩=some (.int .u32 (h.pc:Int)):=hB.cell 0 rfl
    have c1:W1.cell? ⟨g,1,none⟩=some (.int .u32 (h.x 0:Int)):=hB.cell 1 rfl
    have k0:W1.cell? ⟨g,34,none⟩=some (.int .u32 (h.c.status:Int)):=hB.cell 34 rfl
    have k1:W1.cell? ⟨g,35,none⟩=some (.int .u32 (h.c.enable:Int)):=hB.cell 35 rfl
    have k2:W1.cell? ⟨g,36,none⟩=some (.int .u32 (h.c.vector:Int)):=hB.cell 36 rfl
    have k3:W1.cell? ⟨g,37,none⟩=some (.int .u32 (h.c.scratch:Int)):=hB.cell 37 rfl
    have k4:W1.cell? ⟨g,38,none⟩=some (.int .u32 (h.c.epc:Int)):=hB.cell 38 rfl
    have k5:W1.cell? ⟨g,39,none⟩=some (.int .u32 (h.c.cause:Int)):=hB.cell 39 rfl
    have k6:W1.cell? ⟨g,40,none⟩=some (.int .u32 (h.c.value:Int)):=hB.cell 40 rfl
    have k7:W1.cell? ⟨g,41,none⟩=some (.int .u64 (h.c.count:Int)):=hB.cell 41 rfl
    go_wp2_with (first | (go_at_call 144;refine (zbl h.c hok.2.2 _).mono ?_;rintro e w2 ⟨rfl,hb2⟩;rw [HC.out]) | fail)
    go_ret
    exact zu (by rw [HB.out];simp [gb3]<;>(intros;omega)) (by first | exact zb hbel hb2 | exact hbel)
  ·
   have n2:¬ ((h.x 0:Int)=0):=by omega
   go_enter Tryz.func79,Tryz.ntmps79
   go_upto_region 1 with (fail)
   have hB:=Blk.new w (So.hartL h).toArray 71
   have hbel:=za (Below.refl w.heap.size w) (.cells (So.hartL h).toArray 71)
   generalize w.alloc (.cells (So.hartL h).toArray 71)=W1 at hB hbel ⊢
   obtain ⟨g,hg⟩:=qX w.heap.size
   rw [hg] at hB ⊢
   clear hg
   have c0:W1.cell? ⟨g,0,none⟩=some (.int .u32 (h.pc:Int)):=hB.cell 0 rfl
   have c1:W1.cell? ⟨g,1,none⟩=some (.int .u32 (h.x 0:Int)):=hB.cell 1 rfl
   have k0:W1.cell? ⟨g,34,none⟩=some (.int .u32 (h.c.status:Int)):=hB.cell 34 rfl
   have k1:W1.cell? ⟨g,35,none⟩=some (.int .u32 (h.c.enable:Int)):=hB.cell 35 rfl
   have k2:W1.cell? ⟨g,36,none⟩=some (.int .u32 (h.c.vector:Int)):=hB.cell 36 rfl
   have k3:W1.cell? ⟨g,37,none⟩=some (.int .u32 (h.c.scratch:Int)):=hB.cell 37 rfl
   have k4:W1.cell? ⟨g,38,none⟩=some (.int .u32 (h.c.epc:Int)):=hB.cell 38 rfl
   have k5:W1.cell? ⟨g,39,none⟩=some (.int .u32 (h.c.cause:Int)):=hB.cell 39 rfl
   have k6:W1.cell? ⟨g,40,none⟩=some (.int .u32 (h.c.value:Int)):=hB.cell 40 rfl
   have k7:W1.cell? ⟨g,41,none⟩=some (.int .u64 (h.c.count:Int)):=hB.cell 41 rfl
   go_wp2_with (first | (go_at_call 144;refine (zbl h.c hok.2.2 _).mono ?_;rintro e w2 ⟨rfl,hb2⟩;rw [HC.out]) | fail)
   go_ret
   exact zu (by rw [HB.out];simp [gb2]<;>(intros;omega)) (by first | exact zb hbel hb2 | exact hbel)
 ·
  have n1:¬ ((b1:Int)=0):=by omega
  have HC:Hid (ckV (So.csrB h.c)=ckV (So.csrB h.c)):=qH rfl
  go_enter Tryz.func79,Tryz.ntmps79
  go_upto_region 1 with (fail)
  have hB:=Blk.new w (So.hartL h).toArray 71
  have hbel:=za (Below.refl w.heap.size w) (.cells (So.hartL h).toArray 71)
  generalize w.alloc (.cells (So.hartL h).toArray 71)=W1 at hB hbel ⊢
  obtain ⟨g,hg⟩:=qX w.heap.size
  rw [hg] at hB ⊢
  clear hg
  have c0:W1.cell? ⟨g,0,none⟩=some (.int .u32 (h.pc:Int)):=hB.cell 0 rfl
  have c1:W1.cell? ⟨g,1,none⟩=some (.int .u32 (h.x 0:Int)):=hB.cell 1 rfl
  have k0:W1.cell? ⟨g,34,none⟩=some (.int .u32 (h.c.status:Int)):=hB.cell 34 rfl
  have k1:W1.cell? ⟨g,35,none⟩=some (.int .u32 (h.c.enable:Int)):=hB.cell 35 rfl
  have k2:W1.cell? ⟨g,36,none⟩=some (.int .u32 (h.c.vector:Int)):=hB.cell 36 rfl
  have k3:W1.cell? ⟨g,37,none⟩=some (.int .u32 (h.c.scratch:Int)):=hB.cell 37 rfl
  have k4:W1.cell? ⟨g,38,none⟩=some (.int .u32 (h.c.epc:Int)):=hB.cell 38 rfl
  have k5:W1.cell? ⟨g,39,none⟩=some (.int .u32 (h.c.cause:Int)):=hB.cell 39 rfl
  have k6:W1.cell? ⟨g,40,none⟩=some (.int .u32 (h.c.value:Int)):=hB.cell 40 rfl
  have k7:W1.cell? ⟨g,41,none⟩=some (.int .u64 (h.c.count:Int)):=hB.cell 41 rfl
  go_wp2_with (first | (go_at_call 144;refine (zbl h.c hok.2.2 _).mono ?_;rintro e w2 ⟨rfl,hb2⟩;rw [HC.out]) | fail)
  go_ret
  exact zu (by rw [HB.out];simp [gb1]<;>(intros;omega)) (by first | exact zb hbel hb2 | exact hbel)
def znM (q:So.Que):List Value:=[.int .i64 q.size,.int .u32 q.desc,.int .u32 q.avail,.int .u32 q.used,.int .u16 q.last,.int .u16 q.put]
theorem zgV (a b:Nat) (ha:a<4294967296) (hb:b<4294967296):bits .and .i64 (a:Int) (b:Int)=((a&&&b:Nat):Int):=by
 have h1:a&&&b≤a:=Nat.and_le_left
 have e1:((a:Int)%((2 ^ 64:Nat):Int)).toNat=a:=by omega
 have e2:((b:Int)%((2 ^ 64:Nat):Int)).toNat=b:=by omega
 have e:(BitVec.ofInt 64 (a:Int)&&&BitVec.ofInt 64 (b:Int)).toNat=a&&&b:=by
  rw [BitVec.toNat_and,BitVec.toNat_ofInt,BitVec.toNat_ofInt,e1,e2]
 simp only [bits]
 rw [IntKind.wrap_i64]
 change ((((BitVec.ofInt 64 (a:Int)&&&BitVec.ofInt 64 (b:Int)).toNat:Nat):Int)+9223372036854775808)%18446744073709551616-9223372036854775808=_
 rw [e]
 omega
theorem zcN (q:So.Que) (w:World) (hok:q.Ok):Calls Tryz.prog 210 #[.agg (znM q).toArray] w (CkP w (So.ringB q)):=by
 have hBB:So.ringB q=(So.sizeB q.size&&q.desc%16==0&&q.avail%2==0&&q.used%4==0):=rfl
 have hSB:So.sizeB q.size=(decide (1≤q.size)&&decide (q.size≤256)&&q.size.toNat&&&(q.size.toNat-1)==0):=rfl
 rw [hSB] at hBB
 have e2:1≤q.size→q.size≤256→bits .and .i64 q.size (q.size-1)=((q.size.toNat&&&(q.size.toNat-1):Nat):Int):=fun h1 h2=>by
  have h3:=zgV q.size.toNat (q.size.toNat-1) (by omega) (by omega)
  rw [show ((q.size.toNat:Nat):Int)=q.size by omega,show (((q.size.toNat-1:Nat)):Int)=q.size-1 by omega] at h3
  exact h3
 obtain ⟨b3,hb3⟩:=qX (q.size.toNat&&&(q.size.toNat-1))
 rw [hb3] at e2 hBB
 have E2:=qH e2
 have HB:=qH hBB
 clear hBB hSB hb3 e2
 obtain ⟨sz,hsz⟩:=qX q.size
 rw [hsz] at E2 HB
 have hQ:znM q=[.int .i64 sz,.int .u32 q.desc,.int .u32 q.avail,.int .u32 q.used,.int .u16 q.last,.int .u16 q.put]:=by unfold znM;rw [hsz]
 have HQ:=qH hQ
 clear hsz hQ
 by_cases gb1:1≤sz
 ·
  have fb1:=qH (decide_eq_true gb1)
  by_cases gb2:sz≤256
  ·
   have fb2:=qH (decide_eq_true gb2)
   have e3:=E2.out gb1 gb2
   by_cases gb3:b3=0
   ·
    rw [gb3] at e3
    have fb3:=qH gb3
    clear gb3
    have e4:bits .and .i64 sz (sz-1)=0:=e3
    clear e3
    by_cases gb4:q.desc%16=0
    ·
     have fb4:=qH gb4
     have n4:(q.desc:Int)%16=0:=by omega
     clear gb4
     by_cases gb5:q.avail%2=0
     ·
      have fb5:=qH gb5
      have n5:(q.avail:Int)%2=0:=by omega
      clear gb5
      by_cases gb6:q.used%4=0
      ·
       have fb6:=qH gb6
       have n6:(q.used:Int)%4=0:=by omega
       clear gb6
       rw [HQ.out]
       go_enter Tryz.func210,Tryz.ntmps210
       go_wp2
       go_ret
       exact zU (by rw [HB.out,fb1.out,fb2.out,fb3.out,fb4.out,fb5.out,fb6.out];rfl) (za (Below.refl _ _) _)
      ·
       have n6:¬ ((q.used:Int)%4=0):=by omega
       have m6:((q.used:Int)%4 != 0)=true:=by simp [n6]
       rw [HQ.out]
       go_enter Tryz.func210,Tryz.ntmps210
       go_wp2
       go_ret
       exact zu (by rw [HB.out];simp [gb6]<;>(intros;omega)) (za (Below.refl _ _) _)
     ·
      have n5:¬ ((q.avail:Int)%2=0):=by omega
      have m5:((q.avail:Int)%2 != 0)=true:=by simp [n5]
      rw [HQ.out]
      go_enter Tryz.func210,Tryz.ntmps210
      go_wp2
      go_ret
      exact zu (by rw [HB.out];simp [gb5]<;>(intros;omega)) (za (Below.refl _ _) _)
    ·
     have n4:¬ ((q.desc:Int)%16=0):=by omega
     have m4:((q.desc:Int)%16 != 0)=true:=by simp [n4]
     rw [HQ.out]
     go_enter Tryz.func210,Tryz.ntmps210
     go_wp2
     go_ret
     exact zu (by rw [HB.out];simp [gb4]<;>(intros;omega)) (za (Below.refl _ _) _)
   ·
    have n3:¬ ((b3:Int)=0):=by omega
    rw [HQ.out]
    go_enter Tryz.func210,Tryz.ntmps210
    go_wp2
    go_ret
    exact zu (by rw [HB.out];simp [gb3]<;>(intros;omega)) (za (Below.refl _ _) _)
  ·
   have n2:256<sz:=by omega
   rw [HQ.out]
   go_enter Tryz.func210,Tryz.ntmps210
   go_wp2
   go_ret
   exact zu (by rw [HB.out];simp [gb2]<;>(intros;omega)) (za (Below.refl _ _) _)
 ·
  have n1:sz<1:=by omega
  have n2:¬ (1≤sz):=by omega
  rw [HQ.out]
  go_enter Tryz.func210,Tryz.ntmps210
  go_wp2
  go_ret
  exact zu (by rw [HB.out];simp [gb1]<;>(intros;omega)) (za (Below.refl _ _) _)
theorem zgW:ckV true=.nilIface:=rfl
theorem zoE:ckV false=.iface 149 (.int .i64 1):=rfl
def zbj (w:World) (b:Bool) (e:Ending) (w':World):Prop:=e=.returned (.bool b)∧Below w.heap.size w w'
theorem z0 {w w':World} {b c:Bool} (h:b=c) (hb:Below w.heap.size w w'):zbj w b (.returned (.bool c)) w':=by
 subst h
 exact ⟨rfl,hb⟩
end Go.Proofs.YtdffbihilhkkjaaGreatDoor
