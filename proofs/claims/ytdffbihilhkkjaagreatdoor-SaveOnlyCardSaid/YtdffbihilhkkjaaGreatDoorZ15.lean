import Derived.Test.YtdffbihilhkkjaaGreatDoorZ14
namespace Go.Proofs.YtdffbihilhkkjaaGreatDoor
open Tl
set_option linter.unusedVariables false
set_option linter.unusedSimpArgs false
set_option maxRecDepth 100000
set_option maxHeartbeats 8000000
namespace So
open Tl
structure Good {α:Type} (t:In→In×α) (f:α→List Nat) (P:α→Prop):Prop where
 good:∀ i,Small i.b→(t i).1.e=0→i.e=0∧Small (t i).1.b∧i.b=f (t i).2++(t i).1.b∧P (t i).2
def Fits:List (Nat×Nat)→List Nat→Prop
 | [],[]=>True
 | x::l,v::vs=>(v≤x.2∧v<256 ^ x.1)∧Fits l vs
 | [],_::_=>False
 | _::_,[]=>False
def zipR (l:List (Nat×Nat)) (vs:List Nat):List (Nat×Nat):=List.zipWith (fun x v=>(x.1,v)) l vs
theorem zH:∀ l:List (Nat×Nat),Good (fun i=>takes i l) (fun vs=>row (zipR l vs)) (Fits l)
 | []=>⟨fun i hs h=>⟨h,hs,rfl,trivial⟩⟩
 | x::l=>⟨fun i hs h=>by
  simp only [takes] at h ⊢
  by_cases he:(takeN i x.1 x.2).1.e=0
  ·
   obtain ⟨h0,h1,h8,hl,ht,e⟩:=ziw he
   have hsm:Small (takeN i x.1 x.2).1.b:=by rw [e];exact fun y hy=>hs y (List.mem_of_mem_drop hy)
   obtain ⟨_,k1,k2,k3⟩:=(zH l).good _ hsm h
   have hlen:(i.b.take x.1).length=x.1:=by rw [List.length_take];omega
   have hlt:=num_take_lt i.b hs x.1
   refine ⟨h0,k1,?_,?_⟩
   ·
    simp only [zipR,List.zipWith_cons_cons,row,List.append_assoc]
    have k2':(takeN i x.1 x.2).1.b=row (List.zipWith (fun x v=>(x.1,v)) l (takes (takeN i x.1 x.2).1 l).2)++(takes (takeN i x.1 x.2).1 l).1.b:=k2
    rw [←k2',e]
    have:=le_num (i.b.take x.1) (fun y hy=>hs y (List.mem_of_mem_take hy))
    rw [hlen] at this
    show i.b=le x.1 (num (i.b.take x.1))++i.b.drop x.1
    rw [this,List.take_append_drop]
   ·
    refine ⟨?_,k3⟩
    rw [e]
    exact ⟨ht,hlt⟩
  · rw [zd4 l he] at h;exact absurd h he⟩
theorem Good.map {α β:Type} {t:In→In×α} {f:α→List Nat} {P:α→Prop} (h:Good t f P) {g:α→β} {f':β→List Nat} {P':β→Prop} (hg:∀ a,P a→f' (g a)=f a∧P' (g a)):Good (fun i=>((t i).1,g (t i).2)) f' P' :=
 ⟨fun i hs he=>by
  obtain ⟨h0,h1,h2,h3⟩:=h.good i hs he
  exact ⟨h0,h1,by rw [(hg _ h3).1];exact h2,(hg _ h3).2⟩⟩
def zZ {α:Type} (t:In→In×α):Prop:=∀ i,i.e≠0→(t i).1.e≠0
theorem zaB (l:List (Nat×Nat)):zZ (fun i=>takes i l):=fun i h=>by
 show (takes i l).1.e≠0
 rw [zd4 l h]
 exact h
theorem zZ.map {α β:Type} {t:In→In×α} (h:zZ t) (g:α→β):zZ (fun i=>((t i).1,g (t i).2)):=h
theorem zZ.many {α:Type} {t:In→In×α} (h:zZ t):∀ n,zZ (many t n)
 | 0=>fun i hi=>hi
 | n+1=>fun i hi=>zZ.many h n _ (h i hi)
theorem Good.many {α:Type} {t:In→In×α} {f:α→List Nat} {P:α→Prop} (h:Good t f P) (hst:zZ t):∀ n,Good (many t n) (fun l=>l.flatMap f) (fun l=>l.length=n∧∀ x∈l,P x)
 | 0=>⟨fun i hs he=>⟨he,hs,rfl,rfl,fun x hx=>by cases hx⟩⟩
 | n+1=>⟨fun i hs he=>by
  simp only [So.many] at he ⊢
  by_cases h1:(t i).1.e=0
  ·
   obtain ⟨a0,a1,a2,a3⟩:=h.good i hs h1
   obtain ⟨b0,b1,b2,b3,b4⟩:=(Good.many h hst n).good _ a1 he
   refine ⟨a0,b1,?_,by simp [b3],fun x hx=>?_⟩
   · rw [List.flatMap_cons,List.append_assoc,←b2,←a2]
   ·
    rcases List.mem_cons.1 hx with rfl | hx
    · exact a3
    · exact b4 x hx
  · exact absurd he (zZ.many hst n _ h1)⟩
theorem Good.then_ {α β γ : Type} {t : In → In × α} {f : α → List Nat} {P : α → Prop} (h : Good t f P) {u : α → In → In × β} {f2 : α → β → List Nat} {P2 : α → β → Prop} (hu : ∀ a, P a → Good (u a) (f2 a) (P2 a)) (hst : ∀ a, zZ (u a)) {g : α → β → γ} {f' : γ → List Nat} {P' : γ → Prop}
    (hg:∀ a b,P a→P2 a b→f' (g a b)=f a++f2 a b∧P' (g a b)):Good (fun i=>((u (t i).2 (t i).1).1,g (t i).2 (u (t i).2 (t i).1).2)) f' P' :=
  ⟨fun i hs he => by
    have he:(u (t i).2 (t i).1).1.e=0:=he
    have h1 : (t i).1.e = 0 := by
      rcases Nat.decEq (t i).1.e 0 with hn | hy
      · exact absurd he (hst _ _ hn)
      · exact hy
    obtain ⟨a0,a1,a2,a3⟩:=h.good i hs h1
    obtain ⟨b0,b1,b2,b3⟩:=(hu _ a3).good _ a1 he
    refine ⟨a0,b1,?_,(hg _ _ a3 b3).2⟩
    rw [(hg _ _ a3 b3).1,List.append_assoc]
    show i.b=f (t i).2++(f2 (t i).2 (u (t i).2 (t i).1).2++(u (t i).2 (t i).1).1.b)
    rw [←b2,←a2]⟩
theorem zZ.then_ {α β γ:Type} {t:In→In×α} (h:zZ t) {u:α→In→In×β} (hst:∀ a,zZ (u a)) (g:α→β→γ):zZ (fun i=>((u (t i).2 (t i).1).1,g (t i).2 (u (t i).2 (t i).1).2)):=fun i hi=>hst _ _ (h i hi)
theorem zdo (v:Nat) (h:v≤1):one (v==1)=v:=by
 rcases Nat.eq_zero_or_pos v with rfl | h0
 · rfl
 ·
  obtain rfl:v=1:=by omega
  rfl
theorem zgA (v:Nat) (h:v<4294967296):w32 (v:Int)=v:=by unfold w32;omega
theorem zd5 (v:Nat) (h:v<18446744073709551616):w64 (v:Int)=v:=by unfold w64;omega
theorem zh {k:Nat×Nat} {l:List (Nat×Nat)} {vs:List Nat} (h:Fits (k::l) vs):∃ a r,vs=a::r∧(a≤k.2∧a<256 ^ k.1)∧Fits l r:=by
 match vs,h with
 | a::r,h=>exact ⟨a,r,rfl,h.1,h.2⟩
theorem zaf {vs:List Nat} (h:Fits [] vs):vs=[]:=by
 match vs,h with
 | [],_=>rfl
theorem zd6:∀ {l:List (Nat×Nat)} {vs:List Nat},Fits l vs→vs.length=l.length
 | [],[],_=>rfl
 | _::l,_::vs,h=>by simp [zd6 h.2]
 | [],_::_,h=>h.elim
 | _::_,[],h=>h.elim
theorem ze4:∀ {l:List (Nat×Nat)} {vs:List Nat},Fits l vs→∀ (i:Nat) (x:Nat×Nat),l[i]?=some x→at_ vs i≤x.2∧at_ vs i<256 ^ x.1
 | [],[],_,i,x,hx=>by simp at hx
 | _::l,v::vs,h,0,x,hx=>by
  simp only [List.getElem?_cons_zero,Option.some.injEq] at hx
  subst hx
  exact h.1
 | _::l,v::vs,h,i+1,x,hx=>ze4 h.2 i x (by simpa using hx)
 | [],_::_,h,_,_,_=>h.elim
 | _::_,[],h,_,_,_=>h.elim
theorem p1:256 ^ 1=256:=rfl
theorem p2:256 ^ 2=65536:=rfl
theorem p4:256 ^ 4=4294967296:=rfl
theorem p8:256 ^ 8=18446744073709551616:=rfl
theorem zgB:Good (fun i=>((tConfig i).1,(⟨(tConfig i).2.1,(tConfig i).2.2⟩:Config))) sConfig (fun c=>c.Ok∧0≤c.pages∧c.pages<4294967296) :=
 (zH [kW,kW]).map (g:=fun r=>(⟨at_ r 0,at_ r 1⟩:Config)) fun r hr=>by
  obtain ⟨a,r,rfl,ha,hr⟩:=zh hr
  obtain ⟨b,r,rfl,hb,hr⟩:=zh hr
  obtain rfl:=zaf hr
  simp only [kW,p4] at ha hb
  refine ⟨?_,?_⟩
  ·
   simp only [sConfig,at_,List.getD_cons_zero,List.getD_cons_succ,zgA a ha.2]
   rfl
  ·
   simp only [Config.Ok,at_,List.getD_cons_zero,List.getD_cons_succ]
   omega
theorem zix:Good (fun i=>takeN i 8 18446744073709551615) (fun n=>row [(8,n)]) (fun n=>n<18446744073709551616) :=
 (zH [kD]).map (g:=fun r=>at_ r 0) fun r hr=>by
  obtain ⟨a,r,rfl,ha,hr⟩:=zh hr
  obtain rfl:=zaf hr
  simp only [kD,p8] at ha
  exact ⟨rfl,ha.2⟩
theorem zfJ:Good tControl sControl Csr.Ok :=
 (zH [kW,kW,kW,kW,kW,kW,kW,kD]).map (g:=fun r=>(⟨at_ r 0,at_ r 1,at_ r 2,at_ r 3,at_ r 4,at_ r 5,at_ r 6,at_ r 7⟩:Csr)) fun r hr=>by
  obtain ⟨a0,r,rfl,h0,hr⟩:=zh hr
  obtain ⟨a1,r,rfl,h1,hr⟩:=zh hr
  obtain ⟨a2,r,rfl,h2,hr⟩:=zh hr
  obtain ⟨a3,r,rfl,h3,hr⟩:=zh hr
  obtain ⟨a4,r,rfl,h4,hr⟩:=zh hr
  obtain ⟨a5,r,rfl,h5,hr⟩:=zh hr
  obtain ⟨a6,r,rfl,h6,hr⟩:=zh hr
  obtain ⟨a7,r,rfl,h7,hr⟩:=zh hr
  obtain rfl:=zaf hr
  simp only [kW,kD,p4,p8] at h0 h1 h2 h3 h4 h5 h6 h7
  exact ⟨rfl,h0.2,h1.2,h2.2,h3.2,h4.2,h5.2,h6.2,h7.2⟩
theorem ziy:Good tTimer sTimer (fun c=>c.Ok∧c.soft<256) :=
 (zH [kB,kD,kD]).map (g:=fun r=>(⟨at_ r 0,at_ r 1,at_ r 2⟩:Clint)) fun r hr=>by
  obtain ⟨a0,r,rfl,h0,hr⟩:=zh hr
  obtain ⟨a1,r,rfl,h1,hr⟩:=zh hr
  obtain ⟨a2,r,rfl,h2,hr⟩:=zh hr
  obtain rfl:=zaf hr
  simp only [kB,kD,p1,p8] at h0 h1 h2
  refine ⟨rfl,⟨?_,h1.2,h2.2⟩,h0.2⟩
  show a0<4294967296
  omega
theorem zgC:Good tEngine sEngine Dma.Ok :=
 (zH [kB,kW,kW,kB,kW,kT,kW,kW,kW,kW,kT]).map (g:=fun r=>(⟨at_ r 0,at_ r 1,at_ r 2,at_ r 3,at_ r 4,at_ r 5==1,at_ r 6,at_ r 7,at_ r 8,at_ r 9,at_ r 10==1⟩:Dma)) fun r hr=>by
  obtain ⟨a0,r,rfl,h0,hr⟩:=zh hr
  obtain ⟨a1,r,rfl,h1,hr⟩:=zh hr
  obtain ⟨a2,r,rfl,h2,hr⟩:=zh hr
  obtain ⟨a3,r,rfl,h3,hr⟩:=zh hr
  obtain ⟨a4,r,rfl,h4,hr⟩:=zh hr
  obtain ⟨a5,r,rfl,h5,hr⟩:=zh hr
  obtain ⟨a6,r,rfl,h6,hr⟩:=zh hr
  obtain ⟨a7,r,rfl,h7,hr⟩:=zh hr
  obtain ⟨a8,r,rfl,h8,hr⟩:=zh hr
  obtain ⟨a9,r,rfl,h9,hr⟩:=zh hr
  obtain ⟨a10,r,rfl,h10,hr⟩:=zh hr
  obtain rfl:=zaf hr
  simp only [kW,kB,kT,p4,p1] at h0 h1 h2 h3 h4 h5 h6 h7 h8 h9 h10
  refine ⟨?_,?_⟩
  ·
   simp only [sEngine,at_,List.getD_cons_zero,List.getD_cons_succ,zdo a5 h5.1,zdo a10 h10.1]
   rfl
  ·
   refine ⟨?_,h1.2,h2.2,?_,h4.2,h6.2,h7.2,h8.2,h9.2⟩
   · show a0<4294967296;omega
   · show a3<4294967296;omega
theorem zj0:Good tPost sPost (fun p=>p.Ok∧0≤p.dev∧p.dev<256∧0≤p.n∧p.n<256) :=
 (zH [kB,kW,kB,kW]).map (g:=fun r=>(⟨at_ r 0,at_ r 1,at_ r 2,at_ r 3⟩:Post)) fun r hr=>by
  obtain ⟨a0,r,rfl,h0,hr⟩:=zh hr
  obtain ⟨a1,r,rfl,h1,hr⟩:=zh hr
  obtain ⟨a2,r,rfl,h2,hr⟩:=zh hr
  obtain ⟨a3,r,rfl,h3,hr⟩:=zh hr
  obtain rfl:=zaf hr
  simp only [kW,kB,p4,p1] at h0 h1 h2 h3
  refine ⟨?_,⟨h1.2,h3.2⟩,?_⟩
  ·
   simp only [sPost,at_,List.getD_cons_zero,List.getD_cons_succ,zd5 a0 (by omega),zd5 a2 (by omega)]
   rfl
  ·
   simp only [at_,List.getD_cons_zero,List.getD_cons_succ]
   omega
theorem zbR (n:Int) (top:Nat):zZ (fun i=>takeN i n top):=fun i h=>by
 show (takeN i n top).1.e≠0
 rw [Tl.takeN_bad h]
 exact h
theorem zc5 (n top:Nat):Good (fun i=>takeN i n top) (fun v=>row [(n,v)]) (fun v=>v≤top∧v<256 ^ n) :=
 (zH [(n,top)]).map (g:=fun r=>at_ r 0) fun r hr=>by
  obtain ⟨a,r,rfl,ha,hr⟩:=zh hr
  obtain rfl:=zaf hr
  exact ⟨rfl,ha⟩
theorem zd7:zZ tPost:=(zaB [kB,kW,kB,kW]).map (fun r=>(⟨at_ r 0,at_ r 1,at_ r 2,at_ r 3⟩:Post))
theorem ziz:Good (fun i=>tQueue i []) sQueue (fun q=>q.length≤8∧∀ p∈q,p.Ok∧0≤p.dev∧p.dev<256∧0≤p.n∧p.n<256) :=
 (zc5 1 8).then_ (u:=fun n=>many tPost n) (fun n hn=>zj0.many zd7 n) (fun n=>zZ.many zd7 n) (g:=fun n l=>([]++l:List Post)) fun n l hn hl=>by
  refine ⟨?_,?_⟩
  · simp only [List.nil_append,sQueue,hl.1]
  ·
   simp only [List.nil_append]
   exact ⟨by omega,hl.2⟩
theorem zfK:Good tSources sSources (fun p=>p.Ok∧p.pri 0=0) :=
 (zH (List.replicate 7 kB++[kW,kB,kW,kW])).map (g:=fun r=>(⟨fun j=>if 1≤j∧j<8 then at_ r (j-1) else 0,at_ r 7,at_ r 8,at_ r 9,at_ r 10⟩:Plic)) fun r hr=>by
  have hr:Fits [kB,kB,kB,kB,kB,kB,kB,kW,kB,kW,kW] r:=hr
  have hat:=fun i x h=>ze4 hr i x h
  have hpri:∀ i,(if 1≤i∧i<8 then at_ r (i-1) else 0)<4294967296:=by
   intro i
   by_cases hi:1≤i∧i<8
   ·
    rw [if_pos hi]
    have:([kB,kB,kB,kB,kB,kB,kB,kW,kB,kW,kW]:List (Nat×Nat))[i-1]?=some kB:=by
     match i,hi with
     | 1,_=>rfl
     | 2,_=>rfl
     | 3,_=>rfl
     | 4,_=>rfl
     | 5,_=>rfl
     | 6,_=>rfl
     | 7,_=>rfl
    have:=(hat _ _ this).2
    simp only [kB,p1] at this
    omega
   ·
    rw [if_neg hi]
    decide
  have h7:=(hat 7 _ rfl).2
  have h8:=(hat 8 _ rfl).2
  have h9:=(hat 9 _ rfl).2
  have h10:=(hat 10 _ rfl).2
  simp only [kW,kB,p4,p1] at h7 h8 h9 h10
  refine ⟨?_,⟨hpri,h7,?_,h9,h10⟩,rfl⟩
  ·
   obtain ⟨a0,r,rfl,-,hr⟩:=zh hr
   obtain ⟨a1,r,rfl,-,hr⟩:=zh hr
   obtain ⟨a2,r,rfl,-,hr⟩:=zh hr
   obtain ⟨a3,r,rfl,-,hr⟩:=zh hr
   obtain ⟨a4,r,rfl,-,hr⟩:=zh hr
   obtain ⟨a5,r,rfl,-,hr⟩:=zh hr
   obtain ⟨a6,r,rfl,-,hr⟩:=zh hr
   obtain ⟨a7,r,rfl,-,hr⟩:=zh hr
   obtain ⟨a8,r,rfl,-,hr⟩:=zh hr
   obtain ⟨a9,r,rfl,-,hr⟩:=zh hr
   obtain ⟨a10,r,rfl,-,hr⟩:=zh hr
   obtain rfl:=zaf hr
   rfl
  ·
   show at_ r 8<4294967296
   omega
theorem zj1 (h0:Hart) (hx:h0.x 0<4294967296):Good (fun i=>tRegs i h0) sRegs (fun h=>h.pc<4294967296∧h.x 0=h0.x 0∧(∀ j,(∀ i,h0.x i<4294967296)→h.x j<4294967296)∧h.c=h0.c) :=
 (zH kRegs).map (g:=fun r=>(⟨at_ r 0,fun j=>if 1≤j∧j<32 then at_ r j else h0.x j,at_ r 32==1,h0.c⟩:Hart)) fun r hr=>by
  have hlen:=zd6 hr
  have hk:∀ j,j<32→kRegs[j]?=some kW:=by
   intro j hj
   unfold kRegs
   rw [List.getElem?_append_left (by simpa using hj),List.getElem?_replicate,if_pos hj]
  have hw:∀ j,j<32→at_ r j<4294967296:=fun j hj=>by
   have:=(ze4 hr j _ (hk j hj)).2
   simpa only [kW,p4] using this
  have h32:at_ r 32≤1:=(ze4 hr 32 kT rfl).1
  refine ⟨?_,hw 0 (by decide),rfl,fun j hall=>?_,rfl⟩
  ·
   have hz:zipR kRegs r=(List.range 32).map (fun j=>(4,at_ r j))++[(1,at_ r 32)]:=by
    apply List.ext_getElem?
    intro j
    have hl33:r.length=33:=hlen
    rcases Nat.lt_or_ge j 33 with hj | hj
    ·
     have hrj:r[j]?=some (at_ r j):=by
      unfold at_
      rw [List.getD_eq_getElem?_getD,List.getElem?_eq_getElem (by omega)]
      rfl
     unfold zipR
     rw [List.getElem?_zipWith,hrj]
     rcases Nat.lt_or_ge j 32 with hj2 | hj2
     ·
      rw [hk j hj2,List.getElem?_append_left (by simpa using hj2)]
      simp [hj2,kW]
     ·
      obtain rfl:j=32:=by omega
      rfl
    ·
     unfold zipR
     rw [List.getElem?_eq_none (by simp [kRegs];omega),List.getElem?_eq_none (by simp;omega)]
   rw [hz,row_append]
   unfold sRegs
   simp only [zdo _ h32]
   congr 1
  ·
   show (if 1≤j∧j<32 then at_ r j else h0.x j)<4294967296
   by_cases hj:1≤j∧j<32
   · rw [if_pos hj];exact hw j hj.2
   · rw [if_neg hj];exact hall j
theorem zfL:Good tFifo (fun f=>run (fifoB f)) (fun f=>f.Ok∧0≤f.n∧f.n≤16∧∀ j:Nat,f.n≤j→f.b j=0):=⟨fun i hs h=>by
 unfold tFifo at h ⊢
 have h:(takeRun i 16).1.e=0:=h
 show i.e=0∧Small (takeRun i 16).1.b∧i.b=run (fifoB ⟨at_ (takeRun i 16).2,(takeRun i 16).2.length⟩)++(takeRun i 16).1.b∧_
 unfold takeRun at h ⊢
 by_cases h1:i.e≠0
 · rw [if_pos h1] at h;exact absurd h h1
 ·
  rw [if_neg h1] at h ⊢
  by_cases h2:(16:Int)<0
  · exact absurd h2 (by decide)
  ·
   rw [if_neg h2] at h ⊢
   by_cases h3:i.b.length<4
   · rw [if_pos h3] at h;simp at h
   ·
    rw [if_neg h3] at h ⊢
    by_cases h4:(16:Int)<(num (i.b.take 4):Int)
    · rw [if_pos h4] at h;simp at h
    ·
     rw [if_neg h4] at h ⊢
     by_cases h5:i.b.length-4<num (i.b.take 4)
     · rw [if_pos h5] at h;simp at h
     ·
      rw [if_neg h5]
      obtain ⟨n,hn⟩:∃ n,num (i.b.take 4)=n:=⟨_,rfl⟩
      rw [hn] at h4 h5 ⊢
      have hlen:((i.b.drop 4).take n).length=n:=by rw [List.length_take,List.length_drop];omega
      have hsm:∀ x∈(i.b.drop 4).take n,x<256:=fun x hx=>hs x (List.mem_of_mem_drop (List.mem_of_mem_take hx))
      have hat:∀ j,at_ ((i.b.drop 4).take n) j<256:=fun j=>by
       unfold at_
       rw [List.getD_eq_getElem?_getD]
       cases hj:((i.b.drop 4).take n)[j]? with
       | none=>decide
       | some x=>exact hsm x (List.mem_of_getElem? hj)
      refine ⟨by omega,fun x hx=>hs x (List.mem_of_mem_drop hx),?_,hat,?_,?_,?_⟩
      ·
       have hfb:fifoB ⟨at_ ((i.b.drop 4).take n),((i.b.drop 4).take n).length⟩=(i.b.drop 4).take n:=by
        unfold fifoB
        rw [hlen,if_neg (by simp only;omega)]
        simp only [Int.toNat_natCast]
        apply List.ext_getElem?
        intro j
        rcases Nat.lt_or_ge j n with hj | hj
        ·
         rw [List.getElem?_map,List.getElem?_range hj]
         simp only [Option.map_some,at_,List.getD_eq_getElem?_getD]
         rw [List.getElem?_eq_getElem (by omega)]
         rfl
        · rw [List.getElem?_eq_none (by simp;omega),List.getElem?_eq_none (by omega)]
       rw [hfb]
       unfold run
       rw [hlen,←hn]
       have h4':(i.b.take 4).length=4:=by rw [List.length_take];omega
       have:=le_num (i.b.take 4) (fun y hy=>hs y (List.mem_of_mem_take hy))
       rw [h4'] at this
       rw [this,hn,List.append_assoc]
       have e:(i.b.drop 4).take n++i.b.drop (4+n)=i.b.drop 4:=by
        rw [←List.drop_drop,List.take_append_drop]
       show i.b=i.b.take 4++((i.b.drop 4).take n++i.b.drop (4+n))
       rw [e,List.take_append_drop]
      ·
       show (0:Int)≤(((i.b.drop 4).take n).length:Int)
       omega
      ·
       show (((i.b.drop 4).take n).length:Int)≤16
       omega
      ·
       intro j hj
       have hj:(((i.b.drop 4).take n).length:Int)≤(j:Int):=hj
       show at_ ((i.b.drop 4).take n) j=0
       unfold at_
       rw [List.getD_eq_getElem?_getD,List.getElem?_eq_none (by omega)]
       rfl⟩
theorem zgD:zZ tFifo:=fun i h=>by
 show (takeRun i 16).1.e≠0
 unfold takeRun
 rw [if_pos h]
 exact h
def zco:List (Nat×Nat):=[kB,kB,kB,kB,kB,kB,kT,kB]
theorem zj2 (a:Fifo) (x:Fifo×List Nat) (ha:a.Ok∧0≤a.n∧a.n≤16∧∀ j:Nat,a.n≤j→a.b j=0) (hx:x.1.Ok∧Fits zco x.2):sPort ⟨a,x.1,at_ x.2 0,at_ x.2 1,at_ x.2 2,at_ x.2 3,at_ x.2 4,at_ x.2 5,at_ x.2 6==1,at_ x.2 7⟩=run (fifoB a)++(run (fifoB x.1)++row (zipR zco x.2))∧Uart.Ok ⟨a,x.1,at_ x.2 0,at_ x.2 1,at_ x.2 2,at_ x.2 3,at_ x.2 4,at_ x.2 5,at_ x.2 6==1,at_ x.2 7⟩:=by
 obtain ⟨b,r⟩:=x
 obtain ⟨hb,hr⟩:=hx
 obtain ⟨a0,r,rfl,h0,hr⟩:=zh hr
 obtain ⟨a1,r,rfl,h1,hr⟩:=zh hr
 obtain ⟨a2,r,rfl,h2,hr⟩:=zh hr
 obtain ⟨a3,r,rfl,h3,hr⟩:=zh hr
 obtain ⟨a4,r,rfl,h4,hr⟩:=zh hr
 obtain ⟨a5,r,rfl,h5,hr⟩:=zh hr
 obtain ⟨a6,r,rfl,h6,hr⟩:=zh hr
 obtain ⟨a7,r,rfl,h7,hr⟩:=zh hr
 obtain rfl:=zaf hr
 simp only [kB,kT,p1] at h0 h1 h2 h3 h4 h5 h6 h7
 refine ⟨?_,ha.1,hb,h0.2,h1.2,h2.2,h3.2,h4.2,h5.2⟩
 simp only [sPort,at_,List.getD_cons_zero,List.getD_cons_succ,zdo a6 h6.1,zd5 a7 (by omega),List.append_assoc]
 rfl
theorem zj3:Good tPort sPort (fun u=>u.Ok):=by
 have h2:Good (fun i=>((takes (tFifo i).1 zco).1,((tFifo i).2,(takes (tFifo i).1 zco).2))) (fun x:Fifo×List Nat=>run (fifoB x.1)++row (zipR zco x.2)) (fun x=>x.1.Ok∧Fits zco x.2) :=
  zfL.then_ (u:=fun _ i=>takes i zco) (fun _ _=>zH zco) (fun _=>zaB zco) (g:=fun a b=>(a,b)) fun a b ha hb=>⟨rfl,ha.1,hb⟩
 have s2:zZ (fun i=>((takes (tFifo i).1 zco).1,((tFifo i).2,(takes (tFifo i).1 zco).2))):=zgD.then_ (u:=fun _ i=>takes i zco) (fun _=>zaB zco) (fun a b=>(a,b))
 have key:=zfL.then_ (u:=fun _ i=>((takes (tFifo i).1 zco).1,((tFifo i).2,(takes (tFifo i).1 zco).2))) (fun _ _=>h2) (fun _=>s2) (g:=fun a x=>(⟨a,x.1,at_ x.2 0,at_ x.2 1,at_ x.2 2,at_ x.2 3,at_ x.2 4,at_ x.2 5,at_ x.2 6==1,at_ x.2 7⟩:Uart)) (f':=sPort) (P':=fun u=>u.Ok) zj2
 dsimp only at key
 exact key
theorem zhy:Good tQue sQue (fun q=>q.Ok) :=
 (zH kQue).map (g:=fun r=>(⟨at_ r 0==1,at_ r 1,at_ r 2,at_ r 3,at_ r 4,at_ r 5,at_ r 6⟩:Que)) fun r hr=>by
  obtain ⟨a0,r,rfl,h0,hr⟩:=zh hr
  obtain ⟨a1,r,rfl,h1,hr⟩:=zh hr
  obtain ⟨a2,r,rfl,h2,hr⟩:=zh hr
  obtain ⟨a3,r,rfl,h3,hr⟩:=zh hr
  obtain ⟨a4,r,rfl,h4,hr⟩:=zh hr
  obtain ⟨a5,r,rfl,h5,hr⟩:=zh hr
  obtain ⟨a6,r,rfl,h6,hr⟩:=zh hr
  obtain rfl:=zaf hr
  simp only [kT,kW,kH,p1,p2,p4] at h0 h1 h2 h3 h4 h5 h6
  refine ⟨?_,h2.2,h3.2,h4.2,h5.2,h6.2⟩
  simp only [sQue,at_,List.getD_cons_zero,List.getD_cons_succ,zdo a0 h0.1,zd5 a1 (by omega)]
  rfl
theorem zc6:zZ tQue:=(zaB kQue).map (fun r=>(⟨at_ r 0==1,at_ r 1,at_ r 2,at_ r 3,at_ r 4,at_ r 5,at_ r 6⟩:Que))
theorem zfM (r:List Nat) (x:Que×Que) (hr:Fits [kW,kW,kW,kW,kW,kW,kW] r) (hx:x.1.Ok∧x.2.Ok):sSetting ⟨at_ r 0,at_ r 1,at_ r 2,at_ r 3,at_ r 4,at_ r 5,at_ r 6,x.1,x.2⟩=row (zipR [kW,kW,kW,kW,kW,kW,kW] r)++(sQue x.1++sQue x.2)∧Virt.Ok ⟨at_ r 0,at_ r 1,at_ r 2,at_ r 3,at_ r 4,at_ r 5,at_ r 6,x.1,x.2⟩:=by
 obtain ⟨q0,q1⟩:=x
 obtain ⟨g0,g1⟩:=hx
 obtain ⟨a0,r,rfl,h0,hr⟩:=zh hr
 obtain ⟨a1,r,rfl,h1,hr⟩:=zh hr
 obtain ⟨a2,r,rfl,h2,hr⟩:=zh hr
 obtain ⟨a3,r,rfl,h3,hr⟩:=zh hr
 obtain ⟨a4,r,rfl,h4,hr⟩:=zh hr
 obtain ⟨a5,r,rfl,h5,hr⟩:=zh hr
 obtain ⟨a6,r,rfl,h6,hr⟩:=zh hr
 obtain rfl:=zaf hr
 simp only [kW,p4] at h0 h1 h2 h3 h4 h5 h6
 refine ⟨?_,h0.2,h1.2,h2.2,h3.2,h4.2,h5.2,h6.2,g0,g1⟩
 simp only [sSetting,at_,List.getD_cons_zero,List.getD_cons_succ,List.append_assoc]
 rfl
theorem zdp:Good tSetting sSetting (fun p=>p.Ok):=by
 have h2:Good (fun i=>((tQue (tQue i).1).1,((tQue i).2,(tQue (tQue i).1).2))) (fun x:Que×Que=>sQue x.1++sQue x.2) (fun x=>x.1.Ok∧x.2.Ok) :=
  zhy.then_ (u:=fun _ i=>tQue i) (fun _ _=>zhy) (fun _=>zc6) (g:=fun a b=>(a,b)) fun a b ha hb=>⟨rfl,ha,hb⟩
 have s2:zZ (fun i=>((tQue (tQue i).1).1,((tQue i).2,(tQue (tQue i).1).2))):=zc6.then_ (u:=fun _ i=>tQue i) (fun _=>zc6) (fun a b=>(a,b))
 have key:=(zH [kW,kW,kW,kW,kW,kW,kW]).then_ (u:=fun _ i=>((tQue (tQue i).1).1,((tQue i).2,(tQue (tQue i).1).2))) (fun _ _=>h2) (fun _=>s2) (g:=fun r x=>(⟨at_ r 0,at_ r 1,at_ r 2,at_ r 3,at_ r 4,at_ r 5,at_ r 6,x.1,x.2⟩:Virt)) (f':=sSetting) (P':=fun p=>p.Ok) zfM
 dsimp only at key
 exact key
theorem zlS:Good tNet (fun x=>row [(1,one x.1),(4,x.2)]) (fun x=>x.2<4294967296) :=
 (zH [kT,kW]).map (g:=fun r=>(at_ r 0==1,at_ r 1)) fun r hr=>by
  obtain ⟨a,r,rfl,ha,hr⟩:=zh hr
  obtain ⟨b,r,rfl,hb,hr⟩:=zh hr
  obtain rfl:=zaf hr
  simp only [kW,kT,p4,p1] at ha hb
  refine ⟨?_,hb.2⟩
  simp only [at_,List.getD_cons_zero,List.getD_cons_succ,zdo a ha.1]
  rfl
theorem zlT:Good tSeg sSeg (fun x=>x.Ok∧x.write=true∧0≤x.n∧x.n<4294967296) :=
 (zH [kW,kW]).map (g:=fun r=>(⟨at_ r 0,at_ r 1,true⟩:Seg)) fun r hr=>by
  obtain ⟨a,r,rfl,ha,hr⟩:=zh hr
  obtain ⟨b,r,rfl,hb,hr⟩:=zh hr
  obtain rfl:=zaf hr
  simp only [kW,p4] at ha hb
  refine ⟨?_,ha.2,rfl,?_⟩
  ·
   simp only [sSeg,at_,List.getD_cons_zero,List.getD_cons_succ,zgA b hb.2]
   rfl
  ·
   simp only [at_,List.getD_cons_zero,List.getD_cons_succ]
   omega
theorem zb5:zZ tSeg:=(zaB [kW,kW]).map (fun r=>(⟨at_ r 0,at_ r 1,true⟩:Seg))
def ReqT (r:Req):Prop:=r.Ok∧r.l.length≤256∧0≤r.head∧r.head<65536∧0≤r.n∧r.n<4294967296∧∀ x∈r.l,x.write=true∧0≤x.n∧x.n<4294967296
theorem zlU:Good tReq sReq ReqT:=by
 have h2:Good (fun i=>((many tSeg (takeN i 2 256).2 (takeN i 2 256).1).1,((takeN i 2 256).2,(many tSeg (takeN i 2 256).2 (takeN i 2 256).1).2))) (fun x:Nat×List Seg=>row [(2,x.1)]++x.2.flatMap sSeg) (fun x=>x.1≤256∧x.2.length=x.1∧∀ y∈x.2,y.Ok∧y.write=true∧0≤y.n∧y.n<4294967296) :=
  (zc5 2 256).then_ (u:=fun n=>many tSeg n) (fun n _=>zlT.many zb5 n) (fun n=>zZ.many zb5 n) (g:=fun n l=>(n,l)) fun n l hn hl=>⟨rfl,hn.1,hl.1,hl.2⟩
 have s2:zZ (fun i=>((many tSeg (takeN i 2 256).2 (takeN i 2 256).1).1,((takeN i 2 256).2,(many tSeg (takeN i 2 256).2 (takeN i 2 256).1).2))):=fun i hi=>zZ.many zb5 _ _ (zbR 2 256 i hi)
 refine (zH [kW,kH,kT,kW,kW]).then_ (u:=fun _ i=>((many tSeg (takeN i 2 256).2 (takeN i 2 256).1).1,((takeN i 2 256).2,(many tSeg (takeN i 2 256).2 (takeN i 2 256).1).2))) (fun _ _=>h2) (fun _=>s2) (g:=fun r x=>(⟨at_ r 0,at_ r 1,at_ r 2==1,at_ r 3,at_ r 4,x.2⟩:Req)) ?_
 rintro r ⟨n,l⟩ hr ⟨g0,g1,g2⟩
 obtain ⟨a0,r,rfl,h0,hr⟩:=zh hr
 obtain ⟨a1,r,rfl,h1,hr⟩:=zh hr
 obtain ⟨a2,r,rfl,h2,hr⟩:=zh hr
 obtain ⟨a3,r,rfl,h3,hr⟩:=zh hr
 obtain ⟨a4,r,rfl,h4,hr⟩:=zh hr
 obtain rfl:=zaf hr
 simp only [kW,kT,kH,p4,p2,p1] at h0 h1 h2 h3 h4
 simp only at g0 g1 g2
 refine ⟨?_,⟨h0.2,h3.2,fun x hx=>(g2 x hx).1⟩,?_,?_,?_,?_,?_,fun x hx=>(g2 x hx).2⟩
 · simp only [sReq,at_,List.getD_cons_zero,List.getD_cons_succ,zdo a2 h2.1,zd5 a1 (by omega),zgA a4 h4.2,g1,zipR,List.zipWith,row,List.append_assoc,List.nil_append,List.append_nil,kW,kT,kH]
 ·
  show l.length≤256
  omega
 all_goals simp only [at_,List.getD_cons_zero,List.getD_cons_succ];omega
theorem zc7:zZ tReq:=fun i hi=>zZ.many zb5 _ _ (zbR 2 256 _ (zaB [kW,kH,kT,kW,kW] i hi))
theorem zj4:Good tDisk (fun x=>row [(1,one x.1),(4,x.2.1),(1,x.2.2.length)]++x.2.2.flatMap sReq) (fun x=>x.2.1<4294967296∧x.2.2.length≤8∧∀ r∈x.2.2,ReqT r):=by
 have h2:Good (fun i=>((many tReq (takeN i 1 8).2 (takeN i 1 8).1).1,((takeN i 1 8).2,(many tReq (takeN i 1 8).2 (takeN i 1 8).1).2))) (fun x:Nat×List Req=>row [(1,x.1)]++x.2.flatMap sReq) (fun x=>x.1≤8∧x.2.length=x.1∧∀ y∈x.2,ReqT y) :=
  (zc5 1 8).then_ (u:=fun n=>many tReq n) (fun n _=>zlU.many zc7 n) (fun n=>zZ.many zc7 n) (g:=fun n l=>(n,l)) fun n l hn hl=>⟨rfl,hn.1,hl.1,hl.2⟩
 have s2:zZ (fun i=>((many tReq (takeN i 1 8).2 (takeN i 1 8).1).1,((takeN i 1 8).2,(many tReq (takeN i 1 8).2 (takeN i 1 8).1).2))):=fun i hi=>zZ.many zc7 _ _ (zbR 1 8 i hi)
 refine (zH [kT,kW]).then_ (u:=fun _ i=>((many tReq (takeN i 1 8).2 (takeN i 1 8).1).1,((takeN i 1 8).2,(many tReq (takeN i 1 8).2 (takeN i 1 8).1).2))) (fun _ _=>h2) (fun _=>s2) (g:=fun r x=>((at_ r 0==1,at_ r 1,x.2):Bool×Nat×List Req)) ?_
 rintro r ⟨n,l⟩ hr ⟨g0,g1,g2⟩
 obtain ⟨a0,r,rfl,h0,hr⟩:=zh hr
 obtain ⟨a1,r,rfl,h1,hr⟩:=zh hr
 obtain rfl:=zaf hr
 simp only [kW,kT,p4,p1] at h0 h1
 simp only at g0 g1 g2
 refine ⟨?_,h1.2,?_,g2⟩
 · simp only [at_,List.getD_cons_zero,List.getD_cons_succ,zdo a0 h0.1,g1,zipR,List.zipWith,row,List.append_assoc,List.nil_append,List.append_nil,kW,kT]
 ·
  show l.length≤8
  omega
theorem Good.done {α:Type} {t:In→In×α} {f:α→List Nat} {P:α→Prop} (h:Good t f P) {b:List Nat} (hs:Small b) (hd:Tl.done (t ⟨b,0⟩).1=0):f (t ⟨b,0⟩).2=b∧P (t ⟨b,0⟩).2:=by
 obtain ⟨h1,h2⟩:=zjZ hd
 obtain ⟨-,-,h3,h4⟩:=h.good ⟨b,0⟩ hs h1
 rw [h2,List.append_nil] at h3
 exact ⟨h3.symm,h4⟩
theorem section_1 (i:In) (c:Config) (s:State):section_ 1 i c s=((tConfig i).1,⟨(tConfig i).2.1,(tConfig i).2.2⟩,{ s with b:={ s.b with sectors:=(tConfig i).2.2 } }):=rfl
theorem section_2 (i:In) (c:Config) (s:State):section_ 2 i c s=((takeN i 8 18446744073709551615).1,c,{ s with ticks:=(takeN i 8 18446744073709551615).2 }):=rfl
theorem section_3 (i:In) (c:Config) (s:State):section_ 3 i c s=((tRegs i s.h).1,c,{ s with h:=(tRegs i s.h).2 }):=rfl
theorem section_4 (i:In) (c:Config) (s:State):section_ 4 i c s=((tControl i).1,c,{ s with h:={ s.h with c:=(tControl i).2 } }):=rfl
theorem section_5 (i:In) (c:Config) (s:State):section_ 5 i c s=((tQueue i s.q).1,c,{ s with q:=(tQueue i s.q).2 }):=rfl
theorem section_6 (i:In) (c:Config) (s:State):section_ 6 i c s=((tTimer i).1,c,{ s with c:=(tTimer i).2 }):=rfl
theorem section_7 (i:In) (c:Config) (s:State):section_ 7 i c s=((tSources i).1,c,{ s with p:=(tSources i).2 }):=rfl
theorem section_8 (i:In) (c:Config) (s:State):section_ 8 i c s=((tPort i).1,c,{ s with u:=(tPort i).2 }):=rfl
theorem section_9 (i:In) (c:Config) (s:State):section_ 9 i c s=((tEngine i).1,c,{ s with d:=(tEngine i).2 }):=rfl
theorem section_10 (i:In) (c:Config) (s:State):section_ 10 i c s=((tSetting i).1,c,{ s with b:={ s.b with p:=(tSetting i).2 } }):=rfl
theorem section_11 (i:In) (c:Config) (s:State):section_ 11 i c s=((tDisk i).1,c,{ s with b:={ s.b with bell:=(tDisk i).2.1,next:=(tDisk i).2.2.1,ins:=s.b.ins++(tDisk i).2.2.2 } }):=rfl
theorem section_12 (i:In) (c:Config) (s:State):section_ 12 i c s=((tSetting i).1,c,{ s with n:={ s.n with p:=(tSetting i).2 } }):=rfl
theorem section_13 (i:In) (c:Config) (s:State):section_ 13 i c s=((tNet i).1,c,{ s with n:={ s.n with bell:=(tNet i).2.1,lost:=(tNet i).2.2 } }):=rfl
theorem zC {k:Nat} {b:List Nat} {l:List (List Nat)} {c:Config} {s:State} {r:Config×State} (h:sections k (b::l) c s=some r):Tl.done (section_ k ⟨b,0⟩ c s).1=0∧sections (k+1) l (section_ k ⟨b,0⟩ c s).2.1 (section_ k ⟨b,0⟩ c s).2.2=some r:=by
 unfold sections at h
 by_cases hd:Tl.done (section_ k ⟨b,0⟩ c s).1=0
 · rw [if_pos hd] at h;exact ⟨hd,h⟩
 · rw [if_neg hd] at h;cases h
theorem znw {a1 a2 a3 a4 a5 a6 a7 a8 a9 a10 a11 a12 a13 b1 b2 b3 b4 b5 b6 b7 b8 b9 b10 b11 b12 b13:List Nat} (h1:a1=b1) (h2:a2=b2) (h3:a3=b3) (h4:a4=b4) (h5:a5=b5) (h6:a6=b6) (h7:a7=b7) (h8:a8=b8) (h9:a9=b9) (h10:a10=b10) (h11:a11=b11) (h12:a12=b12) (h13:a13=b13):[a1,a2,a3,a4,a5,a6,a7,a8,a9,a10,a11,a12,a13]=[b1,b2,b3,b4,b5,b6,b7,b8,b9,b10,b11,b12,b13]:=by
 subst h1 h2 h3 h4 h5 h6 h7 h8 h9 h10 h11 h12 h13
 rfl
structure Told (c:Config) (s:State):Prop where
 cok:c.Ok
 pages:0≤c.pages∧c.pages<4294967296
 ok:s.Ok
 sectors:s.b.sectors=c.sectors
 q:s.q.length≤8
 ins:s.b.ins.length≤8
 req:∀ r∈s.b.ins,ReqT r
 soft:s.c.soft<256
theorem sections_good {l:List (List Nat)} {c:Config} {s:State} (hl:l.length=13) (hs:∀ b∈l,Small b) (h:sections 1 l zConfig zState=some (c,s)):parts c s=l∧Told c s:=by
 match l,hl with
 | [b1,b2,b3,b4,b5,b6,b7,b8,b9,b10,b11,b12,b13],_ =>
  obtain ⟨d1,h⟩:=zC (k:=1) h
  simp only [section_1] at d1 h
  obtain ⟨d2,h⟩:=zC (k:=2) h
  simp only [section_2] at d2 h
  obtain ⟨d3,h⟩:=zC (k:=3) h
  simp only [section_3] at d3 h
  obtain ⟨d4,h⟩:=zC (k:=4) h
  simp only [section_4] at d4 h
  obtain ⟨d5,h⟩:=zC (k:=5) h
  simp only [section_5] at d5 h
  obtain ⟨d6,h⟩:=zC (k:=6) h
  simp only [section_6] at d6 h
  obtain ⟨d7,h⟩:=zC (k:=7) h
  simp only [section_7] at d7 h
  obtain ⟨d8,h⟩:=zC (k:=8) h
  simp only [section_8] at d8 h
  obtain ⟨d9,h⟩:=zC (k:=9) h
  simp only [section_9] at d9 h
  obtain ⟨d10,h⟩:=zC (k:=10) h
  simp only [section_10] at d10 h
  obtain ⟨d11,h⟩:=zC (k:=11) h
  simp only [section_11] at d11 h
  obtain ⟨d12,h⟩:=zC (k:=12) h
  simp only [section_12] at d12 h
  obtain ⟨d13,h⟩:=zC (k:=13) h
  simp only [section_13] at d13 h
  obtain ⟨e1,p1⟩:=zgB.done (hs b1 (by simp)) d1
  obtain ⟨e2,p2⟩:=zix.done (hs b2 (by simp)) d2
  obtain ⟨e3,p3⟩:=(zj1 zHart (by decide)).done (hs b3 (by simp)) d3
  obtain ⟨e4,p4⟩:=zfJ.done (hs b4 (by simp)) d4
  obtain ⟨e5,p5⟩:=ziz.done (hs b5 (by simp)) d5
  obtain ⟨e6,p6⟩:=ziy.done (hs b6 (by simp)) d6
  obtain ⟨e7,p7⟩:=zfK.done (hs b7 (by simp)) d7
  obtain ⟨e8,p8⟩:=zj3.done (hs b8 (by simp)) d8
  obtain ⟨e9,p9⟩:=zgC.done (hs b9 (by simp)) d9
  obtain ⟨e10,p10⟩:=zdp.done (hs b10 (by simp)) d10
  obtain ⟨e11,p11⟩:=zj4.done (hs b11 (by simp)) d11
  obtain ⟨e12,p12⟩:=zdp.done (hs b12 (by simp)) d12
  obtain ⟨e13,p13⟩:=zlS.done (hs b13 (by simp)) d13
  have h:=Option.some.inj (show some _=some (c,s) from h)
  obtain ⟨rfl,rfl⟩:=Prod.mk.inj h
  clear h d1 d2 d3 d4 d5 d6 d7 d8 d9 d10 d11 d12 d13
  refine ⟨znw e1 e2 e3 e4 e5 e6 e7 e8 e9 e10 e11 e12 e13,⟨p1.1,p1.2,⟨p2,⟨p3.1,fun j=>p3.2.2.1 j (fun _=>by show 0<4294967296;decide),p4⟩,fun x hx=>(p5.2 x hx).1,p6.1,p7.1,p8,p9,⟨p10,p1.1,p11.1,fun r hr=>(p11.2.2 r hr).1⟩,p12,p13⟩,rfl,p5.1,p11.2.1,p11.2.2,p6.2⟩⟩
end So
end Go.Proofs.YtdffbihilhkkjaaGreatDoor
