import Derived.Test.YtdffbihilhkkjaaGreatDoorZ8
import Derived.Test.YtdffbihilhkkjaaGreatDoorZ10
import Derived.Laws.CopyOwn
import Derived.Laws.LoneSync
import Derived.Laws.AppendOwn
import Derived.Maps.AppendAt
import Derived.Lib.SliceRun
import Derived.BigFrame
namespace Go.Proofs.YtdffbihilhkkjaaGreatDoor
open Go.RowKit
set_option linter.unusedVariables false
set_option linter.unusedSimpArgs false
set_option maxRecDepth 100000
set_option maxHeartbeats 8000000
def RamM.owned (M:RamM) (i:Nat):RamM:={ M with pg:=fun j=>if j=i then some (M.at_ i) else M.pg j,dirty:=fun j=>if j=i then true else M.dirty j }
def RamG.put (G:RamG) (i q:Nat):RamG:={ G with q:=fun j=>if j=i then q else G.q j }
theorem zjP (G:RamG) (M:RamM) (i q:Nat):((List.range M.n).map (zba G M)).toArray.setIfInBounds i (.slice (some ⟨q,0,none⟩) 4096 4096)=((List.range M.n).map (zba (G.put i q) (M.owned i))).toArray:=by
 apply Array.ext
 · simp
 ·
  intro j h1 h2
  simp at h1
  rcases Nat.decEq j i with hne | rfl
  · simp [Array.getElem_setIfInBounds,zba,RamM.owned,RamG.put,hne,Ne.symm hne]
  · simp [Array.getElem_setIfInBounds,zba,RamM.owned,RamG.put]
theorem zio (G:RamG) (M:RamM) (i:Nat) (hs:(M.pg i).isSome=true):((List.range M.n).map (zba G M)).toArray=((List.range M.n).map (zba (G.put i (G.q i)) (M.owned i))).toArray:=by
 congr 1
 apply List.map_congr_left
 intro j _
 rcases Nat.decEq j i with hne | rfl
 · simp [zba,RamM.owned,RamG.put,hne]
 · simp [zba,RamM.owned,RamG.put,hs]
theorem zfH (M:RamM) (i:Nat):((List.range M.n).map (zaE M)).toArray.setIfInBounds i (.int .i64 1)=((List.range M.n).map (zaE (M.owned i))).toArray:=by
 apply Array.ext
 · simp
 ·
  intro j h1 h2
  rcases Nat.decEq j i with hne | rfl
  · simp [Array.getElem_setIfInBounds,zaE,RamM.owned,hne,Ne.symm hne]
  · simp [Array.getElem_setIfInBounds,zaE,RamM.owned]
theorem RamAt.at_ok {w:World} {G:RamG} {M:RamM} (h:RamAt w G M) (i:Nat) (hi:i<M.n):(M.at_ i).length=4096∧∀ x∈M.at_ i,x<256:=by
 unfold RamM.at_
 cases hg:M.pg i with
 | some l=>exact (h.page i l hi hg).2
 | none =>
  refine ⟨List.length_replicate,fun x hx=>?_⟩
  have:x=0:=(List.mem_replicate.1 hx).2
  omega
theorem RamAt.owned {w w' : World} {G : RamG} {M : RamM} {i q : Nat} (h : RamAt w G M) (hi : i < M.n) (hR : Blk w' G.p (ramV G M) 240) (hP : Blk w' G.pb ((List.range M.n).map (zba (G.put i q) (M.owned i))).toArray 238) (hD : Blk w' G.db ((List.range M.n).map (zaE (M.owned i))).toArray 3)
    (hQ:Blk w' q (zM (M.at_ i)) 5) (k:Kept (fun k=>k=G.pb∨k=G.db) w w') (hs:∀ j,j<M.n→j≠i→(M.pg j).isSome=true→G.q j≠q) (hz:M.done=true→q≠G.z):RamAt w' (G.put i q) (M.owned i):=by
  refine ⟨hR,hP,hD,fun j l hj hl=>?_,fun hd=>(h.blank hd).kept k (fun e=>?_),fun a b ha hb sa sb hne=>?_,fun hd j hj sj=>?_,h.pos,h.max⟩
  · rcases Nat.decEq j i with hne | rfl
    · have hl' : M.pg j = some l := by simpa [RamM.owned, hne] using hl
      obtain ⟨h1,h2⟩:=h.page j l hj hl'
      have:(G.put i q).q j=G.q j:=by simp [RamG.put,hne]
      rw [this]
      exact ⟨h1.kept k (fun e=>e.elim (h1.apart h.pages (by decide)) (h1.apart h.dirty (by decide))),h2⟩
    · have hl' : M.at_ j = l := by simpa [RamM.owned] using hl
      subst hl'
      have:(G.put j q).q j=q:=by simp [RamG.put]
      rw [this]
      exact ⟨hQ,h.at_ok j hj⟩
  · exact e.elim ((h.blank hd).apart h.pages (by decide)) ((h.blank hd).apart h.dirty (by decide))
  · have ha' : a < M.n := ha
    have hb':b<M.n:=hb
    rcases Nat.decEq a i with hai | rfl
    · have sa' : (M.pg a).isSome = true := by simpa [RamM.owned, hai] using sa
      rcases Nat.decEq b i with hbi | rfl
      · have sb' : (M.pg b).isSome = true := by simpa [RamM.owned, hbi] using sb
        simpa [RamG.put,hai,hbi] using h.sep a b ha' hb' sa' sb' hne
      · simpa [RamG.put,hai] using hs a ha' hai sa'
    · have hbi : b ≠ a := fun e => hne e.symm
      have sb':(M.pg b).isSome=true:=by simpa [RamM.owned,hbi] using sb
      simpa [RamG.put,hbi] using (hs b hb' hbi sb').symm
  · have hj' : j < M.n := hj
    rcases Nat.decEq j i with hji | rfl
    · have sj' : (M.pg j).isSome = true := by simpa [RamM.owned, hji] using sj
      simpa [RamG.put,hji] using h.sepz hd j hj' sj'
    · simpa [RamG.put] using hz hd
def OwnP (w:World) (G:RamG) (M:RamM) (i:Nat) (e:Ending) (w':World):Prop:=∃ q,e=.returned (.slice (some ⟨q,0,none⟩) 4096 4096)∧RamAt w' (G.put i q) (M.owned i)∧Kept (fun k=>k=G.pb∨k=G.db) w w'∧(w.heap.size≤q∨(q=G.q i∧(M.pg i).isSome=true))
theorem zdn (a:Option Addr) (l c:Nat) (w:World):(binOp .eql 238 (.slice a l c) (.slice none 0 0)).run Tryz.prog w=.ok (.bool a.isNone) w:=by
 have h:=run_equal_slice_nil (P:=Tryz.prog) w 238 5 a l c Tryz.underlying238
 simp only [binOp]
 simp [h]
def zjQ (W0 pb i:Nat) (R:Array Value):Nat→(Nat→Value)→World→Prop:=fun k X w=>match k with
 | 0=>Blk w pb R 238
 | 1=>∃ q,Blk w pb (R.setIfInBounds i (.slice (some ⟨q,0,none⟩) 4096 4096)) 238∧Blk w q (zM noughts) 5∧W0≤q
 | _=>False
theorem zgx (W0 pb i:Nat) (R:Array Value):∀ k X w w',zjQ W0 pb i R k X w→Below w.heap.size w w'→zjQ W0 pb i R k X w':=by
 intro k X w w' h hb
 match k,h with
 | 0,h=>exact Blk.keep h hb
 | 1,h=>exact (let ⟨q,h1,h2,h3⟩:=h;⟨q,h1.keep hb,h2.keep hb,h3⟩)
 | _+2,h=>exact h.elim
theorem zlI (G:RamG) (M:RamM) (i:Nat) (hi:i<M.n) (hg:(M.pg i).isSome=true) (w:World) (h:RamAt w G M):Calls Tryz.prog 89 #[.pointer (some ⟨G.p,0,none⟩),.int .i64 (i:Int)] w (OwnP w G M i):=by
 have c0:w.cell? ⟨G.p,0,none⟩=some (.slice (some ⟨G.pb,0,none⟩) M.n M.n):=h.ram.cell 0 rfl
 have c1:w.cell? ⟨G.p,1,none⟩=some (.slice (some ⟨G.db,0,none⟩) M.n M.n):=h.ram.cell 1 rfl
 have cp:w.cell? ⟨G.pb,i,none⟩=some (.slice (some ⟨G.q i,0,none⟩) 4096 4096):=by
  rw [h.pages.cell i (zdY G M i hi)]
  simp [zba,hg]
 have cd:=h.dirty.cell i (zdC M i hi)
 have fd:=h.dirty.free i
 have e1:=h.ram.apart h.dirty (by decide)
 have e2:=h.pages.apart h.dirty (by decide)
 obtain ⟨dv,hdv⟩:=qX (zaE M i)
 rw [hdv] at cd
 obtain ⟨w1,hw1⟩:∃ w1,w1=w.setCell ⟨G.db,i,none⟩ (.int .i64 1):=⟨_,rfl⟩
 have c0':(w.setCell ⟨G.db,i,none⟩ (.int .i64 1)).cell? ⟨G.p,0,none⟩=some (.slice (some ⟨G.pb,0,none⟩) M.n M.n):=(h.ram.far (p:=⟨G.db,i,none⟩) e1 _).cell 0 rfl
 have cp':(w.setCell ⟨G.db,i,none⟩ (.int .i64 1)).cell? ⟨G.pb,i,none⟩=some (.slice (some ⟨G.q i,0,none⟩) 4096 4096):=by
  rw [(h.pages.far (p:=⟨G.db,i,none⟩) e2 (.int .i64 1)).cell i (zdY G M i hi)]
  simp [zba,hg]
 have hi0:(0:Int)≤(i:Int):=by omega
 have hi1:(i:Int)<(M.n:Int):=by omega
 have hm:=h.max
 have hE:=zdn
 go_enter Tryz.func89,Tryz.ntmps89
 go_wp2
 go_ret
 obtain ⟨l,hl⟩:=Option.isSome_iff_exists.1 hg
 have hpg:=h.page i l hi hl
 have el:M.at_ i=l:=by simp [RamM.at_,hl]
 refine ⟨G.q i,rfl,h.owned hi (h.ram.far (p:=⟨G.db,i,none⟩) e1 _) ?_ ?_ ?_ ((Kept.refl _ _).set (p:=⟨G.db,i,none⟩) (fun _=>.inr rfl) _) (fun j hj hne sj=>h.sep j i hj hi sj hg hne) (fun hd=>h.sepz hd i hi hg),(Kept.refl _ _).set (p:=⟨G.db,i,none⟩) (fun _=>.inr rfl) _,.inr ⟨rfl,hg⟩⟩
 ·
  rw [←zio G M i hg]
  exact h.pages.far (p:=⟨G.db,i,none⟩) e2 _
 ·
  rw [←zfH]
  exact h.dirty.set i _
 ·
  rw [el]
  exact hpg.1.far (p:=⟨G.db,i,none⟩) (hpg.1.apart h.dirty (by decide)) _
theorem zlJ (G:RamG) (M:RamM) (ix:Nat) (hi:ix<M.n) (hg:M.pg ix=none) (w:World) (h:RamAt w G M):Calls Tryz.prog 89 #[.pointer (some ⟨G.p,0,none⟩),.int .i64 (ix:Int)] w (OwnP w G M ix):=by
 obtain ⟨p,hp⟩:∃ p,p=G.p:=⟨_,rfl⟩
 obtain ⟨pb,hpb⟩:∃ pb,pb=G.pb:=⟨_,rfl⟩
 obtain ⟨db,hdb⟩:∃ db,db=G.db:=⟨_,rfl⟩
 obtain ⟨N,hN⟩:∃ N,N=M.n:=⟨_,rfl⟩
 have c0:w.cell? ⟨p,0,none⟩=some (.slice (some ⟨pb,0,none⟩) N N):=by rw [hp,hpb,hN];exact h.ram.cell 0 rfl
 have c1:w.cell? ⟨p,1,none⟩=some (.slice (some ⟨db,0,none⟩) N N):=by rw [hp,hdb,hN];exact h.ram.cell 1 rfl
 obtain ⟨R,hRe⟩:∃ R,R=((List.range M.n).map (zba G M)).toArray:=⟨_,rfl⟩
 have hR:Blk w pb R 238:=by rw [hRe,hpb];exact h.pages
 have hri:R[ix]?=some (.slice none 0 0):=by
  rw [hRe,zdY G M ix hi]
  simp [zba,hg]
 have cp:=hR.cell ix hri
 have e0:p≠pb:=by rw [hp,hpb];exact h.ram.apart h.pages (by decide)
 have e1:p≠db:=by rw [hp,hdb];exact h.ram.apart h.dirty (by decide)
 have e2:pb≠db:=by rw [hpb,hdb];exact h.pages.apart h.dirty (by decide)
 have hi0:(0:Int)≤(ix:Int):=by omega
 have hi1:(ix:Int)<(N:Int):=by omega
 have hiN:ix<N:=by omega
 have hm:N≤16384:=by rw [hN];exact h.max
 have hmk:=qH zjN
 have hpW:=hR.lt
 obtain ⟨W0,hW0⟩:=qX w.heap.size
 rw [hW0] at hpW
 have HW0:=qH hW0
 clear hW0
 have hRB:=hR
 have hri':=qH hri
 have H:=qH h
 have C0:=qH c0
 have C1:=qH c1
 have hRe':=qH hRe
 rw [←hp]
 have HP:=qH hp
 have HPB:=qH hpb
 have HDB:=qH hdb
 have HN:=qH hN
 have hE:=zdn
 clear hR hri h hRe hi hp hpb hdb hN
 go_enter Tryz.func89,Tryz.ntmps89
 go_wp2_with fail
 refine zc (by kernel_rfl) (fun X=>⟨#[.pointer (some ⟨p,0,none⟩),.int .i64 ↑ix,undef,undef,.slice none 0 0,.pointer (some ⟨p,0,none⟩),.pointer (some ⟨p,0,none⟩),.pointer (some ⟨p,0,none⟩),.slice (some { block:=pb,off:=0 }) N N,.int .i64 ↑ix,.pointer (some ⟨pb,ix,none⟩),.slice none 0 0,.bool true,X 0,X 1,X 2,X 3,X 4,X 5,X 6,undef,undef,undef,undef,undef,undef,undef,undef,undef,undef,undef,undef,undef],[]⟩) (fun u v=>Kept (fun k=>k=pb) u v) (fun i v w=>match i with | 0=>(v=.pointer (some ⟨p,0,none⟩)) | 1=>(v=.pointer (some ⟨p,0,none⟩)) | 2=>(v=.pointer (some ⟨p,0,none⟩)) | 3=>(v=.slice (some ⟨pb,0,none⟩) N N) | 4=>(v=.int .i64 (ix:Int)) | 5=>(∃ q,v=.slice (some ⟨q,0,none⟩) 4096 4096∧Blk w q (zM noughts) 5∧W0≤q) | 6=>(v=.pointer (some ⟨pb,ix,none⟩)) | _=>True) (fun i=>([0,0,0,0,0,0,0,1]:List Nat).getD i 0) 1 (zjQ W0 pb ix R) _ (fun _=>undef) (fun u v w a b=>a.trans b) ?_ (by kernel_rfl) (by kernel_rfl) ((Kept.refl _ _).drew) (hRB.drew) ?_ ?_
 ·
  intro i v w w' h hb
  match i,h with
  | 0,h=>exact h
  | 1,h=>exact h
  | 2,h=>exact h
  | 3,h=>exact h
  | 4,h=>exact h
  | 5,h=>exact (let ⟨q,e,h1,h2⟩:=h;⟨q,e,h1.kept hb (by omega),h2⟩)
  | 6,h=>exact h
  | 7,h=>exact trivial
  | _+8,h=>exact trivial
 ·
  refine cQ 0 ?_ ?_
  ·
   intro X w hR ψ χ K HK
   go_simp
   exact HK.out _ _ _ rfl (Kept.refl _ _) rfl iD
  refine cQ 1 ?_ ?_
  ·
   intro X w hR ψ χ K HK
   have e0:X 0=.pointer (some ⟨p,0,none⟩):=(pS ψ 0 .data :)
   go_simp
   exact HK.out _ _ _ (by (try simp only [e0])<;>rfl) (Kept.refl _ _) rfl iD
  refine cQ 2 ?_ ?_
  ·
   intro X w hR ψ χ K HK
   have e1:X 1=.pointer (some ⟨p,0,none⟩):=(pS ψ 1 .data :)
   go_simp
   exact HK.out _ _ _ (by (try simp only [e1])<;>rfl) (Kept.refl _ _) rfl iD
  refine cQ 3 ?_ ?_
  ·
   intro X w hR ψ χ K HK
   have e2:X 2=.pointer (some ⟨p,0,none⟩):=(pS ψ 2 .data :)
   have c0:=hR.cell C0.out e0
   go_simp
   exact HK.out _ _ _ (by (try simp only [e2])<;>rfl) (Kept.refl _ _) rfl iD
  refine cQ 4 ?_ ?_
  ·
   intro X w hR ψ χ K HK
   go_simp
   exact HK.out _ _ _ rfl (Kept.refl _ _) rfl iD
  refine cQ 5 ?_ ?_
  ·
   intro X w hR ψ χ K HK
   have m1:=hmk.out w
   go_simp
   exact HK.out _ _ _ rfl (Kept.of_below (za (Below.refl _ _) _)) ⟨_,rfl,Blk.new _ _ _,by have:=hR.size;rw [HW0.out] at this;exact this⟩ (fun k _ h=>zgx W0 pb ix R _ _ _ _ h (za (Below.refl _ _) _))
  refine cQ 6 ?_ ?_
  ·
   intro X w hR ψ χ K HK
   have e3:X 3=.slice (some ⟨pb,0,none⟩) N N:=(pS ψ 3 .data :)
   have e4:X 4=.int IntKind.i64 (ix:Int):=(pS ψ 4 .data :)
   go_simp
   exact HK.out _ _ _ (by (try simp only [e3,e4])<;>rfl) (Kept.refl _ _) rfl iD
  refine cS 7 0 ?_ ?_
  ·
   intro X w hR ψ χ hst K HK
   have e6:X 6=.pointer (some ⟨pb,ix,none⟩):=(pS ψ 6 .data :)
   obtain ⟨q5,e5,hq5,hw5⟩:∃ q,X 5=Value.slice (some ⟨q,0,none⟩) 4096 4096∧Blk w q (zM noughts) 5∧W0≤q:=(pS ψ 5 .data :)
   have hst:Blk w pb R 238:=hst
   have c6:=hst.cell ix hri'.out
   have f6:=hst.free ix
   go_simp
   exact HK.out undef _ _ (by (try simp only [e6,e5])<;>rfl) ((Kept.refl (fun k=>k=pb) w).set (p:=⟨pb,ix,none⟩) (fun _=>rfl) _) trivial ⟨q5,hst.set ix _,hq5.far (p:=⟨pb,ix,none⟩) (by show q5≠pb;omega) _,hw5⟩
  exact zi.nil
 ·
  intro X1 wE hR1 hall hS1
  have hp:=HP.out
  have hpb:=HPB.out
  have hdb:=HDB.out
  have hN:=HN.out
  obtain ⟨q,h1,h2,h3⟩:∃ q,Blk wE pb (R.setIfInBounds ix (.slice (some ⟨q,0,none⟩) 4096 4096)) 238∧Blk wE q (zM noughts) 5∧W0≤q:=hS1
  clear hall
  have hr:=H.out.ram
  have hdd:=H.out.dirty
  rw [←hp] at hr
  rw [←hdb] at hdd
  have hr1:=hr.kept hR1 e0
  have hd1:=hdd.kept hR1 (Ne.symm e2)
  have hqd:q≠db:=h2.apart hd1 (by decide)
  have k1:=hR1.cell C1.out e0
  have cd:=hd1.cell ix (zdC M ix (by omega))
  have fd:=hd1.free ix
  obtain ⟨dv,hdv⟩:=qX (zaE M ix)
  rw [hdv] at cd
  have k0:(wE.setCell ⟨db,ix,none⟩ (.int .i64 1)).cell? ⟨p,0,none⟩=some (.slice (some ⟨pb,0,none⟩) N N):=(World.cell?_setCell_other _ ⟨db,ix,none⟩ ⟨p,0,none⟩ _ (fun e=>e1 (congrArg Addr.block e).symm)).trans (hR1.cell C0.out e0)
  have hP1:=h1.far (p:=⟨db,ix,none⟩) e2 (.int .i64 1)
  have kp:=hP1.cell (v:=.slice (some ⟨q,0,none⟩) 4096 4096) ix (by
   have:ix<R.size:=(Array.getElem?_eq_some_iff.1 hri'.out).1
   simp [this])
  clear hp hpb hdb hN
  go_wp2_with fail
  go_ret
  have hp:=HP.out
  have hpb:=HPB.out
  have hdb:=HDB.out
  have hN:=HN.out
  have el:M.at_ ix=noughts:=by simp [RamM.at_,hg]
  have hk2:Kept (fun k=>k=G.pb∨k=G.db) w (wE.setCell ⟨db,ix,none⟩ (.int .i64 1)):=(hR1.mono (fun k _ e=>.inl (e.trans hpb))).set (p:=⟨db,ix,none⟩) (fun _=>.inr hdb) _
  have hq3:w.heap.size≤q:=by rw [HW0.out];exact h3
  refine ⟨q,rfl,H.out.owned (by omega) ?_ ?_ ?_ ?_ hk2 (fun j hj hne sj e=>?_) (fun hd e=>?_),hk2,.inl hq3⟩
  ·
   rw [←hp]
   exact hr1.far (p:=⟨db,ix,none⟩) e1 _
  ·
   rw [←zjP,←hRe'.out,←hpb]
   exact hP1
  ·
   rw [←zfH,←hdb]
   exact hd1.set ix _
  ·
   rw [el]
   exact h2.far (p:=⟨db,ix,none⟩) hqd _
  ·
   obtain ⟨l,hl⟩:=Option.isSome_iff_exists.1 sj
   have:=(H.out.page j l hj hl).1.lt
   omega
  ·
   have:=(H.out.blank hd).lt
   omega
theorem znp (G:RamG) (M:RamM) (i:Nat) (hi:i<M.n) (w:World) (h:RamAt w G M):Calls Tryz.prog 89 #[.pointer (some ⟨G.p,0,none⟩),.int .i64 (i:Int)] w (OwnP w G M i):=by
 cases hg:M.pg i with
 | none=>exact zlJ G M i hi hg w h
 | some l=>exact zlI G M i hi (by rw [hg];rfl) w h
def zpm (w:World) (G:RamG) (M:RamM) (i:Nat) (e:Ending) (w':World):Prop:=∃ z d A c,e=.returned (.tuple #[.slice A 4096 c,.nilIface])∧RamAt w' { G with z:=z } { M with done:=d }∧Own w' w.heap.size 5 A 4096 c (M.at_ i)∧Kept (fun k=>k=G.p) w w'∧(d=true→(M.done=true∧z=G.z)∨w.heap.size≤z)
theorem zlK (G:RamG) (M:RamM) (i:Nat) (hi:i<M.n) (w:World) (h:RamAt w G M):Calls Tryz.prog 99 #[.pointer (some ⟨G.p,0,none⟩),.int .i64 (i:Int)] w (zpm w G M i):=by
 have hI:=zmT G M i hi w h
 have hA:=zmU G M i hi w h
 have hok:=h.at_ok i hi
 go_enter Tryz.func99,Tryz.ntmps99
 go_wp2_with (first | (go_at_call 161;refine hI.mono ?_;rintro e w1 ⟨rfl,rfl⟩) | (go_at_call 92;refine hA.mono ?_;rintro e w2 ⟨z,d,g,rfl,hR2,hb2,hk2,hz2⟩) | (go_at_call 129;refine (zbs _ _ _ (M.at_ i) _ (zc1 hb2 4096 hok.1 (by omega) hok.2)).mono ?_;rintro e w3 ⟨A,c,rfl,hown,hbel⟩))
 go_ret2
 exact ⟨z,d,A,c,rfl,hR2.keep hbel,hown.lower hk2.size,hk2.below_ hbel,hz2⟩
def RamM.put (M:RamM) (i:Nat) (l:List Nat):RamM:={ M with pg:=fun j=>if j=i then some l else M.pg j }
theorem RamAt.put {w w':World} {G:RamG} {M:RamM} {i:Nat} {l:List Nat} (h:RamAt w G M) (hi:i<M.n) (hs:(M.pg i).isSome=true) (hQ:Blk w' (G.q i) (zM l) 5) (hl:l.length=4096) (hb:∀ x∈l,x<256) (k:Kept (fun k=>k=G.q i) w w'):RamAt w' G (M.put i l):=by
 obtain ⟨l0,hl0⟩:=Option.isSome_iff_exists.1 hs
 have h0:=(h.page i l0 hi hl0).1
 have e1:=h.ram.apart h0 (by decide)
 have e2:=h.pages.apart h0 (by decide)
 have e3:=h.dirty.apart h0 (by decide)
 have some':∀ j,((M.put i l).pg j).isSome=true→(M.pg j).isSome=true:=fun j hj=>by
  rcases Nat.decEq j i with hne | rfl
  · simpa [RamM.put,hne] using hj
  · exact hs
 refine ⟨h.ram.kept k e1,?_,h.dirty.kept k e3,fun j m hj hm=>?_,fun hd=>(h.blank hd).kept k (fun e=>h.sepz hd i hi hs e.symm),fun a b ha hb' sa sb hne=>h.sep a b ha hb' (some' a sa) (some' b sb) hne,fun hd j hj sj=>h.sepz hd j hj (some' j sj),h.pos,h.max⟩
 ·
  have:(List.range (M.put i l).n).map (zba G (M.put i l))=(List.range M.n).map (zba G M):=by
   apply List.map_congr_left
   intro j _
   rcases Nat.decEq j i with hne | rfl
   · simp [zba,RamM.put,hne]
   · simp [zba,RamM.put,hs]
  rw [this]
  exact h.pages.kept k e2
 ·
  rcases Nat.decEq j i with hne | rfl
  ·
   have hm':M.pg j=some m:=by simpa [RamM.put,hne] using hm
   obtain ⟨h1,h2⟩:=h.page j m hj hm'
   exact ⟨h1.kept k (h.sep j i hj hi (by rw [hm'];rfl) hs hne),h2⟩
  ·
   have:l=m:=by simpa [RamM.put] using hm
   subst this
   exact ⟨hQ,hl,hb⟩
theorem RamAt.wrote {w:World} {G:RamG} {M:RamM} (h:RamAt w G M) (s:Int):RamAt (w.setCell ⟨G.p,2,none⟩ (.int .i64 s)) G { M with wr:=s }:=by
 refine ⟨?_,h.pages.far (p:=⟨G.p,2,none⟩) (h.pages.apart h.ram (by decide)) _,h.dirty.far (p:=⟨G.p,2,none⟩) (h.dirty.apart h.ram (by decide)) _,fun i l hi hl=>?_,fun hd=>(h.blank hd).far (p:=⟨G.p,2,none⟩) ((h.blank hd).apart h.ram (by decide)) _,h.sep,h.sepz,h.pos,h.max⟩
 · exact h.ram.set 2 (.int .i64 s)
 ·
  obtain ⟨h1,h2⟩:=h.page i l hi hl
  exact ⟨h1.far (p:=⟨G.p,2,none⟩) (h1.apart h.ram (by decide)) _,h2⟩
theorem RamAt.own_page {w:World} {G:RamG} {M:RamM} {i q:Nat} (h:RamAt w (G.put i q) (M.owned i)) (hi:i<M.n):Blk w q (zM (M.at_ i)) 5:=by
 have:=(h.page i (M.at_ i) hi (by simp [RamM.owned])).1
 rwa [show (G.put i q).q i=q by simp [RamG.put]] at this
theorem zbO:(Tryz.prog.info? 5).map (·.size)=some 1:=by kernel_rfl
theorem Blk.setRow {w:World} {g:Nat} {cs:Array Value} {t:TypeId} (h:Blk w g cs t) (ds:Array Value):Blk (w.setRow g ds) g ds t:=⟨setRow_heap w g _ _ t _ h.at_⟩
theorem Kept.setRow {S:Nat→Prop} {w W:World} (k:Kept S w W) {g:Nat} (hg:S g) (ds:Array Value):Kept S w (W.setRow g ds):=⟨k.os,k.tape,k.output,by have:=k.size;simpa using this,fun i hi hn=>(setRow_other W g i ds (fun e=>hn (e ▸ hg))).trans (k.block i hi hn)⟩
def SetS (G:RamG) (M:RamM) (i:Nat) (k:Nat):Prop:=k=G.p∨k=G.pb∨k=G.db∨((M.pg i).isSome=true∧k=G.q i)
theorem znq {w w2:World} {G:RamG} {b off c:Nat} {l:List Nat} {cs:List Value} (hb:Bs w (some ⟨b,off,none⟩) 4096 c l) (hk2:Kept (fun k=>k=G.pb∨k=G.db) w w2) (n1:b≠G.pb) (n2:b≠G.db) (hcg:∀ j v,cs[j]?=some v→j<4096∧v=.int .u8 ((l.getD j 0:Nat):Int)):∀ j v,cs[j]?=some v→w2.cell? ((⟨b,off,none⟩:Addr).add j)=some v:=by
 intro j v hv
 obtain ⟨hj,rfl⟩:=hcg j v hv
 obtain ⟨b',off',e',hcell⟩:=(hb.kept hk2 (fun g hg=>by cases hg;exact fun e=>e.elim n1 n2)).cells (by decide)
 cases e'
 have h:=hcell j hj
 rcases Nat.eq_zero_or_pos j with rfl | hj0
 · simpa [Addr.add] using h
 ·
  have hj1:j≠0:=by omega
  simpa [Addr.add,hj1] using h
theorem znr {w w2:World} {G:RamG} {M:RamM} {i q:Nat} {l:List Nat} (hi:i<M.n) (hR2:RamAt w2 (G.put i q) (M.owned i)) (hk2:Kept (fun k=>k=G.pb∨k=G.db) w w2) (hq2:w.heap.size≤q∨(q=G.q i∧(M.pg i).isSome=true)) (hlen:l.length=4096) (hsm:∀ x∈l,x<256):∃ w3,w2.setRow q (zM l)=w3∧RamAt w3 (G.put i q) ((M.owned i).put i l)∧Kept (SetS G M i) w w3:=by
 have hpg:=hR2.own_page hi
 have hM2:((M.owned i).pg i).isSome=true:=by simp [RamM.owned]
 have hq0:(G.put i q).q i=q:=by simp [RamG.put]
 have hk23:Kept (fun k=>k=(G.put i q).q i) w2 (w2.setRow q (zM l)):=(Kept.refl _ _).setRow (by rw [hq0]) _
 have hR3:RamAt (w2.setRow q (zM l)) (G.put i q) ((M.owned i).put i l):=hR2.put hi hM2 (by rw [hq0];exact hpg.setRow _) hlen hsm hk23
 refine ⟨_,rfl,hR3,(hk2.mono (fun k _ e=>.inr (e.elim .inl (fun e=>.inr (.inl e))))).then_ hk23 (fun k hk e=>?_)⟩
 rcases hq2 with hq2 | ⟨hq2,hs2⟩
 ·
  have e:k=(G.put i q).q i:=e
  omega
 · exact .inr (.inr (.inr ⟨hs2,by rw [←hq2,←hq0];exact e⟩))
def SetP (w:World) (G:RamG) (M:RamM) (i:Nat) (l:List Nat) (e:Ending) (w':World):Prop:=∃ q s,e=.returned .nilIface∧RamAt w' (G.put i q) { (M.owned i).put i l with wr:=s }∧Kept (SetS G M i) w w'∧(w.heap.size≤q∨(q=G.q i∧(M.pg i).isSome=true))
theorem zgy (G:RamG) (M:RamM) (i:Nat) (hi:i<M.n) (b off c:Nat) (l:List Nat) (w:World) (h:RamAt w G M) (hb:Bs w (some ⟨b,off,none⟩) 4096 c l):Calls Tryz.prog 95 #[.pointer (some ⟨G.p,0,none⟩),.int .i64 (i:Int),.slice (some ⟨b,off,none⟩) 4096 c] w (SetP w G M i l):=by
 have hI:=zmT G M i hi w h
 have hO:=znp G M i hi w h
 have n1:b≠G.pb:=fun e=>hb.apart h.pages (fun j v hv x e=>by
  obtain ⟨hj,rfl⟩:=Array.getElem?_eq_some_iff.1 hv
  simp [zba] at e
  split at e<;>cases e) (by decide) (by rw [e];rfl)
 have n2:b≠G.db:=fun e=>hb.apart h.dirty (fun j v hv x e=>by
  obtain ⟨hj,rfl⟩:=Array.getElem?_eq_some_iff.1 hv
  simp [zaE] at e) (by decide) (by rw [e];rfl)
 have hlen:=hb.len
 have hsm:=hb.small
 obtain ⟨cs,hcs⟩:∃ cs,cs=zA l:=⟨_,rfl⟩
 have HC:=qH hcs
 have hcl:cs.length=Nat.min 4096 4096:=by rw [hcs];simpa [zA] using hlen
 have hc1:∀ v∈cs,v.oneCell'=true:=by
  rw [hcs]
  intro v hv
  obtain ⟨x,_,rfl⟩:=List.mem_map.1 hv
  rfl
 have hcg:∀ j v,cs[j]?=some v→j<4096∧v=.int .u8 ((l.getD j 0:Nat):Int):=fun j v hv=>by
  rw [hcs] at hv
  simp only [zA,List.getElem?_map,Option.map_eq_some_iff] at hv
  obtain ⟨x,hx,rfl⟩:=hv
  refine ⟨?_,by rw [List.getD_eq_getElem?_getD,hx];rfl⟩
  have:=(List.getElem?_eq_some_iff.1 hx).1
  omega
 have hal:(zM (M.at_ i)).size=4096:=by
  have:=(h.at_ok i hi).1
  simpa [zM] using this
 have hrow:∀ R:Array Value,R.size=4096→(R.toList.take 0++(cs++R.toList.drop (0+cs.length))).toArray=zM l:=fun R hR=>by
  have e:cs.length=4096:=hcl
  rw [e,show R.toList.drop (0+4096)=[] from List.drop_eq_nil_of_le (by simp [hR]),hcs]
  simp [zM,zA]
 obtain ⟨s,hs⟩:∃ s,∀ w,(Op.intArith .add .i64 M.wr 1).run Tryz.prog w=.ok (.int .i64 s) w:=⟨_,fun w=>by simp [go_sem];rfl⟩
 have HS:=qH hs
 clear hcs hs
 go_enter Tryz.func95,Tryz.ntmps95
 go_wp2_with (first | (go_at_call 161;refine hI.mono ?_;rintro e w1 ⟨rfl,rfl⟩) | (go_at_call 89;refine hO.mono ?_;rintro e w2 ⟨q,rfl,hR2,hk2,hq2⟩;have hpg:=hR2.own_page hi) | (refine wpList_copy_own rfl (.tmp 20) (.tmp 21) 238 65 rfl 5 Tryz.underlying238 zbO q 0 4096 4096 ⟨b,off,none⟩ 4096 c rfl rfl (zM (M.at_ i)) 5 hpg.at_ cs hcl (znq hb hk2 n1 n2 hcg) (by rw [hal,hcl];decide) hc1 ?_;rw [hrow _ hal];obtain ⟨w3,e3,hR3,hk3⟩:=znr hi hR2 hk2 hq2 hlen hsm;rw [e3];have hadd:(callFunc 158 #[.pointer (some ⟨G.p,2,none⟩),.int .i64 1]).run Tryz.prog w3=.ok (.value (.int .i64 s)) (w3.setCell ⟨G.p,2,none⟩ (.int .i64 s)):=run_call_add (P:=Tryz.prog) Tryz.func158 (by kernel_rfl) (by kernel_rfl) (by kernel_rfl) .i64 (by kernel_rfl) (y:=1) (s:=s) (hR3.ram.cell 2 (v:=.int .i64 M.wr) rfl) (hR3.ram.free 2) (HS.out _);clear hpg hR2 hk2 e3) | (go_at_call 90;go_in) | fail)
 go_ret
 exact ⟨q,s,rfl,hR3.wrote s,hk3.set (p:=⟨G.p,2,none⟩) (fun _=>.inl rfl) _,hq2⟩
def z7 (l:List Nat):Bool:=l.any (fun x=>x != 0)
theorem holds_no {l:List Nat} (h:∀ j,j<l.length→l.getD j 0=0):z7 l=false:=by
 unfold z7
 rw [List.any_eq_false]
 intro x hx
 obtain ⟨j,hj,rfl⟩:=List.mem_iff_getElem.1 hx
 have:=h j hj
 rw [List.getD_eq_getElem?_getD,List.getElem?_eq_getElem hj] at this
 simpa using this
theorem zjR {l:List Nat} {j:Nat} (hj:j<l.length) (h:l.getD j 0≠0):z7 l=true:=by
 unfold z7
 rw [List.any_eq_true]
 refine ⟨l[j],List.getElem_mem hj,?_⟩
 rw [List.getD_eq_getElem?_getD,List.getElem?_eq_getElem hj] at h
 simpa using h
theorem zbP (A:Option Addr) (n c:Nat) (l:List Nat) (w:World) (hb:Bs w A n c l):Calls Tryz.prog 94 #[.slice A n c] w fun e w'=>e=.returned (.bool (z7 l))∧w=w':=by
 have hlen:=hb.len
 have hmax:=hb.max
 go_enter Tryz.func94,Tryz.ntmps94
 go_wp2_with fail
 go_loopw [4,7] (fun _ i wr=>∃ k:Nat,k≤n∧i=.int .i64 k∧(∀ j,j<k→l.getD j 0=0)∧w=wr) (fun _ i _=>n-(intOf i).toNat)
 case atStart=>exact ⟨0,Nat.zero_le _,rfl,fun j hj=>absurd hj (by omega),rfl⟩
 case round =>
  obtain ⟨k,hk,rfl,hz,rfl⟩:=hrel
  by_cases hlt:k<n
  ·
   obtain ⟨b,off,rfl,hcell⟩:=hb.cells (by omega)
   have hc:=hcell k hlt
   obtain ⟨x,hx⟩:=qX (l.getD k 0)
   rw [hx] at hc
   have Hx:=qH hx
   clear hx hcell
   have hkn:(k:Int)<(n:Int):=by omega
   by_cases hx0:x=0
   ·
    subst hx0
    go_wp2_with fail
    go_roundw
    case rel =>
     refine ⟨k+1,by omega,by go_num,fun j hj=>?_,by first | exact trivial | rfl⟩
     rcases Nat.lt_or_ge j k with h | h
     · exact hz j h
     ·
      obtain rfl:j=k:=by omega
      exact Hx.out
    case measure=>simp [intOf];omega
   ·
    have hxi:¬ ((x:Int)=0):=by omega
    go_wp2_with fail
    go_ret
    rw [zjR (j:=k) (by omega) (by rw [Hx.out];exact hx0)]
    exact ⟨rfl,rfl⟩
  ·
   have hk':k=n:=by omega
   subst hk'
   clear hlt
   go_wp2_with fail
   go_ret
   rw [holds_no (by rw [hlen];exact hz)]
   exact ⟨rfl,rfl⟩
def zbQ (M:RamM) (i:Nat):List Nat:=if z7 (M.at_ i) then Tl.le 4 i++M.at_ i else []
def zaL (M:RamM) (k:Nat):List Nat:=(List.range k).flatMap (zbQ M)
def countB (M:RamM) (k:Nat):Nat:=((List.range k).filter (fun i=>z7 (M.at_ i))).length
def zN (M:RamM):List Nat:=Tl.le 4 (countB M M.n)++zaL M M.n
theorem za5 (M:RamM) (k:Nat):zaL M (k+1)=zaL M k++zbQ M k:=by simp [zaL,List.range_succ]
theorem zbb (M:RamM) (k:Nat):countB M (k+1)=countB M k+(if z7 (M.at_ k) then 1 else 0):=by
 unfold countB
 rw [List.range_succ,List.filter_append,List.length_append]
 congr 1
 cases h:z7 (M.at_ k)<;>simp [h]
theorem zjS (M:RamM) (k:Nat):countB M k≤k:=by
 have:=List.length_filter_le (fun i=>z7 (M.at_ i)) (List.range k)
 simpa [countB] using this
theorem zd1 (M:RamM) (hl:∀ i,i<M.n→(M.at_ i).length=4096):∀ k,k≤M.n→(zaL M k).length≤4100*k
 | 0,_=>by simp [zaL]
 | k+1,hk=>by
  have:=zd1 M hl k (by omega)
  have h1:=hl k (by omega)
  rw [za5,List.length_append]
  unfold zbQ
  split<;>simp [Tl.le_length]<;>omega
theorem zow {B g n:Nat} {r:Option Nat} {l:List Nat} {w:World} (h:OutAt w B g r l) (hn:l.length=n):Calls Tryz.prog 49 #[.pointer (some ⟨g,0,none⟩)] w (zlu w n l):=by
 subst hn
 exact zdN B g r l w h
theorem le4 (k:Nat):([]++Tl.le 4 k:List Nat).length=4:=by simp [Tl.le_length]
theorem zlL (w:World):Calls Tryz.prog 48 #[] w (NewO w) :=
 (zeD w).mono (by
  rintro e w' ⟨rfl,rfl⟩
  exact ⟨rfl,OutAt.new w _ (Nat.le_refl _),za (Below.refl _ _) _⟩)
theorem RamAt.has_lt {w:World} {G:RamG} {M:RamM} (h:RamAt w G M) {j:Nat} (hj:G.has M j):j<w.heap.size:=by
 rcases hj with e | e | e | ⟨hd,e⟩ | ⟨i,hi,hs,e⟩
 · rw [e];exact h.ram.lt
 · rw [e];exact h.pages.lt
 · rw [e];exact h.dirty.lt
 · rw [e];exact (h.blank hd).lt
 ·
  obtain ⟨l,hl⟩:=Option.isSome_iff_exists.1 hs
  rw [e];exact (h.page i l hi hl).1.lt
theorem zhv (w:World):Calls Tryz.prog 48 #[] w fun e w'=>∃ g,e=.returned (.pointer (some ⟨g,0,none⟩))∧OutAt w' w.heap.size g none []∧Below w.heap.size w w' :=
 (zlL w).mono (by
  rintro e w' ⟨rfl,h1,h2⟩
  exact ⟨_,rfl,h1,h2⟩)
theorem zns {w2 w4 w5 w6:World} {g:Nat} {l:List Nat} (hb4:Below w2.heap.size w2 w4) (ho4:OutAt w4 w2.heap.size g none l) (hk5:Kept (inOut g none) w4 w5) (hb6:Below w5.heap.size w5 w6):Below w2.heap.size w2 w6 :=
 zb (zQ hb4 hk5 (fun i hi e=>by
  rcases e with e | e
  ·
   have:=ho4.ge
   omega
  · cases e)) hb6
structure PagesR (w:World) (G:RamG) (M:RamM) (g0:Nat) (l:List Nat) (A:Option Addr) (n c z:Nat) (d:Bool) (wr:World):Prop where
 own:Own wr w.heap.size 5 A n c l
 ram:RamAt wr { G with z:=z } { M with done:=d }
 out:OutAt wr w.heap.size g0 none []
 far:∀ j,({ G with z:=z } : RamG).has { M with done:=d } j→A.map (·.block)≠some j
 ne:A.map (·.block)≠some g0
 keep:Kept (fun k=>k=G.p) w wr
theorem PagesR.page {w:World} {G:RamG} {M:RamM} {g0:Nat} {l:List Nat} {A:Option Addr} {n c z:Nat} {d:Bool} {wr:World} (h:PagesR w G M g0 l A n c z d wr) {z':Nat} {d':Bool} {w1:World} (hR:RamAt w1 { G with z:=z' } { M with done:=d' }) (hk:Kept (fun k=>k=G.p) wr w1) (hz:d'=true→(d=true∧z'=z)∨wr.heap.size≤z') (hp:G.p<w.heap.size):PagesR w G M g0 l A n c z' d' w1:=by
 have hge:=h.own.ge
 refine ⟨h.own.kept hk (fun b hb e=>?_),hR,h.out.kept hk ?_ (fun b hb=>by cases hb),fun j hj e=>?_,h.ne,h.keep.trans hk⟩
 ·
  have:=(hge b hb).1
  have e:b=G.p:=e
  omega
 ·
  have:=h.out.ge
  show ¬ g0=G.p
  omega
 ·
  have hlt:=(hge j e).2
  rcases hj with hj | hj | hj | ⟨hd,hj⟩ | ⟨i,hi,hs,hj⟩
  · exact h.far j (.inl hj) e
  · exact h.far j (.inr (.inl hj)) e
  · exact h.far j (.inr (.inr (.inl hj))) e
  ·
   have hj:j=z':=hj
   rcases hz hd with ⟨hd0,hz0⟩ | hz0
   · exact h.far j (.inr (.inr (.inr (.inl ⟨hd0,hj.trans hz0⟩)))) e
   · omega
  · exact h.far j (.inr (.inr (.inr (.inr ⟨i,hi,hs,hj⟩)))) e
theorem PagesR.below {w:World} {G:RamG} {M:RamM} {g0:Nat} {l:List Nat} {A:Option Addr} {n c z:Nat} {d:Bool} {wr:World} (h:PagesR w G M g0 l A n c z d wr) {w1:World} (hb:Below wr.heap.size wr w1):PagesR w G M g0 l A n c z d w1 :=
 ⟨h.own.keep hb,h.ram.keep hb,h.out.keep hb,h.far,h.ne,h.keep.below_ hb⟩
theorem PagesR.grow {w:World} {G:RamG} {M:RamM} {g0:Nat} {l l1:List Nat} {A A1:Option Addr} {n c n1 c1 z:Nat} {d:Bool} {wr w1:World} (h:PagesR w G M g0 l A n c z d wr) (hown:Own w1 w.heap.size 5 A1 n1 c1 l1) (hg:wr.grownBy w1 (A.map (·.block))) (hat:A1.map (·.block)=A.map (·.block)∨A1.map (·.block)=some wr.heap.size):PagesR w G M g0 l1 A1 n1 c1 z d w1:=by
 have hk:Kept (fun k=>A.map (·.block)=some k) wr w1:=Kept.of_grown hg (fun k _ e=>e)
 refine ⟨hown,h.ram.kept hk (fun j hj e=>h.far j hj e),h.out.kept hk h.ne (fun b hb=>by cases hb),fun j hj e=>?_,fun e=>?_,h.keep.grown_ hg (fun k hk e=>absurd (h.own.ge k e).1 (by omega))⟩
 ·
  rcases hat with hat | hat
  · exact h.far j hj (hat ▸ e)
  ·
   have:=h.ram.has_lt hj
   rw [hat] at e
   have:=Option.some.inj e
   omega
 ·
  rcases hat with hat | hat
  · exact h.ne (hat ▸ e)
  ·
   have:=h.out.lt
   rw [hat] at e
   have:=Option.some.inj e
   omega
theorem RamAt.not_out {w:World} {G:RamG} {M:RamM} (h:RamAt w G M) {g:Nat} {cs:Array Value} (hg:Blk w g cs 281) {j:Nat} (hj:G.has M j):j≠g:=by
 rcases hj with e | e | e | ⟨hd,e⟩ | ⟨i,hi,hs,e⟩
 · rw [e];exact h.ram.apart hg (by decide)
 · rw [e];exact h.pages.apart hg (by decide)
 · rw [e];exact h.dirty.apart hg (by decide)
 · rw [e];exact (h.blank hd).apart hg (by decide)
 ·
  obtain ⟨l,hl⟩:=Option.isSome_iff_exists.1 hs
  rw [e];exact (h.page i l hi hl).1.apart hg (by decide)
theorem PagesR.last {w:World} {G:RamG} {M:RamM} {g0:Nat} {l:List Nat} {A:Option Addr} {n c z:Nat} {d:Bool} {wr w1:World} (h:PagesR w G M g0 l A n c z d wr) (hk:Kept (inOut g0 none) wr w1):Own w1 w.heap.size 5 A n c l∧RamAt w1 { G with z:=z } { M with done:=d }∧Kept (fun k=>k=G.p) w w1:=by
 obtain ⟨A0,n0,c0,hB,_,_⟩:=h.out.at_
 refine ⟨h.own.kept hk (fun b hb e=>?_),h.ram.kept hk (fun j hj e=>?_),h.keep.then_ hk (fun i hi e=>?_)⟩
 ·
  rcases e with e | e
  · exact h.ne (e ▸ hb)
  · cases e
 ·
  rcases e with e | e
  · exact h.ram.not_out hB hj e
  · cases e
 ·
  rcases e with e | e
  ·
   have:=h.out.ge
   omega
  · cases e
def zox (w:World) (G:RamG) (M:RamM) (e:Ending) (w':World):Prop:=∃ A n c z d,e=.returned (.slice A n c)∧Own w' w.heap.size 5 A n c (zN M)∧RamAt w' { G with z:=z } { M with done:=d }∧Kept (fun k=>k=G.p) w w'
theorem zjT (G:RamG) (M:RamM) (z:Nat) (d:Bool) (i:Nat) (hi:i<M.n) (w:World) (h:RamAt w { G with z:=z } { M with done:=d }):Calls Tryz.prog 99 #[.pointer (some ⟨G.p,0,none⟩),.int .i64 (i:Int)] w fun e w'=>∃ z' d' A c,e=.returned (.tuple #[.slice A 4096 c,.nilIface])∧RamAt w' { G with z:=z' } { M with done:=d' }∧Own w' w.heap.size 5 A 4096 c (M.at_ i)∧Kept (fun k=>k=G.p) w w'∧(d'=true→(d=true∧z'=z)∨w.heap.size≤z'):=zlK { G with z:=z } { M with done:=d } i hi w h
theorem zip (G:RamG) (M:RamM) (z:Nat) (d:Bool) (w:World) (h:RamAt w { G with z:=z } { M with done:=d }):Calls Tryz.prog 98 #[.pointer (some ⟨G.p,0,none⟩)] w fun e w'=>e=.returned (.int .i64 (M.n:Int))∧w=w':=zfG { G with z:=z } { M with done:=d } w h
theorem zcG (G:RamG) (M:RamM) (w:World) (h:RamAt w G M):Calls Tryz.prog 30 #[.pointer (some ⟨G.p,0,none⟩)] w (zox w G M):=by
 have hp:=h.ram.lt
 have hmax:=h.max
 have hal:∀ i,i<M.n→(M.at_ i).length=4096:=fun i hi=>(h.at_ok i hi).1
 have hbl:=zd1 M hal
 have hO:=zhv w
 go_enter Tryz.func30,Tryz.ntmps30
 go_wp2_with (first | (go_at_call 48;refine hO.mono ?_;rintro e w1 ⟨g0,rfl,ho1,hb1⟩) | (go_at_call 98;refine (zip G M G.z M.done _ (h.keep hb1)).mono ?_;rintro e w2 ⟨rfl,rfl⟩) | fail)
 have h0:PagesR w G M g0 [] none 0 0 G.z M.done w1:=⟨Own.nil _ _ _,h.keep hb1,ho1,(fun j _ e=>by cases e),(fun e=>by cases e),Kept.of_below hb1⟩
 go_loopw [4,5,6,7,8,14] (fun ct bd _ _ _ i wr=>∃ (k n c z:Nat) (A:Option Addr) (d:Bool),k≤M.n∧i=.int .i64 (k:Int)∧ct=.int .i64 ((countB M k:Nat):Int)∧bd=.slice A n c∧PagesR w G M g0 (zaL M k) A n c z d wr) (fun _ _ _ _ _ i _=>M.n-(intOf i).toNat)
 case atStart=>exact ⟨0,0,0,G.z,none,M.done,Nat.zero_le _,rfl,rfl,rfl,h0⟩
 case round =>
  obtain ⟨k,n,c,z,A,d,hk,rfl,rfl,rfl,hR⟩:=hrel
  have hcl:=zjS M k
  have hcs:=zbb M k
  have hbs:=za5 M k
  have hbk:=hbl k hk
  have hnl:=hR.own.len
  by_cases hlt:k<M.n
  ·
   have hal':=hal k hlt
   have hkn:(k:Int)<(M.n:Int):=by omega
   have hP:=zjT G M z d k hlt wr hR.ram
   cases hh:z7 (M.at_ k) with
   | false =>
    have hsame:countB M (k+1)=countB M k:=by rw [hcs,hh];rfl
    have hsameB:zaL M (k+1)=zaL M k:=by rw [hbs];simp [zbQ,hh]
    have Hc:=qH hsame
    have Hb:=qH hsameB
    have HH:=qH hh
    obtain ⟨ct,hct⟩:=qX (countB M k)
    rw [hct]
    clear hsame hsameB hcs hbs hbk hnl hh hcl hal'
    go_wp2_with (first | (go_at_call 99;refine hP.mono ?_;rintro e w2 ⟨z',d',A7,c7,rfl,hR2,hown2,hk2,hz2⟩) | (go_at_call 94;refine (zbP _ _ _ _ _ hown2.bs).mono ?_;rintro e w3 ⟨rfl,rfl⟩;rw [HH.out]) | fail)
    go_roundw
    case rel =>
     refine ⟨k+1,n,c,z',A,d',by omega,by go_num,by rw [Hc.out,hct],rfl,?_⟩
     rw [Hb.out]
     exact hR.page hR2 hk2 hz2 hp
    case measure=>simp [intOf];omega
   | true =>
    have hsame:countB M (k+1)=countB M k+1:=by rw [hcs,hh];rfl
    have hsameB:zaL M (k+1)=zaL M k++([]++Tl.le 4 k)++M.at_ k:=by rw [hbs];simp [zbQ,hh]
    have Hc:=qH hsame
    have Hb:=qH hsameB
    have HH:=qH hh
    have hnk:n≤4100*k:=by omega
    have hu:=zY k (by omega)
    obtain ⟨ct,hct⟩:=qX (countB M k)
    have hck:ct≤16384:=by omega
    rw [hct]
    have Hct:=qH hct
    obtain ⟨bl,hbl'⟩:∃ bl,bl=zaL M k:=⟨_,rfl⟩
    rw [←hbl'] at hR
    have Hbl:=qH hbl'
    clear hsame hsameB hcs hbs hbk hnl hh hcl hal' hct hbl'
    go_wp2_with (first
     | (go_at_call 99;refine hP.mono ?_;rintro e w2 ⟨z',d',A7,c7,rfl,hR2,hown2,hk2,hz2⟩)
     | (go_at_call 94;refine (zbP _ _ _ _ _ hown2.bs).mono ?_;rintro e w3 ⟨rfl,rfl⟩;rw [HH.out])
     | (go_at_call 48;refine (zhv _).mono ?_;rintro e w4 ⟨g,rfl,ho4,hb4⟩)
     | (go_at_call 50;refine (zdA _ g none [] k 4 _ ho4 (by omega) (by omega) (by omega) (by simp)).mono ?_;rintro e w5 ⟨r5,rfl,ho5,hk5,hat5⟩)
     | (go_at_call 49;(refine (zow ho5 (le4 k)).mono ?_;rintro e w6 ⟨A6,c6,rfl,hown6,hb6⟩;have hB6:=zns hb4 ho4 hk5 hb6;have hR6:=(hR.page hR2 hk2 hz2 hp).below hB6;have hpg6:=(hown2.keep hB6).bs))
     | (at_builtin;refine zaO rfl (.tmp 31) (.tmp 36) 65 5 rfl Tryz.underlying65 Tryz.info5 w.heap.size A n c bl A6 4 c6 ([]++Tl.le 4 k) (n+4) rfl rfl rfl hR6.own hown6.bs hR6.keep.size (by omega) ?_;intro A8 c8 w8 hown8 hg8 hat8;have hR8:=hR6.grow hown8 hg8 hat8;have hpg8:=hpg6.grown hg8 (fun q hq e=>by have:=(hR.own.ge q hq).2;have:=(hown2.ge q e).1;omega))
     | (at_builtin;refine zaO rfl (.tmp 37) (.tmp 38) 65 5 rfl Tryz.underlying65 Tryz.info5 w.heap.size A8 (n+4) c8 (bl++([]++Tl.le 4 k)) A7 4096 c7 (M.at_ k) (n+4+4096) rfl rfl rfl hR8.own hpg8 hR8.keep.size (by omega) ?_;intro A9 c9 w9 hown9 hg9 hat9;have hR9:=hR8.grow hown9 hg9 hat9)
     | fail)
    go_roundw
    case rel =>
     refine ⟨k+1,n+4+4096,c9,z',A9,d',by omega,by go_num,by rw [Hc.out,Hct.out];go_num,rfl,?_⟩
     rw [Hb.out,←Hbl.out]
     exact hR9
    case measure=>simp [intOf];omega
  ·
   obtain rfl:k=M.n:=by omega
   obtain ⟨ct,hct⟩:=qX (countB M M.n)
   have hck:ct≤16384:=by omega
   have hnk:n≤4100*M.n:=by omega
   have hu:=zY ct (by omega)
   have Hpg:Hid (zN M=[]++Tl.le 4 ct++zaL M M.n):=qH (by simp [zN,hct])
   obtain ⟨bl,hbl'⟩:∃ bl,bl=zaL M M.n:=⟨_,rfl⟩
   rw [←hbl'] at hR
   have Hbl:=qH hbl'
   rw [hct]
   clear hcs hbs hbk hnl hcl hct hbl' hlt
   go_wp2_with (first
     | (go_at_call 50;refine (zdA _ g0 none [] ct 4 _ hR.out (by omega) (by omega) (by omega) (by simp)).mono ?_;rintro e w5 ⟨r5,rfl,ho5,hk5,hat5⟩;obtain ⟨hl1,hl2,hl3⟩:=hR.last hk5)
     | (go_at_call 49;refine (zow ho5 (le4 ct)).mono ?_;rintro e w6 ⟨A6,c6,rfl,hown6,hb6⟩;have hbd6:=(hl1.keep hb6).bs;have hw6:=hl3.below_ hb6)
     | (at_builtin;refine zaO rfl (.tmp 45) (.tmp 46) 65 5 rfl Tryz.underlying65 Tryz.info5 w5.heap.size A6 4 c6 ([]++Tl.le 4 ct) A n c bl (4+n) rfl rfl rfl hown6 hbd6 hb6.size (by omega) ?_;intro A8 c8 w8 hown8 hg8 hat8;have hb8:=zaJ hb6 hg8 (fun q hq=>(hown6.ge q hq).1))
     | fail)
   go_ret
   refine ⟨A8,4+n,c8,z,d,rfl,?_,hl2.keep hb8,hl3.below_ hb8⟩
   rw [Hpg.out,←Hbl.out]
   exact hown8.lower hl3.size
section
variable {P:Program}
end
theorem zjU (G:RamG) (M:RamM) (z:Nat) (d:Bool) (i:Nat) (hi:i<M.n) (w:World) (h:RamAt w { G with z:=z } { M with done:=d }):Calls Tryz.prog 92 #[.pointer (some ⟨G.p,0,none⟩),.int .i64 (i:Int)] w fun e w'=>∃ z' d' g,e=.returned (.slice (some ⟨g,0,none⟩) 4096 4096)∧RamAt w' { G with z:=z' } { M with done:=d' }∧Blk w' g (zM (M.at_ i)) 5∧Kept (fun k=>k=G.p) w w'∧(d'=true→(d=true∧z'=z)∨w.heap.size≤z'):=zmU { G with z:=z } { M with done:=d } i hi w h
structure ReadR (w:World) (G:RamG) (M:RamM) (l:List Nat) (A:Option Addr) (n c z:Nat) (d:Bool) (wr:World):Prop where
 own:Own wr w.heap.size 5 A n c l
 ram:RamAt wr { G with z:=z } { M with done:=d }
 far:∀ j,({ G with z:=z } : RamG).has { M with done:=d } j→A.map (·.block)≠some j
 keep:Kept (fun k=>k=G.p) w wr
theorem ReadR.page {w:World} {G:RamG} {M:RamM} {l:List Nat} {A:Option Addr} {n c z:Nat} {d:Bool} {wr:World} (h:ReadR w G M l A n c z d wr) {z':Nat} {d':Bool} {w1:World} (hR:RamAt w1 { G with z:=z' } { M with done:=d' }) (hk:Kept (fun k=>k=G.p) wr w1) (hz:d'=true→(d=true∧z'=z)∨wr.heap.size≤z') (hp:G.p<w.heap.size):ReadR w G M l A n c z' d' w1:=by
 have hge:=h.own.ge
 refine ⟨h.own.kept hk (fun b hb e=>?_),hR,fun j hj e=>?_,h.keep.trans hk⟩
 ·
  have:=(hge b hb).1
  have e:b=G.p:=e
  omega
 ·
  have hlt:=(hge j e).2
  rcases hj with hj | hj | hj | ⟨hd,hj⟩ | ⟨i,hi,hs,hj⟩
  · exact h.far j (.inl hj) e
  · exact h.far j (.inr (.inl hj)) e
  · exact h.far j (.inr (.inr (.inl hj))) e
  ·
   have hj:j=z':=hj
   rcases hz hd with ⟨hd0,hz0⟩ | hz0
   · exact h.far j (.inr (.inr (.inr (.inl ⟨hd0,hj.trans hz0⟩)))) e
   · omega
  · exact h.far j (.inr (.inr (.inr (.inr ⟨i,hi,hs,hj⟩)))) e
theorem ReadR.below {w:World} {G:RamG} {M:RamM} {l:List Nat} {A:Option Addr} {n c z:Nat} {d:Bool} {wr:World} (h:ReadR w G M l A n c z d wr) {w1:World} (hb:Below wr.heap.size wr w1):ReadR w G M l A n c z d w1 :=
 ⟨h.own.keep hb,h.ram.keep hb,h.far,h.keep.below_ hb⟩
theorem ReadR.grow {w:World} {G:RamG} {M:RamM} {l l1:List Nat} {A A1:Option Addr} {n c n1 c1 z:Nat} {d:Bool} {wr w1:World} (h:ReadR w G M l A n c z d wr) (hown:Own w1 w.heap.size 5 A1 n1 c1 l1) (hg:wr.grownBy w1 (A.map (·.block))) (hat:A1.map (·.block)=A.map (·.block)∨A1.map (·.block)=some wr.heap.size):ReadR w G M l1 A1 n1 c1 z d w1:=by
 have hk:Kept (fun k=>A.map (·.block)=some k) wr w1:=Kept.of_grown hg (fun k _ e=>e)
 refine ⟨hown,h.ram.kept hk (fun j hj e=>h.far j hj e),fun j hj e=>?_,h.keep.grown_ hg (fun k hk e=>absurd (h.own.ge k e).1 (by omega))⟩
 ·
  rcases hat with hat | hat
  · exact h.far j hj (hat ▸ e)
  ·
   have:=h.ram.has_lt hj
   rw [hat] at e
   have:=Option.some.inj e
   omega
def zaZ (M:RamM) (k:Nat):List Nat:=(List.range k).filter M.dirty
theorem zgz (M:RamM) (k:Nat):zaZ M (k+1)=zaZ M k++(if M.dirty k then [k] else []):=by
 unfold zaZ
 rw [List.range_succ,List.filter_append]
 congr 1
 cases h:M.dirty k<;>simp [h]
theorem ziq (M:RamM) (k:Nat):(zaZ M k).length≤k:=by
 have:=List.length_filter_le M.dirty (List.range k)
 simpa [zaZ] using this
def zlM (l:List Nat):List Value:=l.map fun x=>Value.int .i64 ((x:Nat):Int)
def zoy (w:World) (l:List Nat) (e:Ending) (w':World):Prop:=∃ A c,e=.returned (.slice A l.length c)∧w'.ownsRow w.heap.size 3 1 (.slice A l.length c) l.length (zlM l)∧Below w.heap.size w w'
theorem zir {w:World} {base n:Nat} {e:TypeId} {v:Value} {xs:List Value} (h:w.ownsRow base e 1 v n xs):∃ A c,v=.slice A n c:=by
 rcases h.2 with ⟨rfl,hn⟩ | ⟨g,cap,cur,rfl,_⟩
 · exact ⟨none,0,by rw [hn]⟩
 · exact ⟨_,_,rfl⟩
theorem zjV (G:RamG) (M:RamM) (w:World) (h:RamAt w G M):Calls Tryz.prog 32 #[.pointer (some ⟨G.p,0,none⟩)] w (zoy w (zaZ M M.n)):=by
 have hm:=h.max
 have c1:w.cell? ⟨G.p,1,none⟩=some (.slice (some ⟨G.db,0,none⟩) M.n M.n):=h.ram.cell 1 rfl
 have hD:=h.dirty
 obtain ⟨i0,hi,hz⟩:=Option.map_eq_some_iff.1 Tryz.info3'
 simp only [Prod.mk.injEq] at hz
 obtain ⟨hz0,hz1,hz2⟩:=hz
 go_enter Tryz.func32,Tryz.ntmps32
 go_wp2_with fail
 go_loopw [3,4,5,13] (fun bd _ _ i wr=>∃ (k n c:Nat) (A:Option Addr),k≤M.n∧n=(zaZ M k).length∧i=.int .i64 (k:Int)∧bd=.slice A n c∧wr.ownsRow w.heap.size 3 1 (.slice A n c) n (zlM (zaZ M k))∧Below w.heap.size w wr) (fun _ _ _ i _=>M.n-(intOf i).toNat)
 case atStart=>exact ⟨0,0,0,none,Nat.zero_le _,rfl,rfl,rfl,World.ownsRow_nil w _ _ 1,Below.refl _ _⟩
 case round =>
  obtain ⟨k,n,c,A,hk,hn,rfl,rfl,hown,hbel⟩:=hrel
  have hln:=ziq M k
  have hsucc:=zgz M k
  by_cases hlt:k<M.n
  ·
   have hkn:(k:Int)<(M.n:Int):=by omega
   have hc:=(hD.keep hbel).cell k (zdC M k hlt)
   cases hdk:M.dirty k with
   | false =>
    have hv:zaE M k=.int .i64 0:=by simp [zaE,hdk]
    rw [hv] at hc
    have hs:zaZ M (k+1)=zaZ M k:=by rw [hsucc,hdk];simp
    have Hs:=qH hs
    clear hs hsucc hv hdk
    go_wp2_with fail
    go_roundw
    case rel=>exact ⟨k+1,n,c,A,by omega,by rw [Hs.out];exact hn,by go_num,rfl,by rw [Hs.out];exact hown,hbel⟩
    case measure=>simp [intOf];omega
   | true =>
    have hv:zaE M k=.int .i64 1:=by simp [zaE,hdk]
    rw [hv] at hc
    have hs:zaZ M (k+1)=zaZ M k++[k]:=by rw [hsucc,hdk];simp
    have Hs:=qH hs
    obtain ⟨xs,hxs⟩:∃ xs,xs=zlM (zaZ M k):=⟨_,rfl⟩
    rw [←hxs] at hown
    have Hx:=qH hxs
    have Hn:=qH hn
    have hn26:n≤16384:=by omega
    clear hs hsucc hv hdk hxs hn hln
    go_wp2_with (first
     | (at_builtin;refine wpList_append_own _ rfl (.tmp 20) (.tmp 22) 132 rfl w.heap.size 3 i0 (.int .i64 0) 1 8 Tryz.underlying132 hi hz0 hz1 hz2 rfl (by decide) _ n xs rfl (hown.alloc _) ⟨wr.heap.size,0,none⟩ 1 1 [.int .i64 (k:Int)] rfl rfl (cell_one_new _ _ _) (fun u hu=>by cases List.mem_singleton.1 hu;rfl) (by unfold maxLen;omega) (by omega) (by have:=hbel.size;simp;omega) ?_;intro v1 w1 hown1 hg1 hnil1;obtain ⟨A1,k1,rfl⟩:=zir hown1;have hb1:=zaJ (za hbel _) hg1 (fun q hq=>(hown.lt q hq).1))
     | fail)
    go_roundw
    case rel=>exact ⟨k+1,n+1,k1,A1,by omega,by rw [Hs.out,List.length_append,Hn.out];rfl,by go_num,rfl,by rw [Hs.out];simpa [zlM,Hx.out] using hown1,hb1⟩
    case measure=>simp [intOf];omega
  ·
   obtain rfl:k=M.n:=by omega
   obtain ⟨l,hl⟩:∃ l,l=zaZ M M.n:=⟨_,rfl⟩
   rw [←hl] at hn hown
   have Hl:=qH hl
   clear hsucc hln hlt hl
   subst hn
   go_wp2_with fail
   go_ret
   rw [←Hl.out]
   exact ⟨A,c,rfl,hown,hbel⟩
theorem Kept.setCells {S:Nat→Prop} {w:World} {g:Nat} (hg:S g):∀ (vs:List Value) (o:Nat) (W:World),Kept S w W→Kept S w (W.setCells g o vs)
 | [],o,W,k=>k
 | v::r,o,W,k=>Kept.setCells hg r (o+1) _ (k.set (p:=⟨g,o,none⟩) (fun _=>hg) v)
theorem Blk.cleared {g:Nat} {t:TypeId} (z:Value):∀ (m o:Nat) (W:World) (cs:Array Value),Blk W g cs t→cs.size=o+m→(∀ j,j<o→cs[j]?=some z)→Blk (W.setCells g o (List.replicate m z)) g (Array.replicate (o+m) z) t
 | 0,o,W,cs,h,hs,hz=>by
  have:cs=Array.replicate (o+0) z:=by
   apply Array.ext
   · simp [hs]
   ·
    intro j h1 h2
    have:=hz j (by omega)
    rw [Array.getElem?_eq_getElem h1] at this
    simpa using this
  rw [←this]
  exact h
 | m+1,o,W,cs,h,hs,hz=>by
  have:=Blk.cleared z m (o+1) _ _ (h.set o z) (by simp;omega) (fun j hj=>by
   rcases Nat.lt_or_ge j o with hlt | hge
   ·
    rw [Array.getElem?_setIfInBounds_ne (by omega)]
    exact hz j hlt
   ·
    obtain rfl:j=o:=by omega
    rw [Array.getElem?_setIfInBounds_self_of_lt (by omega)])
  rw [show o+(m+1)=o+1+m by omega]
  exact this
theorem zlN (w:World):(zeroValue 3).run Tryz.prog w=.ok (.int .i64 0) w:=by kernel_rfl
theorem RamAt.cleared {w w':World} {G:RamG} {M:RamM} (h:RamAt w G M) (hB:Blk w' G.db (Array.replicate M.n (.int .i64 0)) 3) (k:Kept (fun k=>k=G.db) w w'):RamAt w' G { M with dirty:=fun _=>false }:=by
 refine ⟨h.ram.kept k (h.ram.apart h.dirty (by decide)),h.pages.kept k (h.pages.apart h.dirty (by decide)),?_,fun i l hi hl=>?_,fun hd=>(h.blank hd).kept k ((h.blank hd).apart h.dirty (by decide)),h.sep,h.sepz,h.pos,h.max⟩
 ·
  have:((List.range M.n).map (zaE { M with dirty:=fun _=>false })).toArray=Array.replicate M.n (.int .i64 0):=by
   have e0:zaE { M with dirty:=fun _=>false }=fun _=>Value.int .i64 0:=by
    funext i
    simp [zaE]
   rw [e0]
   apply Array.ext'
   simp [List.map_const']
  have e:((List.range ({ M with dirty:=fun _=>false } : RamM).n).map (zaE { M with dirty:=fun _=>false })).toArray=Array.replicate M.n (.int .i64 0):=this
  rw [e]
  exact hB
 ·
  obtain ⟨h1,h2⟩:=h.page i l hi hl
  exact ⟨h1.kept k (h1.apart h.dirty (by decide)),h2⟩
def zlO (w:World) (G:RamG) (M:RamM) (e:Ending) (w':World):Prop:=∃ A c,e=.returned (.slice A (zaZ M M.n).length c)∧RamAt w' G { M with dirty:=fun _=>false }∧Kept (fun k=>k=G.db) w w'
theorem zd2 (G:RamG) (M:RamM) (w:World) (h:RamAt w G M):Calls Tryz.prog 77 #[.pointer (some ⟨G.p,0,none⟩)] w (zlO w G M):=by
 have hD:=zjV G M w h
 obtain ⟨n,hn⟩:∃ n,n=(zaZ M M.n).length:=⟨_,rfl⟩
 have hpos:=h.pos
 go_enter Tryz.func77,Tryz.ntmps77
 go_wp2_with (first | (simp only [hcl]) | (go_at_call 32;refine hD.mono ?_;rintro e w2 ⟨A,c,rfl,hown,hb⟩;have h2:=h.keep hb;have c1:w2.cell? ⟨G.p,1,none⟩=some (.slice (some ⟨G.db,0,none⟩) M.n M.n):=h2.ram.cell 1 rfl;have hcl:∀ ty,(Builtin.clear_ #[132] ty #[.slice (some ⟨G.db,0,none⟩) M.n M.n]).run Tryz.prog w2=.ok (.tuple #[]) (w2.setCells G.db 0 (List.replicate M.n (.int .i64 0))):=fun ty=>Lib.run_clear_slice w2 _ _ ty _ Tryz.underlying132 zlN rfl rfl G.db 0 M.n M.n hpos (fun j hj=>by rw [Nat.zero_add,h2.dirty.cell j (zdC M j hj)];rfl) (fun j hj=>h2.dirty.free _)))
 go_ret
 refine ⟨A,c,rfl,h2.cleared ?_ (Kept.setCells (S:=fun k=>k=G.db) rfl _ _ _ (Kept.refl _ _)),(Kept.of_below hb).trans (Kept.setCells (S:=fun k=>k=G.db) rfl _ _ _ (Kept.refl _ _))⟩
 have:=Blk.cleared (.int .i64 0) M.n 0 w2 _ h2.dirty (by simp) (fun j hj=>absurd hj (by omega))
 simpa using this
theorem zis (G:RamG) (M:RamM) (i:Int) (hi:i<0∨(M.n:Int)≤i) (v:Value) (w:World) (h:RamAt w G M):Calls Tryz.prog 95 #[.pointer (some ⟨G.p,0,none⟩),.int .i64 i,v] w fun e w'=>e=.returned (.iface 149 (.int .i64 4))∧w=w':=by
 have hI:=zpl G M i hi w h
 go_enter Tryz.func95,Tryz.ntmps95
 go_wp2_with (go_at_call 161;refine hI.mono ?_;rintro e w1 ⟨rfl,rfl⟩)
 go_ret
 exact ⟨rfl,rfl⟩
theorem zit (n:Nat) (h1:1≤n) (h2:n≤16384) (A:Option Addr) (m c:Nat) (l:List Nat) (h4:(m:Int)<4) (w:World):Calls Tryz.prog 28 #[.int .i64 (n:Int),.slice A m c] w fun e w'=>e=.returned (.tuple #[.pointer none,.iface 149 (.int .i64 3)])∧Below w.heap.size w w':=by
 have hN:=zcF n h1 h2 w
 have hn1:¬ (n:Int)<1:=by omega
 have hn2:¬ (16384:Int)<(n:Int):=by omega
 go_enter Tryz.func28,Tryz.ntmps28
 go_wp2_with (first | (go_at_call 25;refine hN.mono ?_;rintro e w1 ⟨G,rfl,hR,hp,hpb,hdb,hbel⟩) | fail)
 go_ret2
 exact ⟨rfl,hbel⟩
theorem zlP (n:Nat) (h1:1≤n) (h2:n≤16384) (A:Option Addr) (m c:Nat) (h4:4≤m) (hm:m≤140737488355328) (hr:(m-4)%4100≠0) (w:World):Calls Tryz.prog 28 #[.int .i64 (n:Int),.slice A m c] w fun e w'=>e=.returned (.tuple #[.pointer none,.iface 149 (.int .i64 3)])∧Below w.heap.size w w':=by
 have hN:=zcF n h1 h2 w
 have hn1:¬ (n:Int)<1:=by omega
 have hn2:¬ (16384:Int)<(n:Int):=by omega
 obtain ⟨d,hd⟩:∃ d:Nat,m=d+4:=⟨m-4,by omega⟩
 have e1:(m:Int)-4=(d:Int):=by omega
 have e2:¬ (m:Int)<4:=by omega
 obtain ⟨r,hr'⟩:∃ r:Nat,d%4100=r:=⟨_,rfl⟩
 have e3:(d:Int).tmod 4100=(r:Int):=by
  rw [Int.tmod_eq_emod_of_nonneg (by omega)]
  omega
 have e4:¬ ((r:Int)=0):=by omega
 have e5:¬ (r=0):=by omega
 have e6:¬ m<4:=by omega
 have e7:(d:Int)≤140737488355328:=by omega
 clear hd hr hr' h4
 go_enter Tryz.func28,Tryz.ntmps28
 go_wp2_with (first | (go_at_call 25;refine hN.mono ?_;rintro e w1 ⟨G,rfl,hR,hp,hpb,hdb,hbel⟩) | fail)
 go_ret2
 exact ⟨rfl,hbel⟩
end Go.Proofs.YtdffbihilhkkjaaGreatDoor
