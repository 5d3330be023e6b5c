import Derived.Test.YtdffbihilhkkjaaGreatDoorZ12
namespace Go.Proofs.YtdffbihilhkkjaaGreatDoor
set_option linter.unusedVariables false
set_option linter.unusedSimpArgs false
set_option maxRecDepth 100000
set_option maxHeartbeats 8000000
namespace Fl
def zep (M:RamM) (a d:Nat):List Nat:=(List.range' a d).flatMap (zbQ M)
def cnt (M:RamM) (a d:Nat):Nat:=((List.range' a d).filter (fun i=>z7 (M.at_ i))).length
theorem zeU (M:RamM) (a d:Nat):zep M a (d+1)=zbQ M a++zep M (a+1) d:=by simp [zep,List.range'_succ]
theorem zhZ (M:RamM) (a d:Nat):cnt M a (d+1)=(if z7 (M.at_ a) then 1 else 0)+cnt M (a+1) d:=by
 unfold cnt
 rw [List.range'_succ,List.filter_cons]
 split
 · rw [List.length_cons];omega
 · omega
theorem zh0 (a:Nat) (h:a<4294967296) (l:List Nat):num (Tl.le 4 a++l)=a:=by
 have h4:=Tl.le_length 4 a
 unfold num
 rw [List.take_append_of_le_length (by omega),List.take_of_length_le (by omega),Tl.num_le,Nat.mod_eq_of_lt h]
theorem zk4 (a:Nat) (p l:List Nat) (hp:p.length=4096):page (Tl.le 4 a++(p++l))=p∧(Tl.le 4 a++(p++l)).drop 4100=l:=by
 have h4:=Tl.le_length 4 a
 constructor
 ·
  unfold page
  rw [←List.append_assoc,List.take_append_of_le_length (by simp [h4,hp]),List.take_of_length_le (by simp [h4,hp]),List.drop_append_of_le_length (by omega),List.drop_of_length_le (by omega),List.nil_append]
 · rw [←List.append_assoc,List.drop_append_of_le_length (by simp [h4,hp]),List.drop_of_length_le (by simp [h4,hp]),List.nil_append]
theorem zg8 (M:RamM) (hn:M.n≤16384) (hal:∀ i,i<M.n→(M.at_ i).length=4096):∀ (d a:Nat) (last:Int) (pg:Nat→Option (List Nat)),a+d=M.n→last<a →
  go M.n (cnt M a d) last pg (zep M a d)=some (fun j=>if a≤j∧j<M.n∧z7 (M.at_ j)=true then some (M.at_ j) else pg j)
 | 0,a,last,pg,h,hl=>by
  show some pg=_
  congr 1
  funext j
  rw [if_neg (by omega)]
 | d+1,a,last,pg,h,hl=>by
  rw [zeU,zhZ]
  cases hh:z7 (M.at_ a) with
  | false =>
   have e:zbQ M a=[]:=by unfold zbQ;rw [hh];rfl
   rw [e,List.nil_append]
   simp only [Bool.false_eq_true,if_false,Nat.zero_add]
   rw [zg8 M hn hal d (a+1) last pg (by omega) (by omega)]
   congr 1
   funext j
   rcases Nat.decEq j a with hj | rfl
   ·
    by_cases hc:a≤j∧j<M.n∧z7 (M.at_ j)=true
    · rw [if_pos hc,if_pos ⟨by omega,hc.2⟩]
    · rw [if_neg hc,if_neg (fun hc'=>hc ⟨by omega,hc'.2⟩)]
   · rw [if_neg (by omega),if_neg (by rw [hh];simp)]
  | true =>
   have e:zbQ M a=Tl.le 4 a++M.at_ a:=by unfold zbQ;rw [hh];rfl
   have ha:a<M.n:=by omega
   rw [e,List.append_assoc]
   simp only [if_true]
   rw [Nat.add_comm 1]
   obtain ⟨p1,p2⟩:=zk4 a (M.at_ a) (zep M (a+1) d) (hal a ha)
   have n1:=zh0 a (by omega) (M.at_ a++zep M (a+1) d)
   have hb:bad M.n last (Tl.le 4 a++(M.at_ a++zep M (a+1) d))=false:=by
    unfold bad
    rw [p1,n1,hh,decide_eq_false (by omega),decide_eq_false (by omega)]
    rfl
   unfold go
   rw [hb,n1,p1,p2,if_neg (by simp),zg8 M hn hal d (a+1) a _ (by omega) (by omega)]
   congr 1
   funext j
   unfold put
   rcases Nat.decEq j a with hj | rfl
   ·
    rw [if_neg hj]
    by_cases hc:a≤j∧j<M.n∧z7 (M.at_ j)=true
    · rw [if_pos hc,if_pos ⟨by omega,hc.2⟩]
    · rw [if_neg hc,if_neg (fun hc'=>hc ⟨by omega,hc'.2⟩)]
   · rw [if_neg (by omega),if_pos rfl,if_pos ⟨Nat.le_refl _,ha,hh⟩]
theorem zgb (M:RamM) (hal:∀ i,i<M.n→(M.at_ i).length=4096):∀ (d a:Nat),a+d=M.n→(zep M a d).length=4100*cnt M a d
 | 0,a,h=>rfl
 | d+1,a,h=>by
  rw [zeU,zhZ,List.length_append,zgb M hal d (a+1) (by omega)]
  unfold zbQ
  split
  · rw [List.length_append,Tl.le_length,hal a (by omega)];omega
  · simp
def told (M:RamM):Nat→Option (List Nat):=fun j=>if j<M.n∧z7 (M.at_ j)=true then some (M.at_ j) else none
theorem zcA (M:RamM):zN M=Tl.le 4 (cnt M 0 M.n)++zep M 0 M.n:=by
 unfold zN countB zaL cnt zep
 rw [List.range_eq_range']
theorem fill_told (M:RamM) (hn:M.n≤16384) (hal:∀ i,i<M.n→(M.at_ i).length=4096):fill M.n (zN M)=some (told M):=by
 have hlen:=zgb M hal M.n 0 (by omega)
 have h4:=Tl.le_length 4 (cnt M 0 M.n)
 have hc:cnt M 0 M.n≤M.n:=by
  have:=List.length_filter_le (fun i=>z7 (M.at_ i)) (List.range' 0 M.n)
  rw [List.length_range'] at this
  exact this
 have hd:(zN M).drop 4=zep M 0 M.n:=by rw [zcA,List.drop_append_of_le_length (by omega),List.drop_of_length_le (by omega),List.nil_append]
 have ht:Tl.num ((zN M).take 4)=cnt M 0 M.n:=by
  rw [zcA]
  exact zh0 _ (by omega) _
 have hl:(zN M).length=4+4100*cnt M 0 M.n:=by rw [zcA,List.length_append,h4,hlen]
 have hf:form (zN M)=true:=by
  unfold form
  rw [ht,hl,decide_eq_true (by omega),decide_eq_true (by omega),decide_eq_true (by omega)]
  rfl
 unfold fill
 rw [hf,if_pos rfl,hd,hl,show (4+4100*cnt M 0 M.n-4) / 4100=cnt M 0 M.n by omega,zg8 M hn hal M.n 0 (-1) _ (by omega) (by omega)]
 congr 1
 funext j
 unfold told
 by_cases hc:j<M.n∧z7 (M.at_ j)=true
 · rw [if_pos hc,if_pos ⟨Nat.zero_le _,hc⟩]
 · rw [if_neg hc,if_neg (fun h=>hc h.2)]
theorem holds_no {l:List Nat} (h:z7 l=false):l=List.replicate l.length 0:=by
 refine List.eq_replicate_iff.2 ⟨rfl,fun x hx=>?_⟩
 unfold z7 at h
 rw [List.any_eq_false] at h
 have:=h x hx
 simpa using this
theorem told_at (M:RamM) (hal:∀ i,i<M.n→(M.at_ i).length=4096) (j:Nat) (hj:j<M.n):(ram M.n (told M)).at_ j=M.at_ j:=by
 show (told M j).getD noughts=M.at_ j
 unfold told
 cases hh:z7 (M.at_ j) with
 | true=>rw [if_pos ⟨hj,rfl⟩];rfl
 | false =>
  rw [if_neg (by simp)]
  have:=holds_no hh
  rw [hal j hj] at this
  exact this.symm
end Fl
theorem RamM.at_len {w:World} {G:RamG} {M:RamM} (h:RamAt w G M):∀ i,i<M.n→(M.at_ i).length=4096:=fun i hi=>(h.at_ok i hi).1
theorem RamM.pages_small {w:World} {G:RamG} {M:RamM} (h:RamAt w G M):∀ x∈zN M,x<256:=by
 intro x hx
 unfold zN at hx
 rcases List.mem_append.1 hx with hx | hx
 · exact Tl.le_small _ _ x hx
 ·
  unfold zaL at hx
  obtain ⟨i,hi,hx⟩:=List.mem_flatMap.1 hx
  unfold zbQ at hx
  split at hx
  ·
   rcases List.mem_append.1 hx with hx | hx
   · exact Tl.le_small _ _ x hx
   · exact (h.at_ok i (List.mem_range.1 hi)).2 x hx
  · cases hx
end Go.Proofs.YtdffbihilhkkjaaGreatDoor
