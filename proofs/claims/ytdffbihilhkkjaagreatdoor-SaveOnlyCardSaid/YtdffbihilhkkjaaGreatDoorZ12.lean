import Derived.Test.YtdffbihilhkkjaaGreatDoorZ11
namespace Go.Proofs.YtdffbihilhkkjaaGreatDoor
set_option linter.unusedVariables false
set_option linter.unusedSimpArgs false
set_option maxRecDepth 100000
set_option maxHeartbeats 8000000
namespace Fl
def num (r:List Nat):Nat:=Tl.num (r.take 4)
def page (r:List Nat):List Nat:=(r.take 4100).drop 4
def put (pg:Nat→Option (List Nat)) (i:Nat) (l:List Nat):Nat→Option (List Nat):=fun j=>if j=i then some l else pg j
def bad (n:Nat) (last:Int) (r:List Nat):Bool:=decide ((num r:Int)≤last) || !z7 (page r)||decide (n≤num r)
def go (n:Nat):Nat→Int→(Nat→Option (List Nat))→List Nat→Option (Nat→Option (List Nat))
 | 0,_,pg,_=>some pg
 | k+1,last,pg,r=>if bad n last r=true then none else go n k (num r) (put pg (num r) (page r)) (r.drop 4100)
def form (b:List Nat):Bool:=decide (4≤b.length)&&decide ((b.length-4)%4100=0)&&decide (Tl.num (b.take 4)=(b.length-4) / 4100)
def fill (n:Nat) (b:List Nat):Option (Nat→Option (List Nat)):=if form b=true then go n ((b.length-4) / 4100) (-1) (fun _=>none) (b.drop 4) else none
def ram (n:Nat) (pg:Nat→Option (List Nat)):RamM:=⟨n,pg,fun _=>false,0,false⟩
theorem pagesB_of {M:RamM} {n:Nat} {pg:Nat→Option (List Nat)} (hn:M.n=n) (hp:M.pg=pg):zN M=zN (ram n pg):=by
 subst hn
 subst hp
 rfl
theorem noughts_hold:z7 noughts=false:=by
 unfold z7 noughts
 rw [List.any_eq_false]
 intro x hx
 simp [List.eq_of_mem_replicate hx]
theorem znt (n:Nat) (pg:Nat→Option (List Nat)) (i:Nat) (l:List Nat) (j:Nat) (h:j≠i):(ram n (put pg i l)).at_ j=(ram n pg).at_ j:=by
 unfold RamM.at_ ram put
 simp [h]
theorem zhw (n:Nat) (pg:Nat→Option (List Nat)) (i:Nat) (l:List Nat):∀ k,k≤i→zaL (ram n (put pg i l)) k=zaL (ram n pg) k∧countB (ram n (put pg i l)) k=countB (ram n pg) k
 | 0,_=>⟨rfl,rfl⟩
 | k+1,hk=>by
  obtain ⟨h1,h2⟩:=zhw n pg i l k (by omega)
  rw [za5,za5,zbb,zbb,h1,h2]
  unfold zbQ
  rw [znt n pg i l k (by omega)]
  exact ⟨rfl,rfl⟩
theorem zd3 (n:Nat) (pg:Nat→Option (List Nat)) (a:Nat) (h:∀ j,a≤j→pg j=none):∀ k,zaL (ram n pg) (a+k)=zaL (ram n pg) a∧countB (ram n pg) (a+k)=countB (ram n pg) a
 | 0=>⟨rfl,rfl⟩
 | k+1=>by
  obtain ⟨h1,h2⟩:=zd3 n pg a h k
  have e:(ram n pg).at_ (a+k)=noughts:=by
   unfold RamM.at_ ram
   simp [h (a+k) (by omega)]
  rw [show a+(k+1)=a+k+1 by omega,za5,zbb,h1,h2]
  unfold zbQ
  rw [e,noughts_hold]
  simp
theorem znu {n k:Nat} {last:Int} {pg pg':Nat→Option (List Nat)} {r:List Nat} (h:go n (k+1) last pg r=some pg'):bad n last r=false∧go n k (num r) (put pg (num r) (page r)) (r.drop 4100)=some pg':=by
 unfold go at h
 cases hb:bad n last r with
 | true=>rw [hb] at h;simp at h
 | false=>rw [hb] at h;exact ⟨rfl,by simpa using h⟩
theorem zoz {n:Nat} {last:Int} {r:List Nat} (h:bad n last r=false):last<(num r:Int)∧z7 (page r)=true∧num r<n:=by
 unfold bad at h
 simp only [Bool.or_eq_false_iff,decide_eq_false_iff_not,Bool.not_eq_false'] at h
 exact ⟨by omega,h.1.2,by omega⟩
theorem zlQ {r:List Nat} (hr:∀ x∈r,x<256) (hl:4100≤r.length):Tl.le 4 (num r)++page r=r.take 4100:=by
 have h4:(r.take 4).length=4:=by rw [List.length_take];omega
 have:=Tl.le_num (r.take 4) (fun x hx=>hr x (List.mem_of_mem_take hx))
 rw [h4] at this
 unfold num page
 rw [this]
 have e:r.take 4=(r.take 4100).take 4:=by rw [List.take_take];rfl
 rw [e,List.take_append_drop]
theorem page_ok {r:List Nat} (hr:∀ x∈r,x<256) (hl:4100≤r.length):(page r).length=4096∧∀ x∈page r,x<256:=by
 refine ⟨?_,fun x hx=>hr x (List.mem_of_mem_take (List.mem_of_mem_drop hx))⟩
 unfold page
 rw [List.length_drop,List.length_take]
 omega
theorem zjW (n:Nat):∀ (k:Nat) (last:Nat) (pg pg':Nat→Option (List Nat)) (r:List Nat),(∀ x∈r,x<256)→r.length=4100*k→last≤n→(∀ j,last≤j→pg j=none)→go n k ((last:Int)-1) pg r=some pg' →
  zaL (ram n pg') n=zaL (ram n pg) last++r∧countB (ram n pg') n=countB (ram n pg) last+k∧(∀ j,j<last→pg' j=pg j)∧(∀ j l,last≤j→pg' j=some l→j<n∧l.length=4096∧z7 l=true∧∀ x∈l,x<256)
 | 0,last,pg,pg',r,hr,hl,hn,hp,h=>by
  obtain rfl:pg=pg':=by
   unfold go at h
   exact Option.some.inj h
  have hr0:r=[]:=List.eq_nil_of_length_eq_zero (by omega)
  obtain ⟨h1,h2⟩:=zd3 n pg last hp (n-last)
  rw [show last+(n-last)=n by omega] at h1 h2
  subst hr0
  exact ⟨by simpa using h1,h2,fun _ _=>rfl,fun j l hj hs=>by rw [hp j hj] at hs;cases hs⟩
 | k+1,last,pg,pg',r,hr,hl,hn,hp,h=>by
  obtain ⟨hb,h⟩:=znu h
  obtain ⟨b1,b2,b3⟩:=zoz hb
  have hpk:=page_ok hr (by omega)
  have hlast:last≤num r:=by omega
  have e:((num r:Nat):Int)=((num r+1:Nat):Int)-1:=by omega
  rw [e] at h
  have hp':∀ j,num r+1≤j→put pg (num r) (page r) j=none:=fun j hj=>by
   unfold put
   rw [if_neg (by omega)]
   exact hp j (by omega)
  obtain ⟨g1,g2,g3,g4⟩:=zjW n k (num r+1) _ pg' (r.drop 4100) (fun x hx=>hr x (List.mem_of_mem_drop hx)) (by rw [List.length_drop];omega) (by omega) hp' h
  have hat:(ram n (put pg (num r) (page r))).at_ (num r)=page r:=by
   unfold RamM.at_ ram put
   simp
  obtain ⟨p1,p2⟩:=zhw n pg (num r) (page r) (num r) (Nat.le_refl _)
  obtain ⟨q1,q2⟩:=zd3 n pg last hp (num r-last)
  rw [show last+(num r-last)=num r by omega] at q1 q2
  refine ⟨?_,?_,?_,?_⟩
  ·
   rw [g1,za5,p1,q1]
   unfold zbQ
   rw [hat,b2,if_pos rfl,zlQ hr (by omega),List.append_assoc,List.take_append_drop]
  ·
   rw [g2,zbb,p2,q2,hat,b2,if_pos rfl]
   omega
  ·
   intro j hj
   rw [g3 j (by omega)]
   unfold put
   rw [if_neg (by omega)]
  ·
   intro j l hj hs
   by_cases h1:num r+1≤j
   · exact g4 j l h1 hs
   ·
    rw [g3 j (by omega)] at hs
    unfold put at hs
    by_cases h2:j=num r
    ·
     rw [if_pos h2] at hs
     obtain rfl:=Option.some.inj hs
     exact ⟨by omega,hpk.1,b2,hpk.2⟩
    ·
     rw [if_neg h2,hp j hj] at hs
     cases hs
theorem fill_pages {n:Nat} {b:List Nat} {pg:Nat→Option (List Nat)} (hb:∀ x∈b,x<256) (h:fill n b=some pg):zN (ram n pg)=b∧∀ j l,pg j=some l→j<n∧l.length=4096∧z7 l=true∧∀ x∈l,x<256:=by
 unfold fill at h
 cases hf:form b with
 | false=>rw [hf] at h;simp at h
 | true =>
  rw [hf,if_pos rfl] at h
  unfold form at hf
  simp only [Bool.and_eq_true,decide_eq_true_eq] at hf
  obtain ⟨⟨f1,f2⟩,f3⟩:=hf
  have e:(-1:Int)=((0:Nat):Int)-1:=rfl
  rw [e] at h
  obtain ⟨g1,g2,g3,g4⟩:=zjW n _ 0 _ pg (b.drop 4) (fun x hx=>hb x (List.mem_of_mem_drop hx)) (by rw [List.length_drop];omega) (Nat.zero_le _) (fun _ _=>rfl) h
  refine ⟨?_,fun j l hs=>g4 j l (Nat.zero_le _) hs⟩
  unfold zN
  have hc:countB (ram n pg) (ram n pg).n=(b.length-4) / 4100:=by
   have e:countB (ram n pg) (ram n pg).n=countB (ram n pg) n:=rfl
   rw [e,g2]
   simp [countB]
  have hbd:zaL (ram n pg) (ram n pg).n=b.drop 4:=by
   have e:zaL (ram n pg) (ram n pg).n=zaL (ram n pg) n:=rfl
   rw [e,g1]
   simp [zaL]
  rw [hc,hbd,←f3]
  have h4:(b.take 4).length=4:=by rw [List.length_take];omega
  have:=Tl.le_num (b.take 4) (fun x hx=>hb x (List.mem_of_mem_take hx))
  rw [h4] at this
  rw [this,List.take_append_drop]
end Fl
end Go.Proofs.YtdffbihilhkkjaaGreatDoor
