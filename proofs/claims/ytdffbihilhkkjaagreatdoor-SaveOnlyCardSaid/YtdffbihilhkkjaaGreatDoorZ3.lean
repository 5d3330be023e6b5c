namespace Go.Proofs.YtdffbihilhkkjaaGreatDoor
set_option linter.unusedVariables false
set_option linter.unusedSimpArgs false
set_option maxRecDepth 100000
set_option maxHeartbeats 8000000
namespace Tl
def le:Nat→Nat→List Nat
 | 0,_=>[]
 | n+1,v=>v%256::le n (v / 256)
def num:List Nat→Nat
 | []=>0
 | c::l=>c+256*num l
theorem le_length:∀ n v,(le n v).length=n
 | 0,_=>rfl
 | n+1,v=>by simp [le,le_length n]
theorem le_small:∀ n v,∀ x∈le n v,x<256
 | 0,_=>by intro x h;cases h
 | n+1,v=>by
  intro x h
  simp only [le,List.mem_cons] at h
  rcases h with rfl | h
  · omega
  · exact le_small n _ x h
theorem num_lt:∀ l:List Nat,(∀ x∈l,x<256)→num l<256 ^ l.length
 | [],_=>by simp [num]
 | c::l,h=>by
  have h1:=num_lt l (fun x hx=>h x (by simp [hx]))
  have h2:=h c (by simp)
  simp only [num,List.length_cons,Nat.pow_succ]
  omega
theorem num_le:∀ n v,num (le n v)=v%256 ^ n
 | 0,v=>by simp [num,le,Nat.mod_one]
 | n+1,v=>by
  simp only [num,le,num_le n]
  rw [Nat.pow_succ,Nat.mul_comm (256 ^ n) 256,Nat.mod_mul]
theorem le_num:∀ l:List Nat,(∀ x∈l,x<256)→le l.length (num l)=l
 | [],_=>rfl
 | c::l,h=>by
  have h2:=h c (by simp)
  simp only [num,List.length_cons,le]
  rw [show (c+256*num l)%256=c by omega,show (c+256*num l) / 256=num l by omega,le_num l (fun x hx=>h x (by simp [hx]))]
theorem le_last:∀ n v,le (n+1) v=le n v++[v / 256 ^ n%256]
 | 0,v=>by simp [le]
 | n+1,v=>by
  rw [le,le_last n (v / 256),le,List.cons_append,Nat.div_div_eq_div_mul,Nat.pow_succ,Nat.mul_comm (256 ^ n) 256]
theorem le_zero:∀ n,le n 0=List.replicate n 0
 | 0=>rfl
 | n+1=>by simp [le,le_zero n,List.replicate_succ]
theorem zeB:∀ l m:List Nat,num (l++m)=num l+256 ^ l.length*num m
 | [],m=>by simp [num]
 | c::l,m=>by
  simp only [List.cons_append,num,zeB l m,List.length_cons,Nat.pow_succ]
  rw [Nat.mul_add,Nat.mul_comm (256 ^ l.length) 256,Nat.mul_assoc,Nat.add_assoc]
theorem zne (c:Nat):num [c]=c:=by simp [num]
theorem zeY (l:List Nat) (k:Nat) (h:k<l.length):num (l.take (k+1))=num (l.take k)+256 ^ k*l.getD k 0:=by
 rw [List.take_succ_eq_append_getElem h,zeB,zne,List.length_take,Nat.min_eq_left (by omega)]
 simp [List.getD_eq_getElem?_getD,h]
theorem pow8 (k:Nat):256 ^ k=2 ^ (8*k):=by rw [Nat.pow_mul]
theorem num_take_lt (l:List Nat) (hl:∀ x∈l,x<256) (k:Nat):num (l.take k)<256 ^ k:=by
 have h:=num_lt (l.take k) (fun x hx=>hl x (List.mem_of_mem_take hx))
 refine Nat.lt_of_lt_of_le h (Nat.pow_le_pow_right (by decide) ?_)
 rw [List.length_take];omega
theorem num_or (l:List Nat) (hl:∀ x∈l,x<256) (k:Nat) (h:k<l.length):num (l.take k) ||| l.getD k 0*2 ^ (8*k)=num (l.take (k+1)):=by
 have h1:=num_take_lt l hl k
 rw [pow8] at h1
 rw [zeY l k h,pow8,Nat.add_comm,Nat.two_pow_add_eq_or_of_lt h1,Nat.mul_comm,Nat.or_comm]
structure In where
 b:List Nat
 e:Nat
def takeN (s:In) (n:Int) (most:Nat):In×Nat :=
 if s.e≠0 then (s,0)
 else if n<1∨8<n then (⟨s.b,1⟩,0)
 else if (s.b.length:Int)<n then (⟨s.b,12⟩,0)
 else if most<num (s.b.take n.toNat) then (⟨s.b,4⟩,0)
 else (⟨s.b.drop n.toNat,0⟩,num (s.b.take n.toNat))
def takeRun (s:In) (most:Int):In×List Nat :=
 if s.e≠0 then (s,[])
 else if most<0 then (⟨s.b,1⟩,[])
 else if s.b.length<4 then (⟨s.b,12⟩,[])
 else if most<(num (s.b.take 4):Int) then (⟨s.b,2⟩,[])
 else if s.b.length-4<num (s.b.take 4) then (⟨s.b,12⟩,[])
 else (⟨s.b.drop (4+num (s.b.take 4)),0⟩,(s.b.drop 4).take (num (s.b.take 4)))
def done (s:In):Nat:=if s.e=0∧0<s.b.length then 3 else s.e
end Tl
end Go.Proofs.YtdffbihilhkkjaaGreatDoor
