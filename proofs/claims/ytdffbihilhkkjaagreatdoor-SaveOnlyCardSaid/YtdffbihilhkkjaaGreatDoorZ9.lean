import Derived.Test.YtdffbihilhkkjaaGreatDoorZ3
import Derived.Test.YtdffbihilhkkjaaGreatDoorZ8
namespace Go.Proofs.YtdffbihilhkkjaaGreatDoor
set_option linter.unusedVariables false
set_option linter.unusedSimpArgs false
set_option maxRecDepth 100000
set_option maxHeartbeats 8000000
namespace Crc
theorem allBits_get:∀ (l:List Nat) (j:Nat),(allBits l)[j]?=(l[j / 8]?).bind fun c=>(byteBits c)[j%8]?:=by
 intro l
 induction l with
 | nil=>intro j;simp [allBits]
 | cons c l ih =>
  intro j
  have e:allBits (c::l)=byteBits c++allBits l:=rfl
  have h8:(byteBits c).length=8:=rfl
  rw [e]
  by_cases h:j<8
  ·
   rw [List.getElem?_append_left (by rw [h8];exact h),show j / 8=0 from by omega,show j%8=j from by omega]
   rfl
  ·
   rw [List.getElem?_append_right (by rw [h8];omega),h8,ih (j-8),show j / 8=(j-8) / 8+1 from by omega,show (j-8)%8=j%8 from by omega]
   rfl
theorem zfz {a b:Nat} (ha:a<256) (hb:b<256) (h:byteBits a=byteBits b):a=b:=by
 simp only [byteBits,List.cons.injEq,and_true] at h
 obtain ⟨h7,h6,h5,h4,h3,h2,h1,h0⟩:=h
 apply Nat.eq_of_testBit_eq
 intro i
 by_cases hi:i<8
 ·
  have:i=0∨i=1∨i=2∨i=3∨i=4∨i=5∨i=6∨i=7:=by omega
  rcases this with rfl | rfl | rfl | rfl | rfl | rfl | rfl | rfl<;>assumption
 ·
  have q:∀ x:Nat,x<256→x.testBit i=false:=fun x hx=>Nat.testBit_lt_two_pow (Nat.lt_of_lt_of_le hx (Nat.pow_le_pow_right (n:=2) (i:=8) (by decide) (by omega)))
  rw [q a ha,q b hb]
theorem allBits_inj:∀ (l m:List Nat),(∀ x∈l,x<256)→(∀ x∈m,x<256)→allBits l=allBits m→l=m:=by
 intro l
 induction l with
 | nil=>intro m _ _ h;cases m with
  | nil=>rfl
  | cons c m=>simp [allBits,byteBits] at h
 | cons c l ih =>
  intro m hl hm h
  cases m with
  | nil=>simp [allBits,byteBits] at h
  | cons d m =>
   have e1:allBits (c::l)=byteBits c++allBits l:=rfl
   have e2:allBits (d::m)=byteBits d++allBits m:=rfl
   rw [e1,e2] at h
   have h':=List.append_inj h rfl
   rw [zfz (hl c (by simp)) (hm d (by simp)) h'.1,ih m (fun x hx=>hl x (by simp [hx])) (fun x hx=>hm x (by simp [hx])) h'.2]
end Crc
structure Alike (f:Nat) (x y:List Nat):Prop where
 len:y.length=x.length
 small:∀ c∈y,c<256
 bits:∀ j,(j<f∨f+32≤j)→(Crc.allBits y)[j]?=(Crc.allBits x)[j]?
theorem Alike.refl (f:Nat) (x:List Nat) (h:∀ c∈x,c<256):Alike f x x:=⟨rfl,h,fun _ _=>rfl⟩
theorem zjF (l:List Nat) (h:∀ c∈l,c<256):BitVec.ofNat 32 (ofN l)=Crc.more (BitVec.ofNat 32 4294967295) l:=Crc.sum_eq l _ (by decide) h
theorem zjG {a b:Nat} (ha:a<4294967296) (hb:b<4294967296) (h:Crc.tail4 a=Crc.tail4 b):a=b:=by
 simp only [Crc.tail4,List.cons.injEq,and_true] at h
 omega
theorem zlD (l:List Nat) (h:l.length=4) (hs:∀ c∈l,c<256):∃ t,t<4294967296∧l=Crc.tail4 t:=by
 match l,h with
 | [a,b,c,d],_ =>
  have:=hs a (by simp);have:=hs b (by simp);have:=hs c (by simp);have:=hs d (by simp)
  refine ⟨a*16777216+b*65536+c*256+d,by omega,?_⟩
  simp only [Crc.tail4,List.cons.injEq,and_true]
  omega
theorem zeG (l : List Nat) (m : Nat) (hl : l.length = m + 4) (hs : ∀ c ∈ l, c < 256) :
    Crc.tail4 (ofN (l.take m))=l.drop m↔Crc.more (BitVec.ofNat 32 4294967295) l=0#32:=by
  obtain ⟨t,ht,e⟩:=zlD (l.drop m) (by simp;omega) (fun c hc=>hs c (List.mem_of_mem_drop hc))
  conv=>rhs;rw [←List.take_append_drop m l]
  rw [Crc.more_append,←zjF _ (fun c hc=>hs c (List.mem_of_mem_take hc)),e,Crc.more_tail _ _ (zfy _) ht]
  exact ⟨fun h=>zjG (zfy _) ht h,fun h=>by rw [h]⟩
theorem zfA {f:Nat} {x y:List Nat} (h:Alike f x y) (hx:∀ c∈x,c<256) (zx:Crc.more (BitVec.ofNat 32 4294967295) x=0#32) (zy:Crc.more (BitVec.ofNat 32 4294967295) y=0#32):y=x:=by
 have hz:=Crc.more_xor x y (BitVec.ofNat 32 4294967295) (BitVec.ofNat 32 4294967295) h.len.symm
 rw [zx,zy,BitVec.xor_self,BitVec.xor_self] at hz
 unfold Crc.more at hz
 rw [Crc.allBits_xor x y h.len.symm] at hz
 generalize hD:List.zipWith Bool.xor (Crc.allBits x) (Crc.allBits y)=D at hz
 have hlen:(Crc.allBits y).length=(Crc.allBits x).length:=by rw [Crc.allBits_length,Crc.allBits_length,h.len]
 have hDl:D.length=(Crc.allBits x).length:=by rw [←hD];simp [hlen]
 have hout:∀ j (hj:j<D.length),(j<f∨f+32≤j)→D[j]=false:=by
  intro j hj ho
  have hb:=h.bits j ho
  rw [List.getElem?_eq_getElem (by omega),List.getElem?_eq_getElem (by omega)] at hb
  injection hb with hb
  subst hD
  rw [List.getElem_zipWith,hb,Bool.xor_self]
 have hsplit:D=List.replicate (D.take f).length false++(D.drop f).take 32++List.replicate (D.drop (f+32)).length false:=by
  have e1:D.take f=List.replicate (D.take f).length false:=by
   apply List.eq_replicate_of_mem
   intro b hb
   obtain ⟨j,hj,rfl⟩:=List.getElem_of_mem hb
   rw [List.length_take] at hj
   rw [List.getElem_take]
   exact hout j (by omega) (.inl (by omega))
  have e2:D.drop (f+32)=List.replicate (D.drop (f+32)).length false:=by
   apply List.eq_replicate_of_mem
   intro b hb
   obtain ⟨j,hj,rfl⟩:=List.getElem_of_mem hb
   rw [List.length_drop] at hj
   rw [List.getElem_drop]
   exact hout (f+32+j) (by omega) (.inr (by omega))
  rw [←e1,←e2,←List.drop_drop,List.append_assoc,List.take_append_drop,List.take_append_drop]
 rw [hsplit] at hz
 have hmid:=Crc.burst _ _ _ (by rw [List.length_take];omega) hz
 have hall:∀ j (hj:j<D.length),D[j]=false:=by
  intro j hj
  by_cases ho:j<f∨f+32≤j
  · exact hout j hj ho
  ·
   apply hmid
   have:D[j]=((D.drop f).take 32)[j-f]'(by rw [List.length_take,List.length_drop];omega):=by
    rw [List.getElem_take,List.getElem_drop]
    congr 1
    omega
   rw [this]
   exact List.getElem_mem _
 apply Crc.allBits_inj _ _ h.small hx
 apply List.ext_getElem hlen
 intro j h1 h2
 have:=hall j (by omega)
 subst hD
 rw [List.getElem_zipWith] at this
 exact Eq.symm (by simpa using this)
theorem zaA (l:List Nat):(zab l).length=l.length+4:=by simp [zab,Crc.tail4]
theorem zbL (l:List Nat) (h:∀ c∈l,c<256):∀ c∈zab l,c<256:=by
 intro c hc
 rcases List.mem_append.1 hc with hc | hc
 · exact h c hc
 · simp [Crc.tail4] at hc;omega
theorem ze1 (l:List Nat) (h:∀ c∈l,c<256):Crc.more (BitVec.ofNat 32 4294967295) (zab l)=0#32:=by
 rw [←zeG (zab l) l.length (zaA l) (zbL l h)]
 unfold zab
 rw [List.take_left,List.drop_left]
theorem zgq {f:Nat} {l y:List Nat} (hl:∀ c∈l,c<256) (h:Alike f (zab l) y) (hs:Crc.tail4 (ofN (y.take l.length))=y.drop l.length):y=zab l :=
 zfA h (zbL l hl) (ze1 l hl) ((zeG y l.length (by rw [h.len,zaA]) h.small).1 hs)
namespace Tl
structure Sec where
 tag:Nat
 b:List Nat
def magic:List Nat:=[80,78,67,69]
def secHead (s:Sec):List Nat:=le 4 s.tag++le 4 s.b.length
def secBytes (s:Sec):List Nat:=zab (secHead s++s.b)
def body:List Sec→List Nat
 | []=>[]
 | s::l=>secBytes s++body l
def head (v n:Nat):List Nat:=magic++le 4 v++le 4 n
def file (v:Nat) (l:List Sec):List Nat:=zab (head v l.length++body l)
def size:List Sec→Nat
 | []=>16
 | s::l=>12+s.b.length+size l
def tagAt (l:List Sec) (j:Nat):Nat:=(l.map (·.tag)).getD j 0
def Rises (l:List Sec) (k:Nat):Prop:=∀ j,0<j→j<k→tagAt l (j-1)<tagAt l j
instance (l:List Sec) (k:Nat):Decidable (Rises l k):=decidable_of_iff (∀ j:Fin k,0<j.1→tagAt l (j.1-1)<tagAt l j.1) ⟨fun h j h0 hj=>h ⟨j,hj⟩ h0,fun h j h0=>h j.1 h0 j.2⟩
def encE (l:List Sec):Nat:=if Rises l l.length then (if 4096<l.length∨134217728<size l then 2 else 0) else 31
def SecOk (s:Sec):Prop:=s.tag<4294967296∧∀ x∈s.b,x<256
theorem za9 (s:Sec):(secBytes s).length=12+s.b.length:=by
 rw [secBytes,zaA,secHead];simp [le_length];omega
theorem body_length:∀ l:List Sec,(body l).length+16=size l
 | []=>rfl
 | s::l=>by
  have:=body_length l
  simp only [body,size,List.length_append,za9]
  omega
theorem zcn (v n:Nat):(head v n).length=12:=by simp [head,magic,le_length]
theorem file_length (v:Nat) (l:List Sec):(file v l).length=size l:=by
 rw [file,zaA,List.length_append,zcn,←body_length];omega
theorem ze2 (s:Sec):∀ x∈secHead s,x<256:=by
 intro x hx
 rcases List.mem_append.1 hx with h | h<;>exact le_small _ _ x h
theorem zeu (s:Sec) (h:SecOk s):∀ x∈secBytes s,x<256:=zbL _ fun x hx=>(List.mem_append.1 hx).elim (ze2 s x) (h.2 x)
theorem body_small:∀ l:List Sec,(∀ s∈l,SecOk s)→∀ x∈body l,x<256
 | [],_=>by intro x h;cases h
 | s::l,h=>by
  intro x hx
  rcases List.mem_append.1 hx with hx | hx
  · exact zeu s (h s (by simp)) x hx
  · exact body_small l (fun s hs=>h s (by simp [hs])) x hx
theorem head_small (v n:Nat):∀ x∈head v n,x<256:=by
 intro x hx
 rcases List.mem_append.1 hx with hx | hx
 ·
  rcases List.mem_append.1 hx with hx | hx
  · simp [magic] at hx;omega
  · exact le_small _ _ x hx
 · exact le_small _ _ x hx
def secN (r:List Nat):Nat:=num ((r.take 8).drop 4)
def secE (r:List Nat):Nat :=
 if r.length<12 then 12 else if r.length-12<secN r then 12 else if zaI (r.take (12+secN r))=true then 0 else 11
def secOf (r:List Nat):Sec:=⟨num (r.take 4),(r.take (8+secN r)).drop 8⟩
def notAbove (last:Option Nat) (t:Nat):Bool:=match last with | none=>false | some u=>decide (t≤u)
def secs:Nat→Option Nat→List Nat→Nat×List Sec
 | 0,_,r=>(if r.length=0 then 0 else 3,[])
 | k+1,last,r =>
  if secE r≠0 then (secE r,[]) else if notAbove last (secOf r).tag=true then (31,[]) else
   ((secs k (some (secOf r).tag) (r.drop (12+secN r))).1,secOf r::(secs k (some (secOf r).tag) (r.drop (12+secN r))).2)
def many (b:List Nat):Nat:=num ((b.take 12).drop 8)
def wholeE (b:List Nat):Nat :=
 if 134217728<b.length then 2 else if b.length<16 then 12 else if b.take 4≠magic then 3 else if zaI b=true then (if 4096<many b then 2 else 0) else 11
def inner (b:List Nat):List Nat:=(b.take (b.length-4)).drop 12
def decE (b:List Nat):Nat:=if wholeE b≠0 then wholeE b else (secs (many b) none (inner b)).1
def decL (b:List Nat):List Sec:=(secs (many b) none (inner b)).2
def decV (b:List Nat):Nat:=num ((b.take 8).drop 4)
theorem zbt (l:List Nat):zaI l=true↔∃ x,l=zab x:=by
 unfold zaI
 constructor
 ·
  intro h
  simp only [Bool.and_eq_true,decide_eq_true_eq] at h
  refine ⟨l.take (l.length-4),?_⟩
  unfold zab
  rw [h.2,List.take_append_drop]
 ·
  rintro ⟨x,rfl⟩
  simp only [Bool.and_eq_true,decide_eq_true_eq,zaA,Nat.add_sub_cancel]
  refine ⟨by omega,?_⟩
  unfold zab
  rw [List.take_left,List.drop_left]
theorem zcD (l:List Nat):zaI (zab l)=true:=(zbt _).2 ⟨l,rfl⟩
theorem zfB {l:List Nat} (h:zaI l=true):l=zab (l.take (l.length-4)):=by
 obtain ⟨x,rfl⟩:=(zbt _).1 h
 rw [zaA,Nat.add_sub_cancel]
 congr 1
 unfold zab
 rw [List.take_left]
theorem zcZ (s:Sec) (m:List Nat) (h:s.b.length<4294967296):secN (secBytes s++m)=s.b.length:=by
 unfold secN secBytes zab secHead
 have e:(le 4 s.tag++le 4 s.b.length++s.b++Crc.tail4 (ofN (le 4 s.tag++le 4 s.b.length++s.b))++m).take 8=le 4 s.tag++le 4 s.b.length:=by
  rw [List.append_assoc,List.append_assoc]
  exact List.take_left' (by simp [le_length])
 rw [e,List.drop_left' (le_length 4 _),num_le]
 exact Nat.mod_eq_of_lt h
theorem zgr (s:Sec) (m:List Nat) (h:s.b.length<4294967296) (ht:s.tag<4294967296):secOf (secBytes s++m)=s:=by
 have e1:(secBytes s++m).take 4=le 4 s.tag:=by
  unfold secBytes zab secHead
  rw [List.append_assoc,List.append_assoc,List.append_assoc,List.append_assoc]
  exact List.take_left' (le_length 4 _)
 have e2:(secBytes s++m).take (8+s.b.length)=secHead s++s.b:=by
  unfold secBytes zab
  rw [List.append_assoc]
  exact List.take_left' (by simp [secHead,le_length];omega)
 unfold secOf
 rw [zcZ s m h,e1,e2,num_le,List.drop_left' (by simp [secHead,le_length])]
 rw [show s.tag%256 ^ 4=s.tag from Nat.mod_eq_of_lt ht]
theorem zif (s:Sec) (m:List Nat) (h:s.b.length<4294967296):secE (secBytes s++m)=0:=by
 unfold secE
 rw [zcZ s m h]
 have hl:=za9 s
 rw [if_neg (by rw [List.length_append];omega),if_neg (by rw [List.length_append];omega)]
 rw [show (secBytes s++m).take (12+s.b.length)=secBytes s from List.take_left' hl]
 rw [if_pos (by unfold secBytes;exact zcD _)]
def zig:Option Nat→List Sec→Prop
 | _,[]=>True
 | last,s::l=>notAbove last s.tag=false∧zig (some s.tag) l
theorem zfC:∀ (l:List Sec) (last:Option Nat),(∀ s∈l,SecOk s∧s.b.length<4294967296)→zig last l→secs l.length last (body l)=(0,l)
 | [],last,_,_=>rfl
 | s::l,last,h,ha=>by
  obtain ⟨h1,h2⟩:=h s (by simp)
  simp only [List.length_cons,secs,body]
  rw [zif s _ h2,zgr s _ h2 h1.1,zcZ s _ h2]
  rw [if_neg (by simp),if_neg (by rw [ha.1];simp)]
  rw [List.drop_left' (za9 s),zfC l _ (fun s hs=>h s (by simp [hs])) ha.2]
theorem zih {s:Sec} {l:List Sec} {k:Nat} (h:Rises (s::l) (k+1)):Rises l k:=by
 intro j h0 hj
 have:=h (j+1) (by omega) (by omega)
 rw [show j+1-1=(j-1)+1 by omega] at this
 simpa [tagAt] using this
theorem zcd:∀ (l:List Sec) (s:Sec),Rises (s::l) (l.length+1)→zig (some s.tag) l
 | [],_,_=>trivial
 | t::l,s,h=>by
  have h1:=h 1 (by omega) (by simp)
  simp [tagAt] at h1
  exact ⟨by simp [notAbove];omega,zcd l t (zih h)⟩
theorem zii (l:List Sec) (h:Rises l l.length):zig none l:=by
 cases l with
 | nil=>trivial
 | cons s l=>exact ⟨rfl,zcd l s h⟩
theorem zce:∀ (l:List Sec) (last:Option Nat),zig last l→Rises l l.length
 | [],_,_=>by intro j h0 hj;simp at hj
 | s::l,last,h=>by
  intro j h0 hj
  cases l with
  | nil=>simp at hj;omega
  | cons t l =>
   have ih:=zce (t::l) _ h.2
   by_cases h1:j=1
   ·
    subst h1
    have:=h.2.1
    simp [notAbove] at this
    simp [tagAt]
    exact this
   ·
    have:=ih (j-1) (by omega) (by simp at hj ⊢;omega)
    rw [show j=(j-1)+1 by omega]
    rw [show j-1+1-1=(j-1-1)+1 by omega]
    simpa [tagAt] using this
theorem zij (v n:Nat) (m:List Nat):(head v n++m).take 4=magic:=by
 unfold head
 rw [List.append_assoc,List.append_assoc]
 exact List.take_left' rfl
theorem zik (v n:Nat) (m:List Nat):((head v n++m).take 8).drop 4=le 4 v:=by
 unfold head
 rw [List.append_assoc,show ((magic++le 4 v)++(le 4 n++m)).take 8=magic++le 4 v from List.take_left' (by simp [magic,le_length])]
 exact List.drop_left' rfl
theorem zgs (v n:Nat) (m:List Nat):((head v n++m).take 12).drop 8=le 4 n:=by
 rw [show (head v n++m).take 12=head v n from List.take_left' (zcn v n)]
 unfold head
 exact List.drop_left' (by simp [magic,le_length])
theorem zgt (v:Nat) (l:List Sec):file v l=head v l.length++(body l++Crc.tail4 (ofN (head v l.length++body l))):=by
 unfold file zab;rw [List.append_assoc]
theorem zjH (v:Nat) (l:List Sec) (h:l.length<4294967296):many (file v l)=l.length:=by
 unfold many
 rw [zgt,zgs,num_le]
 exact Nat.mod_eq_of_lt h
theorem zeH (v:Nat) (l:List Sec):inner (file v l)=body l:=by
 unfold inner
 have e:(file v l).take ((file v l).length-4)=head v l.length++body l:=by
  unfold file
  rw [zaA,Nat.add_sub_cancel]
  unfold zab
  rw [List.take_left]
 rw [e,List.drop_left' (zcn _ _)]
theorem zjI:∀ (l:List Sec),∀ s∈l,s.b.length+28≤size l
 | [],s,h=>by cases h
 | t::l,s,h=>by
  have hs:16≤size l:=by have:=body_length l;omega
  rcases List.mem_cons.1 h with rfl | h
  · simp only [size];omega
  ·
   have:=zjI l s h
   simp only [size];omega
theorem dec_file (v:Nat) (l:List Sec) (hv:v<4294967296) (hl:∀ s∈l,SecOk s) (h:encE l=0):decE (file v l)=0∧decL (file v l)=l∧decV (file v l)=v:=by
 have h0:Rises l l.length∧l.length≤4096∧size l≤134217728:=by
  unfold encE at h
  split at h
  ·
   rename_i hr
   split at h
   · omega
   · exact ⟨hr,by omega,by omega⟩
  · omega
 obtain ⟨hr,hn,hs⟩:=h0
 have hm:=zjH v l (by omega)
 have hsl:16≤size l:=by have:=body_length l;omega
 have hw:wholeE (file v l)=0:=by
  unfold wholeE
  rw [file_length,if_neg (by omega),if_neg (by omega),if_neg (by rw [zgt,zij];simp),if_pos (by unfold file;exact zcD _),hm,if_neg (by omega)]
 have hsec:=zfC l none (fun s h=>⟨hl s h,by have:=zjI l s h;omega⟩) (zii l hr)
 refine ⟨?_,?_,?_⟩
 ·
  unfold decE
  rw [hw,hm,zeH,hsec]
  simp
 ·
  unfold decL
  rw [hm,zeH,hsec]
 ·
  unfold decV
  rw [zgt,zik,num_le]
  exact Nat.mod_eq_of_lt hv
theorem zaD (r:List Nat) (a b:Nat) (h:a≤b):r.take a++(r.take b).drop a=r.take b:=by
 have:=List.take_append_drop a (r.take b)
 rwa [List.take_take,Nat.min_eq_left h] at this
theorem zgu (r:List Nat) (hr:∀ x∈r,x<256) (h:secE r=0):secBytes (secOf r)=r.take (12+secN r)∧12+secN r≤r.length∧(secOf r).b.length=secN r∧SecOk (secOf r):=by
 unfold secE at h
 split at h
 · omega
 ·
  rename_i h1
  split at h
  · omega
  ·
   rename_i h2
   split at h
   ·
    rename_i h3
    have hle:12+secN r≤r.length:=by omega
    have hq:=zfB h3
    rw [List.length_take,Nat.min_eq_left hle,List.take_take,Nat.min_eq_left (by omega),show 12+secN r-4=8+secN r by omega] at hq
    have hb:(secOf r).b.length=secN r:=by
     simp only [secOf,List.length_drop,List.length_take]
     omega
    have ok:SecOk (secOf r):=by
     refine ⟨?_,fun x hx=>hr x (List.mem_of_mem_take (List.mem_of_mem_drop hx))⟩
     have:=num_take_lt r hr 4
     exact this
    refine ⟨?_,hle,hb,ok⟩
    rw [hq]
    unfold secBytes
    congr 1
    unfold secHead
    rw [hb]
    have e1:le 4 (secOf r).tag=r.take 4:=by
     have:=le_num (r.take 4) (fun x hx=>hr x (List.mem_of_mem_take hx))
     rwa [List.length_take,Nat.min_eq_left (by omega)] at this
    have e2:le 4 (secN r)=(r.take 8).drop 4:=by
     have:=le_num ((r.take 8).drop 4) (fun x hx=>hr x (List.mem_of_mem_take (List.mem_of_mem_drop hx)))
     rwa [List.length_drop,List.length_take,Nat.min_eq_left (by omega)] at this
    rw [e1,e2,zaD r 4 8 (by omega)]
    exact zaD r 8 (8+secN r) (by omega)
   · omega
theorem zjJ:∀ (k:Nat) (last:Option Nat) (r:List Nat),(∀ x∈r,x<256)→(secs k last r).1=0 →
  body (secs k last r).2=r∧(secs k last r).2.length=k∧zig last (secs k last r).2∧∀ s∈(secs k last r).2,SecOk s
 | 0,last,r,_,h=>by
  simp only [secs] at h ⊢
  split at h
  ·
   rename_i h0
   rw [List.eq_nil_of_length_eq_zero h0]
   exact ⟨rfl,rfl,trivial,fun s hs=>by cases hs⟩
  · omega
 | k+1,last,r,hr,h=>by
  by_cases he:secE r=0
  ·
   by_cases hn:notAbove last (secOf r).tag=true
   ·
    simp only [secs,he,hn,ne_eq,not_true_eq_false,if_true,if_false] at h
    omega
   ·
    simp only [secs,he,hn,ne_eq,not_true_eq_false,if_false] at h ⊢
    obtain ⟨h1,h2,h3,h4⟩:=zgu r hr he
    obtain ⟨i1,i2,i3,i4⟩:=zjJ k _ (r.drop (12+secN r)) (fun x hx=>hr x (List.mem_of_mem_drop hx)) h
    refine ⟨?_,by simp [i2],⟨by simpa using hn,i3⟩,?_⟩
    ·
     show body (secOf r::(secs k (some (secOf r).tag) (r.drop (12+secN r))).2)=r
     rw [body,i1,h1,List.take_append_drop]
    ·
     intro s hs
     rcases List.mem_cons.1 hs with rfl | hs
     · exact h4
     · exact i4 s hs
  · simp only [secs,he,ne_eq,not_false_eq_true,if_true] at h
theorem file_dec (b:List Nat) (hb:∀ x∈b,x<256) (h:decE b=0):file (decV b) (decL b)=b∧encE (decL b)=0∧(∀ s∈decL b,SecOk s)∧decV b<4294967296:=by
 unfold decE at h
 by_cases hw:wholeE b=0
 ·
  rw [if_neg (by simp [hw])] at h
  have hi:∀ x∈inner b,x<256:=fun x hx=>hb x (List.mem_of_mem_take (List.mem_of_mem_drop hx))
  obtain ⟨i1,i2,i3,i4⟩:=zjJ _ none (inner b) hi h
  have hw':b.length≤134217728∧16≤b.length∧b.take 4=magic∧zaI b=true∧many b≤4096:=by
   unfold wholeE at hw
   split at hw
   · omega
   ·
    split at hw
    · omega
    ·
     split at hw
     · omega
     ·
      split at hw
      ·
       split at hw
       · omega
       ·
        rename_i a1 a2 a3 a4 a5
        exact ⟨by omega,by omega,by simpa using a3,a4,by omega⟩
      · omega
  obtain ⟨w1,w2,w3,w4,w5⟩:=hw'
  have e8:magic++le 4 (decV b)=b.take 8:=by
   have:=le_num ((b.take 8).drop 4) (fun x hx=>hb x (List.mem_of_mem_take (List.mem_of_mem_drop hx)))
   rw [List.length_drop,List.length_take,Nat.min_eq_left (by omega)] at this
   unfold decV
   rw [this,←w3]
   exact zaD b 4 8 (by omega)
  have e12:head (decV b) (many b)=b.take 12:=by
   have:=le_num ((b.take 12).drop 8) (fun x hx=>hb x (List.mem_of_mem_take (List.mem_of_mem_drop hx)))
   rw [List.length_drop,List.length_take,Nat.min_eq_left (by omega)] at this
   unfold head many
   rw [e8,this]
   exact zaD b 8 12 (by omega)
  have ef:file (decV b) (decL b)=b:=by
   unfold file
   have:(decL b).length=many b:=i2
   rw [this,e12]
   have:body (decL b)=inner b:=i1
   rw [this]
   have:=zfB w4
   rw [this]
   congr 1
   rw [←this]
   exact zaD b 12 (b.length-4) (by omega)
  refine ⟨ef,?_,i4,?_⟩
  ·
   unfold encE
   have i3':Rises (decL b) (decL b).length:=zce _ none i3
   rw [if_pos i3']
   have h1:=file_length (decV b) (decL b)
   rw [ef] at h1
   have h2:(decL b).length=many b:=i2
   rw [if_neg (by omega)]
  ·
   have:=num_take_lt (b.drop 4) (fun x hx=>hb x (List.mem_of_mem_drop hx)) 4
   unfold decV
   rw [List.drop_take]
   exact this
 ·
  rw [if_pos (by simp [hw])] at h
  exact absurd h hw
end Tl
end Go.Proofs.YtdffbihilhkkjaaGreatDoor
