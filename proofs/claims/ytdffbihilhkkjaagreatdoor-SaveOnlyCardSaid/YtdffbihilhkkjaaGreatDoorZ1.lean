import Init
namespace Go.Proofs.YtdffbihilhkkjaaGreatDoor
set_option linter.unusedVariables false
set_option linter.unusedSimpArgs false
set_option maxRecDepth 100000
set_option maxHeartbeats 8000000
namespace Crc
abbrev W:=BitVec 32
def poly:W:=0x04c11db7#32
def X (s:W):W:=(s <<< 1)^^^(if s.msb then poly else 0#32)
theorem zjr (a b:W):X (a^^^b)=X a^^^X b:=by
 unfold X
 rw [BitVec.shiftLeft_xor_distrib,BitVec.msb_xor]
 cases ha:a.msb<;>cases hb:b.msb<;>simp
 · ac_rfl
 · ac_rfl
 ·
  have:a <<< 1^^^b <<< 1=a <<< 1^^^b <<< 1^^^(poly^^^poly):=by simp
  rw [this];ac_rfl
theorem zfs:X 0#32=0#32:=by decide
theorem zjs {s:W} (h:X s=0#32):s=0#32:=by
 unfold X at h
 cases hm:s.msb with
 | true =>
  rw [hm] at h
  have:=congrArg (fun v=>v.getLsbD 0) h
  simp [poly] at this
 | false =>
  rw [hm] at h
  simp at h
  apply BitVec.eq_of_getLsbD_eq
  intro i hi
  by_cases h31:i=31
  ·
   subst h31
   have:s.getLsbD 31=s.msb:=by simp [BitVec.msb_eq_getLsbD_last]
   rw [this,hm];simp
  ·
   have:=congrArg (fun v=>v.getLsbD (i+1)) h
   simp at this
   have h3:=this (by omega)
   simpa using h3
def Xn:Nat→W→W
 | 0,s=>s
 | n+1,s=>Xn n (X s)
theorem zoc (n:Nat):∀ a b:W,Xn n (a^^^b)=Xn n a^^^Xn n b:=by
 induction n with
 | zero=>intro a b;rfl
 | succ n ih=>intro a b;simp only [Xn,zjr,ih]
theorem zjt (n:Nat):Xn n 0#32=0#32:=by
 induction n with
 | zero=>rfl
 | succ n ih=>simp only [Xn,zfs,ih]
theorem zcV (n:Nat):∀ {s:W},Xn n s=0#32→s=0#32:=by
 induction n with
 | zero=>intro s h;exact h
 | succ n ih=>intro s h;exact zjs (ih h)
def top (one:Bool):W:=if one then 0x80000000#32 else 0#32
def bit (s:W) (one:Bool):W:=X (s^^^top one)
theorem zm8 (a b:Bool):top (a ^^ b)=top a^^^top b:=by cases a<;>cases b<;>decide
theorem zm9 (s t:W) (a b:Bool):bit (s^^^t) (a ^^ b)=bit s a^^^bit t b:=by
 unfold bit
 rw [zm8,←zjr]
 congr 1
 ac_rfl
def bits (s:W) (l:List Bool):W:=l.foldl bit s
theorem bits_append (s:W) (l m:List Bool):bits s (l++m)=bits (bits s l) m:=by simp [bits]
theorem zez (n:Nat):∀ s:W,bits s (List.replicate n false)=Xn n s:=by
 induction n with
 | zero=>intro s;rfl
 | succ n ih =>
  intro s
  rw [List.replicate_succ]
  show bits (bit s false) _=_
  rw [ih]
  simp [bit,top,Xn]
theorem zlq:∀ (l m:List Bool) (s t:W),l.length=m.length→bits (s^^^t) (List.zipWith Bool.xor l m)=bits s l^^^bits t m:=by
 intro l
 induction l with
 | nil=>intro m s t h;cases m with
  | nil=>rfl
  | cons _ _=>simp at h
 | cons a l ih =>
  intro m s t h
  cases m with
  | nil=>simp at h
  | cons b m =>
   simp only [List.length_cons,Nat.add_right_cancel_iff] at h
   show bits (bit (s^^^t) (a ^^ b)) (List.zipWith Bool.xor l m)=bits (bit s a) l^^^bits (bit t b) m
   rw [zm9,ih m _ _ h]
def word:List Bool→W
 | []=>0#32
 | b::l=>top b^^^(word l >>> 1)
theorem zhj (l:List Bool):∀ i,i+l.length<32→(word l).getLsbD i=false:=by
 induction l with
 | nil=>intro i _;simp [word]
 | cons b l ih =>
  intro i hi
  simp only [List.length_cons] at hi
  simp only [word,BitVec.getLsbD_xor,BitVec.getLsbD_ushiftRight]
  rw [Nat.add_comm 1 i,ih (i+1) (by omega)]
  cases b
  · simp [top]
  ·
   have:i<31:=by omega
   simp only [top,if_true,Bool.xor_false]
   rw [show (0x80000000#32:W)=BitVec.twoPow 32 31 from by decide,BitVec.getLsbD_twoPow]
   simp;omega
theorem zod {v:W} (h:v.getLsbD 0=false):X (v >>> 1)=v:=by
 have hm:(v >>> 1).msb=false:=by simp [BitVec.msb_eq_getLsbD_last]
 unfold X
 rw [hm]
 simp
 apply BitVec.eq_of_getLsbD_eq
 intro i hi
 by_cases h0:i=0
 · subst h0;simpa using h
 ·
  simp [BitVec.getLsbD_shiftLeft]
  have:1+(i-1)=i:=by omega
  rw [this]
  simp [hi,h0]
theorem zdH:∀ (l:List Bool) (s:W),l.length≤32→bits s l=Xn l.length (s^^^word l):=by
 intro l
 induction l with
 | nil=>intro s _;simp [bits,Xn,word]
 | cons b l ih =>
  intro s h
  simp only [List.length_cons] at h
  show bits (bit s b) l=Xn (l.length+1) (s^^^word (b::l))
  rw [ih _ (by omega)]
  simp only [Xn]
  congr 1
  rw [show s^^^word (b::l)=(s^^^top b)^^^(word l >>> 1) from by simp [word];ac_rfl,zjr,
   zod (zhj l 0 (by omega))]
  rfl
theorem zft:∀ (l:List Bool),l.length≤32→word l=0#32→∀ b∈l,b=false:=by
 intro l
 induction l with
 | nil=>intro _ _ b hb;cases hb
 | cons a l ih =>
  intro h hw b hb
  simp only [List.length_cons] at h
  have h31:(word (a::l)).getLsbD 31=a:=by
   simp only [word,BitVec.getLsbD_xor,BitVec.getLsbD_ushiftRight]
   rw [BitVec.getLsbD_of_ge _ (1+31) (by omega)]
   cases a<;>simp [top]
  rw [hw] at h31
  have ha:a=false:=by simpa using h31.symm
  subst ha
  have hl:word l=0#32:=by
   have h1:word l >>> 1=0#32:=by simpa [word,top] using hw
   have h2:=zod (zhj l 0 (by omega))
   rw [h1,zfs] at h2
   exact h2.symm
  rcases List.mem_cons.1 hb with rfl | hb
  · rfl
  · exact ih (by omega) hl b hb
theorem burst (a c:Nat) (l:List Bool) (h:l.length≤32) (hz:bits 0#32 (List.replicate a false++l++List.replicate c false)=0#32):∀ b∈l,b=false:=by
 rw [bits_append,bits_append,zez,zez,zjt] at hz
 have h1:=zcV _ hz
 rw [zdH l _ h] at h1
 have h2:=zcV _ h1
 exact zft l h (by simpa using h2)
def byteBits (c:Nat):List Bool:=[c.testBit 7,c.testBit 6,c.testBit 5,c.testBit 4,c.testBit 3,c.testBit 2,c.testBit 1,c.testBit 0]
def allBits (l:List Nat):List Bool:=l.flatMap byteBits
def more (s:W) (l:List Nat):W:=bits s (allBits l)
theorem zju (s:W) (c:Nat) (l:List Nat):more s (c::l)=more (bits s (byteBits c)) l:=by
 simp [more,allBits,bits_append]
theorem more_append (s:W) (l m:List Nat):more s (l++m)=more (more s l) m:=by
 simp [more,allBits,bits_append]
theorem allBits_length (l:List Nat):(allBits l).length=8*l.length:=by
 induction l with
 | nil=>rfl
 | cons c l ih=>simp [allBits,byteBits] at *;omega
theorem byteBits_xor (a b:Nat):byteBits (a^^^b)=List.zipWith Bool.xor (byteBits a) (byteBits b):=by
 simp only [byteBits,List.zipWith_cons_cons,List.zipWith_nil_left,Nat.testBit_xor]
theorem allBits_xor:∀ (l m:List Nat),l.length=m.length→allBits (List.zipWith (· ^^^ ·) l m)=List.zipWith Bool.xor (allBits l) (allBits m):=by
 intro l
 induction l with
 | nil=>intro m h;cases m with
  | nil=>rfl
  | cons _ _=>simp at h
 | cons a l ih =>
  intro m h
  cases m with
  | nil=>simp at h
  | cons b m =>
   simp only [List.length_cons,Nat.add_right_cancel_iff] at h
   show byteBits (a^^^b)++allBits (List.zipWith (· ^^^ ·) l m)=List.zipWith Bool.xor (byteBits a++allBits l) (byteBits b++allBits m)
   rw [List.zipWith_append (by simp [byteBits]),byteBits_xor,ih m h]
theorem more_xor (l m:List Nat) (s t:W) (h:l.length=m.length):more (s^^^t) (List.zipWith (· ^^^ ·) l m)=more s l^^^more t m:=by
 unfold more
 rw [allBits_xor l m h,zlq _ _ _ _ (by rw [allBits_length,allBits_length,h])]
def tab:List Nat:=[0x00000000,0x04c11db7,0x09823b6e,0x0d4326d9,0x130476dc,0x17c56b6b,0x1a864db2,0x1e475005,
 0x2608edb8,0x22c9f00f,0x2f8ad6d6,0x2b4bcb61,0x350c9b64,0x31cd86d3,0x3c8ea00a,0x384fbdbd]
theorem tab_lt (i:Nat):tab.getD i 0<4294967296:=by
 by_cases h:i<16
 ·
  have:∀ j:Fin 16,tab.getD j.1 0<4294967296:=by decide
  exact this ⟨i,h⟩
 · rw [List.getD_eq_getElem?_getD,List.getElem?_eq_none (by simp [tab];omega)];simp
def nib (s n:Nat):Nat:=((s*16)%4294967296)^^^tab.getD ((s / 268435456)^^^n) 0
theorem zna:∀ j:Fin 16,Xn 4 (BitVec.ofNat 32 (j.1*268435456))=BitVec.ofNat 32 (tab.getD j.1 0):=by decide
theorem X_lo {v:W} (h:v.msb=false):X v=v <<< 1:=by simp [X,h]
theorem zoe (l:Nat) (h:l<268435456):Xn 4 (BitVec.ofNat 32 l)=BitVec.ofNat 32 (l*16):=by
 have step:∀ m:Nat,m<2147483648→X (BitVec.ofNat 32 m)=BitVec.ofNat 32 (m*2):=by
  intro m hm
  rw [X_lo (by rw [BitVec.msb_eq_decide];simp;omega)]
  apply BitVec.eq_of_toNat_eq
  simp [Nat.shiftLeft_eq]
 simp only [Xn]
 rw [step l (by omega),step (l*2) (by omega),step (l*2*2) (by omega),step (l*2*2*2) (by omega)]
 congr 1
 omega
theorem zmO (s n:Nat) (hs:s<4294967296) (hn:n<16):BitVec.ofNat 32 (nib s n)=Xn 4 (BitVec.ofNat 32 s^^^BitVec.ofNat 32 (n*268435456)):=by
 have e1:s=(s / 268435456)*268435456+s%268435456:=by omega
 have e2:s=((s / 268435456)*268435456)^^^(s%268435456):=by
  have:=Nat.two_pow_add_eq_or_of_lt (i:=28) (b:=s%268435456) (by omega) (s / 268435456)
  have h3:=e1
  apply Nat.eq_of_testBit_eq
  intro i
  rw [Nat.testBit_xor]
  rw [show s / 268435456*268435456=(s / 268435456) <<< 28 from by rw [Nat.shiftLeft_eq]]
  rw [show (268435456:Nat)=2 ^ 28 from rfl]
  rw [Nat.testBit_shiftLeft,Nat.testBit_div_two_pow,Nat.testBit_mod_two_pow]
  by_cases hi:i<28
  · simp [hi,Nat.not_le.2 hi]
  · simp [hi,Nat.le_of_not_lt hi,Nat.sub_add_cancel (Nat.le_of_not_lt hi)]
 have hx:(s / 268435456)^^^n<16:=Nat.xor_lt_two_pow (n:=4) (by omega) (by omega)
 have e3:BitVec.ofNat 32 s^^^BitVec.ofNat 32 (n*268435456)=BitVec.ofNat 32 (((s / 268435456)^^^n)*268435456)^^^BitVec.ofNat 32 (s%268435456):=by
  apply BitVec.eq_of_toNat_eq
  simp only [BitVec.toNat_xor,BitVec.toNat_ofNat]
  rw [Nat.mod_eq_of_lt (show s<2 ^ 32 by omega),Nat.mod_eq_of_lt (show n*268435456<2 ^ 32 by omega),Nat.mod_eq_of_lt (show ((s / 268435456)^^^n)*268435456<2 ^ 32 by omega),Nat.mod_eq_of_lt (show s%268435456<2 ^ 32 by omega)]
  have e4:((s / 268435456)^^^n)*268435456=((s / 268435456)*268435456)^^^(n*268435456):=by
   have h28:(268435456:Nat)=2 ^ 28:=rfl
   rw [h28,←Nat.shiftLeft_eq,←Nat.shiftLeft_eq,←Nat.shiftLeft_eq,Nat.shiftLeft_xor_distrib]
  rw [e4]
  conv=>lhs;rw [e2]
  ac_rfl
 rw [e3,zoc,zoe (s%268435456) (by omega)]
 have:=zna ⟨(s / 268435456)^^^n,hx⟩
 simp only at this
 rw [this]
 apply BitVec.eq_of_toNat_eq
 simp only [BitVec.toNat_xor,BitVec.toNat_ofNat,nib]
 have ht:=tab_lt ((s / 268435456)^^^n)
 rw [Nat.mod_eq_of_lt (show tab.getD ((s / 268435456)^^^n) 0<2 ^ 32 by omega)]
 have e5:s%268435456*16%2 ^ 32=s*16%4294967296:=by omega
 rw [e5]
 rw [Nat.mod_eq_of_lt (Nat.xor_lt_two_pow (n:=32) (by omega) (by omega))]
 ac_rfl
theorem nib_lt (s n:Nat):nib s n<4294967296:=by
 have ht:=tab_lt ((s / 268435456)^^^n)
 exact Nat.xor_lt_two_pow (n:=32) (by omega) (by omega)
theorem zdI (s:W) (a b c d:Bool):bits s [a,b,c,d]=Xn 4 (s^^^word [a,b,c,d]):=zdH _ _ (by simp)
theorem znb (c:Nat) (hc:c<256):word [c.testBit 7,c.testBit 6,c.testBit 5,c.testBit 4]=BitVec.ofNat 32 ((c / 16)*268435456):=by
 have:∀ j:Fin 256,word [j.1.testBit 7,j.1.testBit 6,j.1.testBit 5,j.1.testBit 4]=BitVec.ofNat 32 ((j.1 / 16)*268435456):=by decide +kernel
 exact this ⟨c,hc⟩
theorem znc (c:Nat) (hc:c<256):word [c.testBit 3,c.testBit 2,c.testBit 1,c.testBit 0]=BitVec.ofNat 32 ((c%16)*268435456):=by
 have:∀ j:Fin 256,word [j.1.testBit 3,j.1.testBit 2,j.1.testBit 1,j.1.testBit 0]=BitVec.ofNat 32 ((j.1%16)*268435456):=by decide +kernel
 exact this ⟨c,hc⟩
def byte (s c:Nat):Nat:=nib (nib s (c / 16)) (c%16)
theorem zjv (s c:Nat):byte s c<4294967296:=nib_lt _ _
theorem znd (s c:Nat) (hs:s<4294967296) (hc:c<256):BitVec.ofNat 32 (byte s c)=bits (BitVec.ofNat 32 s) (byteBits c):=by
 unfold byte
 rw [zmO _ _ (nib_lt _ _) (by omega),zmO _ _ hs (by omega)]
 show _=bits (BitVec.ofNat 32 s) ([c.testBit 7,c.testBit 6,c.testBit 5,c.testBit 4]++[c.testBit 3,c.testBit 2,c.testBit 1,c.testBit 0])
 rw [bits_append,zdI,zdI,znb c hc,znc c hc]
def sum (s:Nat) (l:List Nat):Nat:=l.foldl byte s
theorem sum_lt:∀ (l:List Nat) (s:Nat),s<4294967296→sum s l<4294967296:=by
 intro l
 induction l with
 | nil=>intro s h;exact h
 | cons c l ih=>intro s _;exact ih _ (zjv _ _)
theorem sum_eq:∀ (l:List Nat) (s:Nat),s<4294967296→(∀ c∈l,c<256)→BitVec.ofNat 32 (sum s l)=more (BitVec.ofNat 32 s) l:=by
 intro l
 induction l with
 | nil=>intro s _ _;rfl
 | cons c l ih =>
  intro s hs hl
  rw [zju,←znd s c hs (hl c (by simp))]
  exact ih _ (zjv _ _) (fun x hx=>hl x (by simp [hx]))
theorem sum_append (l m:List Nat) (s:Nat):sum s (l++m)=sum (sum s l) m:=by simp [sum]
theorem zjw {a b:Nat} (ha:a<4294967296) (hb:b<4294967296) (h:BitVec.ofNat 32 a=BitVec.ofNat 32 b):a=b:=by
 have:=congrArg BitVec.toNat h
 simp only [BitVec.toNat_ofNat] at this
 omega
def tail4 (s:Nat):List Nat:=[s / 16777216%256,s / 65536%256,s / 256%256,s%256]
theorem zof (s:Nat):word (allBits (tail4 s))=BitVec.ofNat 32 s:=by
 apply BitVec.eq_of_getLsbD_eq
 intro i hi
 have key:∀ (l:List Bool) (i:Nat),i<32→l.length=32→(word l).getLsbD i=l.getD (31-i) false:=by
  intro l
  have gen:∀ (l:List Bool) (i:Nat),i<32→(word l).getLsbD i=l.getD (31-i) false:=by
   intro l
   induction l with
   | nil=>intro i _;simp [word]
   | cons b l ih =>
    intro i hi
    simp only [word,BitVec.getLsbD_xor,BitVec.getLsbD_ushiftRight]
    by_cases h31:i=31
    ·
     subst h31
     rw [BitVec.getLsbD_of_ge _ (1+31) (by omega)]
     cases b<;>simp [top]
    ·
     rw [Nat.add_comm 1 i,ih (i+1) (by omega)]
     have:(top b).getLsbD i=false:=by
      cases b
      · simp [top]
      ·
       simp only [top,if_true]
       rw [show (0x80000000#32:W)=BitVec.twoPow 32 31 from by decide,BitVec.getLsbD_twoPow]
       simp;omega
     rw [this]
     have:31-i=(31-(i+1))+1:=by omega
     rw [this]
     simp
  intro i hi _
  exact gen l i hi
 rw [key _ i hi (by rw [allBits_length];rfl)]
 rw [BitVec.getLsbD_ofNat]
 have tb:∀ (k j:Nat),k<8→(s / 2 ^ j%256).testBit k=s.testBit (j+k):=by
  intro k j hk
  rw [show (256:Nat)=2 ^ 8 from rfl,Nat.testBit_mod_two_pow,Nat.testBit_div_two_pow]
  simp [hk,Nat.add_comm]
 have h24:s / 16777216%256=s / 2 ^ 24%256:=rfl
 have h16:s / 65536%256=s / 2 ^ 16%256:=rfl
 have h8:s / 256%256=s / 2 ^ 8%256:=rfl
 have h0:s%256=s / 2 ^ 0%256:=by simp
 have ex:allBits (tail4 s)=(List.range 32).map (fun j=>s.testBit (31-j)):=by
  unfold tail4
  rw [h24,h16,h8,h0]
  simp only [allBits,List.flatMap_cons,List.flatMap_nil,byteBits,List.append_nil]
  simp only [tb 0 _ (by omega),tb 1 _ (by omega),tb 2 _ (by omega),tb 3 _ (by omega),tb 4 _ (by omega),tb 5 _ (by omega),tb 6 _ (by omega),tb 7 _ (by omega)]
  rfl
 rw [ex]
 simp [List.getD_eq_getElem?_getD,hi]
 rw [List.getElem?_range (by omega)]
 simp
 congr 1
 omega
theorem more_tail (s t:Nat) (hs:s<4294967296) (ht:t<4294967296):more (BitVec.ofNat 32 s) (tail4 t)=0#32↔s=t:=by
 unfold more
 rw [zdH _ _ (by rw [allBits_length];simp [tail4]),zof t]
 constructor
 ·
  intro h
  have h1:=zcV _ h
  apply zjw hs ht
  have h2:BitVec.ofNat 32 s^^^BitVec.ofNat 32 t^^^BitVec.ofNat 32 t=0#32^^^BitVec.ofNat 32 t:=by rw [h1]
  simpa [BitVec.xor_assoc] using h2
 ·
  rintro rfl
  simp [zjt]
def P:List Bool→W→W
 | [],_=>0#32
 | c::l,a=>(if c then a else 0#32)^^^P l (X a)
theorem zpa:∀ (l:List Bool) (a b:W),P l (a^^^b)=P l a^^^P l b:=by
 intro l
 induction l with
 | nil=>intro a b;simp [P]
 | cons c l ih =>
  intro a b
  simp only [P,zjr,ih]
  cases c
  · simp
  · simp only [if_true];ac_rfl
theorem zmP:∀ (l:List Bool),P l 0#32=0#32:=by
 intro l
 induction l with
 | nil=>rfl
 | cons c l ih=>simp only [P,zfs,ih];cases c<;>simp
theorem P_X:∀ (l:List Bool) (a:W),P l (X a)=X (P l a):=by
 intro l
 induction l with
 | nil=>intro a;simp [P,zfs]
 | cons c l ih =>
  intro a
  simp only [P,zjr,ih]
  cases c<;>simp [zfs]
theorem zog (m:List Bool):∀ (l:List Bool) (a:W),P l (P m a)=P m (P l a):=by
 intro l
 induction l with
 | nil=>intro a;simp [P,zmP]
 | cons c l ih =>
  intro a
  simp only [P,zpa]
  rw [←P_X,ih]
  cases c<;>simp [zmP]
def low:Nat→Nat→List Bool
 | 0,_=>[]
 | n+1,b=>(b%2==1)::low n (b / 2)
theorem zpb : ∀ (n j b : Nat), n + j ≤ 32 → b < 2 ^ n → P (low n b) (BitVec.ofNat 32 (2 ^ j)) = BitVec.ofNat 32 (b * 2 ^ j) := by
  intro n
  induction n with
  | zero => intro j b _ hb; obtain rfl : b = 0 := by simpa using hb
            simp [low,P]
  | succ n ih =>
    intro j b h hb
    have hb2:b / 2<2 ^ n:=by rw [Nat.pow_succ] at hb;omega
    have hrest : P (low n (b / 2)) (X (BitVec.ofNat 32 (2 ^ j))) = BitVec.ofNat 32 (b / 2 * 2 ^ (j + 1)) := by
      cases n with
      | zero =>
        have:b / 2=0:=by simpa using hb2
        simp [low,P,this]
      | succ n =>
        have hj:j<31:=by omega
        have hp:2 ^ j<2 ^ 31:=Nat.pow_lt_pow_right (by decide) hj
        have : X (BitVec.ofNat 32 (2 ^ j)) = BitVec.ofNat 32 (2 ^ (j + 1)) := by
          have hp':2 ^ j<2147483648:=hp
          rw [X_lo (by rw [BitVec.msb_eq_decide,BitVec.toNat_ofNat,Nat.mod_eq_of_lt (by omega)];simpa using hp')]
          apply BitVec.eq_of_toNat_eq
          simp [Nat.shiftLeft_eq,Nat.pow_succ]
        rw [this]
        exact ih (j+1) (b / 2) (by omega) hb2
    simp only [low,P]
    rw [hrest]
    have e : b * 2 ^ j = (b % 2) * 2 ^ j + b / 2 * 2 ^ (j + 1) := by
      have:b=b%2+2*(b / 2):=by omega
      conv=>lhs;rw [this]
      rw [Nat.add_mul,Nat.pow_succ]
      congr 1
      rw [Nat.mul_comm 2,Nat.mul_assoc,Nat.mul_comm 2]
    by_cases ho:b%2=1
    · rw [ho] at e
      rw [e]
      simp only [ho,beq_self_eq_true,if_true,Nat.one_mul]
      have hle:2 ^ j≤2 ^ 31:=Nat.pow_le_pow_right (by decide) (by omega)
      have hdisj : 2 ^ j + b / 2 * 2 ^ (j + 1) = 2 ^ j ^^^ (b / 2 * 2 ^ (j + 1)) := by
        apply Nat.eq_of_testBit_eq
        intro i
        rw [Nat.testBit_xor,Nat.add_comm,Nat.mul_comm (b / 2),Nat.testBit_two_pow_mul_add _ (Nat.pow_lt_pow_right (by decide) (by omega)),Nat.testBit_two_pow_mul,Nat.testBit_two_pow]
        by_cases hi:i<j+1
        · simp [hi,Nat.not_le.2 hi]
        · have : ¬ j = i := by omega
          simp [hi,Nat.le_of_not_lt hi,this]
      rw [hdisj]
      apply BitVec.eq_of_toNat_eq
      simp only [BitVec.toNat_xor,BitVec.toNat_ofNat]
      rw [Nat.xor_mod_two_pow]
    · have h0 : b % 2 = 0 := by omega
      rw [h0] at e
      rw [e]
      simp [h0]
def mul (a:W) (b:Nat):W:=P (low 32 b) a
theorem mul_one (b:Nat) (hb:b<4294967296):mul 1#32 b=BitVec.ofNat 32 b:=by
 have:=zpb 32 0 b (by omega) hb
 simpa [mul] using this
theorem mul_comm (a b:Nat) (ha:a<4294967296) (hb:b<4294967296):mul (BitVec.ofNat 32 a) b=mul (BitVec.ofNat 32 b) a:=by
 rw [←mul_one a ha,←mul_one b hb]
 exact zog _ _ _
def stepN (a:Nat):Nat:=((a*2)%4294967296)^^^((0x04c11db7*(a / 2147483648))%4294967296)
def zfu:Nat→Nat→Nat→Nat→Nat
 | 0,out,_,_=>out
 | n+1,out,a,b=>if b=0 then out else zfu n (if b%2=1 then out^^^a else out) (stepN a) (b / 2)
def zoh (a b:Nat):Nat:=zfu 32 0 a b
def zdJ:Nat→Nat→Nat→Nat→Nat
 | 0,sum,_,_=>sum
 | f+1,sum,by_,n=>if n=0 then sum else zdJ f (if n%2=1 then zoh sum by_ else sum) (zoh by_ by_) (n / 2)
def noughts (sum n:Nat):Nat:=zdJ 64 sum 256 n
end Crc
end Go.Proofs.YtdffbihilhkkjaaGreatDoor
