import Derived.Test.YtdffbihilhkkjaaGreatDoorZ4
import Derived.Test.YtdffbihilhkkjaaGreatDoorZ5
namespace Go.Proofs.YtdffbihilhkkjaaGreatDoor
open Go.RowKit
set_option linter.unusedVariables false
set_option linter.unusedSimpArgs false
set_option maxRecDepth 100000
set_option maxHeartbeats 8000000
inductive ErrN:Value→Nat→Prop
 | none:ErrN .nilIface 0
 | num (x:Nat) (h:x≠0):ErrN (.iface 149 (.int .i64 (x:Int))) x
theorem ErrN.v {V:Value} {x:Nat} (h:ErrN V x):ErrV V (x:Int):=by
 cases h with
 | none=>exact ErrV.none
 | num y hy=>exact ErrV.num _
structure InAt (w:World) (g:Nat) (s:Tl.In):Prop where
 at_:∃ A n c V,Blk w g #[.slice A n c,V] 256∧Bs w A n c s.b∧ErrN V s.e
theorem InAt.lt {w:World} {g:Nat} {s:Tl.In} (h:InAt w g s):g<w.heap.size:=by
 obtain ⟨A,n,c,V,hB,_⟩:=h.at_
 exact hB.lt
theorem InAt.keep {w w1:World} {g:Nat} {s:Tl.In} (h:InAt w g s) (hb:Below w.heap.size w w1):InAt w1 g s:=by
 obtain ⟨A,n,c,V,hB,hs,hV⟩:=h.at_
 exact ⟨A,n,c,V,hB.keep hb,hs.keep hb,hV⟩
theorem InAt.small {w:World} {g:Nat} {s:Tl.In} (h:InAt w g s):∀ x∈s.b,x<256:=by
 obtain ⟨A,n,c,V,hB,hs,hV⟩:=h.at_
 exact hs.small
theorem zhl {w:World} {g:Nat} {A B:Option Addr} {n c m d:Nat} {V:Value} {l:List Nat} {e:Nat} (hB:Blk w g #[.slice B m d,V] 256) (hs:Bs w A n c l) (hV:ErrN V e):0<n→A.map (·.block)≠some g:=fun h=>by
 refine hs.apart hB ?_ h
 intro i v hv x hx
 subst hx
 match i,hv with
 | 0,hv=>simp at hv
 | 1,hv=>cases hV<;>simp at hv
 | i+2,hv=>simp at hv
abbrev inIn (g:Nat):Nat→Prop:=fun k=>k=g
theorem zhm {w:World} {g:Nat} {A:Option Addr} {n c:Nat} {l:List Nat} (hs:Bs w A n c l) (hf:0<n→A.map (·.block)≠some g) (j:Nat) (u:Value):Bs (w.setCell ⟨g,j,none⟩ u) A n c l :=
 hs.far ((Kept.refl (inIn g) w).set (fun _=>rfl) u) (fun h b hb e=>hf h (by rw [hb,e]))
theorem zdM (w:World) (g j:Nat) (u:Value):Kept (inIn g) w (w.setCell ⟨g,j,none⟩ u):=(Kept.refl (inIn g) w).set (fun _=>rfl) u
theorem zhn {w : World} {g : Nat} {A : Option Addr} {n c : Nat} {V V' : Value} {l : List Nat} {e e' : Nat} (hB : Blk w g #[.slice A n c, V] 256) (hs : Bs w A n c l) (hV : ErrN V e) (hV' : ErrN V' e') :
    InAt (w.setCell ⟨g,1,none⟩ V') g ⟨l,e'⟩∧Kept (inIn g) w (w.setCell ⟨g,1,none⟩ V') :=
  ⟨⟨A,n,c,V',by simpa using hB.set 1 V',zhm hs (zhl hB hs hV) 1 V',hV'⟩,zdM _ _ _ _⟩
theorem zom {w : World} {g : Nat} {A A' : Option Addr} {n c n' c' : Nat} {V : Value} {l' : List Nat} {e : Nat} (hB : Blk w g #[.slice A n c, V] 256) (hV : ErrN V e) (hs' : Bs w A' n' c' l') :
    InAt (w.setCell ⟨g,0,none⟩ (.slice A' n' c')) g ⟨l',e⟩∧Kept (inIn g) w (w.setCell ⟨g,0,none⟩ (.slice A' n' c')) :=
  ⟨⟨A',n',c',V,by simpa using hB.set 0 (.slice A' n' c'),zhm hs' (zhl hB hs' hV) 0 _,hV⟩,zdM _ _ _ _⟩
def z9 (s:Tl.In) (n:Int) (top ab:Nat):Nat :=
 if s.e≠0 then s.e else if n<1∨8<n then 1 else if (s.b.length:Int)<n then 12 else if top<Tl.num (s.b.take n.toNat) then ab else 0
def znk (w:World) (g:Nat) (s:Tl.In) (x:Nat) (e:Ending) (w':World):Prop :=
 e=.returned (.tuple #[.int .u64 0,.bool false])∧InAt w' g ⟨s.b,x⟩∧Kept (inIn g) w w'
theorem zlx (g : Nat) (s : Tl.In) (n : Int) (top ab : Nat) (w : World) (hI : InAt w g s) (ht : top < 18446744073709551616) (hab : ab ≠ 0) (hx : z9 s n top ab ≠ 0) :
    Calls Tryz.prog 160 #[.pointer (some ⟨g,0,none⟩),.int .i64 n,.int .u64 top,.iface 149 (.int .i64 ab)] w (znk w g s (z9 s n top ab)):=by
  obtain ⟨A,m,c,V,hB,hs,hV⟩:=hI.at_
  have hcap:=hs.cap
  have hln:=hs.len
  have hc0:=hB.cell 0 rfl
  have hc1:=hB.cell 1 rfl
  have hf:=hB.free 1
  rcases s with ⟨l,e⟩
  simp only at hs hV hln ⊢
  subst hln
  cases hV with
  | num x h0 =>
    have he:Hid (z9 ⟨l,e⟩ n top ab=e):=qH (by unfold z9;simp [h0])
    clear hx
    go_enter Tryz.func160,Tryz.ntmps160
    go_wp2
    go_ret2
    exact ⟨rfl,by rw [he.out];exact hI,Kept.refl _ _⟩
  | none =>
    by_cases h1:n<1
    · have he : Hid (z9 ⟨l, 0⟩ n top ab = 1) := qH (by unfold z9; simp [h1])
      clear hx
      go_enter Tryz.func160,Tryz.ntmps160
      go_wp2
      go_ret2
      have hi:=zhn hB hs ErrN.none (ErrN.num 1 (by decide))
      exact ⟨rfl,by rw [he.out];exact hi.1,hi.2⟩
    · by_cases h8 : 8 < n
      · have he : Hid (z9 ⟨l, 0⟩ n top ab = 1) := qH (by unfold z9; simp [h8])
        clear hx
        go_enter Tryz.func160,Tryz.ntmps160
        go_wp2
        go_ret2
        have hi:=zhn hB hs ErrN.none (ErrN.num 1 (by decide))
        exact ⟨rfl,by rw [he.out];exact hi.1,hi.2⟩
      · obtain ⟨k, rfl⟩ : ∃ k : Nat, n = (k : Int) := ⟨n.toNat, by omega⟩
        have h18:¬ ((k:Int)<1∨8<(k:Int)):=by omega
        by_cases hl:l.length<k
        · have he : Hid (z9 ⟨l, 0⟩ k top ab = 12) := qH (by unfold z9; simp only [ne_eq, not_true_eq_false, if_false, h18]; rw [if_pos (by omega)])
          clear hx h18
          have hl':(l.length:Int)<(k:Int):=by omega
          go_enter Tryz.func160,Tryz.ntmps160
          go_wp2
          go_ret2
          have hi:=zhn hB hs ErrN.none (ErrN.num 12 (by decide))
          exact ⟨rfl,by rw [he.out];exact hi.1,hi.2⟩
        · have he0 : z9 ⟨l, 0⟩ k top ab = if top < Tl.num (l.take k) then ab else 0 := by unfold z9; simp only [ne_eq, not_true_eq_false, if_false, h18]; rw [if_neg (by omega)]; rfl
          have htop : top < Tl.num (l.take k) := by
            by_cases h:top<Tl.num (l.take k)
            · exact h
            · rw [he0,if_neg h] at hx;exact absurd rfl hx
          have he:Hid (z9 ⟨l,0⟩ k top ab=ab):=qH (by rw [he0,if_pos htop])
          clear hx h18 he0
          have hl':¬ (l.length:Int)<(k:Int):=by omega
          have hbt:=hs.take k (by omega)
          have hk8:k≤8:=by omega
          have hkc:(k:Int)≤(c:Int):=by omega
          have hkc':k≤c:=by omega
          have htop':(top:Int)<(Tl.num (l.take k):Int):=by omega
          clear htop
          go_enter Tryz.func160,Tryz.ntmps160
          go_wp2_with (go_at_call 141;refine (zap A k c _ _ hbt hk8).mono ?_;rintro e w1 ⟨rfl,rfl⟩)
          go_ret2
          have hi:=zhn hB hs ErrN.none (ErrN.num ab hab)
          exact ⟨rfl,by rw [he.out];exact hi.1,hi.2⟩
theorem zgj (g : Nat) (l : List Nat) (k top ab : Nat) (w : World) (hI : InAt w g ⟨l, 0⟩) (ht : top < 18446744073709551616) (h1 : 1 ≤ k) (h8 : k ≤ 8) (hl : k ≤ l.length) (htop : Tl.num (l.take k) ≤ top) :
    Calls Tryz.prog 160 #[.pointer (some ⟨g,0,none⟩),.int .i64 (k:Int),.int .u64 top,.iface 149 (.int .i64 ab)] w fun e w'=>e=.returned (.tuple #[.int .u64 (Tl.num (l.take k):Nat),.bool true])∧w=w':=by
  obtain ⟨A,m,c,V,hB,hs,hV⟩:=hI.at_
  have hcap:=hs.cap
  have hln:=hs.len
  have hc0:=hB.cell 0 rfl
  have hc1:=hB.cell 1 rfl
  simp only at hs hV hln
  subst hln
  obtain rfl:V=.nilIface:=by cases hV with | none=>rfl | num x h=>exact absurd rfl h
  have h1':¬ (k:Int)<1:=by omega
  have h8':¬ 8<(k:Int):=by omega
  have hl':¬ (l.length:Int)<(k:Int):=by omega
  have hbt:=hs.take k hl
  have hkc:(k:Int)≤(c:Int):=by omega
  have hkc':k≤c:=by omega
  have htop':¬ (top:Int)<(Tl.num (l.take k):Int):=by omega
  clear htop
  go_enter Tryz.func160,Tryz.ntmps160
  go_wp2_with (go_at_call 141;refine (zap A k c _ _ hbt h8).mono ?_;rintro e w1 ⟨rfl,rfl⟩)
  go_ret2
  exact ⟨rfl,rfl⟩
def zjC (w:World) (g:Nat) (s:Tl.In) (n:Int) (top:Nat) (e:Ending) (w':World):Prop :=
 e=.returned (.int .u64 ((Tl.takeN s n top).2:Nat))∧InAt w' g (Tl.takeN s n top).1∧Kept (inIn g) w w'
theorem takeN_bad {s:Tl.In} {n:Int} {top:Nat} (h:z9 s n top 4≠0):Tl.takeN s n top=(⟨s.b,z9 s n top 4⟩,0):=by
 rcases s with ⟨l,e⟩
 revert h
 unfold Tl.takeN z9
 by_cases h0:e=0<;>by_cases h1:n<1∨8<n<;>by_cases h2:(l.length:Int)<n<;>by_cases h3:top<Tl.num (l.take n.toNat)<;>simp [h0,h1,h2,h3]
theorem zho {s:Tl.In} {n:Int} {top:Nat} (h:z9 s n top 4=0):s.e=0∧1≤n∧n≤8∧n≤(s.b.length:Int)∧Tl.num (s.b.take n.toNat)≤top∧Tl.takeN s n top=(⟨s.b.drop n.toNat,0⟩,Tl.num (s.b.take n.toNat)):=by
 rcases s with ⟨l,e⟩
 revert h
 unfold Tl.takeN z9
 by_cases h0:e=0<;>by_cases h1:n<1∨8<n<;>by_cases h2:(l.length:Int)<n<;>by_cases h3:top<Tl.num (l.take n.toNat)<;>simp [h0,h1,h2,h3]
 omega
theorem znl (g : Nat) (s : Tl.In) (n : Int) (top : Nat) (w : World) (hI : InAt w g s) (ht : top < 18446744073709551616) :
    Calls Tryz.prog 93 #[.pointer (some ⟨g,0,none⟩),.int .i64 n,.int .u64 top] w (zjC w g s n top):=by
  by_cases hx:z9 s n top 4=0
  · obtain ⟨h0, h1, h8, hl, htop, he⟩ := zho hx
    have he':=qH he
    rcases s with ⟨l,e⟩
    obtain ⟨k,rfl⟩:∃ k:Nat,n=(k:Int):=⟨n.toNat,by omega⟩
    simp only [Int.toNat_natCast] at h0 h1 h8 hl htop he'
    subst h0
    clear hx he
    obtain ⟨A,m,c,V,hB,hs,hV⟩:=hI.at_
    have hcap:=hs.cap
    have hln:=hs.len
    have hc0:=hB.cell 0 rfl
    have hf:=hB.free 0
    simp only at hs hV hln
    subst hln
    obtain ⟨A',hA',hB'⟩:=zbD (P:=Tryz.prog) 65 5 .i64 Tryz.underlying65 Tryz.info5 A l.length c k (by omega)
    have hs':=hB' w l hs
    have k1:1≤k:=by omega
    have k8:k≤8:=by omega
    have kl:k≤l.length:=by omega
    go_enter Tryz.func93,Tryz.ntmps93
    go_wp2_with (go_at_call 160;refine (zgj g l k top 4 _ hI ht k1 k8 kl htop).mono ?_;rintro e w1 ⟨rfl,rfl⟩)
    go_ret
    have hi:=zom hB hV hs'
    unfold zjC
    rw [he'.out]
    exact ⟨rfl,hi.1,hi.2⟩
  · have he' := qH (takeN_bad hx)
    go_enter Tryz.func93,Tryz.ntmps93
    go_wp2_with (go_at_call 160;refine (zlx g s n top 4 _ hI ht (by decide) hx).mono ?_;rintro e w1 ⟨rfl,hi,hk⟩)
    go_ret
    unfold zjC
    rw [he'.out]
    exact ⟨rfl,hi,hk⟩
def zpi (w:World) (s:Tl.In) (e:Ending) (w':World):Prop:=∃ V,e=.returned V∧ErrN V (Tl.done s)∧w=w'
theorem zeC (g : Nat) (s : Tl.In) (w : World) (hI : InAt w g s) :
    Calls Tryz.prog 42 #[.pointer (some ⟨g,0,none⟩)] w (zpi w s):=by
  obtain ⟨A,m,c,V,hB,hs,hV⟩:=hI.at_
  have hln:=hs.len
  have hc0:=hB.cell 0 rfl
  have hc1:=hB.cell 1 rfl
  rcases s with ⟨l,e⟩
  simp only at hs hV hln
  subst hln
  cases hV with
  | num x h0 =>
    go_enter Tryz.func42,Tryz.ntmps42
    go_wp2
    go_ret
    exact ⟨_,rfl,by unfold Tl.done;simp only [h0,false_and,if_false];exact ErrN.num _ h0,rfl⟩
  | none =>
    by_cases h:0<l.length
    · have h' : (0 : Int) < (l.length : Int) := by omega
      have hd:Hid (Tl.done ⟨l,0⟩=3):=qH (by unfold Tl.done;rw [if_pos ⟨rfl,h⟩])
      clear h
      go_enter Tryz.func42,Tryz.ntmps42
      go_wp2
      go_ret
      exact ⟨_,rfl,by rw [hd.out];exact ErrN.num 3 (by decide),rfl⟩
    · have h' : ¬ (0 : Int) < (l.length : Int) := by omega
      have hd:Hid (Tl.done ⟨l,0⟩=0):=qH (by unfold Tl.done;rw [if_neg (fun q=>h q.2)])
      clear h
      go_enter Tryz.func42,Tryz.ntmps42
      go_wp2
      go_ret
      exact ⟨_,rfl,by rw [hd.out];exact ErrN.none,rfl⟩
theorem max2 (x y : Int) (ts : Array TypeId) (t : TypeId) (W : World) :
    (Builtin.max_ ts t #[.int .i64 x,.int .i64 y]).run Tryz.prog W=.ok (.int .i64 (if x<y then y else x)) W:=by
  have two:=fun (x y:Int)=>(show Builtin.max2 (.int .i64 x) (.int .i64 y)=pure (.int .i64 (if x<y then y else x)) by simp only [Builtin.max2])
  simp only [Builtin.max_,List.foldlM_cons,List.foldlM_nil,two,pure_bind,Sem.run_pure]
theorem zgk {l:List Nat} {e:Nat} {top:Int} (h:e≠0):Tl.takeRun ⟨l,e⟩ top=(⟨l,e⟩,[]):=by unfold Tl.takeRun;simp [h]
theorem zgl {l:List Nat} {top:Int} (h:top<0):Tl.takeRun ⟨l,0⟩ top=(⟨l,1⟩,[]):=by unfold Tl.takeRun;simp [h]
theorem zgm {l:List Nat} {top:Nat} (h:z9 ⟨l,0⟩ 4 top 2≠0):Tl.takeRun ⟨l,0⟩ top=(⟨l,z9 ⟨l,0⟩ 4 top 2⟩,[]):=by
 revert h
 unfold Tl.takeRun z9
 have h0:¬ (top:Int)<0:=by omega
 have h1:¬ ((4:Int)<1∨(8:Int)<4):=by omega
 have e4:(4:Int).toNat=4:=rfl
 by_cases h2:l.length<4
 ·
  have h2':(l.length:Int)<4:=by omega
  simp [h0,h2,h2']
 ·
  have h2':¬ (l.length:Int)<4:=by omega
  by_cases h3:top<Tl.num (l.take 4)
  ·
   have h3':(top:Int)<(Tl.num (l.take 4):Int):=by omega
   simp [h0,h2,h2',e4,h3,h3']
  · simp [h0,h2,h2',e4,h3]
theorem zic {l:List Nat} {top:Nat} (h:z9 ⟨l,0⟩ 4 top 2=0):4≤l.length∧Tl.num (l.take 4)≤top ∧
  Tl.takeRun ⟨l,0⟩ top=if l.length-4<Tl.num (l.take 4) then (⟨l,12⟩,[]) else (⟨l.drop (4+Tl.num (l.take 4)),0⟩,(l.drop 4).take (Tl.num (l.take 4))):=by
 revert h
 unfold Tl.takeRun z9
 have h0:¬ (top:Int)<0:=by omega
 have e4:(4:Int).toNat=4:=rfl
 by_cases h2:l.length<4
 ·
  have h2':(l.length:Int)<4:=by omega
  simp [h0,h2,h2']
 ·
  have h2':¬ (l.length:Int)<4:=by omega
  by_cases h3:top<Tl.num (l.take 4)
  ·
   have h3':(top:Int)<(Tl.num (l.take 4):Int):=by omega
   simp [h0,h2,h2',e4,h3,h3']
  ·
   have h3':¬ (top:Int)<(Tl.num (l.take 4):Int):=by omega
   simp [h0,h2,h2',e4,h3,h3']
   omega
structure OutAt (w:World) (base g:Nat) (r:Option Nat) (l:List Nat):Prop where
 at_:∃ A n c,Blk w g #[.slice A n c] 281∧Own w base 5 A n c l∧A.map (·.block)=r
 ge:base≤g
 ne:r≠some g
abbrev inOut (g:Nat) (r:Option Nat):Nat→Prop:=fun k=>k=g∨r=some k
theorem OutAt.lt {w:World} {base g:Nat} {r:Option Nat} {l:List Nat} (h:OutAt w base g r l):g<w.heap.size:=by
 obtain ⟨A,n,c,hB,_⟩:=h.at_
 exact hB.lt
theorem OutAt.rlt {w:World} {base g:Nat} {r:Option Nat} {l:List Nat} (h:OutAt w base g r l):∀ k,r=some k→base≤k∧k<w.heap.size:=by
 obtain ⟨A,n,c,_,hO,rfl⟩:=h.at_
 exact hO.ge
theorem OutAt.keep {w w1:World} {base g:Nat} {r:Option Nat} {l:List Nat} (h:OutAt w base g r l) (hb:Below w.heap.size w w1):OutAt w1 base g r l:=by
 obtain ⟨A,n,c,hB,hO,hA⟩:=h.at_
 exact ⟨⟨A,n,c,hB.keep hb,hO.keep hb,hA⟩,h.ge,h.ne⟩
theorem OutAt.kept {S:Nat→Prop} {w w1:World} {base g:Nat} {r:Option Nat} {l:List Nat} (h:OutAt w base g r l) (k:Kept S w w1) (hg:¬ S g) (hr:∀ b,r=some b→¬ S b):OutAt w1 base g r l:=by
 obtain ⟨A,n,c,hB,hO,rfl⟩:=h.at_
 exact ⟨⟨A,n,c,hB.kept k hg,hO.kept k hr,rfl⟩,h.ge,h.ne⟩
theorem OutAt.small {w:World} {base g:Nat} {r:Option Nat} {l:List Nat} (h:OutAt w base g r l):∀ x∈l,x<256:=by
 obtain ⟨A,n,c,_,hO,_⟩:=h.at_
 exact hO.small
def Laid (w:World) (base g:Nat) (r:Option Nat) (l:List Nat) (e:Ending) (w':World):Prop :=
 ∃ r',e=.returned (.pointer (some ⟨g,0,none⟩))∧OutAt w' base g r' l∧Kept (inOut g r) w w'∧(r'=r∨∀ k,r'=some k→w.heap.size≤k)
theorem zeD (w:World):Calls Tryz.prog 48 #[] w fun e w'=>e=.returned (.pointer (some ⟨w.heap.size,0,none⟩))∧w'=w.alloc (.cells #[.slice none 0 0] 281):=by
 go_enter Tryz.func48,Tryz.ntmps48
 go_wp2
 go_ret
 exact ⟨rfl,rfl⟩
theorem OutAt.new (w:World) (base:Nat) (hb:base≤w.heap.size):OutAt (w.alloc (.cells #[.slice none 0 0] 281)) base w.heap.size none [] :=
 ⟨⟨none,0,0,Blk.new _ _ _,Own.nil _ _ _,rfl⟩,hb,by simp⟩
def NewO (w:World) (e:Ending) (w':World):Prop:=e=.returned (.pointer (some ⟨w.heap.size,0,none⟩))∧OutAt w' w.heap.size w.heap.size none []∧Below w.heap.size w w'
theorem OutAt.store {w w1 : World} {base g : Nat} {A A1 : Option Addr} {n c n1 c1 : Nat} {l1 : List Nat} (hB : Blk w g #[.slice A n c] 281) (hge : base ≤ g) (hne : A.map (·.block) ≠ some g)
    (hO1:Own w1 base 5 A1 n1 c1 l1) (hk:Kept (inRow A) w w1) (hat:AtB w A A1) :
    OutAt (w1.setCell ⟨g,0,none⟩ (.slice A1 n1 c1)) base g (A1.map (·.block)) l1∧Kept (inOut g (A.map (·.block))) w (w1.setCell ⟨g,0,none⟩ (.slice A1 n1 c1)):=by
  have hlt:=hB.lt
  have h1 : A1.map (·.block) ≠ some g := by
    rcases hat with e | e
    · rw [e];exact hne
    · intro h;have:=e g h;omega
  have hB1:=hB.kept hk hne
  refine ⟨⟨⟨A1,n1,c1,by simpa using hB1.set 0 (.slice A1 n1 c1),?_,rfl⟩,hge,h1⟩,?_⟩
  · exact hO1.kept ((Kept.refl (fun k=>k=g) w1).set (fun _=>rfl) _) (fun b hb e=>h1 (by rw [hb,e]))
  · exact (hk.mono (fun i _ h=>.inr h)).set (fun _=>.inl rfl) _
theorem zdA (base g : Nat) (r : Option Nat) (l : List Nat) (v m : Nat) (w : World) (hO : OutAt w base g r l) (hv : v < 18446744073709551616) (hm1 : 1 ≤ m) (hm : m ≤ 8) (hn : l.length + m ≤ 140737488355328) :
    Calls Tryz.prog 50 #[.pointer (some ⟨g,0,none⟩),.int .u64 v,.int .i64 m] w (Laid w base g r (l++Tl.le m v)):=by
  obtain ⟨⟨A,n,c,hB,hown,rfl⟩,hge,hne⟩:=hO
  have hln:=hown.len
  subst hln
  have hm1':(1:Int)≤(m:Int):=by omega
  have hm':(m:Int)≤8:=by omega
  have hc:=hB.cell 0 rfl
  have hbase:base≤w.heap.size:=Nat.le_trans hge (Nat.le_of_lt hB.lt)
  go_enter Tryz.func50,Tryz.ntmps50
  go_wp2_with fail
  refine (zdL base A _ c l v m w hown hbase hv hm1 hm hn).mono ?_
  rintro e w1 ⟨A1,c1,rfl,hown1,hk1,hat⟩
  have hB1:=hB.kept hk1 hne
  have hc1:=hB1.cell 0 rfl
  have hf1:=hB1.free 0
  go_wp2
  go_ret
  have hs:=OutAt.store hB hge hne hown1 hk1 hat
  exact ⟨_,rfl,hs.1,hs.2,hat⟩
theorem zid (base g : Nat) (r : Option Nat) (l : List Nat) (A' : Option Addr) (n' c' : Nat) (l' : List Nat) (w : World) (hO : OutAt w base g r l) (hb' : Bs w A' n' c' l') (hfar : 0 < n' → A'.map (·.block) ≠ r ∧ A'.map (·.block) ≠ some g) (hn : l.length + 4 + n' ≤ 140737488355328) :
    Calls Tryz.prog 132 #[.pointer (some ⟨g,0,none⟩),.slice A' n' c'] w (Laid w base g r (l++Tl.le 4 n'++l')):=by
  obtain ⟨⟨A,n,c,hB,hown,rfl⟩,hge,hne⟩:=hO
  have hln:=hown.len
  subst hln
  have hc:=hB.cell 0 rfl
  have hbase:base≤w.heap.size:=Nat.le_trans hge (Nat.le_of_lt hB.lt)
  have hn4:l.length+4≤140737488355328:=by omega
  have hn':n'<18446744073709551616:=by omega
  go_enter Tryz.func132,Tryz.ntmps132
  go_wp2_with fail
  refine (zdL base A _ c l n' 4 w hown hbase hn' (by omega) (by omega) hn4).mono ?_
  rintro e w1 ⟨A1,c1,rfl,hown1,hk1,hat⟩
  have hb1:=hb'.far hk1 (fun h b e1 e2=>(hfar h).1 (by rw [e1];exact e2.symm))
  have hB1:=hB.kept hk1 hne
  have hsz:=hk1.size
  have hlt:=hB.lt
  go_wp2_with (at_builtin;refine zaO rfl _ _ 65 5 rfl Tryz.underlying65 Tryz.info5 base A1 (l.length+4) c1 _ A' n' c' l' (l.length+4+n') rfl rfl rfl hown1 hb1 (by omega) hn ?_;intro A2 c2 w2 hown2 hg2 hat2;have hk2:=hk1.grown_ hg2 hat.lt;have hB2:=hB.kept hk2 hne;have hc2:=hB2.cell 0 rfl;have hf2:=hB2.free 0)
  go_ret
  have hat3:=hat.step hsz hat2
  have hs:=OutAt.store hB hge hne hown2 hk2 hat3
  exact ⟨_,rfl,by rw [←List.append_assoc];exact hs.1,hs.2,hat3⟩
theorem zdN (base g : Nat) (r : Option Nat) (l : List Nat) (w : World) (hO : OutAt w base g r l) :
    Calls Tryz.prog 49 #[.pointer (some ⟨g,0,none⟩)] w (zlu w l.length l):=by
  obtain ⟨⟨A,n,c,hB,hown,rfl⟩,hge,hne⟩:=hO
  have hln:=hown.len
  subst hln
  have hc:=hB.cell 0 rfl
  go_enter Tryz.func49,Tryz.ntmps49
  go_wp2_with fail
  refine (zbs A _ c l w hown.bs).mono ?_
  rintro e w1 ⟨A1,c1,rfl,hown1,hb1⟩
  go_wp2
  go_ret
  exact ⟨A1,c1,rfl,hown1,hb1⟩
end Go.Proofs.YtdffbihilhkkjaaGreatDoor
