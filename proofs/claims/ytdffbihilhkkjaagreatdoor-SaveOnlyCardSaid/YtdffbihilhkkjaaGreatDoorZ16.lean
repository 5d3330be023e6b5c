import Derived.Test.YtdffbihilhkkjaaGreatDoorZ8
import Derived.Test.YtdffbihilhkkjaaGreatDoorZ11
import Derived.Test.YtdffbihilhkkjaaGreatDoorZ13
import Derived.Test.YtdffbihilhkkjaaGreatDoorZ15
namespace Go.Proofs.YtdffbihilhkkjaaGreatDoor
open Go.RowKit
set_option linter.unusedVariables false
set_option linter.unusedSimpArgs false
set_option maxRecDepth 100000
set_option maxHeartbeats 8000000
abbrev tkV (g:Nat):Value:=.agg #[.pointer (some ⟨g,0,none⟩)]
theorem za0 (s:Tl.In) (n:Int) (top:Nat):(Tl.takeN s n top).2≤top:=by
 unfold Tl.takeN
 split
 · exact Nat.zero_le _
 ·
  split
  · exact Nat.zero_le _
  ·
   split
   · exact Nat.zero_le _
   ·
    split
    · exact Nat.zero_le _
    · omega
def TkP (w0 w:World) (g:Nat) (s:Tl.In) (n:Int) (top:Nat) (V:Nat→Value) (e:Ending) (w':World):Prop :=
 e=.returned (V (Tl.takeN s n top).2)∧InW w0 w' g (Tl.takeN s n top).1∧Kept (inIn g) w w'
theorem zR {w0 w:World} {g:Nat} {s:Tl.In} (h:InW w0 w g s) (o:Obj):InW w0 (w.alloc o) g s:=h.keep (za (Below.refl _ _) _)
theorem zbu {S:Nat→Prop} {w w':World} {o:Obj} (h:Kept S (w.alloc o) w'):Kept S w w':=((Kept.refl S w).alloc o).trans h
theorem zj5 (g:Nat) (s:Tl.In) (w0 w:World) (hI:InW w0 w g s):Calls Tryz.prog 104 #[tkV g] w (TkP w0 w g s 4 4294967295 fun v=>.int .u32 (v:Int)):=by
 have hN:=fun o=>zbk g s 4 4294967295 w0 _ (zR hI o) (by decide)
 have HN:=qH hN
 have hle:=za0 s 4 4294967295
 obtain ⟨r,hr⟩:=qX (Tl.takeN s 4 4294967295)
 unfold TkP
 rw [hr] at hle ⊢
 have hu:IntKind.u32.wrap (r.2:Int)=(r.2:Int):=by rw [IntKind.wrap_u32];omega
 have Hr:=qH hr
 clear hN hr
 go_enter Tryz.func104,Tryz.ntmps104
 go_wp2_with (first | (go_at_call 93;refine (HN.out _).mono ?_;rintro e w1 ⟨rfl,h1,h2⟩;rw [Hr.out] at h1 ⊢) | fail)
 go_ret
 exact ⟨rfl,h1,zbu h2⟩
theorem zj6 (g:Nat) (s:Tl.In) (w0 w:World) (hI:InW w0 w g s):Calls Tryz.prog 169 #[tkV g] w (TkP w0 w g s 1 255 fun v=>.int .u8 (v:Int)):=by
 have hN:=fun o=>zbk g s 1 255 w0 _ (zR hI o) (by decide)
 have HN:=qH hN
 have hle:=za0 s 1 255
 obtain ⟨r,hr⟩:=qX (Tl.takeN s 1 255)
 unfold TkP
 rw [hr] at hle ⊢
 have hu:IntKind.u8.wrap (r.2:Int)=(r.2:Int):=by rw [IntKind.wrap_u8];omega
 have Hr:=qH hr
 clear hN hr
 go_enter Tryz.func169,Tryz.ntmps169
 go_wp2_with (first | (go_at_call 93;refine (HN.out _).mono ?_;rintro e w1 ⟨rfl,h1,h2⟩;rw [Hr.out] at h1 ⊢) | fail)
 go_ret
 exact ⟨rfl,h1,zbu h2⟩
theorem zlV (g:Nat) (s:Tl.In) (w0 w:World) (hI:InW w0 w g s):Calls Tryz.prog 167 #[tkV g] w (TkP w0 w g s 1 1 fun v=>.bool (v==1)):=by
 have hN:=fun o=>zbk g s 1 1 w0 _ (zR hI o) (by decide)
 have HN:=qH hN
 have hle:=za0 s 1 1
 obtain ⟨r,hr⟩:=qX (Tl.takeN s 1 1)
 unfold TkP
 rw [hr] at hle ⊢
 have Hr:=qH hr
 clear hN hr
 go_enter Tryz.func167,Tryz.ntmps167
 go_wp2_with (first | (go_at_call 93;refine (HN.out _).mono ?_;rintro e w1 ⟨rfl,h1,h2⟩;rw [Hr.out] at h1 ⊢) | fail)
 go_ret
 have hb:((r.2:Int)==1)=(r.2==1):=by
  rw [Bool.eq_iff_iff]
  simp
  omega
 exact ⟨by rw [←hb];rfl,h1,zbu h2⟩
theorem zhz (g:Nat) (s:Tl.In) (w0 w:World) (hI:InW w0 w g s):Calls Tryz.prog 105 #[tkV g,.int .i64 8] w (TkP w0 w g s 8 18446744073709551615 fun v=>.int .u64 (v:Int)):=by
 have hN:=fun o=>zbk g s 8 18446744073709551615 w0 _ (zR hI o) (by decide)
 have HN:=qH hN
 have hle:=za0 s 8 18446744073709551615
 obtain ⟨r,hr⟩:=qX (Tl.takeN s 8 18446744073709551615)
 unfold TkP
 rw [hr] at hle ⊢
 have Hr:=qH hr
 clear hN hr
 go_enter Tryz.func105,Tryz.ntmps105
 go_wp2_with (first | (go_at_call 93;refine (HN.out _).mono ?_;rintro e w1 ⟨rfl,h1,h2⟩;rw [Hr.out] at h1 ⊢) | fail)
 go_ret
 exact ⟨rfl,h1,zbu h2⟩
theorem zlW (g:Nat) (s:Tl.In) (w0 w:World) (hI:InW w0 w g s):Calls Tryz.prog 105 #[tkV g,.int .i64 2] w (TkP w0 w g s 2 18446744073709551615 fun v=>.int .u64 (v:Int)):=by
 have hN:=fun o=>zbk g s 2 18446744073709551615 w0 _ (zR hI o) (by decide)
 have HN:=qH hN
 have hle:=za0 s 2 18446744073709551615
 obtain ⟨r,hr⟩:=qX (Tl.takeN s 2 18446744073709551615)
 unfold TkP
 rw [hr] at hle ⊢
 have Hr:=qH hr
 clear hN hr
 go_enter Tryz.func105,Tryz.ntmps105
 go_wp2_with (first | (go_at_call 93;refine (HN.out _).mono ?_;rintro e w1 ⟨rfl,h1,h2⟩;rw [Hr.out] at h1 ⊢) | fail)
 go_ret
 exact ⟨rfl,h1,zbu h2⟩
def zaa:Array Value→List Nat→List Value→Array Value
 | cs,o::os,v::vs=>zaa (cs.setIfInBounds o v) os vs
 | cs,[],_=>cs
 | cs,_::_,[]=>cs
theorem zn:∀ (os:List Nat) (vs:List Value) (cs:Array Value),(zaa cs os vs).size=cs.size
 | [],_,_=>rfl
 | _::_,[],_=>rfl
 | o::os,v::vs,cs=>by simp [zaa,zn os vs]
theorem zcp:∀ (os:List Nat) (vs:List Value) (cs:Array Value) (o:Nat) (v:Value),os.length=vs.length→zaa cs (os++[o]) (vs++[v])=(zaa cs os vs).setIfInBounds o v
 | [],[],cs,o,v,_=>rfl
 | _::os,_::vs,cs,o,v,h=>by simpa [zaa] using zcp os vs _ o v (by simpa using h)
 | [],_::_,_,_,_,h=>by simp at h
 | _::_,[],_,_,_,h=>by simp at h
def zcc (p:Nat) (os:List Nat):Array Value:=(os.map fun o=>Value.pointer (some ⟨p,o,none⟩)).toArray
theorem zj7 (p:Nat) (os:List Nat) (k:Nat) (h:k<os.length):(zcc p os)[k]?=some (.pointer (some ⟨p,os[k],none⟩)):=by simp [zcc,h]
theorem zc8 (s:Tl.In) (l:List (Nat×Nat)) (k:Nat×Nat):Tl.takes s (l++[k])=((Tl.takeN (Tl.takes s l).1 k.1 k.2).1,(Tl.takes s l).2++[(Tl.takeN (Tl.takes s l).1 k.1 k.2).2]):=by
 rw [Tl.takes_append]
 rfl
theorem zcf {α:Type} (k:Nat) (x:α):List.replicate (k+1) x=List.replicate k x++[x]:=List.replicate_succ'
def inP (g p:Nat):Nat→Prop:=fun k=>k=g∨k=p
theorem Kept.inP {g p:Nat} {w w':World} (h:Kept (inIn g) w w'):Kept (inP g p) w w':=h.mono (fun k _ e=>.inl e)
def u32s (l:List Nat):List Value:=l.map fun v=>Value.int .u32 ((v:Nat):Int)
def u8s (l:List Nat):List Value:=l.map fun v=>Value.int .u8 ((v:Nat):Int)
def zhA (w0 w:World) (g p:Nat) (s:Tl.In) (cs:Array Value) (os:List Nat) (ks:List (Nat×Nat)) (V:List Nat→List Value) (e:Ending) (w':World):Prop :=
 e=.returned (.tuple #[])∧InW w0 w' g (Tl.takes s ks).1∧Blk w' p (zaa cs os (V (Tl.takes s ks).2)) 93∧Kept (inP g p) w w'
theorem zgE (g p q:Nat) (s:Tl.In) (cs:Array Value) (os:List Nat) (c n:Nat) (hn:n=os.length) (w0 w:World) (hI:InW w0 w g s) (hP:Blk w p cs 93) (hQ:Blk w q (zcc p os) 330) (hos:∀ o∈os,o<cs.size) (hl:os.length≤100) (hp:w0.heap.size≤p):Calls Tryz.prog 168 #[tkV g,.slice (some ⟨q,0,none⟩) n c] w (zhA w0 w g p s cs os (List.replicate n So.kW) u32s):=by
 subst hn
 obtain ⟨A0,n0,c0,V0,hG,_⟩:=hI.at_
 have hpg:p≠g:=hP.apart hG (by decide)
 have hqg:q≠g:=hQ.apart hG (by decide)
 have hqp:q≠p:=hQ.apart hP (by decide)
 go_enter Tryz.func168,Tryz.ntmps168
 go_upto_region 1 with (fail)
 have hX:=Blk.new w #[Value.pointer (some ⟨g,0,none⟩)] 154
 have hI1:=zR hI (.cells #[Value.pointer (some ⟨g,0,none⟩)] 154)
 have hP1:=hP.alloc (.cells #[Value.pointer (some ⟨g,0,none⟩)] 154)
 have hQ1:=hQ.alloc (.cells #[Value.pointer (some ⟨g,0,none⟩)] 154)
 have hK1:=(Kept.refl (inP g p) w).alloc (.cells #[Value.pointer (some ⟨g,0,none⟩)] 154)
 generalize w.alloc (.cells #[Value.pointer (some ⟨g,0,none⟩)] 154)=W1 at hX hI1 hP1 hQ1 hK1 ⊢
 have hXg:w.heap.size≠g:=Nat.ne_of_gt hI.lt
 have hXp:w.heap.size≠p:=Nat.ne_of_gt hP.lt
 have hXn:=qH hXg
 have hXm:=qH hXp
 generalize w.heap.size=x at hX hXn hXm ⊢
 clear hXg hXp hG
 go_wp2
 go_loopw [5,8] (fun _ i wr=>∃ k:Nat,k≤os.length∧i=.int .i64 k∧InW w0 wr g (Tl.takes s (List.replicate k So.kW)).1∧Blk wr p (zaa cs (os.take k) (u32s (Tl.takes s (List.replicate k So.kW)).2)) 93∧Kept (inP g p) W1 wr) (fun _ i _=>os.length-(intOf i).toNat)
 case atStart=>exact ⟨0,Nat.zero_le _,rfl,hI1,by simpa [zaa] using hP1,Kept.refl _ _⟩
 case round =>
  obtain ⟨k,hk,rfl,hIr,hPr,hKr⟩:=hrel
  by_cases hlt:k<os.length
  ·
   have hQr:=hQ1.kept hKr (fun e=>e.elim hqg hqp)
   have hXr:=hX.kept hKr (fun e=>e.elim hXn.out hXm.out)
   have hc:=hQr.cell k (zj7 p os k hlt)
   have hx:=hXr.cell 0 rfl
   have ho:=hos _ (List.getElem_mem hlt)
   have hs1:os.take (k+1)=os.take k++[os[k]]:=by rw [List.take_succ_eq_append_getElem hlt]
   have hN:=zj5 g (Tl.takes s (List.replicate k So.kW)).1 w0 wr hIr
   have hv:=Tl.takes_length (List.replicate k So.kW) s
   have htk:=zc8 s (List.replicate k So.kW) So.kW
   rw [←zcf] at htk
   have Hs1:=qH hs1
   have Htk:=qH htk
   have Hv:=qH hv
   have HN:=qH hN
   have HQ:=qH hQr
   have HX:=qH hXr
   obtain ⟨o,hoe⟩:=qX os[k]
   rw [hoe] at hc ho Hs1
   obtain ⟨st,hst⟩:=qX ((Tl.takes s (List.replicate k So.kW)))
   rw [hst] at hIr hPr Htk Hv HN
   have hkl:(k:Int)<(os.length:Int):=by omega
   clear hs1 htk hv hN hoe hst hQr hXr
   have hsz:=zn (os.take k) (u32s st.2) cs
   obtain ⟨C,hC⟩:=qX (zaa cs (os.take k) (u32s st.2))
   rw [hC] at hPr hsz
   have HC:=qH hC
   have HS:=qH hsz
   clear hC hsz
   go_wp2_with (first | (go_at_call 104;refine (HN.out).mono ?_;rintro e w1 ⟨rfl,h1,h2⟩;have hP2:=hPr.kept h2 hpg;have hf2:=hP2.free o;have hco:=hP2.cell o (v:=C[o]'(by rw [HS.out];exact ho)) (by simp)) | fail)
   have h3:=h1.set hP2 (by decide) hp o (.int .u32 ((Tl.takeN st.1 4 4294967295).2:Nat))
   go_roundw
   case rel =>
    refine ⟨k+1,by omega,by go_num,?_,?_,?_⟩
    ·
     rw [Htk.out]
     exact h3
    ·
     rw [Htk.out,Hs1.out]
     have e:u32s (st.2++[(Tl.takeN st.1 So.kW.1 So.kW.2).2])=u32s st.2++[.int .u32 (((Tl.takeN st.1 So.kW.1 So.kW.2).2:Nat):Int)]:=by simp [u32s]
     show Blk _ p (zaa cs (os.take k++[o]) (u32s (st.2++[(Tl.takeN st.1 So.kW.1 So.kW.2).2]))) _
     rw [e,zcp _ _ _ _ _ (by simp [u32s,Hv.out];omega),HC.out]
     exact hP2.set o _
    · exact (hKr.trans h2.inP).set (p:=⟨p,o,none⟩) (fun _=>.inr rfl) _
   case measure=>simp [intOf];omega
  ·
   obtain rfl:k=os.length:=by omega
   rw [List.take_of_length_le (Nat.le_refl _)] at hPr
   clear hlt
   go_wp2_with fail
   go_end0
   exact ⟨rfl,hIr,hPr,hK1.trans hKr⟩
theorem zgF (g p q:Nat) (s:Tl.In) (cs:Array Value) (os:List Nat) (c n:Nat) (hn:n=os.length) (w0 w:World) (hI:InW w0 w g s) (hP:Blk w p cs 93) (hQ:Blk w q (zcc p os) 335) (hos:∀ o∈os,o<cs.size) (hl:os.length≤100) (hp:w0.heap.size≤p):Calls Tryz.prog 171 #[tkV g,.slice (some ⟨q,0,none⟩) n c] w (zhA w0 w g p s cs os (List.replicate n So.kB) u8s):=by
 subst hn
 obtain ⟨A0,n0,c0,V0,hG,_⟩:=hI.at_
 have hpg:p≠g:=hP.apart hG (by decide)
 have hqg:q≠g:=hQ.apart hG (by decide)
 have hqp:q≠p:=hQ.apart hP (by decide)
 go_enter Tryz.func171,Tryz.ntmps171
 go_upto_region 1 with (fail)
 have hX:=Blk.new w #[Value.pointer (some ⟨g,0,none⟩)] 154
 have hI1:=zR hI (.cells #[Value.pointer (some ⟨g,0,none⟩)] 154)
 have hP1:=hP.alloc (.cells #[Value.pointer (some ⟨g,0,none⟩)] 154)
 have hQ1:=hQ.alloc (.cells #[Value.pointer (some ⟨g,0,none⟩)] 154)
 have hK1:=(Kept.refl (inP g p) w).alloc (.cells #[Value.pointer (some ⟨g,0,none⟩)] 154)
 generalize w.alloc (.cells #[Value.pointer (some ⟨g,0,none⟩)] 154)=W1 at hX hI1 hP1 hQ1 hK1 ⊢
 have hXg:w.heap.size≠g:=Nat.ne_of_gt hI.lt
 have hXp:w.heap.size≠p:=Nat.ne_of_gt hP.lt
 have hXn:=qH hXg
 have hXm:=qH hXp
 generalize w.heap.size=x at hX hXn hXm ⊢
 clear hXg hXp hG
 go_wp2
 go_loopw [5,8] (fun _ i wr=>∃ k:Nat,k≤os.length∧i=.int .i64 k∧InW w0 wr g (Tl.takes s (List.replicate k So.kB)).1∧Blk wr p (zaa cs (os.take k) (u8s (Tl.takes s (List.replicate k So.kB)).2)) 93∧Kept (inP g p) W1 wr) (fun _ i _=>os.length-(intOf i).toNat)
 case atStart=>exact ⟨0,Nat.zero_le _,rfl,hI1,by simpa [zaa] using hP1,Kept.refl _ _⟩
 case round =>
  obtain ⟨k,hk,rfl,hIr,hPr,hKr⟩:=hrel
  by_cases hlt:k<os.length
  ·
   have hQr:=hQ1.kept hKr (fun e=>e.elim hqg hqp)
   have hXr:=hX.kept hKr (fun e=>e.elim hXn.out hXm.out)
   have hc:=hQr.cell k (zj7 p os k hlt)
   have hx:=hXr.cell 0 rfl
   have ho:=hos _ (List.getElem_mem hlt)
   have hs1:os.take (k+1)=os.take k++[os[k]]:=by rw [List.take_succ_eq_append_getElem hlt]
   have hN:=zj6 g (Tl.takes s (List.replicate k So.kB)).1 w0 wr hIr
   have hv:=Tl.takes_length (List.replicate k So.kB) s
   have htk:=zc8 s (List.replicate k So.kB) So.kB
   rw [←zcf] at htk
   have Hs1:=qH hs1
   have Htk:=qH htk
   have Hv:=qH hv
   have HN:=qH hN
   have HQ:=qH hQr
   have HX:=qH hXr
   obtain ⟨o,hoe⟩:=qX os[k]
   rw [hoe] at hc ho Hs1
   obtain ⟨st,hst⟩:=qX ((Tl.takes s (List.replicate k So.kB)))
   rw [hst] at hIr hPr Htk Hv HN
   have hkl:(k:Int)<(os.length:Int):=by omega
   clear hs1 htk hv hN hoe hst hQr hXr
   have hsz:=zn (os.take k) (u8s st.2) cs
   obtain ⟨C,hC⟩:=qX (zaa cs (os.take k) (u8s st.2))
   rw [hC] at hPr hsz
   have HC:=qH hC
   have HS:=qH hsz
   clear hC hsz
   go_wp2_with (first | (go_at_call 169;refine (HN.out).mono ?_;rintro e w1 ⟨rfl,h1,h2⟩;have hP2:=hPr.kept h2 hpg;have hf2:=hP2.free o;have hco:=hP2.cell o (v:=C[o]'(by rw [HS.out];exact ho)) (by simp)) | fail)
   have h3:=h1.set hP2 (by decide) hp o (.int .u8 ((Tl.takeN st.1 1 255).2:Nat))
   go_roundw
   case rel =>
    refine ⟨k+1,by omega,by go_num,?_,?_,?_⟩
    ·
     rw [Htk.out]
     exact h3
    ·
     rw [Htk.out,Hs1.out]
     have e:u8s (st.2++[(Tl.takeN st.1 So.kB.1 So.kB.2).2])=u8s st.2++[.int .u8 (((Tl.takeN st.1 So.kB.1 So.kB.2).2:Nat):Int)]:=by simp [u8s]
     show Blk _ p (zaa cs (os.take k++[o]) (u8s (st.2++[(Tl.takeN st.1 So.kB.1 So.kB.2).2]))) _
     rw [e,zcp _ _ _ _ _ (by simp [u8s,Hv.out];omega),HC.out]
     exact hP2.set o _
    · exact (hKr.trans h2.inP).set (p:=⟨p,o,none⟩) (fun _=>.inr rfl) _
   case measure=>simp [intOf];omega
  ·
   obtain rfl:k=os.length:=by omega
   rw [List.take_of_length_le (Nat.le_refl _)] at hPr
   clear hlt
   go_wp2_with fail
   go_end0
   exact ⟨rfl,hIr,hPr,hK1.trans hKr⟩
def tkI (s:Tl.In) (K:List (Nat×Nat)) (j:Nat):Tl.In:=(Tl.takes s (K.take j)).1
def tkN (s:Tl.In) (K:List (Nat×Nat)) (j:Nat):Nat:=So.at_ (Tl.takes s K).2 j
theorem zgG (s:Tl.In) (K:List (Nat×Nat)) (j:Nat) (k:Nat×Nat) (hk:K[j]?=some k):Tl.takeN (tkI s K j) k.1 k.2=(tkI s K (j+1),tkN s K j):=by
 have hj:=(List.getElem?_eq_some_iff.1 hk).1
 have h1:K.take (j+1)=K.take j++[k]:=by
  rw [List.take_succ_eq_append_getElem hj]
  congr 2
  exact (List.getElem?_eq_some_iff.1 hk).2
 have h2:K=K.take j++k::K.drop (j+1):=by
  have e:=(List.getElem?_eq_some_iff.1 hk).2
  rw [←e,List.getElem_cons_drop,List.take_append_drop]
 have hlen:=Tl.takes_length (K.take j) s
 apply Prod.ext
 ·
  unfold tkI
  rw [h1,zc8]
 ·
  unfold tkI tkN
  have h3:Tl.takes s K=Tl.takes s (K.take j++k::K.drop (j+1)):=by rw [←h2]
  rw [h3,Tl.takes_append]
  unfold So.at_
  rw [List.getD_eq_getElem?_getD,List.getElem?_append_right (by rw [hlen,List.length_take];omega)]
  rw [hlen,List.length_take,Nat.min_eq_left (by omega),Nat.sub_self]
  rfl
theorem zpn (s:Tl.In) (K:List (Nat×Nat)) (j:Nat) (k:Nat×Nat) (hk:K[j]?=some k):tkN s K j≤k.2:=by
 have:=za0 (tkI s K j) k.1 k.2
 rw [zgG s K j k hk] at this
 exact this
theorem zbc {s:Tl.In} {n:Int} {top:Nat} (h:Tl.Small s.b):Tl.Small (Tl.takeN s n top).1.b:=by
 unfold Tl.takeN
 split
 · exact h
 ·
  split
  · exact h
  ·
   split
   · exact h
   ·
    split
    · exact h
    · exact fun x hx=>h x (List.mem_of_mem_drop hx)
theorem zcq:∀ (l:List (Nat×Nat)) (s:Tl.In),Tl.Small s.b→Tl.Small (Tl.takes s l).1.b
 | [],_,h=>h
 | x::l,s,h=>zcq l _ (zbc h)
theorem zlX {s:Tl.In} {n top:Nat} (h:Tl.Small s.b):(Tl.takeN s n top).2<256 ^ n:=by
 have h0:0<256 ^ n:=Nat.pow_pos (by decide)
 unfold Tl.takeN
 split
 · exact h0
 ·
  split
  · exact h0
  ·
   split
   · exact h0
   ·
    split
    · exact h0
    · exact Tl.num_take_lt s.b h _
theorem zcI (s:Tl.In) (hs:Tl.Small s.b) (K:List (Nat×Nat)) (j:Nat) (k:Nat×Nat) (hk:K[j]?=some k):tkN s K j<256 ^ k.1:=by
 have:=zlX (s:=tkI s K j) (n:=k.1) (top:=k.2) (zcq _ _ hs)
 rw [zgG s K j k hk] at this
 exact this
theorem zaQ (s:Tl.In) (hs:Tl.Small s.b) (K:List (Nat×Nat)) (j:Nat):Tl.Small (tkI s K j).b:=zcq (K.take j) s hs
def ziA (w0 w:World) (g:Nat) (s:Tl.In) (K:List (Nat×Nat)) (j:Nat) (V:Nat→Value) (e:Ending) (w':World):Prop :=
 e=.returned (V (tkN s K j))∧InW w0 w' g (tkI s K (j+1))∧Kept (inIn g) w w'
theorem zcJ {w0 w:World} {g:Nat} {s:Tl.In} {K:List (Nat×Nat)} {j:Nat} {k:Nat×Nat} {V:Nat→Value} {e:Ending} {w':World} (hk:K[j]?=some k) (h:TkP w0 w g (tkI s K j) k.1 k.2 V e w'):ziA w0 w g s K j V e w':=by
 unfold TkP at h
 rw [zgG s K j k hk] at h
 exact h
theorem zaF {w0 w:World} {g:Nat} {s:Tl.In} {K:List (Nat×Nat)} (j:Nat) (hI:InW w0 w g (tkI s K j)) (hk:K[j]?=some So.kW:=by rfl):Calls Tryz.prog 104 #[tkV g] w (ziA w0 w g s K j fun v=>.int .u32 (v:Int)):=(zj5 g _ w0 w hI).mono fun _ _ h=>zcJ hk h
theorem zdq {w0 w:World} {g:Nat} {s:Tl.In} {K:List (Nat×Nat)} (j:Nat) (hI:InW w0 w g (tkI s K j)) (hk:K[j]?=some So.kB:=by rfl):Calls Tryz.prog 169 #[tkV g] w (ziA w0 w g s K j fun v=>.int .u8 (v:Int)):=(zj6 g _ w0 w hI).mono fun _ _ h=>zcJ hk h
theorem zbS {w0 w:World} {g:Nat} {s:Tl.In} {K:List (Nat×Nat)} (j:Nat) (hI:InW w0 w g (tkI s K j)) (hk:K[j]?=some So.kT:=by rfl):Calls Tryz.prog 167 #[tkV g] w (ziA w0 w g s K j fun v=>.bool (v==1)):=(zlV g _ w0 w hI).mono fun _ _ h=>zcJ hk h
theorem zgH {w0 w:World} {g:Nat} {s:Tl.In} {K:List (Nat×Nat)} (j:Nat) (hI:InW w0 w g (tkI s K j)) (hk:K[j]?=some So.kD:=by rfl):Calls Tryz.prog 105 #[tkV g,.int .i64 8] w (ziA w0 w g s K j fun v=>.int .u64 (v:Int)):=(zhz g _ w0 w hI).mono fun _ _ h=>zcJ hk h
theorem ze5 {w0 w:World} {g:Nat} {s:Tl.In} {K:List (Nat×Nat)} (j:Nat) (hI:InW w0 w g (tkI s K j)) (hk:K[j]?=some So.kH:=by rfl):Calls Tryz.prog 105 #[tkV g,.int .i64 2] w (ziA w0 w g s K j fun v=>.int .u64 (v:Int)):=(zlW g _ w0 w hI).mono fun _ _ h=>zcJ hk h
theorem ziB:∀ (l:List (Nat×Nat)) (s:Tl.In) (m:List (Nat×Nat)) (i:Nat),i<m.length→So.at_ (Tl.takes s (l++m)).2 (l.length+i)=So.at_ (Tl.takes (Tl.takes s l).1 m).2 i:=fun l s m i hi=>by
 rw [Tl.takes_append]
 unfold So.at_
 rw [List.getD_eq_getElem?_getD,List.getD_eq_getElem?_getD,List.getElem?_append_right (by rw [Tl.takes_length];omega),Tl.takes_length,Nat.add_sub_cancel_left]
theorem znx (l:List Nat):l=(List.range l.length).map (So.at_ l):=by
 apply List.ext_getElem?
 intro i
 rcases Nat.lt_or_ge i l.length with h | h
 ·
  rw [List.getElem?_map,List.getElem?_range h]
  simp only [Option.map_some,So.at_]
  rw [List.getD_eq_getElem?_getD,List.getElem?_eq_getElem h]
  rfl
 · rw [List.getElem?_eq_none h,List.getElem?_eq_none (by simp;omega)]
theorem Blk.some {w:World} {p:Nat} {cs:Array Value} {t:TypeId} (h:Blk w p cs t) (o:Nat) (ho:o<cs.size):∃ v,w.cell? ⟨p,o,none⟩=some v:=⟨cs[o],h.cell o (by simp [ho])⟩
def SecP (w0 w:World) (g p:Nat) (i:Tl.In) (cs:Array Value) (e:Ending) (w':World):Prop :=
 e=.returned (.tuple #[])∧InW w0 w' g i∧Blk w' p cs 93∧Kept (inP g p) w w'
theorem zny (s:Tl.In) (K:List (Nat×Nat)) (j n:Nat) (k:Nat×Nat) (hk:(K.drop j).take n=List.replicate n k) (hj:j≤K.length):Tl.takes (tkI s K j) (List.replicate n k)=(tkI s K (j+n),(List.range n).map fun i=>tkN s K (j+i)):=by
 have hn:j+n≤K.length:=by
  have:=congrArg List.length hk
  rw [List.length_take,List.length_drop,List.length_replicate] at this
  omega
 have h1:K.take (j+n)=K.take j++List.replicate n k:=by rw [List.take_add,hk]
 apply Prod.ext
 ·
  unfold tkI
  rw [h1,Tl.takes_append]
 ·
  show (Tl.takes (tkI s K j) (List.replicate n k)).2=_
  rw [znx (Tl.takes (tkI s K j) (List.replicate n k)).2,Tl.takes_length,List.length_replicate]
  apply List.map_congr_left
  intro i hi
  have hi:=List.mem_range.1 hi
  unfold tkN
  have h2:K=K.take j++(List.replicate n k++K.drop (j+n)):=by
   rw [←List.append_assoc,←h1,List.take_append_drop]
  have h3:=ziB (K.take j) s (List.replicate n k++K.drop (j+n)) i (by rw [List.length_append,List.length_replicate];omega)
  rw [←h2,List.length_take,Nat.min_eq_left hj] at h3
  rw [h3,Tl.takes_append]
  unfold So.at_
  rw [List.getD_eq_getElem?_getD,List.getD_eq_getElem?_getD,List.getElem?_append_left (by rw [Tl.takes_length,List.length_replicate];exact hi)]
  rfl
def zgI (w0 w:World) (g p:Nat) (s:Tl.In) (K:List (Nat×Nat)) (j n:Nat) (cs:Array Value) (os:List Nat) (V:List Nat→List Value) (e:Ending) (w':World):Prop :=
 e=.returned (.tuple #[])∧InW w0 w' g (tkI s K (j+n))∧Blk w' p (zaa cs os (V ((List.range n).map fun i=>tkN s K (j+i)))) 93∧Kept (inP g p) w w'
theorem zhB {w0 w:World} {g p:Nat} {s:Tl.In} {K:List (Nat×Nat)} {j n:Nat} {k:Nat×Nat} {cs:Array Value} {os:List Nat} {V:List Nat→List Value} {e:Ending} {w':World} (hk:(K.drop j).take n=List.replicate n k) (hj:j≤K.length) (h:zhA w0 w g p (tkI s K j) cs os (List.replicate n k) V e w'):zgI w0 w g p s K j n cs os V e w':=by
 unfold zhA at h
 rw [zny s K j n k hk hj] at h
 exact h
theorem zb6 {w0 w:World} {g p:Nat} {s:Tl.In} {K:List (Nat×Nat)} (j q c n:Nat) (os:List Nat) {cs:Array Value} {qs:Array Value} (hI:InW w0 w g (tkI s K j)) (hP:Blk w p cs 93) (hp:w0.heap.size≤p) (hQ:Blk w q qs 330) (hqs:qs=zcc p os) (hos:∀ o∈os,o<cs.size) (hn:n=os.length:=by rfl) (hl:os.length≤100:=by simp) (hk:(K.drop j).take n=List.replicate n So.kW:=by rfl) (hj:j≤K.length:=by decide):Calls Tryz.prog 168 #[tkV g,.slice (some ⟨q,0,none⟩) n c] w (zgI w0 w g p s K j n cs os u32s):=by
 subst hqs
 exact (zgE g p q _ cs os c n hn w0 w hI hP hQ hos hl hp).mono fun _ _ h=>zhB hk hj h
theorem ziC {w0 w:World} {g p:Nat} {s:Tl.In} {K:List (Nat×Nat)} (j q c n:Nat) (os:List Nat) {cs:Array Value} {qs:Array Value} (hI:InW w0 w g (tkI s K j)) (hP:Blk w p cs 93) (hp:w0.heap.size≤p) (hQ:Blk w q qs 335) (hqs:qs=zcc p os) (hos:∀ o∈os,o<cs.size) (hn:n=os.length:=by rfl) (hl:os.length≤100:=by simp) (hk:(K.drop j).take n=List.replicate n So.kB:=by rfl) (hj:j≤K.length:=by decide):Calls Tryz.prog 171 #[tkV g,.slice (some ⟨q,0,none⟩) n c] w (zgI w0 w g p s K j n cs os u8s):=by
 subst hqs
 exact (zgF g p q _ cs os c n hn w0 w hI hP hQ hos hl hp).mono fun _ _ h=>zhB hk hj h
theorem zt {w:World} {p:Nat} {c c':Array Value} {T:TypeId} (h:Blk w p c T) (e:c=c'):Blk w p c' T:=e ▸ h
def zaW (T:TypeId) (L:List (Tl.In×Array Value)) (w0 w:World) (g p:Nat) (k:Nat):Prop:=match L[k]? with
 | some x=>InW w0 w g x.1∧Blk w p x.2 T
 | none=>False
theorem zg {T:TypeId} {L:List (Tl.In×Array Value)} {w0 w:World} {g p k:Nat} {i:Tl.In} {cs:Array Value} (h:zaW T L w0 w g p k) (e:L[k]?=some (i,cs)):InW w0 w g i∧Blk w p cs T:=by
 unfold zaW at h
 rw [e] at h
 exact h
theorem zj {T:TypeId} {L:List (Tl.In×Array Value)} {w0 w:World} {g p k:Nat} {i:Tl.In} {cs:Array Value} (e:L[k]?=some (i,cs)) (h:InW w0 w g i∧Blk w p cs T):zaW T L w0 w g p k:=by
 unfold zaW
 rw [e]
 exact h
theorem zbT {T:TypeId} {L:List (Tl.In×Array Value)} {w0 w w':World} {g p k:Nat} (h:zaW T L w0 w g p k) (hb:Below w.heap.size w w'):zaW T L w0 w' g p k:=by
 unfold zaW at h ⊢
 cases hk:L[k]? with
 | none=>rw [hk] at h;exact h
 | some x=>rw [hk] at h;exact ⟨h.1.keep hb,h.2.keep hb⟩
theorem zP {w0 w:World} {g p:Nat} {s:Tl.In} {T:TypeId} {cs:Array Value} (hI:InW w0 w g s) (hP:Blk w p cs T) (hT:T≠256) (hp:w0.heap.size≤p) (o:Nat) (v:Value):InW w0 (w.setCell ⟨p,o,none⟩ v) g s∧Blk (w.setCell ⟨p,o,none⟩ v) p (cs.setIfInBounds o v) T:=⟨hI.set hP hT hp o v,hP.set o v⟩
theorem zV {w:World} {g p:Nat} (o:Nat) (v:Value):Kept (inP g p) w (w.setCell ⟨p,o,none⟩ v):=(Kept.refl (inP g p) w).set (p:=⟨p,o,none⟩) (fun _=>.inr rfl) v
def setMid:Array Value→Nat→List Value→Array Value
 | cs,_,[]=>cs
 | cs,o,v::r=>setMid (cs.setIfInBounds o v) (o+1) r
theorem zl:∀ (vs:List Value) (o:Nat) (cs:Array Value),(setMid cs o vs).size=cs.size
 | [],_,_=>rfl
 | v::r,o,cs=>by simp [setMid,zl r]
theorem zcr:∀ (vs:List Value) (o:Nat) (cs:Array Value) (v:Value),setMid cs o (vs++[v])=(setMid cs o vs).setIfInBounds (o+vs.length) v
 | [],_,_,_=>rfl
 | x::r,o,cs,v=>by
  rw [List.cons_append,setMid,setMid,zcr r,List.length_cons,show o+1+r.length=o+(r.length+1) by omega]
theorem zS:∀ (vs:List Value) (o:Nat) (cs:Array Value),cs.size=o+vs.length→setMid cs o vs=(cs.toList.take o++vs).toArray
 | [],o,cs,h=>by
  simp only [setMid,List.append_nil]
  rw [List.take_of_length_le (by rw [Array.length_toList];simp at h;omega)]
 | v::r,o,cs,h=>by
  have h1:o<cs.size:=by rw [h,List.length_cons];omega
  rw [setMid,zS r (o+1) _ (by rw [Array.size_setIfInBounds,h,List.length_cons];omega)]
  congr 1
  rw [Array.toList_setIfInBounds,List.take_succ_eq_append_getElem (by rw [List.length_set,Array.length_toList];exact h1),List.append_assoc,List.take_set_of_le (Nat.le_refl _),List.getElem_set_self]
  rfl
theorem Blk.setMid {g:Nat} {t:TypeId} : ∀ (vs:List Value) (o:Nat) (W:World) (cs:Array Value),Blk W g cs t→Blk (W.setCells g o vs) g (setMid cs o vs) t
 | [],_,_,_,h=>h
 | v::r,o,W,cs,h=>Blk.setMid r (o+1) _ _ (h.set o v)
theorem Blk.there {w:World} {g:Nat} {cs:Array Value} {t:TypeId} (h:Blk w g cs t) (o n:Nat) (hn:o+n≤cs.size):w.there g o n:=fun j hj=>by
 obtain ⟨v,hv⟩:=h.some (o+j) (by omega)
 exact ⟨by rw [hv];rfl,h.free _⟩
theorem ze6 {w0 w:World} {g p:Nat} {s:Tl.In} {T:TypeId} {cs:Array Value} (hI:InW w0 w g s) (hP:Blk w p cs T) (hT:T≠256) (hp:w0.heap.size≤p):∀ (vs:List Value) (o:Nat),InW w0 (w.setCells p o vs) g s∧Blk (w.setCells p o vs) p (_root_.Go.Proofs.YtdffbihilhkkjaaGreatDoor.setMid cs o vs) T:=fun vs o=>by
 refine ⟨?_,hP.setMid vs o⟩
 obtain ⟨A,n,c,V,hB,_,_⟩:=hI.at_
 have hne:p≠g:=hP.apart hB hT
 exact hI.kept (Kept.setCells (S:=fun k=>k=p) rfl vs o w (Kept.refl _ _)) (fun e=>hne e.symm) (fun i hi e=>by have e:i=p:=e;omega)
theorem zd8 {w:World} {g p:Nat} (o:Nat) (vs:List Value):Kept (inP g p) w (w.setCells p o vs):=Kept.setCells (S:=inP g p) (.inr rfl) vs o w (Kept.refl _ _)
def zK:List (Nat×Nat):=[So.kB,So.kD,So.kD]
theorem zgJ (g p:Nat) (s:Tl.In) (hsm:Tl.Small s.b) (cs:Array Value) (hsz:cs.size=160) (w0 w:World) (hI:InW w0 w g s) (hP:Blk w p cs 93) (hp:w0.heap.size≤p):Calls Tryz.prog 109 #[tkV g,Value.pointer (some ⟨p,0,none⟩)] w (SecP w0 w g p (tkI s zK 3) ((((((cs).setIfInBounds (44) (Value.int IntKind.u32 ((tkN s zK 0:Nat):Int)))).setIfInBounds (45) (Value.int IntKind.u64 ((tkN s zK 1:Nat):Int)))).setIfInBounds (46) (Value.int IntKind.u64 ((tkN s zK 2:Nat):Int)))):=by
 have hpg:p≠g:=by
  obtain ⟨_,_,_,_,hG,_⟩:=hI.at_
  exact hP.apart hG (by decide)
 go_enter Tryz.func109,Tryz.ntmps109
 go_upto_region 1 with (fail)
 have hX:=Blk.new w #[Value.pointer (some ⟨g,0,none⟩)] 154
 have hI0:=zR hI (.cells #[Value.pointer (some ⟨g,0,none⟩)] 154)
 have hP0:=hP.alloc (.cells #[Value.pointer (some ⟨g,0,none⟩)] 154)
 have hK0:=(Kept.refl (inP g p) w).alloc (.cells #[Value.pointer (some ⟨g,0,none⟩)] 154)
 generalize w.alloc (.cells #[Value.pointer (some ⟨g,0,none⟩)] 154)=W1 at hX hI0 hP0 hK0 ⊢
 have Zcs:=qH hsz
 clear hsz
 have hXn:w.heap.size≠g:=Nat.ne_of_gt hI.lt
 have hXm:w.heap.size≠p:=Nat.ne_of_gt hP.lt
 generalize w.heap.size=x at hX hXn hXm ⊢
 obtain ⟨c1,hc1⟩:=qX ((cs).setIfInBounds (44) (Value.int IntKind.u32 ((tkN s zK 0:Nat):Int)))
 have Zc1:Hid (c1.size=160):=qH (by rw [←hc1];simp [zn,zl,Zcs.out])
 have Hc1:=qH hc1
 clear hc1
 obtain ⟨c2,hc2⟩:=qX ((c1).setIfInBounds (45) (Value.int IntKind.u64 ((tkN s zK 1:Nat):Int)))
 have Zc2:Hid (c2.size=160):=qH (by rw [←hc2];simp [zn,zl,Zc1.out])
 have Hc2:=qH hc2
 clear hc2
 obtain ⟨c3,hc3⟩:=qX ((c2).setIfInBounds (46) (Value.int IntKind.u64 ((tkN s zK 2:Nat):Int)))
 have Zc3:Hid (c3.size=160):=qH (by rw [←hc3];simp [zn,zl,Zc2.out])
 have Hc3:=qH hc3
 clear hc3
 refine zc (by kernel_rfl) (fun X=>⟨#[tkV g,.pointer (some ⟨p,0,none⟩),.pointer (some ⟨x,0,none⟩),undef,X 0,X 1,X 2,X 3,X 4,X 5,X 6,X 7,X 8,X 9,X 10,X 11,X 12,X 14,X 15,X 16,X 18,X 19,X 20],[]⟩) (Kept (inP g p)) (fun i v w=>match i with | 0=>(v=.pointer (some ⟨p,0,none⟩)) | 1=>(v=.pointer (some ⟨p,0,none⟩)) | 2=>(v=.pointer (some ⟨p,0,none⟩)) | 3=>(v=tkV g) | 4=>(v=.int .u8 ((tkN s zK 0:Nat):Int)) | 5=>(v=.int .u32 ((tkN s zK 0:Nat):Int)) | 6=>(v=tkV g) | 7=>(v=.int .u64 ((tkN s zK 1:Nat):Int)) | 8=>(v=tkV g) | 9=>(v=.int .u64 ((tkN s zK 2:Nat):Int)) | 10=>(v=.pointer (some ⟨p,0,none⟩)) | 11=>(v=.pointer (some ⟨p,44,none⟩)) | 12=>(v=.pointer (some ⟨p,44,none⟩)) | 14=>(v=.pointer (some ⟨p,0,none⟩)) | 15=>(v=.pointer (some ⟨p,44,none⟩)) | 16=>(v=.pointer (some ⟨p,45,none⟩)) | 18=>(v=.pointer (some ⟨p,0,none⟩)) | 19=>(v=.pointer (some ⟨p,44,none⟩)) | 20=>(v=.pointer (some ⟨p,46,none⟩)) | _=>True) (fun i=>([0,0,0,0,1,0,0,2,0,3,0,0,0,4,0,0,0,5,0,0,0,6]:List Nat).getD i 0) 6 (fun k _ w=>zaW 93 [(tkI s zK 0,cs),(tkI s zK 1,cs),(tkI s zK 2,cs),(tkI s zK 3,cs),(tkI s zK 3,c1),(tkI s zK 3,c2),(tkI s zK 3,c3)] w0 w g p k) _ (fun _=>undef) (fun u v w a b=>a.trans b) ?_ (by kernel_rfl) (by kernel_rfl) ((Kept.refl _ _).drew) ((zj rfl ⟨hI0.keep (zr (Below.refl _ _)),hP0.keep (zr (Below.refl _ _))⟩)) ?_ ?_
 ·
  intro i v w w' h hb
  match i,h with
  | 0,h=>exact h
  | 1,h=>exact h
  | 2,h=>exact h
  | 3,h=>exact h
  | 4,h=>exact h
  | 5,h=>exact h
  | 6,h=>exact h
  | 7,h=>exact h
  | 8,h=>exact h
  | 9,h=>exact h
  | 10,h=>exact h
  | 11,h=>exact h
  | 12,h=>exact h
  | 14,h=>exact h
  | 15,h=>exact h
  | 16,h=>exact h
  | 18,h=>exact h
  | 19,h=>exact h
  | 20,h=>exact h
  | 13,h=>exact trivial
  | 17,h=>exact trivial
  | 21,h=>exact trivial
  | _+22,h=>exact trivial
 ·
  refine cQ 0 ?_ ?_
  ·
   intro X w hR ψ χ K HK
   go_simp
   exact HK.out _ _ _ rfl (Kept.refl _ _) rfl iD
  refine cQ 1 ?_ ?_
  ·
   intro X w hR ψ χ K HK
   go_simp
   exact HK.out _ _ _ rfl (Kept.refl _ _) rfl iD
  refine cQ 2 ?_ ?_
  ·
   intro X w hR ψ χ K HK
   go_simp
   exact HK.out _ _ _ rfl (Kept.refl _ _) rfl iD
  refine cQ 3 ?_ ?_
  ·
   intro X w hR ψ χ K HK
   have c3:=(hX.kept hR (fun e=>e.elim hXn hXm)).cell 0 rfl
   go_simp
   exact HK.out _ _ _ rfl (Kept.refl _ _) rfl iD
  refine cS 4 0 ?_ ?_
  ·
   intro X w hR ψ χ hst K HK
   have e3:X 3=tkV g:=(pR ψ 3 .data 0 :)
   go_simp
   go_at_call 169
   refine (zdq 0 (show InW w0 _ g (tkI s zK 0)∧Blk _ p (cs) 93 from zg hst rfl).1).mono ?_
   rintro e w2 ⟨rfl,h1,h2⟩
   go_simp
   exact HK.out _ _ _ (by (try simp only [e3])<;>rfl) h2.inP rfl (zj rfl ⟨h1,(show InW w0 _ g (tkI s zK 0)∧Blk _ p (cs) 93 from zg hst rfl).2.kept h2 hpg⟩)
  refine cQ 5 ?_ ?_
  ·
   intro X w hR ψ χ K HK
   have e4:X 4=.int IntKind.u8 ((tkN s zK 0:Nat):Int):=(pR ψ 4 .data 0 :)
   have q5:=zcI s hsm zK 0 _ rfl
   have u5:IntKind.u32.wrap ((tkN s zK 0:Nat):Int)=((tkN s zK 0:Nat):Int):=by rw [IntKind.wrap_u32];simp only [So.kB,So.kW,So.kH,So.kD,So.p1,So.p2,So.p4,So.p8] at q5;omega
   go_simp
   exact HK.out _ _ _ (by (try simp only [e4])<;>rfl) (Kept.refl _ _) rfl iD
  refine cQ 6 ?_ ?_
  ·
   intro X w hR ψ χ K HK
   have c6:=(hX.kept hR (fun e=>e.elim hXn hXm)).cell 0 rfl
   go_simp
   exact HK.out _ _ _ rfl (Kept.refl _ _) rfl iD
  refine cS 7 1 ?_ ?_
  ·
   intro X w hR ψ χ hst K HK
   have hst:InW w0 w g (tkI s zK 1)∧Blk w p (cs) 93:=zg hst rfl
   have e6:X 6=tkV g:=(pR ψ 6 .data 0 :)
   go_simp
   go_at_call 105
   refine (zgH 1 hst.1).mono ?_
   rintro e w2 ⟨rfl,h1,h2⟩
   go_simp
   exact HK.out _ _ _ (by (try simp only [e6])<;>rfl) h2.inP rfl (zj rfl ⟨h1,hst.2.kept h2 hpg⟩)
  refine cQ 8 ?_ ?_
  ·
   intro X w hR ψ χ K HK
   have c8:=(hX.kept hR (fun e=>e.elim hXn hXm)).cell 0 rfl
   go_simp
   exact HK.out _ _ _ rfl (Kept.refl _ _) rfl iD
  refine cS 9 2 ?_ ?_
  ·
   intro X w hR ψ χ hst K HK
   have hst:InW w0 w g (tkI s zK 2)∧Blk w p (cs) 93:=zg hst rfl
   have e8:X 8=tkV g:=(pR ψ 8 .data 0 :)
   go_simp
   go_at_call 105
   refine (zgH 2 hst.1).mono ?_
   rintro e w2 ⟨rfl,h1,h2⟩
   go_simp
   exact HK.out _ _ _ (by (try simp only [e8])<;>rfl) h2.inP rfl (zj rfl ⟨h1,hst.2.kept h2 hpg⟩)
  refine cQ 10 ?_ ?_
  ·
   intro X w hR ψ χ K HK
   have e0:X 0=.pointer (some ⟨p,0,none⟩):=(pR ψ 0 .data 0 :)
   go_simp
   exact HK.out _ _ _ (by (try simp only [e0])<;>rfl) (Kept.refl _ _) rfl iD
  refine cQ 11 ?_ ?_
  ·
   intro X w hR ψ χ K HK
   have e10:X 10=.pointer (some ⟨p,0,none⟩):=(pR ψ 10 .data 0 :)
   go_simp
   exact HK.out _ _ _ (by (try simp only [e10])<;>rfl) (Kept.refl _ _) rfl iD
  refine cQ 12 ?_ ?_
  ·
   intro X w hR ψ χ K HK
   have e11:X 11=.pointer (some ⟨p,44,none⟩):=(pR ψ 11 .data 0 :)
   go_simp
   exact HK.out _ _ _ (by (try simp only [e11])<;>rfl) (Kept.refl _ _) rfl iD
  refine cS 13 3 ?_ ?_
  ·
   intro X w hR ψ χ hst K HK
   have hst:InW w0 w g (tkI s zK 3)∧Blk w p (cs) 93:=zg hst rfl
   have e12:X 12=.pointer (some ⟨p,44,none⟩):=(pR ψ 12 .data 0 :)
   have e5:X 5=.int IntKind.u32 ((tkN s zK 0:Nat):Int):=(pR ψ 5 .data 1 :)
   have hf13:=hst.2.free (44)
   obtain ⟨_,hc13⟩:=hst.2.some (44) (by rw [Zcs.out];omega)
   go_simp
   exact HK.out undef _ _ (by (try simp only [e12,e5])<;>rfl) (zV _ _) trivial (zj rfl ⟨(zP hst.1 hst.2 (by decide) hp _ _).1,zt (zP hst.1 hst.2 (by decide) hp _ _).2 Hc1.out⟩)
  refine cQ 14 ?_ ?_
  ·
   intro X w hR ψ χ K HK
   have e1:X 1=.pointer (some ⟨p,0,none⟩):=(pR ψ 1 .data 0 :)
   go_simp
   exact HK.out _ _ _ (by (try simp only [e1])<;>rfl) (Kept.refl _ _) rfl iD
  refine cQ 15 ?_ ?_
  ·
   intro X w hR ψ χ K HK
   have e14:X 14=.pointer (some ⟨p,0,none⟩):=(pR ψ 14 .data 0 :)
   go_simp
   exact HK.out _ _ _ (by (try simp only [e14])<;>rfl) (Kept.refl _ _) rfl iD
  refine cQ 16 ?_ ?_
  ·
   intro X w hR ψ χ K HK
   have e15:X 15=.pointer (some ⟨p,44,none⟩):=(pR ψ 15 .data 0 :)
   go_simp
   exact HK.out _ _ _ (by (try simp only [e15])<;>rfl) (Kept.refl _ _) rfl iD
  refine cS 17 4 ?_ ?_
  ·
   intro X w hR ψ χ hst K HK
   have hst:InW w0 w g (tkI s zK 3)∧Blk w p (c1) 93:=zg hst rfl
   have e16:X 16=.pointer (some ⟨p,45,none⟩):=(pR ψ 16 .data 0 :)
   have e7:X 7=.int IntKind.u64 ((tkN s zK 1:Nat):Int):=(pR ψ 7 .data 1 :)
   have hf17:=hst.2.free (45)
   obtain ⟨_,hc17⟩:=hst.2.some (45) (by rw [Zc1.out];omega)
   go_simp
   exact HK.out undef _ _ (by (try simp only [e16,e7])<;>rfl) (zV _ _) trivial (zj rfl ⟨(zP hst.1 hst.2 (by decide) hp _ _).1,zt (zP hst.1 hst.2 (by decide) hp _ _).2 Hc2.out⟩)
  refine cQ 18 ?_ ?_
  ·
   intro X w hR ψ χ K HK
   have e2:X 2=.pointer (some ⟨p,0,none⟩):=(pR ψ 2 .data 0 :)
   go_simp
   exact HK.out _ _ _ (by (try simp only [e2])<;>rfl) (Kept.refl _ _) rfl iD
  refine cQ 19 ?_ ?_
  ·
   intro X w hR ψ χ K HK
   have e18:X 18=.pointer (some ⟨p,0,none⟩):=(pR ψ 18 .data 0 :)
   go_simp
   exact HK.out _ _ _ (by (try simp only [e18])<;>rfl) (Kept.refl _ _) rfl iD
  refine cQ 20 ?_ ?_
  ·
   intro X w hR ψ χ K HK
   have e19:X 19=.pointer (some ⟨p,44,none⟩):=(pR ψ 19 .data 0 :)
   go_simp
   exact HK.out _ _ _ (by (try simp only [e19])<;>rfl) (Kept.refl _ _) rfl iD
  refine cS 21 5 ?_ ?_
  ·
   intro X w hR ψ χ hst K HK
   have hst:InW w0 w g (tkI s zK 3)∧Blk w p (c2) 93:=zg hst rfl
   have e20:X 20=.pointer (some ⟨p,46,none⟩):=(pR ψ 20 .data 0 :)
   have e9:X 9=.int IntKind.u64 ((tkN s zK 2:Nat):Int):=(pR ψ 9 .data 1 :)
   have hf21:=hst.2.free (46)
   obtain ⟨_,hc21⟩:=hst.2.some (46) (by rw [Zc2.out];omega)
   go_simp
   exact HK.out undef _ _ (by (try simp only [e20,e9])<;>rfl) (zV _ _) trivial (zj rfl ⟨(zP hst.1 hst.2 (by decide) hp _ _).1,zt (zP hst.1 hst.2 (by decide) hp _ _).2 Hc3.out⟩)
  exact zi.nil
 ·
  intro X1 wE1 hR1 hall1 hS1
  have hS1:InW w0 wE1 g (tkI s zK 3)∧Blk wE1 p (c3) 93:=zg hS1 rfl
  have hI1:=hS1.1
  have hP1:=hS1.2
  have hX1:=hX.kept hR1 (fun e=>e.elim hXn hXm)
  clear hall1 hS1
  go_wp2_with fail
  go_end0
  exact ⟨rfl,hI1,zt hP1 (by rw [←Hc3.out,←Hc2.out,←Hc1.out]),(hK0.trans hR1)⟩
def kNet:List (Nat×Nat):=[So.kT,So.kW]
theorem zj8 (g p:Nat) (s:Tl.In) (hsm:Tl.Small s.b) (cs:Array Value) (hsz:cs.size=160) (w0 w:World) (hI:InW w0 w g s) (hP:Blk w p cs 93) (hp:w0.heap.size≤p):Calls Tryz.prog 115 #[tkV g,Value.pointer (some ⟨p,0,none⟩)] w (SecP w0 w g p (tkI s kNet 2) ((((cs).setIfInBounds (158) (Value.bool (tkN s kNet 0==1)))).setIfInBounds (159) (Value.int IntKind.u32 ((tkN s kNet 1:Nat):Int)))):=by
 have hpg:p≠g:=by
  obtain ⟨_,_,_,_,hG,_⟩:=hI.at_
  exact hP.apart hG (by decide)
 go_enter Tryz.func115,Tryz.ntmps115
 go_upto_region 1 with (fail)
 have hX:=Blk.new w #[Value.pointer (some ⟨g,0,none⟩)] 154
 have hI0:=zR hI (.cells #[Value.pointer (some ⟨g,0,none⟩)] 154)
 have hP0:=hP.alloc (.cells #[Value.pointer (some ⟨g,0,none⟩)] 154)
 have hK0:=(Kept.refl (inP g p) w).alloc (.cells #[Value.pointer (some ⟨g,0,none⟩)] 154)
 generalize w.alloc (.cells #[Value.pointer (some ⟨g,0,none⟩)] 154)=W1 at hX hI0 hP0 hK0 ⊢
 have Zcs:=qH hsz
 clear hsz
 have hXn:w.heap.size≠g:=Nat.ne_of_gt hI.lt
 have hXm:w.heap.size≠p:=Nat.ne_of_gt hP.lt
 generalize w.heap.size=x at hX hXn hXm ⊢
 obtain ⟨c1,hc1⟩:=qX ((cs).setIfInBounds (158) (Value.bool (tkN s kNet 0==1)))
 have Zc1:Hid (c1.size=160):=qH (by rw [←hc1];simp [zn,zl,Zcs.out])
 have Hc1:=qH hc1
 clear hc1
 obtain ⟨c2,hc2⟩:=qX ((c1).setIfInBounds (159) (Value.int IntKind.u32 ((tkN s kNet 1:Nat):Int)))
 have Zc2:Hid (c2.size=160):=qH (by rw [←hc2];simp [zn,zl,Zc1.out])
 have Hc2:=qH hc2
 clear hc2
 refine zc (by kernel_rfl) (fun X=>⟨#[tkV g,.pointer (some ⟨p,0,none⟩),.pointer (some ⟨x,0,none⟩),undef,X 0,X 1,X 2,X 3,X 4,X 5,X 6,X 7,X 8,X 10,X 11,X 12],[]⟩) (Kept (inP g p)) (fun i v w=>match i with | 0=>(v=.pointer (some ⟨p,0,none⟩)) | 1=>(v=.pointer (some ⟨p,0,none⟩)) | 2=>(v=tkV g) | 3=>(v=.bool (tkN s kNet 0==1)) | 4=>(v=tkV g) | 5=>(v=.int .u32 ((tkN s kNet 1:Nat):Int)) | 6=>(v=.pointer (some ⟨p,0,none⟩)) | 7=>(v=.pointer (some ⟨p,137,none⟩)) | 8=>(v=.pointer (some ⟨p,158,none⟩)) | 10=>(v=.pointer (some ⟨p,0,none⟩)) | 11=>(v=.pointer (some ⟨p,137,none⟩)) | 12=>(v=.pointer (some ⟨p,159,none⟩)) | _=>True) (fun i=>([0,0,0,1,0,2,0,0,0,3,0,0,0,4]:List Nat).getD i 0) 4 (fun k _ w=>zaW 93 [(tkI s kNet 0,cs),(tkI s kNet 1,cs),(tkI s kNet 2,cs),(tkI s kNet 2,c1),(tkI s kNet 2,c2)] w0 w g p k) _ (fun _=>undef) (fun u v w a b=>a.trans b) ?_ (by kernel_rfl) (by kernel_rfl) ((Kept.refl _ _).drew) ((zj rfl ⟨hI0.keep (zr (Below.refl _ _)),hP0.keep (zr (Below.refl _ _))⟩)) ?_ ?_
 ·
  intro i v w w' h hb
  match i,h with
  | 0,h=>exact h
  | 1,h=>exact h
  | 2,h=>exact h
  | 3,h=>exact h
  | 4,h=>exact h
  | 5,h=>exact h
  | 6,h=>exact h
  | 7,h=>exact h
  | 8,h=>exact h
  | 10,h=>exact h
  | 11,h=>exact h
  | 12,h=>exact h
  | 9,h=>exact trivial
  | 13,h=>exact trivial
  | _+14,h=>exact trivial
 ·
  refine cQ 0 ?_ ?_
  ·
   intro X w hR ψ χ K HK
   go_simp
   exact HK.out _ _ _ rfl (Kept.refl _ _) rfl iD
  refine cQ 1 ?_ ?_
  ·
   intro X w hR ψ χ K HK
   go_simp
   exact HK.out _ _ _ rfl (Kept.refl _ _) rfl iD
  refine cQ 2 ?_ ?_
  ·
   intro X w hR ψ χ K HK
   have c2:=(hX.kept hR (fun e=>e.elim hXn hXm)).cell 0 rfl
   go_simp
   exact HK.out _ _ _ rfl (Kept.refl _ _) rfl iD
  refine cS 3 0 ?_ ?_
  ·
   intro X w hR ψ χ hst K HK
   have e2:X 2=tkV g:=(pS ψ 2 .data :)
   go_simp
   go_at_call 167
   refine (zbS 0 (show InW w0 _ g (tkI s kNet 0)∧Blk _ p (cs) 93 from zg hst rfl).1).mono ?_
   rintro e w2 ⟨rfl,h1,h2⟩
   go_simp
   exact HK.out _ _ _ (by (try simp only [e2])<;>rfl) h2.inP rfl (zj rfl ⟨h1,(show InW w0 _ g (tkI s kNet 0)∧Blk _ p (cs) 93 from zg hst rfl).2.kept h2 hpg⟩)
  refine cQ 4 ?_ ?_
  ·
   intro X w hR ψ χ K HK
   have c4:=(hX.kept hR (fun e=>e.elim hXn hXm)).cell 0 rfl
   go_simp
   exact HK.out _ _ _ rfl (Kept.refl _ _) rfl iD
  refine cS 5 1 ?_ ?_
  ·
   intro X w hR ψ χ hst K HK
   have hst:InW w0 w g (tkI s kNet 1)∧Blk w p (cs) 93:=zg hst rfl
   have e4:X 4=tkV g:=(pS ψ 4 .data :)
   go_simp
   go_at_call 104
   refine (zaF 1 hst.1).mono ?_
   rintro e w2 ⟨rfl,h1,h2⟩
   go_simp
   exact HK.out _ _ _ (by (try simp only [e4])<;>rfl) h2.inP rfl (zj rfl ⟨h1,hst.2.kept h2 hpg⟩)
  refine cQ 6 ?_ ?_
  ·
   intro X w hR ψ χ K HK
   have e0:X 0=.pointer (some ⟨p,0,none⟩):=(pS ψ 0 .data :)
   go_simp
   exact HK.out _ _ _ (by (try simp only [e0])<;>rfl) (Kept.refl _ _) rfl iD
  refine cQ 7 ?_ ?_
  ·
   intro X w hR ψ χ K HK
   have e6:X 6=.pointer (some ⟨p,0,none⟩):=(pS ψ 6 .data :)
   go_simp
   exact HK.out _ _ _ (by (try simp only [e6])<;>rfl) (Kept.refl _ _) rfl iD
  refine cQ 8 ?_ ?_
  ·
   intro X w hR ψ χ K HK
   have e7:X 7=.pointer (some ⟨p,137,none⟩):=(pS ψ 7 .data :)
   go_simp
   exact HK.out _ _ _ (by (try simp only [e7])<;>rfl) (Kept.refl _ _) rfl iD
  refine cS 9 2 ?_ ?_
  ·
   intro X w hR ψ χ hst K HK
   have hst:InW w0 w g (tkI s kNet 2)∧Blk w p (cs) 93:=zg hst rfl
   have e8:X 8=.pointer (some ⟨p,158,none⟩):=(pS ψ 8 .data :)
   have e3:X 3=.bool (tkN s kNet 0==1):=(pS ψ 3 .data :)
   have hf9:=hst.2.free (158)
   obtain ⟨_,hc9⟩:=hst.2.some (158) (by rw [Zcs.out];omega)
   go_simp
   exact HK.out undef _ _ (by (try simp only [e8,e3])<;>rfl) (zV _ _) trivial (zj rfl ⟨(zP hst.1 hst.2 (by decide) hp _ _).1,zt (zP hst.1 hst.2 (by decide) hp _ _).2 Hc1.out⟩)
  refine cQ 10 ?_ ?_
  ·
   intro X w hR ψ χ K HK
   have e1:X 1=.pointer (some ⟨p,0,none⟩):=(pS ψ 1 .data :)
   go_simp
   exact HK.out _ _ _ (by (try simp only [e1])<;>rfl) (Kept.refl _ _) rfl iD
  refine cQ 11 ?_ ?_
  ·
   intro X w hR ψ χ K HK
   have e10:X 10=.pointer (some ⟨p,0,none⟩):=(pS ψ 10 .data :)
   go_simp
   exact HK.out _ _ _ (by (try simp only [e10])<;>rfl) (Kept.refl _ _) rfl iD
  refine cQ 12 ?_ ?_
  ·
   intro X w hR ψ χ K HK
   have e11:X 11=.pointer (some ⟨p,137,none⟩):=(pS ψ 11 .data :)
   go_simp
   exact HK.out _ _ _ (by (try simp only [e11])<;>rfl) (Kept.refl _ _) rfl iD
  refine cS 13 3 ?_ ?_
  ·
   intro X w hR ψ χ hst K HK
   have hst:InW w0 w g (tkI s kNet 2)∧Blk w p (c1) 93:=zg hst rfl
   have e12:X 12=.pointer (some ⟨p,159,none⟩):=(pS ψ 12 .data :)
   have e5:X 5=.int IntKind.u32 ((tkN s kNet 1:Nat):Int):=(pS ψ 5 .data :)
   have hf13:=hst.2.free (159)
   obtain ⟨_,hc13⟩:=hst.2.some (159) (by rw [Zc1.out];omega)
   go_simp
   exact HK.out undef _ _ (by (try simp only [e12,e5])<;>rfl) (zV _ _) trivial (zj rfl ⟨(zP hst.1 hst.2 (by decide) hp _ _).1,zt (zP hst.1 hst.2 (by decide) hp _ _).2 Hc2.out⟩)
  exact zi.nil
 ·
  intro X1 wE1 hR1 hall1 hS1
  have hS1:InW w0 wE1 g (tkI s kNet 2)∧Blk wE1 p (c2) 93:=zg hS1 rfl
  have hI1:=hS1.1
  have hP1:=hS1.2
  have hX1:=hX.kept hR1 (fun e=>e.elim hXn hXm)
  clear hall1 hS1
  go_wp2_with fail
  go_end0
  exact ⟨rfl,hI1,zt hP1 (by rw [←Hc2.out,←Hc1.out]),(hK0.trans hR1)⟩
def zk:List (Nat×Nat):=[So.kB,So.kW,So.kW,So.kB,So.kW,So.kT,So.kW,So.kW,So.kW,So.kW,So.kT]
theorem zfN (g p:Nat) (s:Tl.In) (hsm:Tl.Small s.b) (cs:Array Value) (hsz:cs.size=160) (w0 w:World) (hI:InW w0 w g s) (hP:Blk w p cs 93) (hp:w0.heap.size≤p):Calls Tryz.prog 112 #[tkV g,Value.pointer (some ⟨p,0,none⟩)] w (SecP w0 w g p (tkI s zk 11) ((zaa (((((((((((((cs).setIfInBounds (101) (Value.int IntKind.u32 ((tkN s zk 0:Nat):Int)))).setIfInBounds (102) (Value.int IntKind.u32 ((tkN s zk 1:Nat):Int)))).setIfInBounds (103) (Value.int IntKind.u32 ((tkN s zk 2:Nat):Int)))).setIfInBounds (104) (Value.int IntKind.u32 ((tkN s zk 3:Nat):Int)))).setIfInBounds (105) (Value.int IntKind.u32 ((tkN s zk 4:Nat):Int)))).setIfInBounds (106) (Value.bool (tkN s zk 5==1)))) [107,108,109,110] (u32s ((List.range 4).map fun i=>tkN s zk (6+i)))).setIfInBounds (111) (Value.bool (tkN s zk 10==1)))):=by
 have hpg:p≠g:=by
  obtain ⟨_,_,_,_,hG,_⟩:=hI.at_
  exact hP.apart hG (by decide)
 go_enter Tryz.func112,Tryz.ntmps112
 go_upto_region 1 with (fail)
 have hX:=Blk.new w #[Value.pointer (some ⟨g,0,none⟩)] 154
 have hI0:=zR hI (.cells #[Value.pointer (some ⟨g,0,none⟩)] 154)
 have hP0:=hP.alloc (.cells #[Value.pointer (some ⟨g,0,none⟩)] 154)
 have hK0:=(Kept.refl (inP g p) w).alloc (.cells #[Value.pointer (some ⟨g,0,none⟩)] 154)
 generalize w.alloc (.cells #[Value.pointer (some ⟨g,0,none⟩)] 154)=W1 at hX hI0 hP0 hK0 ⊢
 have Zcs:=qH hsz
 clear hsz
 have hXn:w.heap.size≠g:=Nat.ne_of_gt hI.lt
 have hXm:w.heap.size≠p:=Nat.ne_of_gt hP.lt
 generalize w.heap.size=x at hX hXn hXm ⊢
 go_wp2_with fail
 obtain ⟨c1,hc1⟩:=qX ((cs).setIfInBounds (101) (Value.int IntKind.u32 ((tkN s zk 0:Nat):Int)))
 have Zc1:Hid (c1.size=160):=qH (by rw [←hc1];simp [zn,zl,Zcs.out])
 have Hc1:=qH hc1
 clear hc1
 obtain ⟨c2,hc2⟩:=qX ((c1).setIfInBounds (102) (Value.int IntKind.u32 ((tkN s zk 1:Nat):Int)))
 have Zc2:Hid (c2.size=160):=qH (by rw [←hc2];simp [zn,zl,Zc1.out])
 have Hc2:=qH hc2
 clear hc2
 obtain ⟨c3,hc3⟩:=qX ((c2).setIfInBounds (103) (Value.int IntKind.u32 ((tkN s zk 2:Nat):Int)))
 have Zc3:Hid (c3.size=160):=qH (by rw [←hc3];simp [zn,zl,Zc2.out])
 have Hc3:=qH hc3
 clear hc3
 obtain ⟨c4,hc4⟩:=qX ((c3).setIfInBounds (104) (Value.int IntKind.u32 ((tkN s zk 3:Nat):Int)))
 have Zc4:Hid (c4.size=160):=qH (by rw [←hc4];simp [zn,zl,Zc3.out])
 have Hc4:=qH hc4
 clear hc4
 obtain ⟨c5,hc5⟩:=qX ((c4).setIfInBounds (105) (Value.int IntKind.u32 ((tkN s zk 4:Nat):Int)))
 have Zc5:Hid (c5.size=160):=qH (by rw [←hc5];simp [zn,zl,Zc4.out])
 have Hc5:=qH hc5
 clear hc5
 obtain ⟨c6,hc6⟩:=qX ((c5).setIfInBounds (106) (Value.bool (tkN s zk 5==1)))
 have Zc6:Hid (c6.size=160):=qH (by rw [←hc6];simp [zn,zl,Zc5.out])
 have Hc6:=qH hc6
 clear hc6
 refine zc (by kernel_rfl) (fun X=>⟨#[tkV g,.pointer (some ⟨p,0,none⟩),.pointer (some ⟨x,0,none⟩),undef,.pointer (some ⟨p,101,none⟩),.pointer (some ⟨p,0,none⟩),.pointer (some ⟨p,0,none⟩),.pointer (some ⟨p,101,none⟩),X 0,X 1,X 2,X 3,X 4,X 5,X 6,X 7,X 8,X 9,X 10,X 11,X 12,X 13,X 14,X 15,X 16,X 17,X 18,X 19,X 20,X 21,X 23,X 24,X 26,X 27,X 29,X 30,X 32,X 33,X 35,X 36,undef,undef,undef,undef,undef,undef,undef,undef,undef,undef,undef,undef,undef,undef,undef,undef,undef,undef,undef,undef],[]⟩) (Kept (inP g p)) (fun i v w=>match i with | 0=>(v=.pointer (some ⟨p,101,none⟩)) | 1=>(v=.pointer (some ⟨p,101,none⟩)) | 2=>(v=.pointer (some ⟨p,101,none⟩)) | 3=>(v=.pointer (some ⟨p,101,none⟩)) | 4=>(v=.pointer (some ⟨p,101,none⟩)) | 5=>(v=.pointer (some ⟨p,101,none⟩)) | 6=>(v=tkV g) | 7=>(v=.int .u8 ((tkN s zk 0:Nat):Int)) | 8=>(v=.int .u32 ((tkN s zk 0:Nat):Int)) | 9=>(v=tkV g) | 10=>(v=.int .u32 ((tkN s zk 1:Nat):Int)) | 11=>(v=tkV g) | 12=>(v=.int .u32 ((tkN s zk 2:Nat):Int)) | 13=>(v=tkV g) | 14=>(v=.int .u8 ((tkN s zk 3:Nat):Int)) | 15=>(v=.int .u32 ((tkN s zk 3:Nat):Int)) | 16=>(v=tkV g) | 17=>(v=.int .u32 ((tkN s zk 4:Nat):Int)) | 18=>(v=tkV g) | 19=>(v=.bool (tkN s zk 5==1)) | 20=>(v=.pointer (some ⟨p,101,none⟩)) | 21=>(v=.pointer (some ⟨p,101,none⟩)) | 23=>(v=.pointer (some ⟨p,101,none⟩)) | 24=>(v=.pointer (some ⟨p,102,none⟩)) | 26=>(v=.pointer (some ⟨p,101,none⟩)) | 27=>(v=.pointer (some ⟨p,103,none⟩)) | 29=>(v=.pointer (some ⟨p,101,none⟩)) | 30=>(v=.pointer (some ⟨p,104,none⟩)) | 32=>(v=.pointer (some ⟨p,101,none⟩)) | 33=>(v=.pointer (some ⟨p,105,none⟩)) | 35=>(v=.pointer (some ⟨p,101,none⟩)) | 36=>(v=.pointer (some ⟨p,106,none⟩)) | _=>True) (fun i=>([0,0,0,0,0,0,0,1,0,0,2,0,3,0,4,0,0,5,0,6,0,0,7,0,0,8,0,0,9,0,0,10,0,0,11,0,0,12]:List Nat).getD i 0) 12 (fun k _ w=>zaW 93 [(tkI s zk 0,cs),(tkI s zk 1,cs),(tkI s zk 2,cs),(tkI s zk 3,cs),(tkI s zk 4,cs),(tkI s zk 5,cs),(tkI s zk 6,cs),(tkI s zk 6,c1),(tkI s zk 6,c2),(tkI s zk 6,c3),(tkI s zk 6,c4),(tkI s zk 6,c5),(tkI s zk 6,c6)] w0 w g p k) _ (fun _=>undef) (fun u v w a b=>a.trans b) ?_ (by kernel_rfl) (by kernel_rfl) ((Kept.refl _ _).drew) ((zj rfl ⟨hI0.keep (zr (Below.refl _ _)),hP0.keep (zr (Below.refl _ _))⟩)) ?_ ?_
 ·
  intro i v w w' h hb
  match i,h with
  | 0,h=>exact h
  | 1,h=>exact h
  | 2,h=>exact h
  | 3,h=>exact h
  | 4,h=>exact h
  | 5,h=>exact h
  | 6,h=>exact h
  | 7,h=>exact h
  | 8,h=>exact h
  | 9,h=>exact h
  | 10,h=>exact h
  | 11,h=>exact h
  | 12,h=>exact h
  | 13,h=>exact h
  | 14,h=>exact h
  | 15,h=>exact h
  | 16,h=>exact h
  | 17,h=>exact h
  | 18,h=>exact h
  | 19,h=>exact h
  | 20,h=>exact h
  | 21,h=>exact h
  | 23,h=>exact h
  | 24,h=>exact h
  | 26,h=>exact h
  | 27,h=>exact h
  | 29,h=>exact h
  | 30,h=>exact h
  | 32,h=>exact h
  | 33,h=>exact h
  | 35,h=>exact h
  | 36,h=>exact h
  | 22,h=>exact trivial
  | 25,h=>exact trivial
  | 28,h=>exact trivial
  | 31,h=>exact trivial
  | 34,h=>exact trivial
  | 37,h=>exact trivial
  | _+38,h=>exact trivial
 ·
  refine cQ 0 ?_ ?_
  ·
   intro X w hR ψ χ K HK
   go_simp
   exact HK.out _ _ _ rfl (Kept.refl _ _) rfl iD
  refine cQ 1 ?_ ?_
  ·
   intro X w hR ψ χ K HK
   go_simp
   exact HK.out _ _ _ rfl (Kept.refl _ _) rfl iD
  refine cQ 2 ?_ ?_
  ·
   intro X w hR ψ χ K HK
   go_simp
   exact HK.out _ _ _ rfl (Kept.refl _ _) rfl iD
  refine cQ 3 ?_ ?_
  ·
   intro X w hR ψ χ K HK
   go_simp
   exact HK.out _ _ _ rfl (Kept.refl _ _) rfl iD
  refine cQ 4 ?_ ?_
  ·
   intro X w hR ψ χ K HK
   go_simp
   exact HK.out _ _ _ rfl (Kept.refl _ _) rfl iD
  refine cQ 5 ?_ ?_
  ·
   intro X w hR ψ χ K HK
   go_simp
   exact HK.out _ _ _ rfl (Kept.refl _ _) rfl iD
  refine cQ 6 ?_ ?_
  ·
   intro X w hR ψ χ K HK
   have c6:=(hX.kept hR (fun e=>e.elim hXn hXm)).cell 0 rfl
   go_simp
   exact HK.out _ _ _ rfl (Kept.refl _ _) rfl iD
  refine cS 7 0 ?_ ?_
  ·
   intro X w hR ψ χ hst K HK
   have e6:X 6=tkV g:=(pR ψ 6 .data 0 :)
   go_simp
   go_at_call 169
   refine (zdq 0 (show InW w0 _ g (tkI s zk 0)∧Blk _ p (cs) 93 from zg hst rfl).1).mono ?_
   rintro e w2 ⟨rfl,h1,h2⟩
   go_simp
   exact HK.out _ _ _ (by (try simp only [e6])<;>rfl) h2.inP rfl (zj rfl ⟨h1,(show InW w0 _ g (tkI s zk 0)∧Blk _ p (cs) 93 from zg hst rfl).2.kept h2 hpg⟩)
  refine cQ 8 ?_ ?_
  ·
   intro X w hR ψ χ K HK
   have e7:X 7=.int IntKind.u8 ((tkN s zk 0:Nat):Int):=(pR ψ 7 .data 0 :)
   have q8:=zcI s hsm zk 0 _ rfl
   have u8:IntKind.u32.wrap ((tkN s zk 0:Nat):Int)=((tkN s zk 0:Nat):Int):=by rw [IntKind.wrap_u32];simp only [So.kB,So.kW,So.kH,So.kD,So.p1,So.p2,So.p4,So.p8] at q8;omega
   go_simp
   exact HK.out _ _ _ (by (try simp only [e7])<;>rfl) (Kept.refl _ _) rfl iD
  refine cQ 9 ?_ ?_
  ·
   intro X w hR ψ χ K HK
   have c9:=(hX.kept hR (fun e=>e.elim hXn hXm)).cell 0 rfl
   go_simp
   exact HK.out _ _ _ rfl (Kept.refl _ _) rfl iD
  refine cS 10 1 ?_ ?_
  ·
   intro X w hR ψ χ hst K HK
   have hst:InW w0 w g (tkI s zk 1)∧Blk w p (cs) 93:=zg hst rfl
   have e9:X 9=tkV g:=(pR ψ 9 .data 0 :)
   go_simp
   go_at_call 104
   refine (zaF 1 hst.1).mono ?_
   rintro e w2 ⟨rfl,h1,h2⟩
   go_simp
   exact HK.out _ _ _ (by (try simp only [e9])<;>rfl) h2.inP rfl (zj rfl ⟨h1,hst.2.kept h2 hpg⟩)
  refine cQ 11 ?_ ?_
  ·
   intro X w hR ψ χ K HK
   have c11:=(hX.kept hR (fun e=>e.elim hXn hXm)).cell 0 rfl
   go_simp
   exact HK.out _ _ _ rfl (Kept.refl _ _) rfl iD
  refine cS 12 2 ?_ ?_
  ·
   intro X w hR ψ χ hst K HK
   have hst:InW w0 w g (tkI s zk 2)∧Blk w p (cs) 93:=zg hst rfl
   have e11:X 11=tkV g:=(pR ψ 11 .data 0 :)
   go_simp
   go_at_call 104
   refine (zaF 2 hst.1).mono ?_
   rintro e w2 ⟨rfl,h1,h2⟩
   go_simp
   exact HK.out _ _ _ (by (try simp only [e11])<;>rfl) h2.inP rfl (zj rfl ⟨h1,hst.2.kept h2 hpg⟩)
  refine cQ 13 ?_ ?_
  ·
   intro X w hR ψ χ K HK
   have c13:=(hX.kept hR (fun e=>e.elim hXn hXm)).cell 0 rfl
   go_simp
   exact HK.out _ _ _ rfl (Kept.refl _ _) rfl iD
  refine cS 14 3 ?_ ?_
  ·
   intro X w hR ψ χ hst K HK
   have hst:InW w0 w g (tkI s zk 3)∧Blk w p (cs) 93:=zg hst rfl
   have e13:X 13=tkV g:=(pR ψ 13 .data 0 :)
   go_simp
   go_at_call 169
   refine (zdq 3 hst.1).mono ?_
   rintro e w2 ⟨rfl,h1,h2⟩
   go_simp
   exact HK.out _ _ _ (by (try simp only [e13])<;>rfl) h2.inP rfl (zj rfl ⟨h1,hst.2.kept h2 hpg⟩)
  refine cQ 15 ?_ ?_
  ·
   intro X w hR ψ χ K HK
   have e14:X 14=.int IntKind.u8 ((tkN s zk 3:Nat):Int):=(pR ψ 14 .data 0 :)
   have q15:=zcI s hsm zk 3 _ rfl
   have u15:IntKind.u32.wrap ((tkN s zk 3:Nat):Int)=((tkN s zk 3:Nat):Int):=by rw [IntKind.wrap_u32];simp only [So.kB,So.kW,So.kH,So.kD,So.p1,So.p2,So.p4,So.p8] at q15;omega
   go_simp
   exact HK.out _ _ _ (by (try simp only [e14])<;>rfl) (Kept.refl _ _) rfl iD
  refine cQ 16 ?_ ?_
  ·
   intro X w hR ψ χ K HK
   have c16:=(hX.kept hR (fun e=>e.elim hXn hXm)).cell 0 rfl
   go_simp
   exact HK.out _ _ _ rfl (Kept.refl _ _) rfl iD
  refine cS 17 4 ?_ ?_
  ·
   intro X w hR ψ χ hst K HK
   have hst:InW w0 w g (tkI s zk 4)∧Blk w p (cs) 93:=zg hst rfl
   have e16:X 16=tkV g:=(pR ψ 16 .data 0 :)
   go_simp
   go_at_call 104
   refine (zaF 4 hst.1).mono ?_
   rintro e w2 ⟨rfl,h1,h2⟩
   go_simp
   exact HK.out _ _ _ (by (try simp only [e16])<;>rfl) h2.inP rfl (zj rfl ⟨h1,hst.2.kept h2 hpg⟩)
  refine cQ 18 ?_ ?_
  ·
   intro X w hR ψ χ K HK
   have c18:=(hX.kept hR (fun e=>e.elim hXn hXm)).cell 0 rfl
   go_simp
   exact HK.out _ _ _ rfl (Kept.refl _ _) rfl iD
  refine cS 19 5 ?_ ?_
  ·
   intro X w hR ψ χ hst K HK
   have hst:InW w0 w g (tkI s zk 5)∧Blk w p (cs) 93:=zg hst rfl
   have e18:X 18=tkV g:=(pR ψ 18 .data 0 :)
   go_simp
   go_at_call 167
   refine (zbS 5 hst.1).mono ?_
   rintro e w2 ⟨rfl,h1,h2⟩
   go_simp
   exact HK.out _ _ _ (by (try simp only [e18])<;>rfl) h2.inP rfl (zj rfl ⟨h1,hst.2.kept h2 hpg⟩)
  refine cQ 20 ?_ ?_
  ·
   intro X w hR ψ χ K HK
   have e0:X 0=.pointer (some ⟨p,101,none⟩):=(pR ψ 0 .data 0 :)
   go_simp
   exact HK.out _ _ _ (by (try simp only [e0])<;>rfl) (Kept.refl _ _) rfl iD
  refine cQ 21 ?_ ?_
  ·
   intro X w hR ψ χ K HK
   have e20:X 20=.pointer (some ⟨p,101,none⟩):=(pR ψ 20 .data 0 :)
   go_simp
   exact HK.out _ _ _ (by (try simp only [e20])<;>rfl) (Kept.refl _ _) rfl iD
  refine cS 22 6 ?_ ?_
  ·
   intro X w hR ψ χ hst K HK
   have hst:InW w0 w g (tkI s zk 6)∧Blk w p (cs) 93:=zg hst rfl
   have e21:X 21=.pointer (some ⟨p,101,none⟩):=(pR ψ 21 .data 0 :)
   have e8:X 8=.int IntKind.u32 ((tkN s zk 0:Nat):Int):=(pR ψ 8 .data 1 :)
   have hf22:=hst.2.free (101)
   obtain ⟨_,hc22⟩:=hst.2.some (101) (by rw [Zcs.out];omega)
   go_simp
   exact HK.out undef _ _ (by (try simp only [e21,e8])<;>rfl) (zV _ _) trivial (zj rfl ⟨(zP hst.1 hst.2 (by decide) hp _ _).1,zt (zP hst.1 hst.2 (by decide) hp _ _).2 Hc1.out⟩)
  refine cQ 23 ?_ ?_
  ·
   intro X w hR ψ χ K HK
   have e1:X 1=.pointer (some ⟨p,101,none⟩):=(pR ψ 1 .data 0 :)
   go_simp
   exact HK.out _ _ _ (by (try simp only [e1])<;>rfl) (Kept.refl _ _) rfl iD
  refine cQ 24 ?_ ?_
  ·
   intro X w hR ψ χ K HK
   have e23:X 23=.pointer (some ⟨p,101,none⟩):=(pR ψ 23 .data 0 :)
   go_simp
   exact HK.out _ _ _ (by (try simp only [e23])<;>rfl) (Kept.refl _ _) rfl iD
  refine cS 25 7 ?_ ?_
  ·
   intro X w hR ψ χ hst K HK
   have hst:InW w0 w g (tkI s zk 6)∧Blk w p (c1) 93:=zg hst rfl
   have e24:X 24=.pointer (some ⟨p,102,none⟩):=(pR ψ 24 .data 0 :)
   have e10:X 10=.int IntKind.u32 ((tkN s zk 1:Nat):Int):=(pR ψ 10 .data 1 :)
   have hf25:=hst.2.free (102)
   obtain ⟨_,hc25⟩:=hst.2.some (102) (by rw [Zc1.out];omega)
   go_simp
   exact HK.out undef _ _ (by (try simp only [e24,e10])<;>rfl) (zV _ _) trivial (zj rfl ⟨(zP hst.1 hst.2 (by decide) hp _ _).1,zt (zP hst.1 hst.2 (by decide) hp _ _).2 Hc2.out⟩)
  refine cQ 26 ?_ ?_
  ·
   intro X w hR ψ χ K HK
   have e2:X 2=.pointer (some ⟨p,101,none⟩):=(pR ψ 2 .data 0 :)
   go_simp
   exact HK.out _ _ _ (by (try simp only [e2])<;>rfl) (Kept.refl _ _) rfl iD
  refine cQ 27 ?_ ?_
  ·
   intro X w hR ψ χ K HK
   have e26:X 26=.pointer (some ⟨p,101,none⟩):=(pR ψ 26 .data 0 :)
   go_simp
   exact HK.out _ _ _ (by (try simp only [e26])<;>rfl) (Kept.refl _ _) rfl iD
  refine cS 28 8 ?_ ?_
  ·
   intro X w hR ψ χ hst K HK
   have hst:InW w0 w g (tkI s zk 6)∧Blk w p (c2) 93:=zg hst rfl
   have e27:X 27=.pointer (some ⟨p,103,none⟩):=(pR ψ 27 .data 0 :)
   have e12:X 12=.int IntKind.u32 ((tkN s zk 2:Nat):Int):=(pR ψ 12 .data 1 :)
   have hf28:=hst.2.free (103)
   obtain ⟨_,hc28⟩:=hst.2.some (103) (by rw [Zc2.out];omega)
   go_simp
   exact HK.out undef _ _ (by (try simp only [e27,e12])<;>rfl) (zV _ _) trivial (zj rfl ⟨(zP hst.1 hst.2 (by decide) hp _ _).1,zt (zP hst.1 hst.2 (by decide) hp _ _).2 Hc3.out⟩)
  refine cQ 29 ?_ ?_
  ·
   intro X w hR ψ χ K HK
   have e3:X 3=.pointer (some ⟨p,101,none⟩):=(pR ψ 3 .data 0 :)
   go_simp
   exact HK.out _ _ _ (by (try simp only [e3])<;>rfl) (Kept.refl _ _) rfl iD
  refine cQ 30 ?_ ?_
  ·
   intro X w hR ψ χ K HK
   have e29:X 29=.pointer (some ⟨p,101,none⟩):=(pR ψ 29 .data 0 :)
   go_simp
   exact HK.out _ _ _ (by (try simp only [e29])<;>rfl) (Kept.refl _ _) rfl iD
  refine cS 31 9 ?_ ?_
  ·
   intro X w hR ψ χ hst K HK
   have hst:InW w0 w g (tkI s zk 6)∧Blk w p (c3) 93:=zg hst rfl
   have e30:X 30=.pointer (some ⟨p,104,none⟩):=(pR ψ 30 .data 0 :)
   have e15:X 15=.int IntKind.u32 ((tkN s zk 3:Nat):Int):=(pR ψ 15 .data 1 :)
   have hf31:=hst.2.free (104)
   obtain ⟨_,hc31⟩:=hst.2.some (104) (by rw [Zc3.out];omega)
   go_simp
   exact HK.out undef _ _ (by (try simp only [e30,e15])<;>rfl) (zV _ _) trivial (zj rfl ⟨(zP hst.1 hst.2 (by decide) hp _ _).1,zt (zP hst.1 hst.2 (by decide) hp _ _).2 Hc4.out⟩)
  refine cQ 32 ?_ ?_
  ·
   intro X w hR ψ χ K HK
   have e4:X 4=.pointer (some ⟨p,101,none⟩):=(pR ψ 4 .data 0 :)
   go_simp
   exact HK.out _ _ _ (by (try simp only [e4])<;>rfl) (Kept.refl _ _) rfl iD
  refine cQ 33 ?_ ?_
  ·
   intro X w hR ψ χ K HK
   have e32:X 32=.pointer (some ⟨p,101,none⟩):=(pR ψ 32 .data 0 :)
   go_simp
   exact HK.out _ _ _ (by (try simp only [e32])<;>rfl) (Kept.refl _ _) rfl iD
  refine cS 34 10 ?_ ?_
  ·
   intro X w hR ψ χ hst K HK
   have hst:InW w0 w g (tkI s zk 6)∧Blk w p (c4) 93:=zg hst rfl
   have e33:X 33=.pointer (some ⟨p,105,none⟩):=(pR ψ 33 .data 0 :)
   have e17:X 17=.int IntKind.u32 ((tkN s zk 4:Nat):Int):=(pR ψ 17 .data 1 :)
   have hf34:=hst.2.free (105)
   obtain ⟨_,hc34⟩:=hst.2.some (105) (by rw [Zc4.out];omega)
   go_simp
   exact HK.out undef _ _ (by (try simp only [e33,e17])<;>rfl) (zV _ _) trivial (zj rfl ⟨(zP hst.1 hst.2 (by decide) hp _ _).1,zt (zP hst.1 hst.2 (by decide) hp _ _).2 Hc5.out⟩)
  refine cQ 35 ?_ ?_
  ·
   intro X w hR ψ χ K HK
   have e5:X 5=.pointer (some ⟨p,101,none⟩):=(pR ψ 5 .data 0 :)
   go_simp
   exact HK.out _ _ _ (by (try simp only [e5])<;>rfl) (Kept.refl _ _) rfl iD
  refine cQ 36 ?_ ?_
  ·
   intro X w hR ψ χ K HK
   have e35:X 35=.pointer (some ⟨p,101,none⟩):=(pR ψ 35 .data 0 :)
   go_simp
   exact HK.out _ _ _ (by (try simp only [e35])<;>rfl) (Kept.refl _ _) rfl iD
  refine cS 37 11 ?_ ?_
  ·
   intro X w hR ψ χ hst K HK
   have hst:InW w0 w g (tkI s zk 6)∧Blk w p (c5) 93:=zg hst rfl
   have e36:X 36=.pointer (some ⟨p,106,none⟩):=(pR ψ 36 .data 0 :)
   have e19:X 19=.bool (tkN s zk 5==1):=(pR ψ 19 .data 1 :)
   have hf37:=hst.2.free (106)
   obtain ⟨_,hc37⟩:=hst.2.some (106) (by rw [Zc5.out];omega)
   go_simp
   exact HK.out undef _ _ (by (try simp only [e36,e19])<;>rfl) (zV _ _) trivial (zj rfl ⟨(zP hst.1 hst.2 (by decide) hp _ _).1,zt (zP hst.1 hst.2 (by decide) hp _ _).2 Hc6.out⟩)
  exact zi.nil
 ·
  intro X1 wE1 hR1 hall1 hS1
  have hS1:InW w0 wE1 g (tkI s zk 6)∧Blk wE1 p (c6) 93:=zg hS1 rfl
  have hI1:=hS1.1
  have hP1:=hS1.2
  have hX1:=hX.kept hR1 (fun e=>e.elim hXn hXm)
  clear hall1 hS1
  go_wp2_with fail
  obtain ⟨c7,hc7⟩:=qX (zaa (c6) [107,108,109,110] (u32s ((List.range 4).map fun i=>tkN s zk (6+i))))
  have Zc7:Hid (c7.size=160):=qH (by rw [←hc7];simp [zn,zl,Zc6.out])
  have Hc7:=qH hc7
  clear hc7
  refine zc (by kernel_rfl) (fun X=>⟨#[tkV g,.pointer (some ⟨p,0,none⟩),.pointer (some ⟨x,0,none⟩),undef,.pointer (some ⟨p,101,none⟩),.pointer (some ⟨p,0,none⟩),.pointer (some ⟨p,0,none⟩),.pointer (some ⟨p,101,none⟩),X1 0,X1 1,X1 2,X1 3,X1 4,X1 5,X1 6,X1 7,X1 8,X1 9,X1 10,X1 11,X1 12,X1 13,X1 14,X1 15,X1 16,X1 17,X1 18,X1 19,X1 20,X1 21,X1 23,X1 24,X1 26,X1 27,X1 29,X1 30,X1 32,X1 33,X1 35,X1 36,X 0,X 1,X 2,X 3,X 4,X 5,X 6,X 7,X 8,X 9,X 10,X 11,X 12,X 13,X 14,undef,undef,undef,undef,undef],[]⟩) (Kept (inP g p)) (fun i v w=>match i with | 0=>(v=tkV g) | 1=>(v=.pointer (some ⟨p,101,none⟩)) | 2=>(v=.pointer (some ⟨p,101,none⟩)) | 3=>(v=.pointer (some ⟨p,107,none⟩)) | 4=>(v=.pointer (some ⟨p,101,none⟩)) | 5=>(v=.pointer (some ⟨p,101,none⟩)) | 6=>(v=.pointer (some ⟨p,108,none⟩)) | 7=>(v=.pointer (some ⟨p,101,none⟩)) | 8=>(v=.pointer (some ⟨p,101,none⟩)) | 9=>(v=.pointer (some ⟨p,109,none⟩)) | 10=>(v=.pointer (some ⟨p,101,none⟩)) | 11=>(v=.pointer (some ⟨p,101,none⟩)) | 12=>(v=.pointer (some ⟨p,110,none⟩)) | 13=>(∃ q,v=.slice (some ⟨q,0,none⟩) 4 4∧Blk w q (zcc p [107,108,109,110]) 330∧q≠g∧q≠p) | _=>True) (fun i=>([0,0,0,0,0,0,0,0,0,0,0,0,0,0,1]:List Nat).getD i 0) 1 (fun k _ w=>zaW 93 [(tkI s zk 6,c6),(tkI s zk 10,c7)] w0 w g p k) _ (fun _=>undef) (fun u v w a b=>a.trans b) ?_ (by kernel_rfl) (by kernel_rfl) ((Kept.refl _ _).drew) ((zj rfl ⟨hI1.keep (zr (Below.refl _ _)),hP1.keep (zr (Below.refl _ _))⟩)) ?_ ?_
  ·
   intro i v w w' h hb
   match i,h with
   | 0,h=>exact h
   | 1,h=>exact h
   | 2,h=>exact h
   | 3,h=>exact h
   | 4,h=>exact h
   | 5,h=>exact h
   | 6,h=>exact h
   | 7,h=>exact h
   | 8,h=>exact h
   | 9,h=>exact h
   | 10,h=>exact h
   | 11,h=>exact h
   | 12,h=>exact h
   | 13,h=>exact (let ⟨q,e,hq,h1,h2⟩:=h;⟨q,e,hq.kept hb (fun e=>e.elim h1 h2),h1,h2⟩)
   | 14,h=>exact trivial
   | _+15,h=>exact trivial
  ·
   refine cQ 0 ?_ ?_
   ·
    intro X w hR ψ χ K HK
    have c0:=(hX1.kept hR (fun e=>e.elim hXn hXm)).cell 0 rfl
    go_simp
    exact HK.out _ _ _ rfl (Kept.refl _ _) rfl iD
   refine cQ 1 ?_ ?_
   ·
    intro X w hR ψ χ K HK
    go_simp
    exact HK.out _ _ _ rfl (Kept.refl _ _) rfl iD
   refine cQ 2 ?_ ?_
   ·
    intro X w hR ψ χ K HK
    have e1:X 1=.pointer (some ⟨p,101,none⟩):=(pR ψ 1 .data 0 :)
    go_simp
    exact HK.out _ _ _ (by (try simp only [e1])<;>rfl) (Kept.refl _ _) rfl iD
   refine cQ 3 ?_ ?_
   ·
    intro X w hR ψ χ K HK
    have e2:X 2=.pointer (some ⟨p,101,none⟩):=(pR ψ 2 .data 0 :)
    go_simp
    exact HK.out _ _ _ (by (try simp only [e2])<;>rfl) (Kept.refl _ _) rfl iD
   refine cQ 4 ?_ ?_
   ·
    intro X w hR ψ χ K HK
    go_simp
    exact HK.out _ _ _ rfl (Kept.refl _ _) rfl iD
   refine cQ 5 ?_ ?_
   ·
    intro X w hR ψ χ K HK
    have e4:X 4=.pointer (some ⟨p,101,none⟩):=(pR ψ 4 .data 0 :)
    go_simp
    exact HK.out _ _ _ (by (try simp only [e4])<;>rfl) (Kept.refl _ _) rfl iD
   refine cQ 6 ?_ ?_
   ·
    intro X w hR ψ χ K HK
    have e5:X 5=.pointer (some ⟨p,101,none⟩):=(pR ψ 5 .data 0 :)
    go_simp
    exact HK.out _ _ _ (by (try simp only [e5])<;>rfl) (Kept.refl _ _) rfl iD
   refine cQ 7 ?_ ?_
   ·
    intro X w hR ψ χ K HK
    go_simp
    exact HK.out _ _ _ rfl (Kept.refl _ _) rfl iD
   refine cQ 8 ?_ ?_
   ·
    intro X w hR ψ χ K HK
    have e7:X 7=.pointer (some ⟨p,101,none⟩):=(pR ψ 7 .data 0 :)
    go_simp
    exact HK.out _ _ _ (by (try simp only [e7])<;>rfl) (Kept.refl _ _) rfl iD
   refine cQ 9 ?_ ?_
   ·
    intro X w hR ψ χ K HK
    have e8:X 8=.pointer (some ⟨p,101,none⟩):=(pR ψ 8 .data 0 :)
    go_simp
    exact HK.out _ _ _ (by (try simp only [e8])<;>rfl) (Kept.refl _ _) rfl iD
   refine cQ 10 ?_ ?_
   ·
    intro X w hR ψ χ K HK
    go_simp
    exact HK.out _ _ _ rfl (Kept.refl _ _) rfl iD
   refine cQ 11 ?_ ?_
   ·
    intro X w hR ψ χ K HK
    have e10:X 10=.pointer (some ⟨p,101,none⟩):=(pR ψ 10 .data 0 :)
    go_simp
    exact HK.out _ _ _ (by (try simp only [e10])<;>rfl) (Kept.refl _ _) rfl iD
   refine cQ 12 ?_ ?_
   ·
    intro X w hR ψ χ K HK
    have e11:X 11=.pointer (some ⟨p,101,none⟩):=(pR ψ 11 .data 0 :)
    go_simp
    exact HK.out _ _ _ (by (try simp only [e11])<;>rfl) (Kept.refl _ _) rfl iD
   refine cQ 13 ?_ ?_
   ·
    intro X w hR ψ χ K HK
    have e3:X 3=.pointer (some ⟨p,107,none⟩):=(pR ψ 3 .data 0 :)
    have e6:X 6=.pointer (some ⟨p,108,none⟩):=(pR ψ 6 .data 1 :)
    have e9:X 9=.pointer (some ⟨p,109,none⟩):=(pR ψ 9 .data 2 :)
    have e12:X 12=.pointer (some ⟨p,110,none⟩):=(pR ψ 12 .data 3 :)
    go_simp
    exact HK.out _ _ _ (by (try simp only [e3,e6,e9,e12])<;>rfl) ((Kept.refl _ _).alloc _) ⟨_,rfl,Blk.new _ _ _,Nat.ne_of_gt (Nat.lt_of_lt_of_le hI1.lt hR.size),Nat.ne_of_gt (Nat.lt_of_lt_of_le hP1.lt hR.size)⟩ (fun k _ h=>zbT h (za (Below.refl _ _) _))
   refine cS 14 0 ?_ ?_
   ·
    intro X w hR ψ χ hst K HK
    have e0:X 0=tkV g:=(pR ψ 0 .data 0 :)
    obtain ⟨q13,e13,hq13,_⟩:∃ q,X 13=Value.slice (some ⟨q,0,none⟩) 4 4∧Blk w q (zcc p [107,108,109,110]) 330∧q≠g∧q≠p:=(pR ψ 13 .data 1 :)
    go_simp
    go_at_call 168
    refine (zb6 6 q13 4 4 [107,108,109,110] (show InW w0 _ g (tkI s zk 6)∧Blk _ p (c6) 93 from zg hst rfl).1 (show InW w0 _ g (tkI s zk 6)∧Blk _ p (c6) 93 from zg hst rfl).2 hp hq13 rfl (by intro o ho;simp only [List.mem_cons,List.not_mem_nil,or_false] at ho;rw [Zc6.out];omega)).mono ?_
    rintro e w2 ⟨rfl,h1,h2,h3⟩
    go_simp
    exact HK.out _ _ _ (by (try simp only [e0,e13])<;>rfl) h3 trivial (zj rfl ⟨h1,zt h2 Hc7.out⟩)
   exact zi.nil
  ·
   intro X2 wE2 hR2 hall2 hS2
   have hS2:InW w0 wE2 g (tkI s zk 10)∧Blk wE2 p (c7) 93:=zg hS2 rfl
   have hI2:=hS2.1
   have hP2:=hS2.2
   have hX2:=hX1.kept hR2 (fun e=>e.elim hXn hXm)
   clear hall2 hS2
   have hx:=hX2.cell 0 rfl
   go_wp2_with (first | (go_at_call 167;refine (zbS 10 hI2).mono ?_;rintro e w2 ⟨rfl,h1,h2⟩;have hPL:=hP2.kept h2 hpg;have hfL:=hPL.free (111);obtain ⟨_,hcL⟩:=hPL.some (111) (by rw [Zc7.out];omega)) | fail)
   go_end0
   exact ⟨rfl,h1.set hPL (by decide) hp _ _,zt (hPL.set _ _) (by rw [←Hc7.out,←Hc6.out,←Hc5.out,←Hc4.out,←Hc3.out,←Hc2.out,←Hc1.out]),(((hK0.trans hR1).trans hR2).trans h2.inP).trans (zV _ _)⟩
end Go.Proofs.YtdffbihilhkkjaaGreatDoor
