import Derived.Test.YtdffbihilhkkjaaGreatDoorZ6
import Derived.Test.YtdffbihilhkkjaaGreatDoorZ10
import Derived.Test.YtdffbihilhkkjaaGreatDoorZ23
import Derived.Shelf.Abstract
import Derived.Deep.LoopGhost
import Derived.Deep.QuietTactic
import Derived.BigQuiet
import Derived.StillTailTactics
import Derived.Deep.MidRow
import Derived.Deep.RegionWith
namespace Go.Proofs.YtdffbihilhkkjaaGreatDoor
open Go.RowKit
set_option linter.unusedVariables false
set_option linter.unusedSimpArgs false
set_option maxRecDepth 100000
set_option maxHeartbeats 8000000
def idxI {α:Type} (p:α→Bool) (l:List α):Int:=match l.findIdx? p with | some i=>(i:Int) | none=>-1
theorem zcO {α:Type} {p:α→Bool} {l:List α} {k:Nat} {x:α} (hk:l[k]?=some x) (h:p x=true) (hn:∀ (j:Nat) (y:α),j<k→l[j]?=some y→p y=false):idxI p l=k:=by
 have h1:l.findIdx? p=some k:=by
  rw [List.findIdx?_eq_some_iff_getElem]
  obtain ⟨h1,h2⟩:=List.getElem?_eq_some_iff.1 hk
  refine ⟨h1,by rw [h2];exact h,fun j hj=>?_⟩
  rw [hn j _ hj (List.getElem?_eq_getElem (by omega))]
  simp
 unfold idxI
 rw [h1]
theorem zbW {α:Type} {p:α→Bool} {l:List α} (hn:∀ (j:Nat) (y:α),l[j]?=some y→p y=false):idxI p l=-1:=by
 have h1:l.findIdx? p=none:=by
  rw [List.findIdx?_eq_none_iff]
  intro x hx
  obtain ⟨j,hj⟩:=List.getElem?_of_mem hx
  exact hn j x hj
 unfold idxI
 rw [h1]
theorem zdE {α:Type} (p:α→Bool) (l:List α):decide (0≤idxI p l)=l.any p:=by
 unfold idxI
 cases h:l.findIdx? p with
 | none =>
  rw [List.findIdx?_eq_none_iff] at h
  symm
  have e:l.any p=false:=by
   rw [List.any_eq_false]
   intro x hx
   simp [h x hx]
  rw [e]
  rfl
 | some i =>
  rw [List.findIdx?_eq_some_iff_getElem] at h
  obtain ⟨h1,h2,_⟩:=h
  symm
  have e:l.any p=true:=List.any_eq_true.2 ⟨_,List.getElem_mem h1,h2⟩
  rw [e]
  simp
def zcP {α:Type} (g:Nat) (lb:Array Value) (enc:α→Value) (p:α→Bool) (zs:List α) (w:World):Prop :=
 ∀ (W:World) (x:α),x∈zs→Below w.heap.size w W→Calls Tryz.prog g (#[enc x]++lb) W fun e w'=>e=.returned (.bool (p x))∧Below w.heap.size w w'
def zaj {α:Type} (w:World) (A:Option Addr) (k:Nat) (enc:α→List Value) (zs:List α):Prop :=
 ∀ (j:Nat) (x:α),zs[j]?=some x→∃ b off,A=some ⟨b,off,none⟩∧∀ i v,(enc x)[i]?=some v→w.cell? ⟨b,off+j*k+i,none⟩=some v
theorem zaj.keep {α:Type} {w w1:World} {A:Option Addr} {k:Nat} {enc:α→List Value} {zs:List α} (h:zaj w A k enc zs) (hb:Below w.heap.size w w1):zaj w1 A k enc zs:=fun j x hx=>by
 obtain ⟨b,off,e,hc⟩:=h j x hx
 exact ⟨b,off,e,fun i v hv=>zm (hc i v hv) hb⟩
theorem RowE.elems {α:Type} {w:World} {base:Nat} {e:TypeId} {A:Option Addr} {n c k:Nat} {f:α→List Value} {L:List α} (h:RowE w base e k A n c (L.flatMap f)) (hf:∀ x,(f x).length=k) (hn:L.length=n):zaj w A k f L:=fun j x hx=>by
 have hj':=(List.getElem?_eq_some_iff.1 hx).1
 obtain ⟨b,e,hr⟩:=h.range (by omega)
 refine ⟨b,0,e,fun i v hv=>?_⟩
 have:=hr (j*k+i) v (zbF f k hf L j x hx i v hv)
 rw [show 0+j*k+i=0+(j*k+i) by omega]
 exact this
theorem zl8 (g : Nat) (lb : Array Value) (eg : ∀ args w, (callFunc g args).run Tryz.prog w = .ok (.enter g args) w) (A : Option Addr) (n c : Nat) (zs : List So.Post) (w : World) (hlen : zs.length = n) (hmax : n ≤ 4398046511104) (hcap : n ≤ c) (hc : zaj w A 4 So.postL zs)
    (p:So.Post→Bool) (hp:zcP g lb (fun x=>.agg (So.postL x).toArray) p zs w):Calls Tryz.prog 186 #[.slice A n c,.func (.func g) #[] lb] w fun e w'=>e=.returned (.int .i64 (idxI p zs))∧Below w.heap.size w w':=by
  have HC:=qH hc
  have HPp:=qH hp
  have HL:=qH hlen
  clear hc hp hlen
  go_enter Tryz.func186,Tryz.ntmps186
  go_wp2_with fail
  go_loopg [5,8] n (fun gg _ s8 wr=>∃ kk:Nat,kk≤n∧n-kk≤gg∧s8=.int .i64 kk∧Hid (Below w.heap.size w wr)∧Hid (∀ (j:Nat) (y:So.Post),j<kk→zs[j]?=some y→p y=false))
  case atStart=>exact ⟨0,Nat.zero_le _,by omega,rfl,qH (Below.refl _ w),qH (fun j y hj=>absurd hj (Nat.not_lt_zero _))⟩
  case round =>
    obtain ⟨kk,hkk,hg,rfl,BW,HA⟩:=hrel
    by_cases hlt:kk<n
    · have hltz : (kk : Int) < (n : Int) := by omega
      have hk0:(0:Int)≤(kk:Int):=by omega
      obtain ⟨x,hx⟩:∃ x,zs[kk]?=some x:=⟨_,List.getElem?_eq_getElem (by rw [HL.out];exact hlt)⟩
      obtain ⟨b,off,rfl,hcell⟩:=HC.out.keep BW.out kk x hx
      have l0:wr.cell? ⟨b,off+kk*4,none⟩=some (Value.int .i64 x.dev):=hcell 0 _ rfl
      have l1:wr.cell? ⟨b,off+kk*4+1,none⟩=some (Value.int .u32 (x.at_:Int)):=hcell 1 _ rfl
      have l2:wr.cell? ⟨b,off+kk*4+2,none⟩=some (Value.int .i64 x.n):=hcell 2 _ rfl
      have l3:wr.cell? ⟨b,off+kk*4+3,none⟩=some (Value.int .u32 (x.value:Int)):=hcell 3 _ rfl
      have hcall:=HPp.out wr x (List.mem_of_getElem? hx) BW.out
      have HX:=qH hx
      clear hx hcell
      cases hq:p x with
      | true =>
        rw [hq] at hcall
        have HQ:=qH hq
        clear hq
        go_wp2_with (first | (go_at_fn g;refine hcall.mono ?_;rintro e w' ⟨rfl,hb'⟩) | fail)
        go_ret
        exact ⟨by rw [zcO HX.out HQ.out HA.out];rfl,hb'⟩
      | false =>
        rw [hq] at hcall
        have HQ:=qH hq
        clear hq
        go_wp2_with (first | (go_at_fn g;refine hcall.mono ?_;rintro e w' ⟨rfl,hb'⟩) | fail)
        go_roundg (n-(kk+1))
        case measure=>omega
        case rel =>
          refine ⟨kk+1,by omega,by omega,by go_num,qH hb',qH (fun j y hj hy=>?_)⟩
          by_cases e:j=kk
          · subst e
            rw [HX.out] at hy
            rw [←Option.some.inj hy]
            exact HQ.out
          · exact HA.out j y (by omega) hy
    · have hltz : ¬ (kk : Int) < (n : Int) := by omega
      go_wp2_with fail
      go_ret
      refine ⟨?_,BW.out⟩
      rw [zbW (fun j y hy=>HA.out j y (by have h1:=(List.getElem?_eq_some_iff.1 hy).1;have h2:=HL.out;omega) hy)]
      rfl
theorem zhH (g : Nat) (lb : Array Value) (eg : ∀ args w, (callFunc g args).run Tryz.prog w = .ok (.enter g args) w) (A : Option Addr) (n c : Nat) (zs : List So.Post) (w : World) (hlen : zs.length = n) (hmax : n ≤ 4398046511104) (hcap : n ≤ c) (hc : zaj w A 4 So.postL zs)
    (p:So.Post→Bool) (hp:zcP g lb (fun x=>.agg (So.postL x).toArray) p zs w):Calls Tryz.prog 147 #[.slice A n c,.func (.func g) #[] lb] w fun e w'=>e=.returned (.bool (zs.any p))∧Below w.heap.size w w':=by
  have hcon:=zl8 g lb eg A n c zs w hlen hmax hcap hc p hp
  have H:=qH (zdE p zs)
  clear hlen hc hp hcap
  generalize idxI p zs=r at hcon H
  go_enter Tryz.func147,Tryz.ntmps147
  go_wp2_with (first | (go_at_call 186;refine hcon.mono ?_;rintro e w' ⟨rfl,hb'⟩) | fail)
  go_ret
  exact ⟨by rw [←H.out];rfl,hb'⟩
theorem znN (g : Nat) (lb : Array Value) (eg : ∀ args w, (callFunc g args).run Tryz.prog w = .ok (.enter g args) w) (A : Option Addr) (n c : Nat) (zs : List Nat) (w : World) (hlen : zs.length = n) (hmax : n ≤ 4398046511104) (hcap : n ≤ c) (hc : zaj w A 1 (fun x => [Value.int .u32 ((x : Nat) : Int)]) zs)
    (p:Nat→Bool) (hp:zcP g lb (fun x=>Value.int .u32 ((x:Nat):Int)) p zs w):Calls Tryz.prog 187 #[.slice A n c,.func (.func g) #[] lb] w fun e w'=>e=.returned (.int .i64 (idxI p zs))∧Below w.heap.size w w':=by
  have HC:=qH hc
  have HPp:=qH hp
  have HL:=qH hlen
  clear hc hp hlen
  go_enter Tryz.func187,Tryz.ntmps187
  go_wp2_with fail
  go_loopg [5,8] n (fun gg _ s8 wr=>∃ kk:Nat,kk≤n∧n-kk≤gg∧s8=.int .i64 kk∧Hid (Below w.heap.size w wr)∧Hid (∀ (j:Nat) (y:Nat),j<kk→zs[j]?=some y→p y=false))
  case atStart=>exact ⟨0,Nat.zero_le _,by omega,rfl,qH (Below.refl _ w),qH (fun j y hj=>absurd hj (Nat.not_lt_zero _))⟩
  case round =>
    obtain ⟨kk,hkk,hg,rfl,BW,HA⟩:=hrel
    by_cases hlt:kk<n
    · have hltz : (kk : Int) < (n : Int) := by omega
      have hk0:(0:Int)≤(kk:Int):=by omega
      obtain ⟨x,hx⟩:∃ x,zs[kk]?=some x:=⟨_,List.getElem?_eq_getElem (by rw [HL.out];exact hlt)⟩
      obtain ⟨b,off,rfl,hcell⟩:=HC.out.keep BW.out kk x hx
      have l2 : wr.cell? ⟨b, off + kk, none⟩ = some (Value.int .u32 ((x : Nat) : Int)) := by
        have:=hcell 0 _ rfl
        rwa [Nat.mul_one,Nat.add_zero] at this
      have hcall:=HPp.out wr x (List.mem_of_getElem? hx) BW.out
      have HX:=qH hx
      clear hx hcell
      cases hq:p x with
      | true =>
        rw [hq] at hcall
        have HQ:=qH hq
        clear hq
        go_wp2_with (first | (go_at_fn g;refine hcall.mono ?_;rintro e w' ⟨rfl,hb'⟩) | fail)
        go_ret
        exact ⟨by rw [zcO HX.out HQ.out HA.out];rfl,hb'⟩
      | false =>
        rw [hq] at hcall
        have HQ:=qH hq
        clear hq
        go_wp2_with (first | (go_at_fn g;refine hcall.mono ?_;rintro e w' ⟨rfl,hb'⟩) | fail)
        go_roundg (n-(kk+1))
        case measure=>omega
        case rel =>
          refine ⟨kk+1,by omega,by omega,by go_num,qH hb',qH (fun j y hj hy=>?_)⟩
          by_cases e:j=kk
          · subst e
            rw [HX.out] at hy
            rw [←Option.some.inj hy]
            exact HQ.out
          · exact HA.out j y (by omega) hy
    · have hltz : ¬ (kk : Int) < (n : Int) := by omega
      go_wp2_with fail
      go_ret
      refine ⟨?_,BW.out⟩
      rw [zbW (fun j y hy=>HA.out j y (by have h1:=(List.getElem?_eq_some_iff.1 hy).1;have h2:=HL.out;omega) hy)]
      rfl
theorem zed (g : Nat) (lb : Array Value) (eg : ∀ args w, (callFunc g args).run Tryz.prog w = .ok (.enter g args) w) (A : Option Addr) (n c : Nat) (zs : List Nat) (w : World) (hlen : zs.length = n) (hmax : n ≤ 4398046511104) (hcap : n ≤ c) (hc : zaj w A 1 (fun x => [Value.int .u32 ((x : Nat) : Int)]) zs)
    (p:Nat→Bool) (hp:zcP g lb (fun x=>Value.int .u32 ((x:Nat):Int)) p zs w):Calls Tryz.prog 149 #[.slice A n c,.func (.func g) #[] lb] w fun e w'=>e=.returned (.bool (zs.any p))∧Below w.heap.size w w':=by
  have hcon:=znN g lb eg A n c zs w hlen hmax hcap hc p hp
  have H:=qH (zdE p zs)
  clear hlen hc hp hcap
  generalize idxI p zs=r at hcon H
  go_enter Tryz.func149,Tryz.ntmps149
  go_wp2_with (first | (go_at_call 187;refine hcon.mono ?_;rintro e w' ⟨rfl,hb'⟩) | fail)
  go_ret
  exact ⟨by rw [←H.out];rfl,hb'⟩
theorem zoF (g : Nat) (lb : Array Value) (eg : ∀ args w, (callFunc g args).run Tryz.prog w = .ok (.enter g args) w) (A : Option Addr) (n c : Nat) (zs : List Nat) (w : World) (hlen : zs.length = n) (hmax : n ≤ 4398046511104) (hcap : n ≤ c) (hc : zaj w A 1 (fun x => [Value.int .u8 ((x : Nat) : Int)]) zs)
    (p:Nat→Bool) (hp:zcP g lb (fun x=>Value.int .u8 ((x:Nat):Int)) p zs w):Calls Tryz.prog 209 #[.slice A n c,.func (.func g) #[] lb] w fun e w'=>e=.returned (.int .i64 (idxI p zs))∧Below w.heap.size w w':=by
  have HC:=qH hc
  have HPp:=qH hp
  have HL:=qH hlen
  clear hc hp hlen
  go_enter Tryz.func209,Tryz.ntmps209
  go_wp2_with fail
  go_loopg [5,8] n (fun gg _ s8 wr=>∃ kk:Nat,kk≤n∧n-kk≤gg∧s8=.int .i64 kk∧Hid (Below w.heap.size w wr)∧Hid (∀ (j:Nat) (y:Nat),j<kk→zs[j]?=some y→p y=false))
  case atStart=>exact ⟨0,Nat.zero_le _,by omega,rfl,qH (Below.refl _ w),qH (fun j y hj=>absurd hj (Nat.not_lt_zero _))⟩
  case round =>
    obtain ⟨kk,hkk,hg,rfl,BW,HA⟩:=hrel
    by_cases hlt:kk<n
    · have hltz : (kk : Int) < (n : Int) := by omega
      have hk0:(0:Int)≤(kk:Int):=by omega
      obtain ⟨x,hx⟩:∃ x,zs[kk]?=some x:=⟨_,List.getElem?_eq_getElem (by rw [HL.out];exact hlt)⟩
      obtain ⟨b,off,rfl,hcell⟩:=HC.out.keep BW.out kk x hx
      have l2 : wr.cell? ⟨b, off + kk, none⟩ = some (Value.int .u8 ((x : Nat) : Int)) := by
        have:=hcell 0 _ rfl
        rwa [Nat.mul_one,Nat.add_zero] at this
      have hcall:=HPp.out wr x (List.mem_of_getElem? hx) BW.out
      have HX:=qH hx
      clear hx hcell
      cases hq:p x with
      | true =>
        rw [hq] at hcall
        have HQ:=qH hq
        clear hq
        go_wp2_with (first | (go_at_fn g;refine hcall.mono ?_;rintro e w' ⟨rfl,hb'⟩) | fail)
        go_ret
        exact ⟨by rw [zcO HX.out HQ.out HA.out];rfl,hb'⟩
      | false =>
        rw [hq] at hcall
        have HQ:=qH hq
        clear hq
        go_wp2_with (first | (go_at_fn g;refine hcall.mono ?_;rintro e w' ⟨rfl,hb'⟩) | fail)
        go_roundg (n-(kk+1))
        case measure=>omega
        case rel =>
          refine ⟨kk+1,by omega,by omega,by go_num,qH hb',qH (fun j y hj hy=>?_)⟩
          by_cases e:j=kk
          · subst e
            rw [HX.out] at hy
            rw [←Option.some.inj hy]
            exact HQ.out
          · exact HA.out j y (by omega) hy
    · have hltz : ¬ (kk : Int) < (n : Int) := by omega
      go_wp2_with fail
      go_ret
      refine ⟨?_,BW.out⟩
      rw [zbW (fun j y hy=>HA.out j y (by have h1:=(List.getElem?_eq_some_iff.1 hy).1;have h2:=HL.out;omega) hy)]
      rfl
theorem zmX (g : Nat) (lb : Array Value) (eg : ∀ args w, (callFunc g args).run Tryz.prog w = .ok (.enter g args) w) (A : Option Addr) (n c : Nat) (zs : List Nat) (w : World) (hlen : zs.length = n) (hmax : n ≤ 4398046511104) (hcap : n ≤ c) (hc : zaj w A 1 (fun x => [Value.int .u8 ((x : Nat) : Int)]) zs)
    (p:Nat→Bool) (hp:zcP g lb (fun x=>Value.int .u8 ((x:Nat):Int)) p zs w):Calls Tryz.prog 189 #[.slice A n c,.func (.func g) #[] lb] w fun e w'=>e=.returned (.bool (zs.any p))∧Below w.heap.size w w':=by
  have hcon:=zoF g lb eg A n c zs w hlen hmax hcap hc p hp
  have H:=qH (zdE p zs)
  clear hlen hc hp hcap
  generalize idxI p zs=r at hcon H
  go_enter Tryz.func189,Tryz.ntmps189
  go_wp2_with (first | (go_at_call 209;refine hcon.mono ?_;rintro e w' ⟨rfl,hb'⟩) | fail)
  go_ret
  exact ⟨by rw [←H.out];rfl,hb'⟩
theorem znO (g : Nat) (lb : Array Value) (eg : ∀ args w, (callFunc g args).run Tryz.prog w = .ok (.enter g args) w) (A : Option Addr) (n c : Nat) (zs : List So.Seg) (w : World) (hlen : zs.length = n) (hmax : n ≤ 4398046511104) (hcap : n ≤ c) (hc : zaj w A 3 So.segL zs)
    (p:So.Seg→Bool) (hp:zcP g lb (fun x=>.agg (So.segL x).toArray) p zs w):Calls Tryz.prog 211 #[.slice A n c,.func (.func g) #[] lb] w fun e w'=>e=.returned (.int .i64 (idxI p zs))∧Below w.heap.size w w':=by
  have HC:=qH hc
  have HPp:=qH hp
  have HL:=qH hlen
  clear hc hp hlen
  go_enter Tryz.func211,Tryz.ntmps211
  go_wp2_with fail
  go_loopg [5,8] n (fun gg _ s8 wr=>∃ kk:Nat,kk≤n∧n-kk≤gg∧s8=.int .i64 kk∧Hid (Below w.heap.size w wr)∧Hid (∀ (j:Nat) (y:So.Seg),j<kk→zs[j]?=some y→p y=false))
  case atStart=>exact ⟨0,Nat.zero_le _,by omega,rfl,qH (Below.refl _ w),qH (fun j y hj=>absurd hj (Nat.not_lt_zero _))⟩
  case round =>
    obtain ⟨kk,hkk,hg,rfl,BW,HA⟩:=hrel
    by_cases hlt:kk<n
    · have hltz : (kk : Int) < (n : Int) := by omega
      have hk0:(0:Int)≤(kk:Int):=by omega
      obtain ⟨x,hx⟩:∃ x,zs[kk]?=some x:=⟨_,List.getElem?_eq_getElem (by rw [HL.out];exact hlt)⟩
      obtain ⟨b,off,rfl,hcell⟩:=HC.out.keep BW.out kk x hx
      have l0:wr.cell? ⟨b,off+kk*3,none⟩=some (Value.int .u32 (x.at_:Int)):=hcell 0 _ rfl
      have l1:wr.cell? ⟨b,off+kk*3+1,none⟩=some (Value.int .i64 x.n):=hcell 1 _ rfl
      have l2:wr.cell? ⟨b,off+kk*3+2,none⟩=some (Value.bool x.write):=hcell 2 _ rfl
      have hcall:=HPp.out wr x (List.mem_of_getElem? hx) BW.out
      have HX:=qH hx
      clear hx hcell
      cases hq:p x with
      | true =>
        rw [hq] at hcall
        have HQ:=qH hq
        clear hq
        go_wp2_with (first | (go_at_fn g;refine hcall.mono ?_;rintro e w' ⟨rfl,hb'⟩) | fail)
        go_ret
        exact ⟨by rw [zcO HX.out HQ.out HA.out];rfl,hb'⟩
      | false =>
        rw [hq] at hcall
        have HQ:=qH hq
        clear hq
        go_wp2_with (first | (go_at_fn g;refine hcall.mono ?_;rintro e w' ⟨rfl,hb'⟩) | fail)
        go_roundg (n-(kk+1))
        case measure=>omega
        case rel =>
          refine ⟨kk+1,by omega,by omega,by go_num,qH hb',qH (fun j y hj hy=>?_)⟩
          by_cases e:j=kk
          · subst e
            rw [HX.out] at hy
            rw [←Option.some.inj hy]
            exact HQ.out
          · exact HA.out j y (by omega) hy
    · have hltz : ¬ (kk : Int) < (n : Int) := by omega
      go_wp2_with fail
      go_ret
      refine ⟨?_,BW.out⟩
      rw [zbW (fun j y hy=>HA.out j y (by have h1:=(List.getElem?_eq_some_iff.1 hy).1;have h2:=HL.out;omega) hy)]
      rfl
theorem zbX (g : Nat) (lb : Array Value) (eg : ∀ args w, (callFunc g args).run Tryz.prog w = .ok (.enter g args) w) (A : Option Addr) (n c : Nat) (zs : List So.Seg) (w : World) (hlen : zs.length = n) (hmax : n ≤ 4398046511104) (hcap : n ≤ c) (hc : zaj w A 3 So.segL zs)
    (p:So.Seg→Bool) (hp:zcP g lb (fun x=>.agg (So.segL x).toArray) p zs w):Calls Tryz.prog 196 #[.slice A n c,.func (.func g) #[] lb] w fun e w'=>e=.returned (.bool (zs.any p))∧Below w.heap.size w w':=by
  have hcon:=znO g lb eg A n c zs w hlen hmax hcap hc p hp
  have H:=qH (zdE p zs)
  clear hlen hc hp hcap
  generalize idxI p zs=r at hcon H
  go_enter Tryz.func196,Tryz.ntmps196
  go_wp2_with (first | (go_at_call 211;refine hcon.mono ?_;rintro e w' ⟨rfl,hb'⟩) | fail)
  go_ret
  exact ⟨by rw [←H.out];rfl,hb'⟩
theorem znP (g : Nat) (lb : Array Value) (eg : ∀ args w, (callFunc g args).run Tryz.prog w = .ok (.enter g args) w) (A : Option Addr) (n c : Nat) (zs : List (So.Req × So.Hdr)) (w : World) (hlen : zs.length = n) (hmax : n ≤ 4398046511104) (hcap : n ≤ c) (hc : zaj w A 6 (fun r => So.reqL r.1 r.2) zs)
    (p:(So.Req×So.Hdr)→Bool) (hp:zcP g lb (fun x=>.agg ((fun r=>So.reqL r.1 r.2) x).toArray) p zs w):Calls Tryz.prog 192 #[.slice A n c,.func (.func g) #[] lb] w fun e w'=>e=.returned (.int .i64 (idxI p zs))∧Below w.heap.size w w':=by
  have HC:=qH hc
  have HPp:=qH hp
  have HL:=qH hlen
  clear hc hp hlen
  go_enter Tryz.func192,Tryz.ntmps192
  go_wp2_with fail
  go_loopg [5,8] n (fun gg _ s8 wr=>∃ kk:Nat,kk≤n∧n-kk≤gg∧s8=.int .i64 kk∧Hid (Below w.heap.size w wr)∧Hid (∀ (j:Nat) (y:(So.Req×So.Hdr)),j<kk→zs[j]?=some y→p y=false))
  case atStart=>exact ⟨0,Nat.zero_le _,by omega,rfl,qH (Below.refl _ w),qH (fun j y hj=>absurd hj (Nat.not_lt_zero _))⟩
  case round =>
    obtain ⟨kk,hkk,hg,rfl,BW,HA⟩:=hrel
    by_cases hlt:kk<n
    · have hltz : (kk : Int) < (n : Int) := by omega
      have hk0:(0:Int)≤(kk:Int):=by omega
      obtain ⟨x,hx⟩:∃ x,zs[kk]?=some x:=⟨_,List.getElem?_eq_getElem (by rw [HL.out];exact hlt)⟩
      obtain ⟨b,off,rfl,hcell⟩:=HC.out.keep BW.out kk x hx
      have l0:wr.cell? ⟨b,off+kk*6,none⟩=some (Value.int .u32 (x.1.id:Int)):=hcell 0 _ rfl
      have l1:wr.cell? ⟨b,off+kk*6+1,none⟩=some (Value.int .i64 x.1.head):=hcell 1 _ rfl
      have l2:wr.cell? ⟨b,off+kk*6+2,none⟩=some (Value.bool x.1.write):=hcell 2 _ rfl
      have l3:wr.cell? ⟨b,off+kk*6+3,none⟩=some (Value.int .u32 (x.1.sector:Int)):=hcell 3 _ rfl
      have l4:wr.cell? ⟨b,off+kk*6+4,none⟩=some (Value.int .i64 x.1.n):=hcell 4 _ rfl
      have l5:wr.cell? ⟨b,off+kk*6+5,none⟩=some (Value.slice x.2.A x.2.n x.2.c):=hcell 5 _ rfl
      have hcall:=HPp.out wr x (List.mem_of_getElem? hx) BW.out
      have HX:=qH hx
      clear hx hcell
      cases hq:p x with
      | true =>
        rw [hq] at hcall
        have HQ:=qH hq
        clear hq
        go_wp2_with (first | (go_at_fn g;refine hcall.mono ?_;rintro e w' ⟨rfl,hb'⟩) | fail)
        go_ret
        exact ⟨by rw [zcO HX.out HQ.out HA.out];rfl,hb'⟩
      | false =>
        rw [hq] at hcall
        have HQ:=qH hq
        clear hq
        go_wp2_with (first | (go_at_fn g;refine hcall.mono ?_;rintro e w' ⟨rfl,hb'⟩) | fail)
        go_roundg (n-(kk+1))
        case measure=>omega
        case rel =>
          refine ⟨kk+1,by omega,by omega,by go_num,qH hb',qH (fun j y hj hy=>?_)⟩
          by_cases e:j=kk
          · subst e
            rw [HX.out] at hy
            rw [←Option.some.inj hy]
            exact HQ.out
          · exact HA.out j y (by omega) hy
    · have hltz : ¬ (kk : Int) < (n : Int) := by omega
      go_wp2_with fail
      go_ret
      refine ⟨?_,BW.out⟩
      rw [zbW (fun j y hy=>HA.out j y (by have h1:=(List.getElem?_eq_some_iff.1 hy).1;have h2:=HL.out;omega) hy)]
      rfl
theorem zkq:∀ args w,(callFunc 193 args).run Tryz.prog w=.ok (.enter 193 args) w:=enters_of Tryz.func193 (by kernel_rfl) rfl
theorem ziQ (B id:Nat) (zs:List (So.Req×So.Hdr)) (w:World) (hc:w.cell? ⟨B,0,none⟩=some (.int .u32 (id:Int))):zcP 193 #[.pointer (some ⟨B,0,none⟩)] (fun r:So.Req×So.Hdr=>.agg (So.reqL r.1 r.2).toArray) (fun r=>r.1.id==id) zs w:=fun W x _ hb=>by
 show Calls Tryz.prog 193 #[.agg (So.reqL x.1 x.2).toArray,.pointer (some ⟨B,0,none⟩)] W _
 have c0:=zm hc hb
 have hne:B≠W.heap.size:=fun e=>by
  have:=World.block_lt_of_cell? W _ c0
  have e:B=W.heap.size:=e
  have this:B<W.heap.size:=this
  omega
 have HBw:Hid (∀ w',Below W.heap.size W w'→Below w.heap.size w w'):=qH (fun w' h=>zb hb h)
 have HE:Hid ((x.1.id==id)=((x.1.id:Int)==(id:Int))):=qH (by rw [Bool.eq_iff_iff];simp;omega)
 clear hc hb
 go_enter Tryz.func193,Tryz.ntmps193
 go_upto_region 1 with (fail)
 have hB:=Blk.new W (So.reqL x.1 x.2).toArray 287
 have hbel:=za (Below.refl W.heap.size W) (.cells (So.reqL x.1 x.2).toArray 287)
 have c1:=zao c0 (.cells (So.reqL x.1 x.2).toArray 287)
 generalize W.alloc (.cells (So.reqL x.1 x.2).toArray 287)=W1 at hB hbel c1 ⊢
 have k0:W1.cell? ⟨W.heap.size,0,none⟩=some (.int .u32 (x.1.id:Int)):=hB.cell 0 rfl
 clear c0
 go_wp2_with fail
 go_ret
 exact ⟨by rw [HE.out];rfl,HBw.out _ hbel⟩
theorem zkr (Rs:List (So.Req×So.Hdr)) (id:Nat):idxI (fun r:So.Req×So.Hdr=>r.1.id==id) Rs=So.index (Rs.map (·.1)) id:=by
 unfold idxI So.index
 rw [List.findIdx?_map]
 rfl
theorem zbw (b:So.Blk) (I:So.Hdr) (Rs:List (So.Req×So.Hdr)) (id:Nat) (w:World) (hn:Rs.length=I.n) (hmax:I.n≤4398046511104) (hcap:I.n≤I.c) (hE:zaj w I.A 6 (fun r:So.Req×So.Hdr=>So.reqL r.1 r.2) Rs):Calls Tryz.prog 153 #[.agg (So.blkL b I).toArray,.int .u32 (id:Int)] w fun e w'=>e=.returned (.int .i64 (So.index (Rs.map (·.1)) id))∧Below w.heap.size w w':=by
 have HM:=qH (zkr Rs id)
 have HN:=qH hn
 have HEE:=qH hE
 clear hn hE
 go_enter Tryz.func153,Tryz.ntmps153
 go_upto_region 1 with (fail)
 have hB:=(Blk.new w (So.blkL b I).toArray 89).alloc (.cells #[.int .u32 (id:Int)] 22)
 have hI:=Blk.new (w.alloc (.cells (So.blkL b I).toArray 89)) #[.int .u32 (id:Int)] 22
 have hs:(w.alloc (.cells (So.blkL b I).toArray 89)).heap.size=w.heap.size+1:=by simp
 rw [hs] at hI
 clear hs
 have hbel:=za (za (Below.refl w.heap.size w) (.cells (So.blkL b I).toArray 89)) (.cells #[.int .u32 (id:Int)] 22)
 generalize (w.alloc (.cells (So.blkL b I).toArray 89)).alloc (.cells #[.int .u32 (id:Int)] 22)=W1 at hB hI hbel ⊢
 have k24:W1.cell? ⟨w.heap.size,24,none⟩=some (.slice I.A I.n I.c):=hB.cell 24 rfl
 have i0:W1.cell? ⟨w.heap.size+1,0,none⟩=some (.int .u32 (id:Int)):=hI.cell 0 rfl
 have HP:=qH (ziQ (w.heap.size+1) id Rs W1 i0)
 go_wp2_with (first | (go_at_call 192;refine (znP 193 #[.pointer (some ⟨w.heap.size+1,0,none⟩)] zkq I.A I.n I.c Rs _ HN.out hmax hcap (HEE.out.keep hbel) _ HP.out).mono ?_;rintro e w2 ⟨rfl,hb2⟩;rw [HM.out];have hbel2:=zb hbel hb2) | fail)
 go_ret
 exact ⟨rfl,hbel2⟩
def zaX (b:So.Blk) (sec:Nat) (n:Int):Bool:=decide (sec≤b.sectors)&&decide (n / 512≤(b.sectors:Int)-sec)
theorem za6 (b:So.Blk) (I:So.Hdr) (sec:Nat) (n:Int) (w:World) (hs:b.sectors<4294967296) (h0:0≤n) (h1:n≤1048576):Calls Tryz.prog 197 #[.agg (So.blkL b I).toArray,.int .u64 (sec:Int),.int .i64 n] w (zbj w (zaX b sec n)):=by
 have e1:n.tdiv 512=n / 512:=Int.tdiv_eq_ediv_of_nonneg h0
 obtain ⟨q,hq⟩:=qX (n / 512)
 have hq0:0≤q:=by omega
 have hq1:q≤2048:=by omega
 have hBB:zaX b sec n=(decide (sec≤b.sectors)&&decide (q≤(b.sectors:Int)-sec)):=by unfold zaX;rw [hq]
 rw [hq] at e1
 have e2:IntKind.u64.wrap q=q:=by rw [IntKind.wrap_u64];omega
 have e3:IntKind.u64.wrap (b.sectors:Int)=(b.sectors:Int):=by rw [IntKind.wrap_u64];omega
 have HB:=qH hBB
 clear hBB hq
 by_cases g1:sec≤b.sectors
 ·
  have n1:(sec:Int)≤(b.sectors:Int):=by omega
  have e4:IntKind.u64.wrap ((b.sectors:Int)-(sec:Int))=(b.sectors:Int)-(sec:Int):=by rw [IntKind.wrap_u64];omega
  have HR:Hid (zaX b sec n=decide (q≤(b.sectors:Int)-(sec:Int))):=qH (by rw [HB.out,decide_eq_true g1];rfl)
  clear g1 HB
  go_enter Tryz.func197,Tryz.ntmps197
  go_upto_region 1 with (fail)
  have hB:=Blk.new w (So.blkL b I).toArray 89
  have hbel:=za (Below.refl w.heap.size w) (.cells (So.blkL b I).toArray 89)
  generalize w.alloc (.cells (So.blkL b I).toArray 89)=W1 at hB hbel ⊢
  obtain ⟨g,hg⟩:=qX w.heap.size
  rw [hg] at hB ⊢
  clear hg
  have k21:W1.cell? ⟨g,21,none⟩=some (.int .u32 (b.sectors:Int)):=hB.cell 21 rfl
  go_wp2_with fail
  go_ret
  exact z0 HR.out hbel
 ·
  have n1:¬ (sec:Int)≤(b.sectors:Int):=by omega
  have HR:Hid (zaX b sec n=false):=qH (by rw [HB.out,decide_eq_false g1];rfl)
  clear g1 HB
  go_enter Tryz.func197,Tryz.ntmps197
  go_upto_region 1 with (fail)
  have hB:=Blk.new w (So.blkL b I).toArray 89
  have hbel:=za (Below.refl w.heap.size w) (.cells (So.blkL b I).toArray 89)
  generalize w.alloc (.cells (So.blkL b I).toArray 89)=W1 at hB hbel ⊢
  obtain ⟨g,hg⟩:=qX w.heap.size
  rw [hg] at hB ⊢
  clear hg
  have k21:W1.cell? ⟨g,21,none⟩=some (.int .u32 (b.sectors:Int)):=hB.cell 21 rfl
  go_wp2_with fail
  go_ret
  exact z0 HR.out hbel
theorem zpt (x y : Int) (ts : Array TypeId) (t : TypeId) (W : World) :
    (Builtin.min_ ts t #[.int .i64 x,.int .i64 y]).run Tryz.prog W=.ok (.int .i64 (if y<x then y else x)) W:=by
  have two:=fun (x y:Int)=>(show Builtin.min2 (.int .i64 x) (.int .i64 y)=pure (.int .i64 (if y<x then y else x)) by simp only [Builtin.min2])
  simp only [Builtin.min_,List.foldlM_cons,List.foldlM_nil,two,pure_bind,Sem.run_pure]
theorem zl9 (x:So.Seg) (pages:Int) (w:World) (h0:0≤pages) (hx:x.n≤1048576) (ha:x.at_<4294967296):Calls Tryz.prog 195 #[.agg (So.segL x).toArray,.int .i64 pages] w (zbj w (So.liesB x pages)):=by
 obtain ⟨s,hs⟩:=qX (min pages 16384)
 have hs0:0≤s:=by omega
 have hs1:s≤16384:=by omega
 have hBB:So.liesB x pages=(x.n==0||(decide (0<x.n)&&decide (2147483648≤x.at_)&&decide ((x.at_:Int)-2147483648+x.n≤s*4096))):=by unfold So.liesB;rw [hs]
 have hm:∀ W:World,(Builtin.min_ #[3,3] 3 #[.int .i64 pages,.int .i64 16384]).run Tryz.prog W=.ok (.int .i64 s) W:=fun W=>by
  have h:=zpt pages 16384 #[3,3] 3 W
  rw [h]
  have e:(if (16384:Int)<pages then (16384:Int) else pages)=s:=by rw [←hs];omega
  rw [e]
 have e1:IntKind.u64.wrap s=s:=by rw [IntKind.wrap_u64];omega
 have e2:IntKind.u64.wrap (s*4096)=s*4096:=by rw [IntKind.wrap_u64];omega
 have HB:=qH hBB
 clear hBB hs
 by_cases g1:x.n=0
 ·
  have HR:Hid (So.liesB x pages=true):=qH (by rw [HB.out,g1];rfl)
  clear HB
  go_enter Tryz.func195,Tryz.ntmps195
  go_upto_region 1 with (fail)
  have hB:=Blk.new w (So.segL x).toArray 288
  have hbel:=za (Below.refl w.heap.size w) (.cells (So.segL x).toArray 288)
  generalize w.alloc (.cells (So.segL x).toArray 288)=W1 at hB hbel ⊢
  obtain ⟨g,hg⟩:=qX w.heap.size
  rw [hg] at hB ⊢
  clear hg
  have k0:W1.cell? ⟨g,0,none⟩=some (.int .u32 (x.at_:Int)):=hB.cell 0 rfl
  have k1:W1.cell? ⟨g,1,none⟩=some (.int .i64 x.n):=hB.cell 1 rfl
  have k2:W1.cell? ⟨g,2,none⟩=some (.bool x.write):=hB.cell 2 rfl
  rw [g1] at k1
  clear g1
  go_wp2_with fail
  go_ret
  exact z0 HR.out hbel
 ·
  have g1':(x.n==0)=false:=by simp [g1]
  by_cases g2:0<x.n
  ·
   by_cases g3:2147483648≤x.at_
   ·
    have n3:(2147483648:Int)≤(x.at_:Int):=by omega
    have e3:IntKind.u32.wrap ((x.at_:Int)-2147483648)=(x.at_:Int)-2147483648:=by rw [IntKind.wrap_u32];omega
    have e4:IntKind.u64.wrap ((x.at_:Int)-2147483648)=(x.at_:Int)-2147483648:=by rw [IntKind.wrap_u64];omega
    have e5:IntKind.u64.wrap x.n=x.n:=by rw [IntKind.wrap_u64];omega
    have e6:IntKind.u64.wrap ((x.at_:Int)-2147483648+x.n)=(x.at_:Int)-2147483648+x.n:=by rw [IntKind.wrap_u64];omega
    have HR:Hid (So.liesB x pages=decide ((x.at_:Int)-2147483648+x.n≤s*4096)):=qH (by rw [HB.out,g1',decide_eq_true g2,decide_eq_true g3];rfl)
    clear HB g3
    go_enter Tryz.func195,Tryz.ntmps195
    go_upto_region 1 with (fail)
    have hB:=Blk.new w (So.segL x).toArray 288
    have hbel:=za (Below.refl w.heap.size w) (.cells (So.segL x).toArray 288)
    generalize w.alloc (.cells (So.segL x).toArray 288)=W1 at hB hbel ⊢
    obtain ⟨g,hg⟩:=qX w.heap.size
    rw [hg] at hB ⊢
    clear hg
    have k0:W1.cell? ⟨g,0,none⟩=some (.int .u32 (x.at_:Int)):=hB.cell 0 rfl
    have k1:W1.cell? ⟨g,1,none⟩=some (.int .i64 x.n):=hB.cell 1 rfl
    have k2:W1.cell? ⟨g,2,none⟩=some (.bool x.write):=hB.cell 2 rfl
    go_wp2_with fail
    go_ret
    exact z0 HR.out hbel
   ·
    have n3:¬ (2147483648:Int)≤(x.at_:Int):=by omega
    have HR:Hid (So.liesB x pages=false):=qH (by rw [HB.out,g1',decide_eq_false g3];simp)
    clear HB g3
    go_enter Tryz.func195,Tryz.ntmps195
    go_upto_region 1 with (fail)
    have hB:=Blk.new w (So.segL x).toArray 288
    have hbel:=za (Below.refl w.heap.size w) (.cells (So.segL x).toArray 288)
    generalize w.alloc (.cells (So.segL x).toArray 288)=W1 at hB hbel ⊢
    obtain ⟨g,hg⟩:=qX w.heap.size
    rw [hg] at hB ⊢
    clear hg
    have k0:W1.cell? ⟨g,0,none⟩=some (.int .u32 (x.at_:Int)):=hB.cell 0 rfl
    have k1:W1.cell? ⟨g,1,none⟩=some (.int .i64 x.n):=hB.cell 1 rfl
    have k2:W1.cell? ⟨g,2,none⟩=some (.bool x.write):=hB.cell 2 rfl
    go_wp2_with fail
    go_ret
    exact z0 HR.out hbel
  ·
   have HR:Hid (So.liesB x pages=false):=qH (by rw [HB.out,g1',decide_eq_false g2];rfl)
   clear HB
   go_enter Tryz.func195,Tryz.ntmps195
   go_upto_region 1 with (fail)
   have hB:=Blk.new w (So.segL x).toArray 288
   have hbel:=za (Below.refl w.heap.size w) (.cells (So.segL x).toArray 288)
   generalize w.alloc (.cells (So.segL x).toArray 288)=W1 at hB hbel ⊢
   obtain ⟨g,hg⟩:=qX w.heap.size
   rw [hg] at hB ⊢
   clear hg
   have k0:W1.cell? ⟨g,0,none⟩=some (.int .u32 (x.at_:Int)):=hB.cell 0 rfl
   have k1:W1.cell? ⟨g,1,none⟩=some (.int .i64 x.n):=hB.cell 1 rfl
   have k2:W1.cell? ⟨g,2,none⟩=some (.bool x.write):=hB.cell 2 rfl
   go_wp2_with fail
   go_ret
   exact z0 HR.out hbel
theorem zbY:∀ args w,(callFunc 194 args).run Tryz.prog w=.ok (.enter 194 args) w:=enters_of Tryz.func194 (by kernel_rfl) rfl
theorem zbm (B:Nat) (pages:Int) (h0:0≤pages) (zs:List So.Seg) (hok:∀ x∈zs,x.Ok) (w:World) (hc:w.cell? ⟨B,0,none⟩=some (.int .i64 pages)):zcP 194 #[.pointer (some ⟨B,0,none⟩)] (fun x:So.Seg=>.agg (So.segL x).toArray) (fun x=>!So.segB x pages) zs w:=fun W x hx hb=>by
 show Calls Tryz.prog 194 #[.agg (So.segL x).toArray,.pointer (some ⟨B,0,none⟩)] W _
 have c0:=zm hc hb
 have HBw:Hid (∀ w',Below W.heap.size W w'→Below w.heap.size w w'):=qH (fun w' h=>zb hb h)
 have HOK:Hid (x.at_<4294967296):=qH (hok x hx)
 obtain ⟨xa,xn,xw⟩:=x
 have hBB:So.segB ⟨xa,xn,xw⟩ pages=(xw&&decide (xn≤1048576)&&So.liesB ⟨xa,xn,xw⟩ pages):=rfl
 have HB:=qH hBB
 have HOK:Hid (xa<4294967296):=HOK
 clear hc hb hBB hok
 cases xw with
 | false =>
  have HR:Hid (So.segB ⟨xa,xn,false⟩ pages=false):=qH (by rw [HB.out];rfl)
  clear HB
  go_enter Tryz.func194,Tryz.ntmps194
  go_upto_region 1 with (fail)
  have hB:=Blk.new W (So.segL ⟨xa,xn,false⟩).toArray 288
  have hbel:=za (Below.refl W.heap.size W) (.cells (So.segL ⟨xa,xn,false⟩).toArray 288)
  have c1:=zao c0 (.cells (So.segL ⟨xa,xn,false⟩).toArray 288)
  generalize W.alloc (.cells (So.segL ⟨xa,xn,false⟩).toArray 288)=W1 at hB hbel c1 ⊢
  clear c0
  have k0:W1.cell? ⟨W.heap.size,0,none⟩=some (.int .u32 (xa:Int)):=hB.cell 0 rfl
  have k1:W1.cell? ⟨W.heap.size,1,none⟩=some (.int .i64 xn):=hB.cell 1 rfl
  have k2:W1.cell? ⟨W.heap.size,2,none⟩=some (.bool false):=hB.cell 2 rfl
  go_wp2_with fail
  go_ret
  exact ⟨by rw [HR.out];rfl,HBw.out _ hbel⟩
 | true =>
  by_cases g1:xn≤1048576
  ·
   rw [decide_eq_true g1] at HB
   obtain ⟨m,hm⟩:=qX (So.liesB ⟨xa,xn,true⟩ pages)
   rw [hm] at HB
   have HM:=qH hm
   have HG:=qH g1
   have m6:decide ((1048576:Int)<xn)=false:=decide_eq_false (by omega)
   clear hm
   have HR:Hid (So.segB ⟨xa,xn,true⟩ pages=m):=qH (by rw [HB.out];rfl)
   clear HB
   go_enter Tryz.func194,Tryz.ntmps194
   go_upto_region 1 with (fail)
   have hB:=Blk.new W (So.segL ⟨xa,xn,true⟩).toArray 288
   have hbel:=za (Below.refl W.heap.size W) (.cells (So.segL ⟨xa,xn,true⟩).toArray 288)
   have c1:=zao c0 (.cells (So.segL ⟨xa,xn,true⟩).toArray 288)
   generalize W.alloc (.cells (So.segL ⟨xa,xn,true⟩).toArray 288)=W1 at hB hbel c1 ⊢
   clear c0
   have k0:W1.cell? ⟨W.heap.size,0,none⟩=some (.int .u32 (xa:Int)):=hB.cell 0 rfl
   have k1:W1.cell? ⟨W.heap.size,1,none⟩=some (.int .i64 xn):=hB.cell 1 rfl
   have k2:W1.cell? ⟨W.heap.size,2,none⟩=some (.bool true):=hB.cell 2 rfl
   have HL:=qH (fun W2=>zl9 ⟨xa,xn,true⟩ pages W2 h0 HG.out HOK.out)
   go_wp2_with (first | (go_at_call 195;refine (HL.out _).mono ?_;rintro e w2 ⟨rfl,hb2⟩;rw [HM.out];have hbel2:=zb hbel hb2) | fail)
   go_ret
   exact ⟨by rw [HR.out];rfl,HBw.out _ hbel2⟩
  ·
   rw [decide_eq_false g1] at HB
   have HR:Hid (So.segB ⟨xa,xn,true⟩ pages=false):=qH (by rw [HB.out];rfl)
   clear HB
   go_enter Tryz.func194,Tryz.ntmps194
   go_upto_region 1 with (fail)
   have hB:=Blk.new W (So.segL ⟨xa,xn,true⟩).toArray 288
   have hbel:=za (Below.refl W.heap.size W) (.cells (So.segL ⟨xa,xn,true⟩).toArray 288)
   have c1:=zao c0 (.cells (So.segL ⟨xa,xn,true⟩).toArray 288)
   generalize W.alloc (.cells (So.segL ⟨xa,xn,true⟩).toArray 288)=W1 at hB hbel c1 ⊢
   clear c0
   have k0:W1.cell? ⟨W.heap.size,0,none⟩=some (.int .u32 (xa:Int)):=hB.cell 0 rfl
   have k1:W1.cell? ⟨W.heap.size,1,none⟩=some (.int .i64 xn):=hB.cell 1 rfl
   have k2:W1.cell? ⟨W.heap.size,2,none⟩=some (.bool true):=hB.cell 2 rfl
   go_wp2_with fail
   go_ret
   exact ⟨by rw [HR.out];rfl,HBw.out _ hbel⟩
theorem zks (l:List So.Seg) (x:So.Seg):So.room (l++[x])=So.room l+(if x.write then max x.n 0 else 0):=by
 induction l with
 | nil=>simp [So.room]
 | cons y l ih=>simp only [List.cons_append,So.room,ih];omega
theorem ziR {l:List So.Seg} (h:∀ x∈l,x.n≤1048576):0≤So.room l∧So.room l≤1048576*l.length:=by
 induction l with
 | nil=>simp [So.room]
 | cons y l ih =>
  have h1:=h y (by simp)
  have h2:=ih (fun x hx=>h x (by simp [hx]))
  simp only [So.room,List.length_cons]
  split<;>omega
theorem zcQ (A:Option Addr) (n c:Nat) (zs:List So.Seg) (w:World) (hlen:zs.length=n) (hmax:n≤256) (hcap:n≤c) (hE:zaj w A 3 So.segL zs) (hw:∀ x∈zs,x.write=true) (hn:∀ x∈zs,x.n≤1048576):Calls Tryz.prog 198 #[.slice A n c] w fun e w'=>e=.returned (.tuple #[.int .i64 0,.int .i64 (So.room zs)])∧Below w.heap.size w w':=by
 have HL:=qH hlen
 have HE:=qH hE
 have HW:=qH hw
 have HN:=qH hn
 clear hlen hE hw hn
 go_enter Tryz.func198,Tryz.ntmps198
 go_upto_region 2 with (fail)
 have hB:=Blk.new w #[Value.int .i64 0,Value.int .i64 0] 391
 have hbel:=za (Below.refl w.heap.size w) (.cells #[Value.int .i64 0,Value.int .i64 0] 391)
 generalize w.alloc (.cells #[Value.int .i64 0,Value.int .i64 0] 391)=W1 at hB hbel ⊢
 obtain ⟨g,hg⟩:=qX w.heap.size
 have Hg:=qH hg
 rw [hg] at hB ⊢
 clear hg
 go_wp2_with fail
 go_loopw [6,7,10] (fun _ _ i wr=>∃ k:Nat,k≤n∧i=.int .i64 k∧Blk wr g #[Value.int .i64 0,Value.int .i64 (So.room (zs.take k))] 391∧Below w.heap.size w wr) (fun _ _ i _=>n-(intOf i).toNat)
 case atStart=>exact ⟨0,Nat.zero_le _,rfl,hB,hbel⟩
 case round =>
  obtain ⟨k,hk,rfl,hB2,hbel2⟩:=hrel
  clear hB hbel
  by_cases hlt:k<n
  ·
   have hlt':(k:Int)<(n:Int):=by omega
   have hk0:(0:Int)≤(k:Int):=by omega
   obtain ⟨x,hx⟩:∃ x,zs[k]?=some x:=⟨_,List.getElem?_eq_getElem (by rw [HL.out];exact hlt)⟩
   obtain ⟨b,off,rfl,hcell⟩:=HE.out.keep hbel2 k x hx
   have hmem:=List.mem_of_getElem? hx
   have hxw:=HW.out x hmem
   have hxn:=HN.out x hmem
   have hsn:So.room (zs.take (k+1))=So.room (zs.take k)+max x.n 0:=by
    rw [List.take_add_one,hx]
    show So.room (zs.take k++[x])=_
    rw [zks,hxw]
    rfl
   have hbd:=ziR (l:=zs.take k) (fun y hy=>HN.out y (List.mem_of_mem_take hy))
   have hln:(zs.take k).length≤256:=by rw [List.length_take];omega
   obtain ⟨r,hr⟩:=qX (So.room (zs.take k))
   rw [hr] at hB2 hsn hbd
   have hr0:0≤r:=hbd.1
   have hr1:r≤268435456:=by omega
   clear hbd hln hr hmem
   have l0:wr.cell? ⟨b,off+k*3,none⟩=some (.int .u32 (x.at_:Int)):=hcell 0 _ rfl
   have l1:wr.cell? ⟨b,off+k*3+1,none⟩=some (.int .i64 x.n):=hcell 1 _ rfl
   have l2:wr.cell? ⟨b,off+k*3+2,none⟩=some (.bool x.write):=hcell 2 _ rfl
   rw [hxw] at l2
   have HSN:=qH hsn
   clear hcell hsn hx hxw
   have hgl:=hB2.lt
   go_upto_region 8 with (fail)
   have hB3:=hB2.alloc (.cells #[Value.int .u32 (x.at_:Int),Value.int .i64 x.n,Value.bool true] 288)
   have hS:=Blk.new wr #[Value.int .u32 (x.at_:Int),Value.int .i64 x.n,Value.bool true] 288
   have hbel3:=za hbel2 (.cells #[Value.int .u32 (x.at_:Int),Value.int .i64 x.n,Value.bool true] 288)
   generalize wr.alloc (.cells #[Value.int .u32 (x.at_:Int),Value.int .i64 x.n,Value.bool true] 288)=W2 at hB3 hS hbel3 ⊢
   obtain ⟨m,hm⟩:=qX (max x.n 0)
   have hmx:∀ W:World,(Builtin.max_ #[3,3] 3 #[.int .i64 x.n,.int .i64 0]).run Tryz.prog W=.ok (.int .i64 m) W:=fun W=>by
    have h:=max2 x.n 0 #[3,3] 3 W
    rw [h]
    have e:(if x.n<(0:Int) then (0:Int) else x.n)=m:=by rw [←hm];omega
    rw [e]
   rw [hm] at HSN
   have hm0:0≤m:=by omega
   have hm1:m≤1048576:=by omega
   have e1:IntKind.i64.wrap (r+m)=r+m:=by rw [IntKind.wrap_i64];omega
   have g1:W2.cell? ⟨g,1,none⟩=some (.int .i64 r):=hB3.cell 1 rfl
   have s1:W2.cell? ⟨wr.heap.size,1,none⟩=some (.int .i64 x.n):=hS.cell 1 rfl
   have hfz:=hB3.free 1
   clear l0 l1 l2 hm hB2 hbel2 hxn
   go_still_tail 7,(by kernel_rfl)
   change wpList _ _ _ _ _ W2.drew
   have g2:=zal g1
   have hB4:=hB3.drew
   have hbel4:=zr hbel3
   have hfz2:=hB4.free 1
   clear g1 s1 hfz hB3 hS hbel3 hmx
   generalize W2.drew=W3 at g2 hB4 hbel4 hfz2 ⊢
   have hge:=Hg.out
   go_wp2_with fail
   go_roundw
   case rel =>
    refine ⟨k+1,by omega,by go_num,?_,hbel4.setCell (by show w.heap.size≤g;omega) _⟩
    have:=hB4.set 1 (.int .i64 (r+m))
    rw [HSN.out]
    exact this
   case measure =>
    simp only [intOf]
    omega
  ·
   have hk':k=n:=by omega
   subst hk'
   have hnl:¬ (zs.length:Int)<0:=by omega
   have htk:zs.take zs.length=zs:=List.take_length
   have g0:wr.cell? ⟨g,0,none⟩=some (.int .i64 0):=hB2.cell 0 rfl
   have g1:wr.cell? ⟨g,1,none⟩=some (.int .i64 (So.room (zs.take k))):=hB2.cell 1 rfl
   clear hlt
   go_upto_region 10 with (fail)
   go_quiet (fail)
   go_wp2_with fail
   go_ret2
   refine ⟨?_,zI hbel2 _⟩
   rw [show zs.take k=zs by rw [←HL.out];exact htk]
   rfl
theorem ze {P : Program} {ops : Array Oper} {rest : List Oper} {op : Oper} {a : Act} {w : World} {Q : Exit → Act → World → Prop} (ty : TypeId) (x : Operand) (ho : op.op = .load ty x)
    (b o:Nat) (hx:a.eval x=.pointer (some ⟨b,o,none⟩)) (cs:List Value) (d:TypeDesc) (hc:w.rangeAt b o cs)
    (hu:P.underlying ty=some d) (hd:d.isRow=true) (hi:(P.info? ty).map (·.size)=some cs.length) (hw:Region.wanted op (yielded ops a.tmps)=true)
    (h:wpList P ops Q rest (a.put op.dst (.agg cs.toArray)) w):wpList P ops Q (op::rest) a w :=
  wpList_step fun K hK => by
    rw [if_pos hw]
    exact wp_load_mid ty x ho b o hx cs d hc hu hd hi (hK _ _ h)
end Go.Proofs.YtdffbihilhkkjaaGreatDoor
