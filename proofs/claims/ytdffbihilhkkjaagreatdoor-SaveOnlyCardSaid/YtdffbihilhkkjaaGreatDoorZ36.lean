import Derived.Test.YtdffbihilhkkjaaGreatDoorZ2
import Derived.Test.YtdffbihilhkkjaaGreatDoorZ4
import Derived.Test.YtdffbihilhkkjaaGreatDoorZ9
import Derived.Test.YtdffbihilhkkjaaGreatDoorZ10
import Derived.Test.YtdffbihilhkkjaaGreatDoorZ28
import Derived.Test.YtdffbihilhkkjaaGreatDoorZ29
import Derived.Test.YtdffbihilhkkjaaGreatDoorZ33
import Derived.Test.YtdffbihilhkkjaaGreatDoorZ34
import Derived.Test.YtdffbihilhkkjaaGreatDoorZ35
import Derived.Lib.SlBytesConst
import Derived.Deep.DeepCutAuto
import Derived.Deep.CutBlock
import Derived.Deep.RegionWith
import Derived.Deep.QuietTactic
import Derived.BigQuiet
import Derived.Deep.RegionHeld3
namespace Go.Proofs.YtdffbihilhkkjaaGreatDoor
open Go.RowKit
set_option linter.unusedVariables false
set_option linter.unusedSimpArgs false
set_option maxRecDepth 100000
set_option maxHeartbeats 8000000
theorem zfp (l:List Nat) (h:l.length=4):∃ a b c d,l=[a,b,c,d]:=by
 match l,h with
 | [a,b,c,d],_=>exact ⟨a,b,c,d,rfl⟩
theorem TabW.drewN {w:World} (h:TabW w) (k:Nat):TabW (w.drewN k):=⟨h.cell⟩
theorem zoZ (l m:List Nat) (hl:∀ x∈l,x<256) (hm:∀ x∈m,x<256):((strOf l).toList==(strOf m).toList)=decide (l=m):=by
 by_cases h:l=m
 · subst h;simp
 · rw [zoj hl hm h];simp [h]
theorem zk5 (A A' : Option Addr) (n c n' c' : Nat) (l l' : List Nat) (w : World) (hb : Bs w A n c l) (hb' : Bs w A' n' c' l') :
    Calls Tryz.prog 166 #[.slice A n c,.slice A' n' c'] w fun e w'=>e=.returned (.bool (decide (l=l')))∧w=w':=by
  have he:=qH (zoZ l l' hb.small hb'.small)
  have hc1:=zck (P:=Tryz.prog) 65 5 9 Tryz.underlying65 Tryz.underlying5 Tryz.underlying9 hb
  have hc2:=zck (P:=Tryz.prog) 65 5 9 Tryz.underlying65 Tryz.underlying5 Tryz.underlying9 hb'
  generalize strOf l=s1 at hc1 he
  generalize strOf l'=s2 at hc2 he
  go_enter Tryz.func166,Tryz.ntmps166
  go_wp2
  go_ret
  exact ⟨by rw [←he.out];rfl,rfl⟩
theorem zb9 (A A' : Option Addr) (n c n' c' : Nat) (l l' : List Nat) (w : World) (hb : Bs w A n c l) (hb' : Bs w A' n' c' l') (hn : n' ≤ n) :
    Calls Tryz.prog 183 #[.slice A n c,.slice A' n' c'] w fun e w'=>e=.returned (.bool (decide (l.take n'=l')))∧w=w':=by
  have hbt:=hb.take n' hn
  have hcap:=hb.cap
  have h1:((n':Nat):Int)≤((n:Nat):Int):=by omega
  have h2:((n':Nat):Int)≤((c:Nat):Int):=by omega
  have h3:n'≤c:=by omega
  go_enter Tryz.func183,Tryz.ntmps183
  go_wp2_with (go_at_call 166;refine (zk5 A A' n' c n' c' _ l' _ hbt hb').mono ?_;rintro e w1 ⟨rfl,rfl⟩)
  go_ret
  exact ⟨rfl,rfl⟩
def cutE (l:List Nat):Nat:=if l.length<4 then 12 else if zaI l=true then 0 else 11
theorem zcB {l:List Nat} {m:Nat} (h:l.length=m+4):zaI l=true↔Crc.tail4 (ofN (l.take m))=l.drop m:=by
 unfold zaI
 rw [h,Nat.add_sub_cancel]
 simp
theorem zh1 (A : Option Addr) (n c : Nat) (l : List Nat) (w : World) (hb : Bs w A n c l) (hT : TabW w) (h : cutE l = 0) :
    Calls Tryz.prog 182 #[.slice A n c] w (Cuts w (n-4) (l.take (n-4))):=by
  have hln:=hb.len
  unfold cutE at h
  split at h
  · omega
  · rename_i h4
    split at h
    · rename_i hs
      obtain ⟨m,rfl⟩:∃ m,n=m+4:=⟨n-4,by omega⟩
      obtain ⟨b,off,rfl,_⟩:=hb.cells (by omega)
      obtain ⟨b0,b1,b2,b3,e1⟩:=zfp (Crc.tail4 (ofN (l.take m))) rfl
      obtain ⟨x0,x1,x2,x3,e2⟩:=zfp (l.drop m) (by rw [List.length_drop];omega)
      rw [Nat.add_sub_cancel]
      exact cut_good b off m c l w hb hT b0 b1 b2 b3 x0 x1 x2 x3 e1 e2 ((zcB hln).1 hs)
    · omega
def zk6 (w:World) (l:List Nat) (e:Ending) (w':World):Prop:=e=.returned (.tuple #[.slice none 0 0,.iface 149 (.int .i64 (cutE l:Nat))])∧Below w.heap.size w w'
theorem zg9 (A : Option Addr) (n c : Nat) (l : List Nat) (w : World) (hb : Bs w A n c l) (hT : TabW w) (h : cutE l ≠ 0) :
    Calls Tryz.prog 182 #[.slice A n c] w (zk6 w l):=by
  have hln:=hb.len
  by_cases h4:l.length<4
  · refine (zjE A n c l w hb (by omega)).mono ?_
    rintro e w' ⟨rfl,rfl⟩
    exact ⟨by unfold cutE;rw [if_pos h4];rfl,Below.refl _ _⟩
  · by_cases hs : zaI l = true
    · unfold cutE at h
      rw [if_neg h4,if_pos hs] at h
      exact absurd rfl h
    · have hE : cutE l = 11 := by unfold cutE; rw [if_neg h4, if_neg hs]
      obtain ⟨m,rfl⟩:∃ m,n=m+4:=⟨n-4,by omega⟩
      obtain ⟨b,off,rfl,_⟩:=hb.cells (by omega)
      obtain ⟨b0,b1,b2,b3,e1⟩:=zfp (Crc.tail4 (ofN (l.take m))) rfl
      obtain ⟨x0,x1,x2,x3,e2⟩:=zfp (l.drop m) (by rw [List.length_drop];omega)
      refine (cut_bad b off m c l w hb hT b0 b1 b2 b3 x0 x1 x2 x3 e1 e2 (fun h'=>hs ((zcB hln).2 h'))).mono ?_
      rintro e w' ⟨rfl,hb'⟩
      exact ⟨by rw [hE];rfl,hb'⟩
def CutW (w:World) (e:Ending) (w':World):Prop:=∃ A1 n1 c1 V,e=.returned (.tuple #[.slice A1 n1 c1,V])∧Below w.heap.size w w'
theorem zfq (A:Option Addr) (n c:Nat) (l:List Nat) (w:World) (hb:Bs w A n c l) (hT:TabW w):Calls Tryz.prog 182 #[.slice A n c] w (CutW w):=by
 by_cases h:cutE l=0
 ·
  refine (zh1 A n c l w hb hT h).mono ?_
  rintro e w' ⟨A1,c1,rfl,_,hb'⟩
  exact ⟨_,_,_,_,rfl,hb'⟩
 ·
  refine (zg9 A n c l w hb hT h).mono ?_
  rintro e w' ⟨rfl,hb'⟩
  exact ⟨_,_,_,_,rfl,hb'⟩
def zm2 (w:World) (x:Nat) (e:Ending) (w':World):Prop:=∃ V,e=.returned V∧ErrN V x∧Below w.heap.size w w'
theorem zbz {w w':World} {x:Nat} (hx:x≠0) (hb:Below w.heap.size w w'):zm2 w x (.returned (.iface 149 (.int .i64 (x:Nat)))) w':=⟨_,rfl,ErrN.num x hx,hb⟩
theorem zgc (A : Option Addr) (n c : Nat) (l : List Nat) (w : World) (hb : Bs w A n c l) (hT : TabW w) :
    Calls Tryz.prog 140 #[.slice A n c] w (zm2 w (Tl.wholeE l)):=by
  have hln:=hb.len
  have hmax:=hb.max
  have hcap:=hb.cap
  have kc:=fun (w:World) (C:Array Value) (n c:Nat)=>Lib.run_convert_bytes_const (P:=Tryz.prog) w 65 5 C n c Tryz.underlying65 Tryz.underlying5
  by_cases h1:134217728<l.length
  · have hE : Tl.wholeE l = 2 := by unfold Tl.wholeE; rw [if_pos h1]
    rw [hE]
    clear hE
    have h1':(134217728:Int)<(n:Int):=by omega
    go_enter Tryz.func140,Tryz.ntmps140
    go_wp2_with (go_at_call 182;refine (zfq A n c l _ hb hT).mono ?_;rintro e w1 ⟨A1,n1,c1,V,rfl,hb1⟩)
    go_ret
    exact zbz (by decide) hb1
  · have h1' : ¬ (134217728 : Int) < (n : Int) := by omega
    by_cases h2:l.length<16
    · have hE : Tl.wholeE l = 12 := by unfold Tl.wholeE; rw [if_neg h1, if_pos h2]
      rw [hE]
      clear hE
      have h2':(n:Int)<(16:Int):=by omega
      go_enter Tryz.func140,Tryz.ntmps140
      go_wp2_with (go_at_call 182;refine (zfq A n c l _ hb hT).mono ?_;rintro e w1 ⟨A1,n1,c1,V,rfl,hb1⟩)
      go_ret
      exact zbz (by decide) hb1
    · have h2' : ¬ (n : Int) < (16 : Int) := by omega
      have hms:=qH (show ∀ x∈Tl.magic,x<256 by decide)
      have h4n:4≤n:=by omega
      by_cases h3:l.take 4=Tl.magic
      · have h3b : decide (l.take 4 = Tl.magic) = true := decide_eq_true h3
        have hE:Tl.wholeE l=if zaI l=true then (if 4096<Tl.many l then 2 else 0) else 11:=by unfold Tl.wholeE;rw [if_neg h1,if_neg h2,if_neg (by simpa using h3)]
        clear h3
        by_cases h4:zaI l=true
        · have hc0 : cutE l = 0 := by unfold cutE; rw [if_neg (by omega), if_pos h4]
          rw [hE,if_pos h4]
          clear hE h4
          obtain ⟨A2,hA2,hB2⟩:=zbE (P:=Tryz.prog) 65 5 .i64 .i64 Tryz.underlying65 Tryz.info5 A n c 8 12 (by omega) (by omega) hcap
          simp only [show ((8:Nat):Int)=8 from rfl,show ((12:Nat):Int)=12 from rfl,show 12-8=4 from rfl] at hA2 hB2
          have hnum:=fun W (h:Bs W A2 4 (c-8) ((l.take 12).drop 8))=>zap A2 4 (c-8) _ W h (by decide)
          have hmm:Tl.num ((l.take 12).drop 8)=Tl.many l:=rfl
          rw [hmm] at hnum
          have hnum':=qH hnum
          clear hmm hnum
          by_cases h5:4096<Tl.many l
          · rw [if_pos h5]
            have h5':(4096:Int)<(Tl.many l:Int):=by omega
            clear h5
            go_enter Tryz.func140,Tryz.ntmps140
            go_wp2_with (first
              | (go_at_call 182;refine (zh1 A n c l _ hb hT hc0).mono ?_;rintro e w1 ⟨A1,c1,rfl,hown1,hb1⟩;have hbx:=hb.keep hb1;have hb2:=za hb1 (.cells (zA Tl.magic).toArray 5 (4,5));have hM:=Bs.lit w1 5 (4,5) Tl.magic 4 rfl (by decide) hms.out;have hby:=hbx.keep (za (Below.refl _ _) (.cells (zA Tl.magic).toArray 5 (4,5))))
              | (go_at_call 183;refine (zb9 A _ n c 4 4 l Tl.magic _ hby hM h4n).mono ?_;rw [h3b];rintro e w2 ⟨rfl,rfl⟩)
              | (go_at_call 141;refine (hnum'.out _ (hB2 _ _ hby)).mono ?_;rintro e w3 ⟨rfl,rfl⟩))
            go_ret
            exact zbz (by decide) hb2
          · rw [if_neg h5]
            have h5':¬ (4096:Int)<(Tl.many l:Int):=by omega
            clear h5
            go_enter Tryz.func140,Tryz.ntmps140
            go_wp2_with (first
              | (go_at_call 182;refine (zh1 A n c l _ hb hT hc0).mono ?_;rintro e w1 ⟨A1,c1,rfl,hown1,hb1⟩;have hbx:=hb.keep hb1;have hb2:=za hb1 (.cells (zA Tl.magic).toArray 5 (4,5));have hM:=Bs.lit w1 5 (4,5) Tl.magic 4 rfl (by decide) hms.out;have hby:=hbx.keep (za (Below.refl _ _) (.cells (zA Tl.magic).toArray 5 (4,5))))
              | (go_at_call 183;refine (zb9 A _ n c 4 4 l Tl.magic _ hby hM h4n).mono ?_;rw [h3b];rintro e w2 ⟨rfl,rfl⟩)
              | (go_at_call 141;refine (hnum'.out _ (hB2 _ _ hby)).mono ?_;rintro e w3 ⟨rfl,rfl⟩))
            go_ret
            exact ⟨_,rfl,ErrN.none,hb2⟩
        · have hc0 : cutE l = 11 := by unfold cutE; rw [if_neg (by omega), if_neg h4]
          have hc1:cutE l≠0:=by omega
          have hc0':=qH hc0
          rw [hE,if_neg h4]
          clear hE h4 hc0
          go_enter Tryz.func140,Tryz.ntmps140
          go_wp2_with (first
              | (go_at_call 182;refine (zg9 A n c l _ hb hT hc1).mono ?_;unfold zk6;rw [hc0'.out];rintro e w1 ⟨rfl,hb1⟩;have hbx:=hb.keep hb1;have hb2:=za hb1 (.cells (zA Tl.magic).toArray 5 (4,5));have hM:=Bs.lit w1 5 (4,5) Tl.magic 4 rfl (by decide) hms.out;have hby:=hbx.keep (za (Below.refl _ _) (.cells (zA Tl.magic).toArray 5 (4,5))))
              | (go_at_call 183;refine (zb9 A _ n c 4 4 l Tl.magic _ hby hM h4n).mono ?_;rw [h3b];rintro e w2 ⟨rfl,rfl⟩))
          go_ret
          exact zbz (by decide) hb2
      · have h3b : decide (l.take 4 = Tl.magic) = false := decide_eq_false h3
        have hE:Tl.wholeE l=3:=by unfold Tl.wholeE;rw [if_neg h1,if_neg h2,if_pos (by simpa using h3)]
        rw [hE]
        clear hE h3
        go_enter Tryz.func140,Tryz.ntmps140
        go_wp2_with (first
          | (go_at_call 182;refine (zfq A n c l _ hb hT).mono ?_;rintro e w1 ⟨A1,n1,c1,V,rfl,hb1⟩;have hbx:=hb.keep hb1;have hb2:=za hb1 (.cells (zA Tl.magic).toArray 5 (4,5));have hM:=Bs.lit w1 5 (4,5) Tl.magic 4 rfl (by decide) hms.out;have hby:=hbx.keep (za (Below.refl _ _) (.cells (zA Tl.magic).toArray 5 (4,5))))
          | (go_at_call 183;refine (zb9 A _ n c 4 4 l Tl.magic _ hby hM h4n).mono ?_;rw [h3b];rintro e w2 ⟨rfl,rfl⟩))
        go_ret
        exact zbz (by decide) hb2
def zn3 (w:World) (x:Nat) (e:Ending) (w':World):Prop :=
 e=.returned (.tuple #[.agg #[.int .u32 0,.slice none 0 0],.int .i64 0,.iface 149 (.int .i64 (x:Nat))])∧Below w.heap.size w w'
def zm3 (w:World) (r:List Nat) (e:Ending) (w':World):Prop :=
 ∃ A1 c1,e=.returned (.tuple #[.agg #[.int .u32 ((Tl.secOf r).tag:Nat),.slice A1 (Tl.secN r) c1],.int .i64 (12+Tl.secN r:Nat),.nilIface])∧Own w' w.heap.size 5 A1 (Tl.secN r) c1 (Tl.secOf r).b∧Below w.heap.size w w'
theorem zha (A : Option Addr) (n c : Nat) (r : List Nat) (w : World) (hb : Bs w A n c r) (hT : TabW w) (h : Tl.secE r ≠ 0) :
    Calls Tryz.prog 142 #[.slice A n c] w (zn3 w (Tl.secE r)):=by
  have hln:=hb.len
  have hmax:=hb.max
  have hcap:=hb.cap
  by_cases h1:r.length<12
  · have hE : Tl.secE r = 12 := by unfold Tl.secE; rw [if_pos h1]
    rw [hE]
    clear hE h
    have h1':(n:Int)<12:=by omega
    go_enter Tryz.func142,Tryz.ntmps142
    go_wp2
    exact bodyPost_ret (v:=.tuple #[.agg #[.int .u32 0,.slice none 0 0],.int .i64 0,.iface 149 (.int .i64 ((12:Nat):Int))]) (by simp [results,Tryz.results142,go_sem]) rfl ⟨rfl,za (Below.refl _ _) _⟩
  · have h1' : ¬ (n : Int) < 12 := by omega
    have h12:12≤n:=by omega
    obtain ⟨A2,hA2,hB2⟩:=zbE (P:=Tryz.prog) 65 5 .i64 .i64 Tryz.underlying65 Tryz.info5 A n c 4 8 (by omega) (by omega) hcap
    simp only [show ((4:Nat):Int)=4 from rfl,show ((8:Nat):Int)=8 from rfl,show 8-4=4 from rfl] at hA2 hB2
    have hnum:=fun W (h:Bs W A2 4 (c-4) ((r.take 8).drop 4))=>zap A2 4 (c-4) _ W h (by decide)
    have hsn : Tl.secN r < 4294967296 := by
      unfold Tl.secN
      rw [List.drop_take]
      exact Tl.num_take_lt (r.drop 4) (fun x hx=>hb.small x (List.mem_of_mem_drop hx)) 4
    have hmm:Tl.num ((r.take 8).drop 4)=Tl.secN r:=rfl
    rw [hmm] at hnum
    have hnum':=qH hnum
    clear hmm hnum
    by_cases h2:r.length-12<Tl.secN r
    · have hE : Tl.secE r = 12 := by unfold Tl.secE; rw [if_neg h1, if_pos h2]
      rw [hE]
      clear hE h
      have h2':(n:Int)-12<(Tl.secN r:Int):=by omega
      clear h2
      go_enter Tryz.func142,Tryz.ntmps142
      go_wp2_with (go_at_call 141;refine (hnum'.out _ (hB2 _ _ (hb.keep (za (Below.refl _ _) _)))).mono ?_;rintro e w3 ⟨rfl,rfl⟩)
      exact bodyPost_ret (v:=.tuple #[.agg #[.int .u32 0,.slice none 0 0],.int .i64 0,.iface 149 (.int .i64 ((12:Nat):Int))]) (by simp [results,Tryz.results142,go_sem]) rfl ⟨rfl,za (Below.refl _ _) _⟩
    · have h2' : ¬ (n : Int) - 12 < (Tl.secN r : Int) := by omega
      have hs : ¬ zaI (r.take (12 + Tl.secN r)) = true := by
        intro hs
        unfold Tl.secE at h
        rw [if_neg h1,if_neg h2,if_pos hs] at h
        exact h rfl
      have hE:Tl.secE r=11:=by unfold Tl.secE;rw [if_neg h1,if_neg h2,if_neg hs]
      have hbt:=hb.take (12+Tl.secN r) (by omega)
      have hcE:cutE (r.take (12+Tl.secN r))=11:=by unfold cutE;rw [if_neg (by rw [List.length_take];omega),if_neg hs]
      have hc1:cutE (r.take (12+Tl.secN r))≠0:=by omega
      have hcE':=qH hcE
      rw [hE]
      clear hE h hcE hs
      generalize Tl.secN r=q at hsn h2 h2' hbt hc1 hcE' hnum'
      have hqi:12+(q:Int)≤(c:Int):=by omega
      have hqc:12+q≤c:=by omega
      have hqc2:(((12+q:Nat)):Int)=12+(q:Int):=by omega
      obtain ⟨A3,hA3,hB3⟩:=zbE (P:=Tryz.prog) 65 5 .i64 .i64 Tryz.underlying65 Tryz.info5 A n c 0 (12+q) (by omega) (by omega) hcap
      clear h2
      go_enter Tryz.func142,Tryz.ntmps142
      go_wp2_with (first
        | (go_at_call 141;refine (hnum'.out _ (hB2 _ _ (hb.keep (za (Below.refl _ _) _)))).mono ?_;rintro e w3 ⟨rfl,rfl⟩)
        | (go_at_call 182;refine (zg9 A (12+q) c _ _ (hbt.keep (za (Below.refl _ _) _)) (hT.keep (za (Below.refl _ _) _)) hc1).mono ?_;unfold zk6;rw [hcE'.out];rintro e w1 ⟨rfl,hb1⟩;have hBk:=(Blk.new w #[.int .u32 0,.slice none 0 0] 150).keep hb1;have k0:=hBk.cell 0 rfl;have k1:=hBk.cell 1 rfl;have f0:=hBk.free 0;have f1:=hBk.free 1;have hbw:=zb (za (Below.refl _ _) _) hb1))
      refine bodyPost_ret (v:=.tuple #[.agg #[.int .u32 0,.slice none 0 0],.int .i64 0,.iface 149 (.int .i64 ((11:Nat):Int))]) (by simp [results,Tryz.results142,go_sem,k0,k1]) rfl ⟨rfl,?_⟩
      exact zfv (zfv hbw (Nat.le_refl _) _) (Nat.le_refl _) _
theorem zk7 {r:List Nat} (h:Tl.secE r=0):12≤r.length∧12+Tl.secN r≤r.length∧cutE (r.take (12+Tl.secN r))=0:=by
 unfold Tl.secE at h
 split at h
 · omega
 ·
  rename_i h1
  split at h
  · omega
  ·
   rename_i h2
   split at h
   ·
    rename_i h3
    refine ⟨by omega,by omega,?_⟩
    unfold cutE
    rw [if_neg (by rw [List.length_take];omega),if_pos h3]
   · omega
theorem zdj (A : Option Addr) (n c : Nat) (r : List Nat) (w : World) (hb : Bs w A n c r) (hT : TabW w) (h : Tl.secE r = 0) :
    Calls Tryz.prog 142 #[.slice A n c] w (zm3 w r):=by
  have hln:=hb.len
  have hmax:=hb.max
  have hcap:=hb.cap
  obtain ⟨h1,h2,hcE⟩:=zk7 h
  clear h
  have h1':¬ (n:Int)<12:=by omega
  have h12:12≤n:=by omega
  obtain ⟨A2,hA2,hB2⟩:=zbE (P:=Tryz.prog) 65 5 .i64 .i64 Tryz.underlying65 Tryz.info5 A n c 4 8 (by omega) (by omega) hcap
  simp only [show ((4:Nat):Int)=4 from rfl,show ((8:Nat):Int)=8 from rfl,show 8-4=4 from rfl] at hA2 hB2
  have hnum:=fun W (h:Bs W A2 4 (c-4) ((r.take 8).drop 4))=>zap A2 4 (c-4) _ W h (by decide)
  have hsn : Tl.secN r < 4294967296 := by
    unfold Tl.secN
    rw [List.drop_take]
    exact Tl.num_take_lt (r.drop 4) (fun x hx=>hb.small x (List.mem_of_mem_drop hx)) 4
  have hmm:Tl.num ((r.take 8).drop 4)=Tl.secN r:=rfl
  rw [hmm] at hnum
  have hnum':=qH hnum
  clear hmm hnum
  have hbt:=hb.take (12+Tl.secN r) (by omega)
  have hb4:=hb.take 4 (by omega)
  have htg:Tl.num (r.take 4)=(Tl.secOf r).tag:=rfl
  have htl:(Tl.secOf r).tag<4294967296:=by rw [←htg];exact Tl.num_take_lt r hb.small 4
  have hnum4:=fun W (h:Bs W A 4 c (r.take 4))=>zap A 4 c _ W h (by decide)
  rw [htg] at hnum4
  have hnum4':=qH hnum4
  clear hnum4 htg
  have hbd : Hid (((r.take (12 + Tl.secN r)).take (12 + Tl.secN r - 4)).drop 8 = (Tl.secOf r).b) := qH (by
    rw [List.take_take,Nat.min_eq_left (by omega),show 12+Tl.secN r-4=8+Tl.secN r by omega];rfl)
  have hpost : ∀ (q : Nat), q = Tl.secN r → ∀ (t : Nat), t = (Tl.secOf r).tag → ∀ A1 c1 w', Own w' w.heap.size 5 A1 q c1 (Tl.secOf r).b → Below w.heap.size w w' → zm3 w r (.returned (.tuple #[.agg #[.int .u32 (t : Nat), .slice A1 q c1], .int .i64 (12 + q : Nat), .nilIface])) w' := by
    rintro q rfl t rfl A1 c1 w' h1 h2
    exact ⟨A1,c1,rfl,h1,h2⟩
  have hpost':=qH hpost
  clear hpost
  have hqe:Hid (Tl.secN r=Tl.secN r):=qH rfl
  have hte:Hid ((Tl.secOf r).tag=(Tl.secOf r).tag):=qH rfl
  generalize hq:Tl.secN r=q at hsn h2 hbt hcE hnum' hbd
  have hq':=qH hq
  generalize ht:(Tl.secOf r).tag=tg at htl hnum4'
  have ht':=qH ht
  clear hq ht hqe hte
  have h2':¬ (n:Int)-12<(q:Int):=by omega
  have hqi:12+(q:Int)≤(c:Int):=by omega
  have hqc:12+q≤c:=by omega
  have hcE':=qH hcE
  have hw1:IntKind.u32.wrap (tg:Int)=(tg:Int):=by rw [IntKind.wrap_u32];omega
  have hw1':=qH hw1
  clear hw1 h2 hcE
  have hl8:(8:Int)≤((12+q-4:Nat):Int):=by omega
  have hm8:12+q-4-8=q:=by omega
  have hm8':=qH hm8
  clear hm8
  go_enter Tryz.func142,Tryz.ntmps142
  go_wp2_with (first
    | (go_at_call 141;refine (hnum'.out _ (hB2 _ _ (hb.keep (za (Below.refl _ _) _)))).mono ?_;rintro e w3 ⟨rfl,rfl⟩)
    | (go_at_call 182;refine (zh1 A (12+q) c _ _ (hbt.keep (za (Below.refl _ _) _)) (hT.keep (za (Below.refl _ _) _)) hcE'.out).mono ?_;rintro e w1 ⟨A1,c1,rfl,hown1,hb1⟩;have hBk:=(Blk.new w #[.int .u32 0,.slice none 0 0] 150).keep hb1;have hbw:=zb (za (Below.refl _ _) _) hb1))
  have hs1:=hown1.bs
  have hcap1:=hs1.cap
  obtain ⟨A3,hA3,hB3⟩:=zbD (P:=Tryz.prog) 65 5 .i64 Tryz.underlying65 Tryz.info5 A1 (12+q-4) c1 8 (by omega)
  simp only [show ((8:Nat):Int)=8 from rfl] at hA3
  have hs3:=hB3 _ _ hs1
  rw [hm8'.out] at hA3 hs3
  rw [hbd.out] at hs3
  have hw1:=hw1'.out
  have hbr:=hb4.keep hbw
  have hc4:(4:Int)≤(c:Int):=by omega
  go_region_held3 (fun w'=>True) (trivial) (first | (go_at_call 141;refine (hnum4'.out _ (hbr.keep (by first | exact zr (Below.refl _ _) | exact zb (zr (Below.refl _ _)) hb5))).mono ?_;rintro e w3 ⟨rfl,rfl⟩) | (go_at_call 129;refine (zbs A3 q _ _ _ hs3.drew).mono ?_;rintro e w5 ⟨A5,c5,rfl,hown5,hb5⟩;have hBk5:=(hBk.drew).keep hb5;have k0:=hBk5.cell 0 rfl;have k1:=hBk5.cell 1 rfl;have f0:=hBk5.free 0;have f1:=hBk5.free 1) | fail)
  all_goals go_wp2
  all_goals refine bodyPost_ret (v:=.tuple #[.agg #[.int .u32 (tg:Nat),.slice A5 q c5],.int .i64 (12+q:Nat),.nilIface]) (by simp [results,Tryz.results142,go_sem,k0,k1]) rfl (hpost'.out q hq'.out.symm tg ht'.out.symm A5 c5 _ ?_ ?_)
  all_goals first
    | exact ((hown5.lower (zr hbw).size).kept ((Kept.refl (fun k=>k=w.heap.size) _).set (fun _=>rfl) _) (fun b hb e=>by have h3:=(hown5.ge b hb).1;have h4:=hBk.lt;have h5:w1.drew.heap.size=w1.heap.size:=rfl;omega)).kept ((Kept.refl (fun k=>k=w.heap.size) _).set (fun _=>rfl) _) (fun b hb e=>by have h3:=(hown5.ge b hb).1;have h4:=hBk.lt;have h5:w1.drew.heap.size=w1.heap.size:=rfl;omega)
    | exact zfv (zfv (zb (zr hbw) hb5) (Nat.le_refl _) _) (Nat.le_refl _) _
def zbi (l:List Tl.Sec):Option Nat:=l.getLast?.map (·.tag)
theorem zhb (l:List Tl.Sec) (s:Tl.Sec):zbi (l++[s])=some s.tag:=by simp [zbi]
def DecP (w:World) (b:List Nat) (e:Ending) (w':World):Prop :=
 (Tl.decE b=0∧∃ A1 c1 L,e=.returned (.tuple #[.int .u32 (Tl.decV b:Nat),.slice A1 (List.length L) c1,.nilIface])∧OwnS w' w.heap.size 150 A1 L.length c1 L∧secL L=Tl.decL b∧Below w.heap.size w w') ∨
 (Tl.decE b≠0∧e=.returned (.tuple #[.int .u32 0,.slice none 0 0,.iface 149 (.int .i64 (Tl.decE b:Nat))])∧Below w.heap.size w w')
theorem DecP.bad {w w':World} {b:List Nat} {x:Nat} (h:Tl.decE b=x) (hx:x≠0) (hb:Below w.heap.size w w'):DecP w b (.returned (.tuple #[.int .u32 0,.slice none 0 0,.iface 149 (.int .i64 (x:Nat))])) w' :=
 .inr ⟨by rw [h];exact hx,by rw [h],hb⟩
theorem ErrN.ne {V:Value} {x:Nat} (h:ErrN V x) (hx:x≠0):V=.iface 149 (.int .i64 (x:Int)):=by
 cases h with
 | none=>exact absurd rfl hx
 | num y hy=>rfl
theorem ErrN.eq {V:Value} (h:ErrN V 0):V=.nilIface:=by
 cases h with
 | none=>rfl
 | num y hy=>exact absurd rfl hy
theorem zk8 {k : Nat} {last : Option Nat} {r : List Nat} (he : Tl.secE r = 0) (hn : Tl.notAbove last (Tl.secOf r).tag = false) :
    Tl.secs (k+1) last r=((Tl.secs k (some (Tl.secOf r).tag) (r.drop (12+Tl.secN r))).1,Tl.secOf r::(Tl.secs k (some (Tl.secOf r).tag) (r.drop (12+Tl.secN r))).2):=by
  simp only [Tl.secs,he,hn,ne_eq,not_true_eq_false,if_false,Bool.false_eq_true]
theorem zmx {k:Nat} {last:Option Nat} {r:List Nat} (he:Tl.secE r≠0):Tl.secs (k+1) last r=(Tl.secE r,[]):=by
 simp only [Tl.secs,ne_eq,he,not_false_eq_true,if_true]
theorem zjm {k:Nat} {last:Option Nat} {r:List Nat} (he:Tl.secE r=0) (hn:Tl.notAbove last (Tl.secOf r).tag=true):Tl.secs (k+1) last r=(31,[]):=by
 simp only [Tl.secs,he,hn,ne_eq,not_true_eq_false,if_false,if_true]
def zbA (m k:Nat) (b:List Nat) (L:List SecV) (r:List Nat):Prop:=∃ q,m=k+q∧Tl.secs m none (Tl.inner b)=((Tl.secs q (zbi (secL L)) r).1,secL L++(Tl.secs q (zbi (secL L)) r).2)
theorem zbA.start (m:Nat) (b:List Nat):zbA m 0 b [] (Tl.inner b):=⟨m,by omega,by simp [secL,zbi]⟩
theorem zbA.step {m k : Nat} {b : List Nat} {L : List SecV} {r : List Nat} (h : zbA m k b L r) (hk : k < m) (he : Tl.secE r = 0) (hn : Tl.notAbove (zbi (secL L)) (Tl.secOf r).tag = false) (s : SecV) (hs : s.sec = Tl.secOf r) :
    zbA m (k+1) b (L++[s]) (r.drop (12+Tl.secN r)):=by
  obtain ⟨q,hq,h⟩:=h
  obtain ⟨p,rfl⟩:∃ p,q=p+1:=⟨q-1,by omega⟩
  refine ⟨p,by omega,?_⟩
  rw [h,zk8 he hn]
  have e:secL (L++[s])=secL L++[Tl.secOf r]:=by simp [secL,hs]
  rw [e,zhb]
  simp
theorem zbA.err {m k:Nat} {b:List Nat} {L:List SecV} {r:List Nat} (h:zbA m k b L r) (hk:k<m) (he:Tl.secE r≠0):(Tl.secs m none (Tl.inner b)).1=Tl.secE r:=by
 obtain ⟨q,hq,h⟩:=h
 obtain ⟨p,rfl⟩:∃ p,q=p+1:=⟨q-1,by omega⟩
 rw [h,zmx he]
theorem zbA.order {m k:Nat} {b:List Nat} {L:List SecV} {r:List Nat} (h:zbA m k b L r) (hk:k<m) (he:Tl.secE r=0) (hn:Tl.notAbove (zbi (secL L)) (Tl.secOf r).tag=true):(Tl.secs m none (Tl.inner b)).1=31:=by
 obtain ⟨q,hq,h⟩:=h
 obtain ⟨p,rfl⟩:∃ p,q=p+1:=⟨q-1,by omega⟩
 rw [h,zjm he hn]
theorem zbA.fin {m:Nat} {b:List Nat} {L:List SecV} {r:List Nat} (h:zbA m m b L r):(Tl.secs m none (Tl.inner b)).1=(if r.length=0 then 0 else 3)∧(Tl.secs m none (Tl.inner b)).2=secL L:=by
 obtain ⟨q,hq,h⟩:=h
 obtain rfl:q=0:=by omega
 rw [h]
 simp [Tl.secs]
theorem zjn {L:List SecV} {j:Nat} {s:SecV} (h:L[j]?=some s) (hl:L.length=j+1):zbi (secL L)=some s.tag:=by
 unfold zbi secL
 rw [List.getLast?_map,List.getLast?_eq_getElem?,hl,Nat.add_sub_cancel,h]
 rfl
theorem zeV (A : Option Addr) (n c : Nat) (l : List Nat) (w : World) (hb : Bs w A n c l) (hT : TabW w) :
    Calls Tryz.prog 73 #[.slice A n c] w (DecP w l):=by
  have hln:=hb.len
  have hmax:=hb.max
  have hcap:=hb.cap
  by_cases hW:Tl.wholeE l=0
  · have hlen : 16 ≤ l.length ∧ l.length ≤ 134217728 ∧ Tl.many l ≤ 4096 := by
      unfold Tl.wholeE at hW
      split at hW
      · omega
      · split at hW
        · omega
        · split at hW
          · omega
          · split at hW
            · split at hW
              · omega
              · omega
            · omega
    obtain ⟨h16,h27,hmany⟩:=hlen
    have hW':=qH hW
    have hdE:Hid (Tl.decE l=(Tl.secs (Tl.many l) none (Tl.inner l)).1):=qH (by unfold Tl.decE;rw [if_neg (by simp [hW])])
    have hdL:Hid (Tl.decL l=(Tl.secs (Tl.many l) none (Tl.inner l)).2):=qH rfl
    clear hW
    obtain ⟨A2,hA2,hB2⟩:=zbE (P:=Tryz.prog) 65 5 .i64 .i64 Tryz.underlying65 Tryz.info5 A n c 8 12 (by omega) (by omega) hcap
    simp only [show ((8:Nat):Int)=8 from rfl,show ((12:Nat):Int)=12 from rfl,show 12-8=4 from rfl] at hA2 hB2
    obtain ⟨A4,hA4,hB4⟩:=zbE (P:=Tryz.prog) 65 5 .i64 .i64 Tryz.underlying65 Tryz.info5 A n c 4 8 (by omega) (by omega) hcap
    simp only [show ((4:Nat):Int)=4 from rfl,show ((8:Nat):Int)=8 from rfl,show 8-4=4 from rfl] at hA4 hB4
    obtain ⟨A3,hA3,hB3⟩:=zbE (P:=Tryz.prog) 65 5 .i64 .i64 Tryz.underlying65 Tryz.info5 A n c 12 (n-4) (by omega) (by omega) hcap
    simp only [show ((12:Nat):Int)=12 from rfl,show ((n-4:Nat):Int)=(n:Int)-4 by omega] at hA3
    have hnum:=fun W (h:Bs W A2 4 (c-8) ((l.take 12).drop 8))=>zap A2 4 (c-8) _ W h (by decide)
    have hmm:Tl.num ((l.take 12).drop 8)=Tl.many l:=rfl
    rw [hmm] at hnum
    have hnum':=qH hnum
    clear hmm hnum
    have hnum4:=fun W (h:Bs W A4 4 (c-4) ((l.take 8).drop 4))=>zap A4 4 (c-4) _ W h (by decide)
    have hdv:Tl.num ((l.take 8).drop 4)=Tl.decV l:=rfl
    have hdl:Tl.decV l<4294967296:=by rw [←hdv,List.drop_take];exact Tl.num_take_lt (l.drop 4) (fun x hx=>hb.small x (List.mem_of_mem_drop hx)) 4
    rw [hdv] at hnum4
    have hnum4':=qH hnum4
    clear hdv hnum4
    have hin:Hid ((l.take (n-4)).drop 12=Tl.inner l):=qH (by unfold Tl.inner;rw [hln])
    have h16i:(16:Int)≤(n:Int):=by omega
    have hstart:=zbA.start (Tl.many l) l
    generalize Tl.many l=m at hmany hdE hdL hnum' hstart
    go_enter Tryz.func73,Tryz.ntmps73
    go_wp2_with (first
      | (go_at_call 140;refine (zgc A n c l _ hb hT).mono ?_;rw [hW'.out];rintro e w1 ⟨V,rfl,hV,hb1⟩;obtain rfl:=hV.eq;have hbw:=hb.keep hb1)
      | (go_at_call 141;refine (hnum'.out _ (hB2 _ _ hbw)).mono ?_;rintro e w3 ⟨rfl,rfl⟩))
    have hr0:=hB3 _ _ hb
    rw [hin.out] at hr0
    go_loopw [6,7,26] (fun x y i wr=>∃ k:Nat,k≤m∧i=.int .i64 k∧∃ A5 n5 c5 r,x=.slice A5 n5 c5∧Bs w A5 n5 c5 r∧∃ A6 c6 L,y=.slice A6 k c6∧OwnS wr w.heap.size 150 A6 k c6 L∧zbA m k l L r∧Below w.heap.size w wr) (fun _ _ i _=>m-(intOf i).toNat)
    case atStart=>exact ⟨0,Nat.zero_le _,rfl,A3,_,_,_,rfl,hr0,none,0,[],rfl,OwnS.nil _ _ _,hstart,hb1⟩
    case round =>
      obtain ⟨k,hk,rfl,A5,n5,c5,r,rfl,hr,A6,c6,L,rfl,hL,hinv,hbel⟩:=hrel
      have hrl:=hr.len
      have hrc:=hr.cap
      have hTr:=hT.keep hbel
      have hrw:=hr.keep hbel
      by_cases hlt:k<m
      · by_cases he : Tl.secE r = 0
        · have hse := zk7 he
          have hsl:12+Tl.secN r≤n5:=by omega
          have hsn : Tl.secN r < 4294967296 := by
            unfold Tl.secN
            rw [List.drop_take]
            exact Tl.num_take_lt (r.drop 4) (fun x hx=>hr.small x (List.mem_of_mem_drop hx)) 4
          have htl:(Tl.secOf r).tag<4294967296:=Tl.num_take_lt r hr.small 4
          obtain ⟨A9,hA9,hB9⟩:=zbD (P:=Tryz.prog) 65 5 .i64 Tryz.underlying65 Tryz.info5 A5 n5 c5 (12+Tl.secN r) hsl
          have hr9:=hB9 _ _ hr
          clear hB9 hse
          have he':=qH he
          clear he
          have hstep:=fun (hn:Tl.notAbove (zbi (secL L)) (Tl.secOf r).tag=false) (s:SecV) (hs:s.sec=Tl.secOf r)=>hinv.step hlt he'.out hn s hs
          have hstep':=qH hstep
          have hord:=qH (fun (hn:Tl.notAbove (zbi (secL L)) (Tl.secOf r).tag=true)=>(hdE.out).trans (hinv.order hlt he'.out hn))
          clear hstep
          have hsecOk:Hid (∀ w1 A7 c7,Own w1 wr.heap.size 5 A7 (Tl.secN r) c7 (Tl.secOf r).b→(SecV.mk (Tl.secOf r).tag A7 (Tl.secN r) c7 (Tl.secOf r).b).sec=Tl.secOf r):=qH (fun _ _ _ _=>rfl)
          have hLs:=hL.secs
          have hLl:=hL.len
          have hq2:12+(Tl.secN r:Int)≤(c5:Int):=by omega
          have hq3:12+(Tl.secN r:Int)≤(n5:Int):=by omega
          have hcast:((12+Tl.secN r:Nat):Int)=12+(Tl.secN r:Int):=by omega
          rw [hcast] at hA9
          clear hcast
          have hkm:k+1≤4398046511104:=by omega
          rcases Nat.eq_zero_or_pos k with h0 | h0
          · subst h0
            have hL0:L=[]:=List.eq_nil_of_length_eq_zero hLl
            subst hL0
            have hna:Tl.notAbove (zbi (secL [])) (Tl.secOf r).tag=false:=rfl
            go_wp2_with (go_at_call 142;refine (zdj A5 n5 c5 r _ hrw hTr he'.out).mono ?_;rintro e w1 ⟨A7,c7,rfl,hown7,hb2⟩)
            go_quiet (fail)
            have hbq:=zb hbel hb2
            have hcl0:((w1.alloc (Obj.cells #[.int .u32 ((Tl.secOf r).tag:Nat),.slice A7 (Tl.secN r) c7] 150)).drewN nq).cell? ⟨w1.heap.size,0,none⟩=some (.int .u32 ((Tl.secOf r).tag:Nat)):=zax _ _ _ _ _ rfl
            have hcl1:((w1.alloc (Obj.cells #[.int .u32 ((Tl.secOf r).tag:Nat),.slice A7 (Tl.secN r) c7] 150)).drewN nq).cell? ⟨w1.heap.size,1,none⟩=some (.slice A7 (Tl.secN r) c7):=zax _ _ _ _ _ rfl
            have hW0:Below w1.heap.size w1 ((w1.alloc (Obj.cells #[.int .u32 ((Tl.secOf r).tag:Nat),.slice A7 (Tl.secN r) c7] 150)).drewN nq):=zI (za (Below.refl _ _) _) nq
            generalize (w1.alloc (Obj.cells #[.int .u32 ((Tl.secOf r).tag:Nat),.slice A7 (Tl.secN r) c7] 150)).drewN nq=W at hcl0 hcl1 hW0 ⊢
            have hba:=za (zr (Below.refl W.heap.size W)) (Obj.cells #[.int .u32 ((Tl.secOf r).tag:Nat),.slice A7 (Tl.secN r) c7] 150)
            have hLW:=((hL.keep hb2).keep hW0).keep hba
            have hbsW:=(hown7.bs.keep hW0).keep hba
            have hbWW:=zb (zb hbq hW0) hba
            have hbz:=hbWW.size
            have hn0:(W.drew.alloc (Obj.cells #[.int .u32 ((Tl.secOf r).tag:Nat),.slice A7 (Tl.secN r) c7] 150)).cell? ⟨W.heap.size,0,none⟩=some (.int .u32 ((Tl.secOf r).tag:Nat)):=zax W.drew _ _ _ _ rfl
            have hn1:(W.drew.alloc (Obj.cells #[.int .u32 ((Tl.secOf r).tag:Nat),.slice A7 (Tl.secN r) c7] 150)).cell? ⟨W.heap.size,1,none⟩=some (.slice A7 (Tl.secN r) c7):=zax W.drew _ _ _ _ rfl
            have hfar : 0 < Tl.secN r → ∀ g, A6.map (·.block) = some g → A7.map (·.block) ≠ some g := fun _ g h1 h2 => by
              have h3:=(hL.ge g h1).2
              have h4:=(hown7.ge g h2).1
              omega
            have hkeepS:∀ X:World,Below W.heap.size W X→X.cell? ⟨w1.heap.size,0,none⟩=some (.int .u32 ((Tl.secOf r).tag:Nat))∧X.cell? ⟨w1.heap.size,1,none⟩=some (.slice A7 (Tl.secN r) c7):=fun X h=>⟨zm hcl0 h,zm hcl1 h⟩
            have hrow:∀ g,A6.map (·.block)=some g→w.heap.size≤g:=fun g h=>(hL.ge g h).1
            have hg1:w1.heap.size≠w.heap.size∨True:=.inr trivial
            have hrow2 : ∀ g, A6.map (·.block) = some g → g ≠ w1.heap.size := fun g h e => by
              have h3:=(hL.ge g h).2
              have h4:=hb2.size
              omega
            go_wp2_with fail
            go_region_held3 (fun w'=>w'.cell? ⟨w1.heap.size,0,none⟩=some (.int .u32 ((Tl.secOf r).tag:Nat))∧w'.cell? ⟨w1.heap.size,1,none⟩=some (.slice A7 (Tl.secN r) c7)) ((first | exact hkeepS _ (zr (Below.refl _ _)) | exact hkeepS _ hba | exact ⟨hg8.cell (hkeepS _ hba).1 (fun e=>hrow2 _ e.symm rfl),hg8.cell (hkeepS _ hba).2 (fun e=>hrow2 _ e.symm rfl)⟩)) (first | (refine zdm rfl _ _ 98 150 rfl Tryz.underlying98 Tryz.info150 w.heap.size A6 0 c6 [] W.heap.size ⟨(Tl.secOf r).tag,A7,Tl.secN r,c7,(Tl.secOf r).b⟩ (0+1) rfl rfl rfl hLW hn0 hn1 htl hbsW hfar hbz hkm ?_;intro A8 c8 w8 hown8 hg8 hat8) | fail)
            go_wp2_with fail
            go_roundw
            case rel=>exact ⟨0+1,by omega,by go_num,A9,_,_,_,rfl,hr9,A8,c8,_,rfl,hown8,hstep'.out hna _ rfl,zaJ hbWW hg8 hrow⟩
            case measure=>simp [intOf]<;>omega
          · obtain ⟨j, hj⟩ : ∃ j, k = j + 1 := ⟨k - 1, by omega⟩
            obtain ⟨s',b',off',hs',rfl,hc0',hc1',htag',hbs'⟩:=hLs.at_ j (by omega)
            have hlo:=qH (zjn hs' (by omega))
            have hna0:=qH (show Tl.notAbove (zbi (secL L)) (Tl.secOf r).tag=decide ((Tl.secOf r).tag≤s'.tag) by rw [hlo.out];rfl)
            have ej:IntKind.i64.wrap ((k:Int)-1)=(j:Int):=by rw [IntWalk.i64_in _ (by omega)];omega
            have hk0:(0:Int)<(k:Int):=by omega
            have hj0:(0:Int)≤(j:Int):=by omega
            have hjn:(j:Int)<(k:Int):=by omega
            have hjc:(j:Int)<(c6:Int):=by have:=hLs.cap;omega
            clear hj
            by_cases hle':(Tl.secOf r).tag≤s'.tag
            · have hna : Tl.notAbove (zbi (secL L)) (Tl.secOf r).tag = true := by rw [hna0.out]; exact decide_eq_true hle'
              have hno:=qH (hord.out hna)
              have hleb:((Tl.secOf r).tag:Int)≤(s'.tag:Int):=by omega
              clear hna hle'
              go_wp2_with (go_at_call 142;refine (zdj A5 n5 c5 r _ hrw hTr he'.out).mono ?_;rintro e w1 ⟨A7,c7,rfl,hown7,hb2⟩;have hc0a:=fun o=>zao (zm hc0' hb2) o)
              go_quiet (fail)
              go_wp2_with fail
              go_ret3
              exact DecP.bad hno.out (by decide) (zI (za (zb hbel hb2) _) _)
            · have hna : Tl.notAbove (zbi (secL L)) (Tl.secOf r).tag = false := by rw [hna0.out]; exact decide_eq_false hle'
              have hleb:¬ ((Tl.secOf r).tag:Int)≤(s'.tag:Int):=by omega
              clear hle'
              go_wp2_with (go_at_call 142;refine (zdj A5 n5 c5 r _ hrw hTr he'.out).mono ?_;rintro e w1 ⟨A7,c7,rfl,hown7,hb2⟩;have hc0a:=fun o=>zao (zm hc0' hb2) o)
              go_quiet (fail)
              clear hc0a
              have hbq:=zb hbel hb2
              have hcl0:((w1.alloc (Obj.cells #[.int .u32 ((Tl.secOf r).tag:Nat),.slice A7 (Tl.secN r) c7] 150)).drewN nq).cell? ⟨w1.heap.size,0,none⟩=some (.int .u32 ((Tl.secOf r).tag:Nat)):=zax _ _ _ _ _ rfl
              have hcl1:((w1.alloc (Obj.cells #[.int .u32 ((Tl.secOf r).tag:Nat),.slice A7 (Tl.secN r) c7] 150)).drewN nq).cell? ⟨w1.heap.size,1,none⟩=some (.slice A7 (Tl.secN r) c7):=zax _ _ _ _ _ rfl
              have hW0:Below w1.heap.size w1 ((w1.alloc (Obj.cells #[.int .u32 ((Tl.secOf r).tag:Nat),.slice A7 (Tl.secN r) c7] 150)).drewN nq):=zI (za (Below.refl _ _) _) nq
              generalize (w1.alloc (Obj.cells #[.int .u32 ((Tl.secOf r).tag:Nat),.slice A7 (Tl.secN r) c7] 150)).drewN nq=W at hcl0 hcl1 hW0 ⊢
              have hba:=za (zr (Below.refl W.heap.size W)) (Obj.cells #[.int .u32 ((Tl.secOf r).tag:Nat),.slice A7 (Tl.secN r) c7] 150)
              have hLW:=((hL.keep hb2).keep hW0).keep hba
              have hbsW:=(hown7.bs.keep hW0).keep hba
              have hbWW:=zb (zb hbq hW0) hba
              have hbz:=hbWW.size
              have hn0:(W.drew.alloc (Obj.cells #[.int .u32 ((Tl.secOf r).tag:Nat),.slice A7 (Tl.secN r) c7] 150)).cell? ⟨W.heap.size,0,none⟩=some (.int .u32 ((Tl.secOf r).tag:Nat)):=zax W.drew _ _ _ _ rfl
              have hn1:(W.drew.alloc (Obj.cells #[.int .u32 ((Tl.secOf r).tag:Nat),.slice A7 (Tl.secN r) c7] 150)).cell? ⟨W.heap.size,1,none⟩=some (.slice A7 (Tl.secN r) c7):=zax W.drew _ _ _ _ rfl
              have hfar : 0 < Tl.secN r → ∀ g, (some (⟨b', off', none⟩ : Addr)).map (·.block) = some g → A7.map (·.block) ≠ some g := fun _ g h1 h2 => by
                have h3:=(hL.ge g h1).2
                have h4:=(hown7.ge g h2).1
                omega
              have hkeepS:∀ X:World,Below W.heap.size W X→X.cell? ⟨w1.heap.size,0,none⟩=some (.int .u32 ((Tl.secOf r).tag:Nat))∧X.cell? ⟨w1.heap.size,1,none⟩=some (.slice A7 (Tl.secN r) c7):=fun X h=>⟨zm hcl0 h,zm hcl1 h⟩
              have hrow:∀ g,(some (⟨b',off',none⟩:Addr)).map (·.block)=some g→w.heap.size≤g:=fun g h=>(hL.ge g h).1
              have hg1:w1.heap.size≠w.heap.size∨True:=.inr trivial
              have hrow2 : ∀ g, (some (⟨b', off', none⟩ : Addr)).map (·.block) = some g → g ≠ w1.heap.size := fun g h e => by
                have h3:=(hL.ge g h).2
                have h4:=hb2.size
                omega
              go_wp2_with fail
              go_region_held3 (fun w'=>w'.cell? ⟨w1.heap.size,0,none⟩=some (.int .u32 ((Tl.secOf r).tag:Nat))∧w'.cell? ⟨w1.heap.size,1,none⟩=some (.slice A7 (Tl.secN r) c7)) ((first | exact hkeepS _ (zr (Below.refl _ _)) | exact hkeepS _ hba | exact ⟨hg8.cell (hkeepS _ hba).1 (fun e=>hrow2 _ e.symm rfl),hg8.cell (hkeepS _ hba).2 (fun e=>hrow2 _ e.symm rfl)⟩)) (first | (refine zdm rfl _ _ 98 150 rfl Tryz.underlying98 Tryz.info150 w.heap.size (some ⟨b',off',none⟩) k c6 L W.heap.size ⟨(Tl.secOf r).tag,A7,Tl.secN r,c7,(Tl.secOf r).b⟩ (k+1) rfl rfl rfl hLW hn0 hn1 htl hbsW hfar hbz hkm ?_;intro A8 c8 w8 hown8 hg8 hat8) | fail)
              go_wp2_with fail
              go_roundw
              case rel=>exact ⟨k+1,by omega,by go_num,A9,_,_,_,rfl,hr9,A8,c8,_,rfl,hown8,hstep'.out hna _ rfl,zaJ hbWW hg8 hrow⟩
              case measure=>simp [intOf]<;>omega
        · have hx := qH ((hdE.out).trans (hinv.err hlt he))
          have he':=qH he
          go_wp2_with (go_at_call 142;refine (zha A5 n5 c5 r _ hrw hTr he'.out).mono ?_;rintro e w1 ⟨rfl,hb2⟩)
          refine bodyPost_ret (v:=.tuple #[.int .u32 0,.slice none 0 0,.iface 149 (.int .i64 (Tl.secE r:Nat))]) (by simp [results,Tryz.results73,go_sem]) rfl ?_
          exact DecP.bad hx.out he'.out (za (zb hbel hb2) _)
      · have hkm : k = m := by omega
        subst hkm
        obtain ⟨hf1,hf2⟩:=hinv.fin
        have hf1':=qH (hdE.out.trans hf1)
        have hf2':=qH (hdL.out.trans hf2)
        clear hf1 hf2 hinv hstart
        have hbr:=hB4 _ _ (hb.keep hbel)
        have hLl:=hL.len
        by_cases h0:r.length=0
        · have h0i : ¬ (0 : Int) < (n5 : Int) := by omega
          have hf3:=qH (hf1'.out.trans (if_pos h0))
          clear h0
          go_wp2_with (go_at_call 141;refine (hnum4'.out _ hbr).mono ?_;rintro e w3 ⟨rfl,rfl⟩)
          go_ret3
          exact .inl ⟨hf3.out,A6,c6,L,by rw [hLl];rfl,by rw [hLl];exact hL,hf2'.out.symm,hbel⟩
        · have h0i : (0 : Int) < (n5 : Int) := by omega
          have hf3:=qH (hf1'.out.trans (if_neg h0))
          clear h0
          go_wp2_with fail
          go_ret3
          exact DecP.bad hf3.out (by decide) hbel
  · have hx : Hid (Tl.decE l = Tl.wholeE l) := qH (by unfold Tl.decE; rw [if_pos hW])
    have hW':=qH hW
    go_enter Tryz.func73,Tryz.ntmps73
    go_wp2_with (go_at_call 140;refine (zgc A n c l _ hb hT).mono ?_;rintro e w1 ⟨V,rfl,hV,hb1⟩;obtain rfl:=hV.ne hW'.out)
    go_ret3
    exact DecP.bad hx.out hW'.out hb1
theorem zn4 {w w':World} {v:Nat} {l:List Tl.Sec} {e:Ending} (h:EncP w v l e w') (h0:Tl.encE l=0):∃ A1 c1,e=.returned (.tuple #[.slice A1 (Tl.size l) c1,.nilIface])∧Own w' w.heap.size 5 A1 (Tl.size l) c1 (Tl.file v l)∧Below w.heap.size w w':=by
 rcases h with ⟨_,h⟩ | ⟨h,_⟩
 · exact h
 · exact absurd h0 h
theorem zn5 {w w':World} {b:List Nat} {e:Ending} (h:DecP w b e w') (h0:Tl.decE b=0):∃ A1 c1 L,e=.returned (.tuple #[.int .u32 (Tl.decV b:Nat),.slice A1 (List.length L) c1,.nilIface])∧OwnS w' w.heap.size 150 A1 L.length c1 L∧secL L=Tl.decL b∧Below w.heap.size w w':=by
 rcases h with ⟨_,h⟩ | ⟨h,_⟩
 · exact h
 · exact absurd h0 h
theorem zmy {w w':World} {b:List Nat} {e:Ending} (h:DecP w b e w') (h0:Tl.decE b≠0):e=.returned (.tuple #[.int .u32 0,.slice none 0 0,.iface 149 (.int .i64 (Tl.decE b:Nat))])∧Below w.heap.size w w':=by
 rcases h with ⟨h,_⟩ | ⟨_,h⟩
 · exact absurd h h0
 · exact h
structure MachOk (w:World) (base x:Nat) (c:So.Config) (s:So.State) (Q I:So.Hdr) (Rs:List (So.Req×So.Hdr)) (G:RamG) (M:RamM):Prop where
 at_:MachAt w base x c s Q I Rs G M
 may:So.stateB c s=true
 ok:s.Ok
 cok:c.Ok
 pages:(M.n:Int)=c.pages
theorem MachOk.keep {w w1:World} {base x:Nat} {c:So.Config} {s:So.State} {Q I:So.Hdr} {Rs:List (So.Req×So.Hdr)} {G:RamG} {M:RamM} (h:MachOk w base x c s Q I Rs G M) (hb:Below w.heap.size w w1):MachOk w1 base x c s Q I Rs G M:=⟨h.at_.keep hb,h.may,h.ok,h.cok,h.pages⟩
theorem MachOk.fit {w:World} {base x:Nat} {c:So.Config} {s:So.State} {Q I:So.Hdr} {Rs:List (So.Req×So.Hdr)} {G:RamG} {M:RamM} (h:MachOk w base x c s Q I Rs G M):So.Fit c s:=So.fit_of h.may h.cok h.ok
theorem zk9 {c:So.Config} {s:So.State} (h:So.Fit c s):zg1 s:=⟨by have:=h.q;omega,by have:=h.ins;omega,fun r hr=>by have:=(h.req r hr).2.1;omega⟩
theorem zla {G:RamG} {M:RamM} (i:Nat) (v:Value) (h:(ramV G M)[i]?=some v):∀ x:Int,v≠Value.int .u8 x:=by
 intro x e
 subst e
 unfold ramV at h
 match i,h with
 | 0,h=>simp at h
 | 1,h=>simp at h
 | 2,h=>simp at h
 | 3,h=>simp at h
 | 4,h=>simp at h
 | 5,h=>simp at h
 | 6,h=>simp at h;split at h<;>simp at h
 | i+7,h=>simp at h
theorem TabW.kept {S:Nat→Prop} {w w1:World} (h:TabW w) (k:Kept S w w1) (hn:¬ S 2):TabW w1:=⟨fun i hi=>k.cell (h.cell i hi) hn⟩
theorem TabW.ram {w:World} {G:RamG} {M:RamM} (h:TabW w) (hR:Blk w G.p (ramV G M) 240):2≠G.p:=fun e=>by
 have h1:=h.cell 0 (by decide)
 have h2:=hR.cell 0 rfl
 rw [←e,h1] at h2
 cases h2
theorem RegW.ram {w:World} {G:RamG} {M:RamM} (h:RegW w) (hR:Blk w G.p (ramV G M) 240):1≠G.p:=fun e=>by
 have h1:=(h 1 (by decide) (by decide)).1
 have h2:=hR.cell 4 rfl
 rw [←e,h1] at h2
 cases h2
theorem OwnS.ram {w w1:World} {base:Nat} {A:Option Addr} {n c:Nat} {L:List SecV} {G:RamG} {M:RamM} (h:OwnS w base 150 A n c L) (hR:Blk w G.p (ramV G M) 240) (k:Kept (fun i=>i=G.p) w w1):OwnS w1 base 150 A n c L :=
 ⟨(RowE.kept (⟨h.own⟩:RowE w base 150 2 A n c (zX L)) k (fun b hb e=>RowE.far ⟨h.own⟩ hR (by decide) (by rw [hb,e]))).own,fun s hs=>⟨(h.ok s hs).1,(h.ok s hs).2.far k (fun h0 b hb e=>(h.ok s hs).2.apart hR zla h0 (by rw [hb];exact congrArg some e))⟩,h.far,h.max⟩
theorem RamAt.row {w:World} {G:RamG} {M:RamM} (h:RamAt w G M) {b sz n c:Nat} {e:TypeId} {A:Option Addr} {xs:List Value} (r:RowE w b e sz A n c xs) (h1:240≠e) (h2:238≠e) (h3:3≠e) (h4:5≠e):∀ j,G.has M j→¬ A.map (·.block)=some j:=by
 intro j hj
 rcases hj with rfl | rfl | rfl | ⟨hd,rfl⟩ | ⟨i,hi,hs,rfl⟩
 · exact r.far h.ram h1
 · exact r.far h.pages h2
 · exact r.far h.dirty h3
 · exact r.far (h.blank hd) h4
 ·
  obtain ⟨l,hl⟩:=Option.isSome_iff_exists.1 hs
  exact r.far (h.page i l hi hl).1 h4
theorem MachAt.harm {w w1:World} {base x:Nat} {c:So.Config} {s:So.State} {Q I:So.Hdr} {Rs:List (So.Req×So.Hdr)} {G:RamG} {M:RamM} (h:MachAt w base x c s Q I Rs G M) (k:Kept (fun i=>i=G.p) w w1) {z:Nat} {d:Bool} (hR:RamAt w1 { G with z:=z } { M with done:=d }):MachAt w1 base x c s Q I Rs { G with z:=z } { M with done:=d } :=
 ⟨h.blk.kept k (h.blk.apart h.ram.ram (by decide)),h.lists.off k h.ram.ram (by decide) (by decide) (by decide),hR⟩
def EncM (w:World) (base x:Nat) (c:So.Config) (s:So.State) (Q I:So.Hdr) (Rs:List (So.Req×So.Hdr)) (G:RamG) (M:RamM) (e:Ending) (w':World):Prop :=
 ∃ A n k z d,e=.returned (.tuple #[.slice A n k,.nilIface])∧Own w' w.heap.size 5 A n k (zey c s M)∧MachOk w' base x c s Q I Rs { G with z:=z } { M with done:=d }∧Kept (fun k=>k=G.p) w w'
theorem zh2 {c:So.Config} {s:So.State} {M:RamM} {L:List SecV} {A:Option Addr} {n k:Nat} (h:secL L=(So.parts c s).zipIdx.map (fun x=>⟨x.2+1,x.1⟩)):secL (L++[⟨14,A,n,k,zN M⟩])=za4 c s M:=by
 rw [zcU,show secL (L++[⟨14,A,n,k,zN M⟩])=secL L++[⟨14,zN M⟩] by simp [secL,SecV.sec],h]
 rfl
theorem zeq (base x:Nat) (c:So.Config) (s:So.State) (Q I:So.Hdr) (Rs:List (So.Req×So.Hdr)) (G:RamG) (M:RamM) (w:World) (h:MachOk w base x c s Q I Rs G M) (hT:TabW w):Calls Tryz.prog 19 #[.pointer (some ⟨x,0,none⟩)] w (EncM w base x c s Q I Rs G M):=by
 have H:=qH h
 have HT:=qH hT
 have HF:=qH h.fit
 have HS:=qH (zk9 h.fit)
 have HP:=qH (zeS M h.at_.ram.max (RamM.at_len h.at_.ram))
 have hgp:G.p<w.heap.size:=h.at_.ram.ram.lt
 clear h hT
 go_enter Tryz.func19,Tryz.ntmps19
 go_wp2_with (first
  | (go_at_call 22;refine (zaU H.out.at_).mono ?_;rintro e w1 ⟨rfl,hb1⟩)
  | (go_at_call 23;refine (zhS (H.out.at_.keep hb1) HS.out).mono ?_;rintro e w2 ⟨⟨QA,qn,qc⟩,⟨IA,im,ic⟩,Rs2,rfl,hl2,hb2⟩;have hB2:=zb hb1 hb2;have hqn:Hid (qn=s.q.length):=qH hl2.qn;have him:Hid (s.b.ins.length=im):=qH (hl2.reqs HS.out).len)
  | (go_at_call 13;refine (zkW c s QA qn qc IA im ic _ (hl2.posts HS.out) (hl2.reqs HS.out) H.out.ok H.out.cok (by have:=HF.out.q;have:=hqn.out;omega) (Nat.le_trans (So.ins_len s.b.ins HF.out.ins (fun r hr=>(HF.out.req r hr).2.1)) (by decide)) (by have:=HF.out.ins;have:=him.out;omega)).mono ?_;rintro e w3 ⟨A,k,L,rfl,hown3,hsec,hb3⟩;have hB3:=zb hB2 hb3;have Hsec:=qH hsec;clear hsec)
  | (go_at_call 34;refine (zmZ (H.out.at_.keep hB3)).mono ?_;rintro e w4 ⟨rfl,hb4⟩;have hB4:=zb hB3 hb4)
  | (go_at_call 30;refine (zcG G M _ (H.out.at_.ram.keep hB4)).mono ?_;rintro e w5 ⟨A5,n5,c5,z,d,rfl,hown5,hR5,hk5⟩;have hrb:=(H.out.at_.ram.keep hB4).ram;have hS5:=(hown3.keep hb4).ram hrb hk5;have hn5:=qH hown5.len;have hbT:=za (Below.refl w5.heap.size w5) (.cells #[.int .u32 14,.slice A5 n5 c5] 150);have hT:=Blk.new w5 #[.int .u32 14,.slice A5 n5 c5] 150;have hn0:=hT.cell 0 rfl;have hn1:=hT.cell 1 rfl;have hz5:=Nat.le_trans hk5.size hbT.size)
  | (at_builtin;refine zeK rfl (.tmp 13) (.tmp 18) 98 150 rfl Tryz.underlying98 Tryz.info150 w2.heap.size A 13 k L w5.heap.size ⟨14,A5,n5,c5,zN M⟩ 14 rfl rfl rfl (hS5.keep hbT) hn0 hn1 (show 14<4294967296 by decide) (hown5.bs.keep hbT) (fun h0 q hq e=>by have h1:=(hown3.ge q hq).2;have h2:=(hown5.ge q e).1;have:=hb4.size;omega) (Nat.le_trans hb3.size (Nat.le_trans hb4.size hz5)) (by decide) ?_;intro A6 c6 w6 hown6 hg6 hat6)
  | (go_at_call 75;have hk6:Kept (fun i=>i=G.p) w w6:=((((Kept.of_below hB4).trans hk5).alloc _).grown_ hg6 (fun q hq e=>by have:=(hown3.ge q e).1;have:=hB2.size;omega));refine (zil 3 A6 14 c6 _ _ hown6.secs (HT.out.kept hk6 (HT.out.ram H.out.at_.ram.ram)) (by decide) (by rw [zh2 Hsec.out];exact Nat.le_trans (zeT HF.out HP.out) (by decide))).mono ?_;rintro e w8 h8;rw [zh2 Hsec.out] at h8;obtain ⟨A8,c8,rfl,hown8,hb8⟩:=zn4 h8 (zga HF.out HP.out))
  | fail)
 go_ret2
 have hR6:=(hR5.keep hbT).kept (Kept.of_grown hg6 (fun k _ e=>e)) ((hR5.keep hbT).row ⟨(hS5.keep hbT).own⟩ (by decide) (by decide) (by decide) (by decide))
 exact ⟨A8,_,c8,z,d,rfl,hown8.lower hk6.size,⟨(H.out.at_.harm hk6 hR6).keep hb8,H.out.may,H.out.ok,H.out.cok,H.out.pages⟩,hk6.below_ hb8⟩
def decM (b:List Nat):Except Nat (So.Config×So.State×(Nat→Option (List Nat))) :=
 if Tl.decE b≠0 then .error (Tl.decE b)
 else if Tl.decV b≠3 then .error 30
 else if (Tl.decL b).length≠14∨Tl.tagAt (Tl.decL b) 13≠14 then .error 31
 else if (zJ ((Tl.decL b).take 13)).1≠0 then .error (zJ ((Tl.decL b).take 13)).1
 else match Fl.fill (zJ ((Tl.decL b).take 13)).2.1.pages.toNat ((Tl.decL b).getD 13 ⟨0,[]⟩).b with
  | none=>.error 3
  | some pg=>.ok ((zJ ((Tl.decL b).take 13)).2.1,(zJ ((Tl.decL b).take 13)).2.2,pg)
theorem zlb {b:List Nat} (h:Tl.decE b≠0):decM b=.error (Tl.decE b):=by unfold decM;rw [if_pos h]
theorem zm4 {b:List Nat} (h:Tl.decE b=0) (hv:Tl.decV b≠3):decM b=.error 30:=by unfold decM;rw [if_neg (by simp [h]),if_pos hv]
theorem zh3 {b:List Nat} (h:Tl.decE b=0) (hv:Tl.decV b=3) (hl:(Tl.decL b).length≠14∨Tl.tagAt (Tl.decL b) 13≠14):decM b=.error 31:=by unfold decM;rw [if_neg (by simp [h]),if_neg (by simp [hv]),if_pos hl]
theorem zm5 {b:List Nat} (h:Tl.decE b=0) (hv:Tl.decV b=3) (hl:(Tl.decL b).length=14) (ht:Tl.tagAt (Tl.decL b) 13=14) (hw:(zJ ((Tl.decL b).take 13)).1≠0):decM b=.error (zJ ((Tl.decL b).take 13)).1:=by
 unfold decM;rw [if_neg (by simp [h]),if_neg (by simp [hv]),if_neg (by simp [hl,ht]),if_pos hw]
theorem zh4 {b:List Nat} (h:Tl.decE b=0) (hv:Tl.decV b=3) (hl:(Tl.decL b).length=14) (ht:Tl.tagAt (Tl.decL b) 13=14) {c:So.Config} {s:So.State} (hw:zJ ((Tl.decL b).take 13)=(0,c,s)) {p:List Nat} (hp:(Tl.decL b).getD 13 ⟨0,[]⟩=⟨14,p⟩):decM b=match Fl.fill c.pages.toNat p with | none=>.error 3 | some pg=>.ok (c,s,pg):=by
 unfold decM;rw [if_neg (by simp [h]),if_neg (by simp [hv]),if_neg (by simp [hl,ht]),hw,if_neg (by simp),hp]
theorem zgd {l:List Tl.Sec} (hl:∀ s∈l,Tl.Small s.b) (h:(zJ l).1=0):So.stateB (zJ l).2.1 (zJ l).2.2=true∧So.Told (zJ l).2.1 (zJ l).2.2∧So.parts (zJ l).2.1 (zJ l).2.2=l.map (·.b)∧zc9 l=true:=by
 cases ht:zc9 l with
 | false=>unfold zJ at h;rw [ht] at h;simp at h
 | true =>
  have h13:(l.map (·.b)).length=13:=by
   unfold zc9 at ht
   simp only [Bool.and_eq_true,decide_eq_true_eq] at ht
   rw [List.length_map]
   exact ht.1
  cases hs:So.sections 1 (l.map (·.b)) So.zConfig So.zState with
  | none=>unfold zJ at h;rw [ht,if_pos rfl,hs] at h;simp at h
  | some x =>
   have e:zJ l=if So.stateB x.1 x.2=true then (0,x.1,x.2) else (33,So.zConfig,So.zState):=by unfold zJ;rw [ht,if_pos rfl,hs]
   cases hb:So.stateB x.1 x.2 with
   | false=>rw [e,hb] at h;simp at h
   | true =>
    rw [hb,if_pos rfl] at e
    rw [e]
    obtain ⟨g1,g2⟩:=So.sections_good (l:=l.map (·.b)) (c:=x.1) (s:=x.2) h13 (fun b hb=>by
     obtain ⟨y,hy,rfl⟩:=List.mem_map.1 hb
     exact hl y hy) hs
    exact ⟨hb,g2,g1,rfl⟩
theorem zeW {c:So.Config} {s:So.State} (h:So.Told c s):zg1 s:=⟨by have:=h.q;omega,by have:=h.ins;omega,fun r hr=>by have:=(h.req r hr).2.1;omega⟩
def DecM (w:World) (b:List Nat) (e:Ending) (w':World):Prop:=match decM b with
 | .error n=>e=.returned (.tuple #[.pointer none,.iface 149 (.int .i64 (n:Int))])∧Below w.heap.size w w'
 | .ok r=>∃ x Q I Rs G M,e=.returned (.tuple #[.pointer (some ⟨x,0,none⟩),.nilIface])∧MachOk w' w.heap.size x r.1 r.2.1 Q I Rs G M∧M.pg=r.2.2∧(∀ i,M.dirty i=false)∧RamNew w G M∧w.heap.size≤x∧Below w.heap.size w w'
theorem DecM.err {w w':World} {b:List Nat} {n:Nat} (h:decM b=.error n) (hb:Below w.heap.size w w'):DecM w b (.returned (.tuple #[.pointer none,.iface 149 (.int .i64 (n:Int))])) w':=by
 unfold DecM
 rw [h]
 exact ⟨rfl,hb⟩
theorem Secs.take {w:World} {A:Option Addr} {n c:Nat} {L:List SecV} (h:Secs w A n c L) (k:Nat) (hk:k≤n):Secs w A k c (L.take k) :=
 ⟨by rw [List.length_take,h.len];omega,Nat.le_trans hk h.cap,Nat.le_trans hk h.max,fun s hs=>h.ok s (List.mem_of_mem_take hs),fun j s hj=>by
  rw [List.getElem?_take] at hj
  split at hj
  · exact h.cells j s hj
  · cases hj⟩
theorem zlc (L:List SecV) (k:Nat):secL (L.take k)=(secL L).take k:=by unfold secL;rw [List.map_take]
def zpM (w:World) (b:List Nat) (v m:Nat) (e:Ending) (w':World):Prop:=∃ A c L,e=.returned (.tuple #[.int .u32 (v:Int),.slice A m c,.nilIface])∧OwnS w' w.heap.size 150 A m c L∧secL L=Tl.decL b∧Below w.heap.size w w'
theorem zbB (A:Option Addr) (n c:Nat) (b:List Nat) (v m:Nat) (w:World) (hb:Bs w A n c b) (hT:TabW w) (hE:Tl.decE b=0) (hv:Tl.decV b=v) (hm:(Tl.decL b).length=m):Calls Tryz.prog 73 #[.slice A n c] w (zpM w b v m) :=
 (zeV A n c b w hb hT).mono (fun e w' h=>by
  obtain ⟨A1,c1,L,rfl,ho,hs,hbe⟩:=zn5 h hE
  have hl:L.length=m:=by rw [←hm,←hs,zae]
  rw [hl] at ho
  exact ⟨A1,c1,L,by rw [hv,hl],ho,hs,hbe⟩)
theorem zld (A:Option Addr) (n c:Nat) (b:List Nat) (w:World) (hb:Bs w A n c b) (hT:TabW w) (hE:Tl.decE b≠0):Calls Tryz.prog 73 #[.slice A n c] w fun e w'=>e=.returned (.tuple #[.int .u32 0,.slice none 0 0,.iface 149 (.int .i64 (Tl.decE b:Nat))])∧Below w.heap.size w w' :=
 (zeV A n c b w hb hT).mono (fun e w' h=>zmy h hE)
theorem zpN (A:Option Addr) (n c:Nat) (b:List Nat) (w:World) (hb:Bs w A n c b) (hT:TabW w) (hE:Tl.decE b≠0):Calls Tryz.prog 18 #[.slice A n c] w (DecM w b):=by
 have hD:=qH (zld A n c b w hb hT hE)
 have HE:=qH (fun w'=>DecM.err (w:=w) (w':=w') (zlb hE))
 clear hE hT hb
 go_enter Tryz.func18,Tryz.ntmps18
 go_wp2_with (first | (go_at_call 73;refine hD.out.mono ?_;rintro e w1 ⟨rfl,hb1⟩) | fail)
 go_ret2
 exact HE.out _ hb1
theorem zpO (A:Option Addr) (n c:Nat) (b:List Nat) (w:World) (hb:Bs w A n c b) (hT:TabW w) (hE:Tl.decE b=0) (hV:Tl.decV b≠3):Calls Tryz.prog 18 #[.slice A n c] w (DecM w b):=by
 obtain ⟨v,hv⟩:=qX (Tl.decV b)
 obtain ⟨m,hm⟩:=qX ((Tl.decL b).length)
 have hD:=qH (zbB A n c b v m w hb hT hE hv hm)
 have HE:=qH (fun w'=>DecM.err (w:=w) (w':=w') (zm4 hE hV))
 have hv1:¬ v=3:=by rw [←hv];exact hV
 have hv2:¬ (v:Int)=3:=by omega
 clear hE hT hb hV hv hm hv1
 go_enter Tryz.func18,Tryz.ntmps18
 go_wp2_with (first | (go_at_call 73;refine hD.out.mono ?_;rintro e w1 ⟨A1,c1,L,rfl,ho,hs,hb1⟩;clear hs) | fail)
 go_ret2
 exact HE.out _ hb1
theorem zpP (A:Option Addr) (n c:Nat) (b:List Nat) (w:World) (hb:Bs w A n c b) (hT:TabW w) (hE:Tl.decE b=0) (hV:Tl.decV b=3) (hL:(Tl.decL b).length≠14):Calls Tryz.prog 18 #[.slice A n c] w (DecM w b):=by
 obtain ⟨m,hm⟩:=qX ((Tl.decL b).length)
 have hD:=qH (zbB A n c b 3 m w hb hT hE hV hm)
 have HE:=qH (fun w'=>DecM.err (w:=w) (w':=w') (zh3 hE hV (.inl hL)))
 have hv1:¬ m=14:=by rw [←hm];exact hL
 have hv2:¬ (m:Int)=14:=by omega
 have hv3:((m:Int) != 14)=true:=by simp [hv2]<;>omega
 clear hE hT hb hV hm hv1 hL
 go_enter Tryz.func18,Tryz.ntmps18
 go_wp2_with (first | (go_at_call 73;refine hD.out.mono ?_;rintro e w1 ⟨A1,c1,L,rfl,ho,hs,hb1⟩;clear hs) | fail)
 go_ret2
 exact HE.out _ hb1
theorem zca {w:World} {base c:Nat} {A:Option Addr} {L:List SecV} (h:OwnS w base 150 A 14 c L):∃ g x,A=some ⟨g,0,none⟩∧L[13]?=some x∧w.cell? ⟨g,26,none⟩=some (.int .u32 (x.tag:Int))∧w.cell? ⟨g,27,none⟩=some (.slice x.A x.n x.c)∧Bs w x.A x.n x.c x.b:=by
 obtain ⟨g,rfl,_,_,_,hr⟩:=RowE.form (⟨h.own⟩:RowE w base 150 2 A 14 c (zX L)) (by decide)
 have hl:L.length=14:=h.len
 have h13:L[13]?=some (L[13]'(by omega)):=List.getElem?_eq_getElem (by omega)
 obtain ⟨k0,k1⟩:=zbN L 13 _ h13
 refine ⟨g,_,rfl,h13,?_,?_,(h.ok _ (List.getElem_mem _)).2⟩
 · have:=hr 26 _ k0;rwa [Nat.zero_add] at this
 · have:=hr 27 _ k1;rwa [Nat.zero_add] at this
theorem zpQ (A:Option Addr) (n c:Nat) (b:List Nat) (w:World) (hb:Bs w A n c b) (hT:TabW w) (hE:Tl.decE b=0) (hV:Tl.decV b=3) (hL:(Tl.decL b).length=14) (hG:Tl.tagAt (Tl.decL b) 13≠14):Calls Tryz.prog 18 #[.slice A n c] w (DecM w b):=by
 have hD:=qH (zbB A n c b 3 14 w hb hT hE hV hL)
 have HE:=qH (fun w'=>DecM.err (w:=w) (w':=w') (zh3 hE hV (.inr hG)))
 have HG:=qH hG
 clear hE hT hb hV hL hG
 go_enter Tryz.func18,Tryz.ntmps18
 go_upto_region 2 with (first | (go_at_call 73;refine hD.out.mono ?_;rintro e w1 ⟨A1,c1,L,rfl,ho,hs,hb1⟩) | fail)
 obtain ⟨g,x,rfl,hx,k26,k27,_⟩:=zca ho
 have hne:¬ (x.tag:Int)=14:=by
  have h1:=zaP hx
  rw [hs] at h1
  have h2:=HG.out
  rw [h1] at h2
  omega
 have hne2:((x.tag:Int) != 14)=true:=by simp [hne]<;>omega
 clear hs hx ho k27
 go_wp2_with fail
 go_ret2
 exact HE.out _ hb1
end Go.Proofs.YtdffbihilhkkjaaGreatDoor
