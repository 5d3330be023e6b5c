import Derived.Test.YtdffbihilhkkjaaGreatDoorZ2
import Derived.Test.YtdffbihilhkkjaaGreatDoorProg
import Derived.ProofKit
import Derived.OpenShut
import Derived.Deep.DeepHandedRow
import Derived.Lib.LaidTab
import Derived.SizedLaws
import Derived.ChangeSlices
import Derived.LaidHandle
import Derived.Deep.Slices
import Derived.Deep.Fields
import Derived.ChangeSame
namespace Go.Proofs.YtdffbihilhkkjaaGreatDoor
open Go.ChangeAt Go.ChangeShapes Go.Deep Go.RowKit Go.WideShapes
set_option linter.unusedVariables false
set_option linter.unusedSimpArgs false
set_option maxRecDepth 100000
set_option maxHeartbeats 8000000
namespace Op
theorem zfr {k:IntKind} {x:Int} (h:(Lit.int k x).wf=true):k.min≤x∧x≤k.max:=by simpa [Lit.wf] using h
section
variable {H:Type} {enc:TypeId×Value→H} {P:Program} {w:World} {base:Nat} {spare:Nat→Bool} {held:Bool}
def Sz (P:Program) (t:TypeId) (d:DataW H):Prop:=∀ n∈d.weights P t,n≤reachBytes
theorem sz_top {ts:List TypeId} {ds:List (DataW H)} (h:(DataW.weightsEach P ts ds).all (·≤reachBytes)=true) {j:Nat} {t:TypeId} {d:DataW H} (ht:ts[j]?=some t) (hd:ds[j]?=some d):Sz P t d:=by
 intro n hn
 have:=List.all_eq_true.1 h n (DataW.weights_mem_each ht hd n hn)
 simpa using this
theorem zmH {t e:TypeId} {elems sp:List (DataW H)} (hu:P.underlying t=some (.slice e)) (h:Sz P t (.slice elems sp)):(elems.length+sp.length)*P.bytesOf e≤reachBytes:=by
 refine h _ ?_
 simp [DataW.weights,hu]
end
section
variable {H:Type} {enc:TypeId×Value→H} {w:World} {base:Nat} {spare:Nat→Bool} {held:Bool}
theorem Tryz.cells5:Tryz.prog.cellsOf 5=1:=by kernel_rfl
theorem Tryz.bytes5:Tryz.prog.bytesOf 5=1:=by kernel_rfl
theorem zmI {fuel:Nat} {v:Value} {x:DataW H×List MemPlace} (h:DataW.trod enc Tryz.prog w base spare held fuel 65 [v]=some x) (hs:Sz Tryz.prog 65 x.1):∃ A n c l,v=.slice A n c∧Bs w A n c l:=by
 rcases open_ints Tryz.underlying65 Tryz.underlying5 Tryz.cells5 h with ⟨hcs,_⟩ | ⟨a,n,c,zs,hcs,_,hl,hm,hz,hx,hcell,hwz⟩
 ·
  obtain rfl:=List.singleton_inj.1 hcs
  exact ⟨none,0,0,[],rfl,Bs.nil _ _ _⟩
 ·
  obtain rfl:=List.singleton_inj.1 hcs
  subst hx
  have hl2:n≤zs.length:=by
   rw [hz]
   split
   · exact hl
   · exact Nat.le_refl _
  have z:=zmH Tryz.underlying65 hs
  rw [Tryz.bytes5] at z
  have h1:(lits (H:=H) .u8 (zs.take n)).length+(lits (H:=H) .u8 (zs.drop n)).length=zs.length:=by
   simp [lits]
   omega
  rw [h1] at z
  have hrb:reachBytes=140737488351232:=by rfl
  have hb8:∀ z∈zs,0≤z∧z<256:=fun z hz=>by
   have:=zfr (hwz z hz)
   simp [IntKind.min,IntKind.max,IntKind.signed,IntKind.bits] at this
   omega
  refine ⟨some a,n,c,(zs.take n).map Int.toNat,rfl,⟨by simp;omega,hl,by omega,?_,fun hn=>?_⟩⟩
  ·
   intro y hy
   obtain ⟨z,hz,rfl⟩:=List.mem_map.1 hy
   have:=hb8 z (List.mem_of_mem_take hz)
   omega
  ·
   obtain ⟨b,off,spot⟩:=a
   have hc0:=hcell 0 (by omega)
   have hspot:spot=none:=by simpa [Addr.add] using World.cell?_spot hc0
   subst hspot
   refine ⟨b,off,rfl,fun i hi=>?_⟩
   have hci:=hcell i (by omega)
   rw [zah] at hci
   rw [hci]
   have hi2:i<zs.length:=by omega
   have hz0:=hb8 zs[i] (List.getElem_mem hi2)
   simp [List.getD_eq_getElem?_getD,List.getElem?_eq_getElem hi2,List.getElem?_take,hi]
   omega
end
end Op
end Go.Proofs.YtdffbihilhkkjaaGreatDoor
