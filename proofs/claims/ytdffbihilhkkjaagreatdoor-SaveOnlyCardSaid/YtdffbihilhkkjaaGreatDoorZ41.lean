import Derived.Test.YtdffbihilhkkjaaGreatDoorZ5
import Derived.Test.YtdffbihilhkkjaaGreatDoorZ23
import Derived.Test.YtdffbihilhkkjaaGreatDoorZ40
import Derived.Test.YtdffbihilhkkjaaGreatDoorRows
import Derived.ProofKit
import Derived.OpenShut
import Derived.Deep.DeepHandedRow
import Derived.Lib.LaidTab
import Derived.SizedLaws
import Derived.ChangeSlices
import Derived.LaidHandle
namespace Go.Proofs.YtdffbihilhkkjaaGreatDoor
open Go.ChangeAt Go.ChangeShapes Go.RowKit Go.WideShapes
set_option linter.unusedVariables false
set_option linter.unusedSimpArgs false
set_option maxRecDepth 100000
set_option maxHeartbeats 8000000
theorem own:ownKnob Tryz.prog.godebug=none:=by kernel_rfl
theorem laidOut:laidOutB Tryz.prog=true:=by kernel_rfl
theorem gNib:Tryz.prog.globalNamed "pinnace/sum.nibbles" = some 2:=by kernel_rfl
theorem zmJ:(Tryz.prog.globals[2]?).map (·.type)=some 395:=by kernel_rfl
theorem gReg:Tryz.prog.globalNamed "pinnace/bus.regions" = some 1:=by kernel_rfl
theorem zmK:(Tryz.prog.globals[1]?).map (·.type)=some 365:=by kernel_rfl
theorem zmL:Tryz.prog.cellsOf 395=16:=by kernel_rfl
theorem zh6:Tryz.prog.cellsOf 22=1:=by kernel_rfl
theorem zmM:Tryz.prog.cellsOf 3=1:=by kernel_rfl
theorem zmN:Tryz.prog.cellsOf 364=3:=by kernel_rfl
theorem zlp:Tryz.prog.cellsOf 365=24:=by kernel_rfl
theorem zo6 {W:World} (h:Lib.TabIs Tryz.prog W "pinnace/sum.nibbles" .u32 (Crc.tab.map fun (x:Nat)=>(x:Int))):TabW W:=by
 refine ⟨fun i hi=>?_⟩
 have:=h.cell gNib i (by simpa [Crc.tab] using hi)
 rw [this]
 simp [List.getD_eq_getElem?_getD,List.getElem?_eq_getElem (show i<Crc.tab.length by simpa [Crc.tab] using hi)]
theorem zob {H : Type} {enc : TypeId × Value → H} {W : World} {base fuel : Nat} {sp : Nat → Bool} {held : Bool} {cs : List Value} {L : List (DataW H)} {p : List MemPlace} (h : DataW.trod enc Tryz.prog W base sp held fuel 365 cs = some (.agg L, p)) (d : Nat) (hd : d < 8) (a s y : Int) (hL : L[d]? = some (.agg [.lit (.int .u32 a), .lit (.int .u32 s), .lit (.int .i64 y)])) :
    cs[d*3+1]?=some (.int .u32 s)∧cs[d*3+2]?=some (.int .i64 y):=by
  cases fuel with
  | zero=>simp [DataW.trod] at h
  | succ fuel =>
    simp only [DataW.trod,Tryz.underlying365,zmN,zlp] at h
    split at h
    · obtain ⟨xs, hm, hx⟩ := Option.map_eq_some_iff.1 h
      have hxs : xs.map (·.1) = L := by
        have:=congrArg Prod.fst hx
        simpa using this
      obtain ⟨b,hb,hf⟩:=Lib.mapM_at hm d d (by simp [hd])
      have hb1 : b.1 = .agg [.lit (.int .u32 a), .lit (.int .u32 s), .lit (.int .i64 y)] := by
        have h1:(xs.map (·.1))[d]?=some b.1:=by rw [List.getElem?_map,hb];rfl
        rw [hxs,hL] at h1
        exact (Option.some.inj h1).symm
      obtain ⟨ys,n,_,hx',_,hl,hF⟩:=DataW.trod_struct Tryz.underlying364 hf
      rw [hx'] at hb1
      match ys,hl with
      | [y0, y1, y2], _ =>
        have f1:=hF 1 _ rfl
        have f2:=hF 2 _ rfl
        simp [zh6,zmM] at f1 f2
        obtain ⟨z1,c1,e1,_⟩:=DataW.trod_int Tryz.underlying22 f1
        obtain ⟨z2,c2,e2,_⟩:=DataW.trod_int Tryz.underlying3 f2
        simp [e1,e2] at hb1
        obtain ⟨_,rfl,rfl⟩:=hb1
        have g1:=congrArg (·[0]?) c1
        have g2:=congrArg (·[0]?) c2
        simp [List.getElem?_take,List.getElem?_drop] at g1 g2
        exact ⟨by simpa [Nat.add_comm,Nat.add_left_comm,Nat.add_assoc] using g1,by simpa [Nat.add_comm,Nat.add_left_comm,Nat.add_assoc] using g2⟩
    · cases h
theorem laid_all {W:World} (h:laidMetH Tryz.prog [("errors.errorType", Rows.laid_errors_errorType),("pinnace/bus.regions", Rows.laid_pinnace_bus_regions),("pinnace/sum.nibbles", Rows.laid_pinnace_sum_nibbles)] W):TabW W∧ErrW W∧RegW W:=by
 have h':laidMet Tryz.prog [("pinnace/bus.regions", Rows.laid_pinnace_bus_regions),("pinnace/sum.nibbles", Rows.laid_pinnace_sum_nibbles)] W∧handlesMet Tryz.prog [("errors.errorType", Rows.laid_errors_errorType)] W:=h
 obtain ⟨⟨ps,⟨g,t,cs,fuel,p,q,hg,ht,hvar,hd,hrest,hps⟩,hnd,hcell⟩,hh⟩:=h'
 obtain ⟨g2,t2,cs2,fuel2,p2,q2,hg2,ht2,hvar2,hd2,hrest2,hps2⟩:=hrest
 obtain rfl:=Option.some.inj (gReg.symm.trans hg)
 obtain rfl:=Option.some.inj (zmK.symm.trans ht)
 obtain rfl:=Option.some.inj (gNib.symm.trans hg2)
 obtain rfl:=Option.some.inj (zmJ.symm.trans ht2)
 refine ⟨zo6 ?_,⟨?_⟩,?_⟩
 ·
  unfold Lib.TabIs
  rw [hvar2,←Lib.cells_of_tab (zs:=Crc.tab.map fun (x:Nat)=>(x:Int)) (k:=.u32) Tryz.underlying395 Tryz.underlying22 zh6 zmL hd2]
 ·
  obtain ⟨name,u,ty,e1,e2,e3,e4,e5⟩:=hh _ (List.mem_singleton.2 rfl)
  have en:name=[101,114,114,111,114]:=(Option.some.inj e1).symm
  subst en
  have rtErr:(Tryz.prog.cutTypes.find? (·.1 == "internal/reflectlite.rtype")).map (·.2)=some 347:=by kernel_rfl
  have gErr:Tryz.prog.globalNamed "errors.errorType" = some 0:=by kernel_rfl
  have oneRowErr:((List.range Tryz.prog.types.size).filter fun t=>Tryz.prog.rowNamed t [101,114,114,111,114])=[95]:=by kernel_rfl
  obtain rfl:=Option.some.inj (rtErr.symm.trans e2)
  have hm:ty∈(List.range Tryz.prog.types.size).filter fun t=>Tryz.prog.rowNamed t [101,114,114,111,114]:=List.mem_filter.2 ⟨List.mem_range.2 e3,e4⟩
  rw [oneRowErr] at hm
  obtain rfl:=List.mem_singleton.1 hm
  have hh:typeHandle Tryz.prog 95=.pointer (some ⟨3,95,none⟩):=by kernel_rfl
  rw [hh] at e5
  simpa using World.var?_cell gErr e5 0
 ·
  intro d h1 h2
  have key:∀ (d:Nat) (a s y:Int),d<8→(match (Rows.laid_pinnace_bus_regions:DataW Unit) with | .agg L=>L[d]? | _=>none)=some (.agg [.lit (.int .u32 a),.lit (.int .u32 s),.lit (.int .i64 y)])→W.cell? ⟨1,d*3+1,none⟩=some (.int .u32 s)∧W.cell? ⟨1,d*3+2,none⟩=some (.int .i64 y):=fun d a s y hd' hL=>by
   obtain ⟨k1,k2⟩:=zob (L:=(match (Rows.laid_pinnace_bus_regions:DataW Unit) with | .agg L=>L | _=>[])) hd d hd' a s y hL
   have v1:=World.var?_cell gReg hvar (d*3+1)
   have v2:=World.var?_cell gReg hvar (d*3+2)
   exact ⟨by rw [v1];simpa using k1,by rw [v2];simpa using k2⟩
  have h:d=1∨d=2∨d=3∨d=4∨d=5∨d=6:=by omega
  rcases h with rfl | rfl | rfl | rfl | rfl | rfl
  · exact key 1 _ _ _ (by decide) rfl
  · exact key 2 _ _ _ (by decide) rfl
  · exact key 3 _ _ _ (by decide) rfl
  · exact key 4 _ _ _ (by decide) rfl
  · exact key 5 _ _ _ (by decide) rfl
  · exact key 6 _ _ _ (by decide) rfl
def zo7:Obj→Obj
 | .cells _ t frozen=>.cells (Crc.tab.map fun (x:Nat)=>Value.int .u32 (x:Int)).toArray t frozen
 | o=>o
def zo8:Obj→Obj
 | .cells _ t frozen=>.cells #[.iface 347 (.agg #[.pointer (some ⟨3,95,none⟩)])] t frozen
 | o=>o
def zo9:Obj→Obj
 | .cells _ t frozen=>.cells #[.int .u32 0,.int .u32 0,.int .i64 0,.int .u32 33554432,.int .u32 65536,.int .i64 4,.int .u32 201326592,.int .u32 4194304,.int .i64 4,.int .u32 268435456,.int .u32 8,.int .i64 1,.int .u32 268500992,.int .u32 256,.int .i64 4,.int .u32 268566528,.int .u32 512,.int .i64 4,.int .u32 268632064,.int .u32 512,.int .i64 4,.int .u32 2147483648,.int .u32 0,.int .i64 0] t frozen
 | o=>o
noncomputable def laidWorld (os:Os):World :=
 { World.holding Tryz.prog os ⟨#[],#[],[]⟩ with heap:=(((World.holding Tryz.prog os ⟨#[],#[],[]⟩).heap.modify 2 zo7).modify 0 zo8).modify 1 zo9 }
theorem laid_met (os:Os) (args:Array Value):laidMetH Tryz.prog [("errors.errorType", Rows.laid_errors_errorType),("pinnace/bus.regions", Rows.laid_pinnace_bus_regions),("pinnace/sum.nibbles", Rows.laid_pinnace_sum_nibbles)] ((laidWorld os).forCall (fun _ _=>0) ⟨#[],args,[]⟩).memory :=
 laidMetH_of_parts (laidMet_of_run' 18 (by kernel_rfl) (by kernel_rfl)) (by kernel_rfl)
end Go.Proofs.YtdffbihilhkkjaaGreatDoor
