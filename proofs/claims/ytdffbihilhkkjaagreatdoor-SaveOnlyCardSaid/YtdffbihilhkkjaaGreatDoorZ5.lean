import Derived.Test.YtdffbihilhkkjaaGreatDoorZ2
import Derived.Test.YtdffbihilhkkjaaGreatDoorProg
import Derived.WalkKit
import Derived.LaidEql
import Derived.Stop.Asserts
import Derived.RowKitTokens
namespace Go.Proofs.YtdffbihilhkkjaaGreatDoor
open Go.Extern Go.Extern.Stop Go.RowKit Go.Stop
set_option linter.unusedVariables false
set_option linter.unusedSimpArgs false
set_option maxRecDepth 100000
set_option maxHeartbeats 8000000
namespace AsE
theorem zlv (t : Addr) (w : World) : (ReflectliteValue.unpack (.iface 205 (.pointer (some t)))).run Tryz.prog w
    = .ok (.agg #[.pointer (some ⟨3,205,none⟩),.pointer (some ⟨w.heap.size,0,none⟩),.int .u64 150]) (w.alloc (.cells #[.pointer (some t)] 205)):=by kernel_rfl
theorem zpd (a : Addr) (w : World) : (ReflectliteValue.methodAny (ReflectliteValue.valueError "reflectlite.Value.Type" 0) (fun t _ _ _ => ReflectliteType.toType t) #[.agg #[.pointer (some ⟨3, 205, none⟩), .pointer (some a), .int .u64 150]]).run Tryz.prog w
    = .ok (.iface 347 (.agg #[.pointer (some ⟨3,205,none⟩)])) w:=by kernel_rfl
theorem zia (h:Value) (w:World):(Go.method 543 347 (.agg #[h]) "Kind").run Tryz.prog w=.ok (256,h) w:=by kernel_rfl
theorem zpe (w:World):((ReflectliteType.abiMethod fun t=>(fun a:Nat=>Value.int IntKind.u8 (a:Int)) <$> Rtype.kind t) #[.pointer (some ⟨3,205,none⟩)]).run Tryz.prog w=.ok (.int .u8 22) w:=by kernel_rfl
theorem zpf (w:World):((ReflectliteType.abiMethod fun t=>(fun a:Nat=>Value.int IntKind.u8 (a:Int)) <$> Rtype.kind t) #[.pointer (some ⟨3,149,none⟩)]).run Tryz.prog w=.ok (.int .u8 2) w:=by kernel_rfl
theorem rlm (z : Sem Value) (f : TypeId → Addr → Nat → Nat → Sem Value) (v : Value) :
    ReflectliteValue.method z f #[v]=(do match ←ReflectliteValue.parts v with | none=>z | some (t,a,fl)=>f t a fl (fl%32)):=rfl
theorem zmS (a:Addr) (w:World):(ReflectliteValue.parts (.agg #[.pointer (some ⟨3,205,none⟩),.pointer (some a),.int .u64 150])).run Tryz.prog w=.ok (some (205,a,150)) w:=by kernel_rfl
theorem zok (a p : Addr) (W : World) (ha : W.cell? a = some (.pointer (some p))) :
    (ReflectliteValue.method (ReflectliteValue.valueError "reflectlite.Value.IsNil" 0) ReflectliteValue.isNil #[.agg #[.pointer (some ⟨3,205,none⟩),.pointer (some a),.int .u64 150]]).run Tryz.prog W=.ok (.bool false) W:=by
  rw [rlm]
  simp only [Sem.run_bind,zmS,Result.andThen]
  simp [ReflectliteValue.isNil,loadVar,isAgg,underlying,Tryz.underlying205,ha,Result.andThen]
theorem zib (h:Value) (w:World):(Go.method 543 347 (.agg #[h]) "Elem").run Tryz.prog w=.ok (271,.agg #[h]) w:=by kernel_rfl
theorem zdu (h:Value) (w:World):(Go.method 543 347 (.agg #[h]) "Implements").run Tryz.prog w=.ok (272,.agg #[h]) w:=by kernel_rfl
theorem zcC (h:Value) (w:World):(Go.method 543 347 (.agg #[h]) "AssignableTo").run Tryz.prog w=.ok (269,.agg #[h]) w:=by kernel_rfl
theorem zpg (w:World):(ReflectliteType.method ReflectliteType.elem #[.agg #[.pointer (some ⟨3,205,none⟩)]]).run Tryz.prog w=.ok (.iface 347 (.agg #[.pointer (some ⟨3,149,none⟩)])) w:=by kernel_rfl
theorem zgh (w:World):(ReflectliteType.relation "Implements" ReflectliteType.implements_ #[.agg #[.pointer (some ⟨3,149,none⟩)],.iface 347 (.agg #[.pointer (some ⟨3,95,none⟩)])]).run Tryz.prog w=.ok (.bool true) w:=by kernel_rfl
theorem zng (v:Value) (w:World):(ReflectliteType.typeOf #[.iface 149 v]).run Tryz.prog w=.ok (.iface 347 (.agg #[.pointer (some ⟨3,149,none⟩)])) w:=by kernel_rfl
theorem zgi (w:World):(ReflectliteType.relation "AssignableTo" ReflectliteType.assignableTo #[.agg #[.pointer (some ⟨3,149,none⟩)],.iface 347 (.agg #[.pointer (some ⟨3,149,none⟩)])]).run Tryz.prog w=.ok (.bool true) w:=by kernel_rfl
theorem zlw (x : Int) (w : World) : (ReflectliteValue.unpack (.iface 149 (.int .i64 x))).run Tryz.prog w
    = .ok (.agg #[.pointer (some ⟨3,149,none⟩),.pointer (some ⟨w.heap.size,0,none⟩),.int .u64 130]) (w.alloc (.cells #[.int .i64 x] 149)):=by kernel_rfl
theorem znh (w:World):(Rtype.elem? 205).run Tryz.prog w=.ok (some 149) w:=by kernel_rfl
theorem mkE (p:Addr) (w:World):(ReflectliteValue.mk 149 p ReflectliteValue.flagAddr).run Tryz.prog w=.ok (.agg #[.pointer (some ⟨3,149,none⟩),.pointer (some p),.int .u64 386]) w:=by kernel_rfl
theorem zph (a p : Addr) (W : World) (ha : W.cell? a = some (.pointer (some p))) :
    (ReflectliteValue.method (ReflectliteValue.valueError "reflectlite.Value.Elem" 0) ReflectliteValue.elem #[.agg #[.pointer (some ⟨3, 205, none⟩), .pointer (some a), .int .u64 150]]).run Tryz.prog W
      = .ok (.agg #[.pointer (some ⟨3,149,none⟩),.pointer (some p),.int .u64 386]) W:=by
  rw [rlm]
  simp only [Sem.run_bind,zmS,Result.andThen]
  simp [ReflectliteValue.elem,loadVar,isAgg,underlying,Tryz.underlying205,ha,Result.andThen,znh,mkE]
theorem rls (v x : Value) : ReflectliteValue.set #[v, x] = (do
    let (some (dst, a, fl), some (src, b, _)) := (← ReflectliteValue.parts v, ← ReflectliteValue.parts x)
      | unsupported (.noEntry "extern/(internal/reflectlite.Value).Set.zeroValue")
    if fl / ReflectliteValue.flagAddr%2==0 then unsupported (.noEntry "extern/(internal/reflectlite.Value).Set.unaddressable")
    let val ←loadVar src b
    if ←Rtype.directlyAssignable dst src then storeVar dst a val
    else if ← Rtype.implements dst src then
      if (← Rtype.kind src) == 20 then
        match val with
        | .nilIface=>unsupported (.noEntry "extern/reflectlite: a nil value of one interface type handed on as a value of another")
        | _=>storeVar dst a val
      else storeVar dst a (.iface src val)
    else panicString ("reflectlite.Set: value of type " ++ (←Rtype.spelt src) ++ " is not assignable to type " ++ (←Rtype.spelt dst))
    pure (.tuple #[])):=rfl
theorem zni (a:Addr) (w:World):(ReflectliteValue.parts (.agg #[.pointer (some ⟨3,149,none⟩),.pointer (some a),.int .u64 386])).run Tryz.prog w=.ok (some (149,a,386)) w:=by kernel_rfl
theorem zol (a:Addr) (w:World):(ReflectliteValue.parts (.agg #[.pointer (some ⟨3,149,none⟩),.pointer (some a),.int .u64 130])).run Tryz.prog w=.ok (some (149,a,130)) w:=by kernel_rfl
theorem znj (w:World):(Rtype.directlyAssignable 149 149).run Tryz.prog w=.ok true w:=by kernel_rfl
theorem setE (ta b : Addr) (x : Int) (old : Value) (W : World) (hb : W.cell? b = some (.int .i64 x)) (ht : W.cell? ta = some old) (hf : W.frozen? ta = false) :
    (ReflectliteValue.set #[.agg #[.pointer (some ⟨3, 149, none⟩), .pointer (some ta), .int .u64 386], .agg #[.pointer (some ⟨3, 149, none⟩), .pointer (some b), .int .u64 130]]).run Tryz.prog W
      = .ok (.tuple #[]) (W.setCell ta (.int .i64 x)):=by
  rw [rls]
  simp only [Sem.run_bind,zni,zol,Result.andThen]
  simp [ReflectliteValue.flagAddr,loadVar,isAgg,underlying,Tryz.underlying149,hb,Result.andThen,znj,storeVar,Value.cells,storeCells,Addr.add]
  rw [run_store Tryz.prog W ta _ _ (by rfl)]
  simp [ht,hf]
set_option maxRecDepth 100000 in
theorem as_hit (x : Int) (t : Addr) (old : Value) (w : World) (hg : w.cell? ⟨0, 0, none⟩ = some (.iface 347 (.agg #[.pointer (some ⟨3, 95, none⟩)]))) (ht0 : w.cell? t = some old) (hf0 : w.frozen? t = false) :
    Calls Tryz.prog 72 #[.iface 149 (.int .i64 x),.iface 205 (.pointer (some t))] w fun ev w'=>ev=.returned (.bool true)∧w'=((((w.alloc (.cells #[.pointer (some t)] 205)).alloc (.cells #[.pointer (some ⟨3,205,none⟩),.pointer (some ⟨w.heap.size,0,none⟩),.int .u64 150] 293)).alloc (.cells #[.pointer (some ⟨3,205,none⟩),.pointer (some ⟨w.heap.size,0,none⟩),.int .u64 150] 293)).alloc (.cells #[.int .i64 x] 149)).setCell t (.int .i64 x):=by
  have h6:=@run_callFunc_extern Tryz.prog 136 _ (fun args=>ReflectliteValue.unpack (args.getD 0 (.tuple #[]))) Tryz.func136 (by kernel_rfl) (by kernel_rfl) (by kernel_rfl) (by kernel_rfl)
  have h7:=@run_callFunc_extern Tryz.prog 137 _ (ReflectliteValue.methodAny (ReflectliteValue.valueError "reflectlite.Value.Type" 0) (fun t _ _ _=>ReflectliteType.toType t)) Tryz.func137 (by kernel_rfl) (by kernel_rfl) (by kernel_rfl) (by kernel_rfl)
  have h8:=@run_callFunc_extern Tryz.prog 138 _ (ReflectliteValue.method (ReflectliteValue.valueError "reflectlite.Value.IsNil" 0) ReflectliteValue.isNil) Tryz.func138 (by kernel_rfl) (by kernel_rfl) (by kernel_rfl) (by kernel_rfl)
  have h27:=@run_callFunc_extern Tryz.prog 256 _ (ReflectliteType.abiMethod fun t=>do pure (.int .u8 (←Rtype.kind t))) Tryz.func256 (by kernel_rfl) (by kernel_rfl) (by kernel_rfl) (by kernel_rfl)
  have h37:=@run_callFunc_extern Tryz.prog 271 _ (ReflectliteType.method ReflectliteType.elem) Tryz.func271 (by kernel_rfl) (by kernel_rfl) (by kernel_rfl) (by kernel_rfl)
  have h38:=@run_callFunc_extern Tryz.prog 272 _ (ReflectliteType.relation "Implements" ReflectliteType.implements_) Tryz.func272 (by kernel_rfl) (by kernel_rfl) (by kernel_rfl) (by kernel_rfl)
  have h10:=@run_callFunc_extern Tryz.prog 179 _ ReflectliteType.typeOf Tryz.func179 (by kernel_rfl) (by kernel_rfl) (by kernel_rfl) (by kernel_rfl)
  have h35:=@run_callFunc_extern Tryz.prog 269 _ (ReflectliteType.relation "AssignableTo" ReflectliteType.assignableTo) Tryz.func269 (by kernel_rfl) (by kernel_rfl) (by kernel_rfl) (by kernel_rfl)
  have h11:=@run_callFunc_extern Tryz.prog 180 _ (ReflectliteValue.method (ReflectliteValue.valueError "reflectlite.Value.Elem" 0) ReflectliteValue.elem) Tryz.func180 (by kernel_rfl) (by kernel_rfl) (by kernel_rfl) (by kernel_rfl)
  have h12:=@run_callFunc_extern Tryz.prog 181 _ ReflectliteValue.set Tryz.func181 (by kernel_rfl) (by kernel_rfl) (by kernel_rfl) (by kernel_rfl)
  have tO:=zng
  have mA:=zcC
  have aE:=zgi
  have vE:=zlw
  have f6:=zlv
  have f7:=zpd
  have mK:=zia
  have mE:=zib
  have mI:=zdu
  have kP:=zpe
  have kE:=zpf
  have eP:=zpg
  have iE:=zgh
  have n8:=zok ⟨w.heap.size,0,none⟩ t ((w.alloc (.cells #[.pointer (some t)] 205)).alloc (.cells #[.pointer (some ⟨3,205,none⟩),.pointer (some ⟨w.heap.size,0,none⟩),.int .u64 150] 293)) (by simp)
  have hlt:0<w.heap.size:=World.block_lt_of_cell? w _ hg
  have hg2 : ((w.alloc (.cells #[.pointer (some t)] 205)).alloc (.cells #[.pointer (some ⟨3, 205, none⟩), .pointer (some ⟨w.heap.size, 0, none⟩), .int .u64 150] 293)).cell? ⟨0, 0, none⟩ = some (.iface 347 (.agg #[.pointer (some ⟨3, 95, none⟩)])) := by
    rw [World.cell?_alloc_lt _ _ ⟨0,0,none⟩ (by simp<;>omega),World.cell?_alloc_lt _ _ ⟨0,0,none⟩ hlt];exact hg
  have htl:t.block<w.heap.size:=World.block_lt_of_cell? w _ ht0
  have el:=zph ⟨w.heap.size,0,none⟩ t (((w.alloc (.cells #[.pointer (some t)] 205)).alloc (.cells #[.pointer (some ⟨3,205,none⟩),.pointer (some ⟨w.heap.size,0,none⟩),.int .u64 150] 293)).alloc (.cells #[.pointer (some ⟨3,205,none⟩),.pointer (some ⟨w.heap.size,0,none⟩),.int .u64 150] 293)) (by rw [World.cell?_alloc_lt _ _ ⟨w.heap.size,0,none⟩ (by simp;omega)];simp)
  have st := setE t ⟨w.heap.size + 1 + 1 + 1, 0, none⟩ x old ((((w.alloc (.cells #[.pointer (some t)] 205)).alloc (.cells #[.pointer (some ⟨3, 205, none⟩), .pointer (some ⟨w.heap.size, 0, none⟩), .int .u64 150] 293)).alloc (.cells #[.pointer (some ⟨3, 205, none⟩), .pointer (some ⟨w.heap.size, 0, none⟩), .int .u64 150] 293)).alloc (.cells #[.int .i64 x] 149))
    (by rw [World.cell?_alloc_at _ _ _ _ (by simp)];rfl)
    (by rw [World.cell?_alloc_lt _ _ t (by simp;omega),World.cell?_alloc_lt _ _ t (by simp;omega),World.cell?_alloc_lt _ _ t (by simp;omega),World.cell?_alloc_lt _ _ t htl];exact ht0)
    (by rw [World.frozen?_alloc_old _ _ t (by simp;omega),World.frozen?_alloc_old _ _ t (by simp;omega),World.frozen?_alloc_old _ _ t (by simp;omega),World.frozen?_alloc_old _ _ t (Nat.ne_of_lt htl)];exact hf0)
  go_enter Tryz.func72,Tryz.ntmps72
  go_wp2
  refine wp_loop_rounds 1 ?_
  rw [rounds_succ]
  go_wp2
  go_ret
  exact ⟨rfl,rfl⟩
end AsE
structure ErrW (w:World):Prop where
 cell:w.cell? ⟨0,0,none⟩=some (.iface 347 (.agg #[.pointer (some ⟨3,95,none⟩)]))
theorem ErrW.keep {w w1:World} (h:ErrW w) (hb:Below w.heap.size w w1):ErrW w1:=⟨zm h.cell hb⟩
theorem ErrW.drew {w:World} (h:ErrW w):ErrW w.drew:=⟨h.cell⟩
theorem ErrW.drewN {w:World} (h:ErrW w) (k:Nat):ErrW (w.drewN k):=⟨h.cell⟩
inductive ErrV:Value→Int→Prop
 | none:ErrV .nilIface 0
 | num (x:Int):ErrV (.iface 149 (.int .i64 x)) x
theorem zjB (v:Value) (x:Int) (w:World) (hv:ErrV v x) (hE:ErrW w):Calls Tryz.prog 17 #[v] w fun e w'=>e=.returned (.int .i64 x)∧Below w.heap.size w w':=by
 cases hv with
 | none =>
  go_enter Tryz.func17,Tryz.ntmps17
  go_wp2
  go_ret
  exact ⟨rfl,za (Below.refl _ _) _⟩
 | num x =>
  have hg:=zao hE.cell (Obj.cells #[Value.int IntKind.i64 0] 149)
  have h1:=zax w #[Value.int IntKind.i64 0] 149 0 _ rfl
  have h2:(w.alloc (Obj.cells #[Value.int IntKind.i64 0] 149)).frozen? ⟨w.heap.size,0,none⟩=false:=by simp
  go_enter Tryz.func17,Tryz.ntmps17
  go_wp2_with (go_at_call 72;refine (AsE.as_hit x _ _ _ hg h1 h2).mono ?_;rintro e w' ⟨rfl,rfl⟩)
  go_ret
  refine ⟨by rfl,?_⟩
  repeat (first | exact Below.refl _ _ | refine za ?_ _ | refine zfv ?_ (Nat.le_refl _) _)
end Go.Proofs.YtdffbihilhkkjaaGreatDoor
