/-
  NARROWER THAN 'FOR EVERY INPUT', by the rows' own cells (each row's printed sentence says how): SaveParts: laid · SaveOnly: laid · SavePages: laid · SaveFiles: laid.
  DERIVED. THE GIVEN ROWS OF THIS SEAT. 4 by the template 'for every input the law returns true; each argument reads behind the call as it read before'; 0 by the template 'total and deterministic' (their statements: YtdffbihilhkkjaaGreatDoorTotals.lean).
  GIVEN WITH THE SEED: the statements are not yours to turn. If you find one false, say at which input.
  Laid BY PROGRAM, IN A SANDBOX (cutbox-rows.mjs): the forced cells as the released guide's own fill.sh prints them over the translation eebf7a9b548a2afd… (all of the seat's roots in one cut). By AI agents, Wed Nov 11 2026. No macro, syntax, notation, axiom, sorry.
-/
import Derived.Test.YtdffbihilhkkjaaGreatDoorChecked
import GoSem.Claim
import GoSem.ClaimJoined
import GoSem.ClaimMapViews
import Derived.JoinedTies
import Derived.KernelRfl
namespace Go.Proofs.YtdffbihilhkkjaaGreatDoor
/- THE CELL 'sum', in the pinned program and in every row, IS THE sha256 OF THE DUMP (.gsa) THAT YtdffbihilhkkjaaGreatDoorProg.lean LOADS. Nothing in Lean hashes anything: it is a label: what it is worth is what the hold of that sum in a sandbox is worth. -/
noncomputable def Tryz.pinned : Pinned := { name := "ytdffbihilhkkjaagreatdoor", sum := "eebf7a9b548a2afd176e3ca28f036c77afc68467e7240f8fbf2bbeee0c4f1aaf", checked := Tryz.checked }
namespace Rows
def none {H : Type} : Left H := { results := [], args := [] }

/- WHAT THE LISTED PACKAGE-LEVEL VARIABLES READ AS WHEN THE CALL BEGINS. Each datum BY PROGRAM (the guide's laid-datum.mjs) off the statement by which the dump's own 'gosem.cut.vars' lays the variable. In a bare row this is a premise. The card (YtdffbihilhkkjaaGreatDoorCards.lean) ties it to the program's text. -/
def laid_errors_errorType {H : Type} : DataW H := .iface "internal/reflectlite.rtype" (.agg [.ptr (.lit (.string [101, 114, 114, 111, 114]))])
def laid_pinnace_bus_regions {H : Type} : DataW H := .agg [.agg [.lit (.int .u32 0), .lit (.int .u32 0), .lit (.int .i64 0)], .agg [.lit (.int .u32 33554432), .lit (.int .u32 65536), .lit (.int .i64 4)], .agg [.lit (.int .u32 201326592), .lit (.int .u32 4194304), .lit (.int .i64 4)], .agg [.lit (.int .u32 268435456), .lit (.int .u32 8), .lit (.int .i64 1)], .agg [.lit (.int .u32 268500992), .lit (.int .u32 256), .lit (.int .i64 4)], .agg [.lit (.int .u32 268566528), .lit (.int .u32 512), .lit (.int .i64 4)], .agg [.lit (.int .u32 268632064), .lit (.int .u32 512), .lit (.int .i64 4)], .agg [.lit (.int .u32 2147483648), .lit (.int .u32 0), .lit (.int .i64 0)]]
def laid_pinnace_sum_nibbles {H : Type} : DataW H := .agg [.lit (.int .u32 0), .lit (.int .u32 79764919), .lit (.int .u32 159529838), .lit (.int .u32 222504665), .lit (.int .u32 319059676), .lit (.int .u32 398814059), .lit (.int .u32 445009330), .lit (.int .u32 507990021), .lit (.int .u32 638119352), .lit (.int .u32 583659535), .lit (.int .u32 797628118), .lit (.int .u32 726387553), .lit (.int .u32 890018660), .lit (.int .u32 835552979), .lit (.int .u32 1015980042), .lit (.int .u32 944750013)]

/-- 'pinnacelaw20.SaveParts': WHATEVER THE INPUT: true; the input reads as it did. -/
def savePartsSpec : ChangeSpec := { name := "saveParts", fn := fun _ => fun
  | [d1, d2, d3] => { results := [.lit (.bool true)], args := [d1, d2, d3] }
  | _ => none }
def savePartsRow : OpenClaim := { program := "ytdffbihilhkkjaagreatdoor", sum := "eebf7a9b548a2afd176e3ca28f036c77afc68467e7240f8fbf2bbeee0c4f1aaf", func := "pinnace/pinnacelaw20.SaveParts", spec := "saveParts", inPlace := ["sync/atomic.AddInt64", "sync/atomic.LoadUint32", "(*internal/sync.Mutex).Lock", "internal/race.Disable", "sync/atomic.CompareAndSwapInt32", "internal/race.Enable", "internal/race.Acquire", "(*internal/sync.Mutex).lockSlow", "internal/sync.runtime_canSpin", "internal/sync.runtime_doSpin", "internal/sync.throw", "internal/sync.runtime_nanotime", "internal/sync.runtime_SemacquireMutex", "sync/atomic.AddInt32", "(*internal/sync.Mutex).Unlock", "internal/race.ReleaseMerge", "(*internal/sync.Mutex).unlockSlow", "internal/sync.fatal", "internal/sync.runtime_Semrelease", "sync/atomic.StoreUint32", "internal/reflectlite.ValueOf", "(internal/reflectlite.Value).Type", "(internal/reflectlite.Value).IsNil", "internal/reflectlite.TypeOf", "(internal/reflectlite.Value).Elem", "(internal/reflectlite.Value).Set"], unfollowed := true, recurses := true, named := ["pinnace/sum.nibbles", "pinnace/bus.regions", "errors.errorType"], apart := false, laid := [("errors.errorType", laid_errors_errorType), ("pinnace/bus.regions", laid_pinnace_bus_regions), ("pinnace/sum.nibbles", laid_pinnace_sum_nibbles)] }
def SavePartsSaid : Prop := savePartsRow.holds Tryz.pinned (OpenSpec.ofChange savePartsSpec)

/-- ITS FALSE NEIGHBOUR: 'it returns false'. Refute it at one input. -/
def savePartsWrong : ChangeSpec := { name := "saveParts", fn := fun _ => fun
  | [d1, d2, d3] => { results := [.lit (.bool false)], args := [d1, d2, d3] }
  | _ => none }
def SavePartsWrongFalsely : Prop := savePartsRow.holds Tryz.pinned (OpenSpec.ofChange savePartsWrong)

/-- 'pinnacelaw20.SaveOnly': WHATEVER THE INPUT: true; the input reads as it did. -/
def saveOnlySpec : ChangeSpec := { name := "saveOnly", fn := fun _ => fun
  | [d1, d2, d3] => { results := [.lit (.bool true)], args := [d1, d2, d3] }
  | _ => none }
def saveOnlyRow : OpenClaim := { program := "ytdffbihilhkkjaagreatdoor", sum := "eebf7a9b548a2afd176e3ca28f036c77afc68467e7240f8fbf2bbeee0c4f1aaf", func := "pinnace/pinnacelaw20.SaveOnly", spec := "saveOnly", inPlace := ["sync/atomic.AddInt64", "sync/atomic.LoadUint32", "(*internal/sync.Mutex).Lock", "internal/race.Disable", "sync/atomic.CompareAndSwapInt32", "internal/race.Enable", "internal/race.Acquire", "(*internal/sync.Mutex).lockSlow", "internal/sync.runtime_canSpin", "internal/sync.runtime_doSpin", "internal/sync.throw", "internal/sync.runtime_nanotime", "internal/sync.runtime_SemacquireMutex", "sync/atomic.AddInt32", "(*internal/sync.Mutex).Unlock", "internal/race.ReleaseMerge", "(*internal/sync.Mutex).unlockSlow", "internal/sync.fatal", "internal/sync.runtime_Semrelease", "sync/atomic.StoreUint32", "internal/reflectlite.ValueOf", "(internal/reflectlite.Value).Type", "(internal/reflectlite.Value).IsNil", "internal/reflectlite.TypeOf", "(internal/reflectlite.Value).Elem", "(internal/reflectlite.Value).Set"], unfollowed := true, recurses := true, named := ["pinnace/sum.nibbles", "pinnace/bus.regions", "errors.errorType"], apart := false, laid := [("errors.errorType", laid_errors_errorType), ("pinnace/bus.regions", laid_pinnace_bus_regions), ("pinnace/sum.nibbles", laid_pinnace_sum_nibbles)] }
def SaveOnlySaid : Prop := saveOnlyRow.holds Tryz.pinned (OpenSpec.ofChange saveOnlySpec)

/-- ITS FALSE NEIGHBOUR: 'it returns false'. Refute it at one input. -/
def saveOnlyWrong : ChangeSpec := { name := "saveOnly", fn := fun _ => fun
  | [d1, d2, d3] => { results := [.lit (.bool false)], args := [d1, d2, d3] }
  | _ => none }
def SaveOnlyWrongFalsely : Prop := saveOnlyRow.holds Tryz.pinned (OpenSpec.ofChange saveOnlyWrong)

/-- 'pinnacelaw20.SavePages': WHATEVER THE INPUT: true; the input reads as it did. -/
def savePagesSpec : ChangeSpec := { name := "savePages", fn := fun _ => fun
  | [d1, d2, d3] => { results := [.lit (.bool true)], args := [d1, d2, d3] }
  | _ => none }
def savePagesRow : OpenClaim := { program := "ytdffbihilhkkjaagreatdoor", sum := "eebf7a9b548a2afd176e3ca28f036c77afc68467e7240f8fbf2bbeee0c4f1aaf", func := "pinnace/pinnacelaw20.SavePages", spec := "savePages", inPlace := ["sync/atomic.AddInt64", "sync/atomic.LoadUint32", "(*internal/sync.Mutex).Lock", "internal/race.Disable", "sync/atomic.CompareAndSwapInt32", "internal/race.Enable", "internal/race.Acquire", "(*internal/sync.Mutex).lockSlow", "internal/sync.runtime_canSpin", "internal/sync.runtime_doSpin", "internal/sync.throw", "internal/sync.runtime_nanotime", "internal/sync.runtime_SemacquireMutex", "sync/atomic.AddInt32", "(*internal/sync.Mutex).Unlock", "internal/race.ReleaseMerge", "(*internal/sync.Mutex).unlockSlow", "internal/sync.fatal", "internal/sync.runtime_Semrelease", "sync/atomic.StoreUint32", "internal/reflectlite.ValueOf", "(internal/reflectlite.Value).Type", "(internal/reflectlite.Value).IsNil", "internal/reflectlite.TypeOf", "(internal/reflectlite.Value).Elem", "(internal/reflectlite.Value).Set"], unfollowed := true, recurses := true, named := ["pinnace/sum.nibbles", "pinnace/bus.regions", "errors.errorType"], apart := false, laid := [("errors.errorType", laid_errors_errorType), ("pinnace/bus.regions", laid_pinnace_bus_regions), ("pinnace/sum.nibbles", laid_pinnace_sum_nibbles)] }
def SavePagesSaid : Prop := savePagesRow.holds Tryz.pinned (OpenSpec.ofChange savePagesSpec)

/-- ITS FALSE NEIGHBOUR: 'it returns false'. Refute it at one input. -/
def savePagesWrong : ChangeSpec := { name := "savePages", fn := fun _ => fun
  | [d1, d2, d3] => { results := [.lit (.bool false)], args := [d1, d2, d3] }
  | _ => none }
def SavePagesWrongFalsely : Prop := savePagesRow.holds Tryz.pinned (OpenSpec.ofChange savePagesWrong)

/-- 'pinnacelaw20.SaveFiles': WHATEVER THE INPUT: true; the input reads as it did. -/
def saveFilesSpec : ChangeSpec := { name := "saveFiles", fn := fun _ => fun
  | [d1, d2, d3] => { results := [.lit (.bool true)], args := [d1, d2, d3] }
  | _ => none }
def saveFilesRow : OpenClaim := { program := "ytdffbihilhkkjaagreatdoor", sum := "eebf7a9b548a2afd176e3ca28f036c77afc68467e7240f8fbf2bbeee0c4f1aaf", func := "pinnace/pinnacelaw20.SaveFiles", spec := "saveFiles", inPlace := ["sync/atomic.LoadUint32", "(*internal/sync.Mutex).Lock", "internal/race.Disable", "sync/atomic.CompareAndSwapInt32", "internal/race.Enable", "internal/race.Acquire", "(*internal/sync.Mutex).lockSlow", "internal/sync.runtime_canSpin", "internal/sync.runtime_doSpin", "internal/sync.throw", "internal/sync.runtime_nanotime", "internal/sync.runtime_SemacquireMutex", "sync/atomic.AddInt32", "(*internal/sync.Mutex).Unlock", "internal/race.ReleaseMerge", "(*internal/sync.Mutex).unlockSlow", "internal/sync.fatal", "internal/sync.runtime_Semrelease", "sync/atomic.StoreUint32", "internal/reflectlite.ValueOf", "(internal/reflectlite.Value).Type", "(internal/reflectlite.Value).IsNil", "internal/reflectlite.TypeOf", "(internal/reflectlite.Value).Elem", "(internal/reflectlite.Value).Set", "sync/atomic.AddInt64"], unfollowed := true, recurses := true, named := ["pinnace/sum.nibbles", "errors.errorType", "pinnace/bus.regions"], apart := false, laid := [("errors.errorType", laid_errors_errorType), ("pinnace/bus.regions", laid_pinnace_bus_regions), ("pinnace/sum.nibbles", laid_pinnace_sum_nibbles)] }
def SaveFilesSaid : Prop := saveFilesRow.holds Tryz.pinned (OpenSpec.ofChange saveFilesSpec)

/-- ITS FALSE NEIGHBOUR: 'it returns false'. Refute it at one input. -/
def saveFilesWrong : ChangeSpec := { name := "saveFiles", fn := fun _ => fun
  | [d1, d2, d3] => { results := [.lit (.bool false)], args := [d1, d2, d3] }
  | _ => none }
def SaveFilesWrongFalsely : Prop := saveFilesRow.holds Tryz.pinned (OpenSpec.ofChange saveFilesWrong)

/- THE SECOND FORM. 'bulk': how many values and letters a reading holds, each counted each time it is reached (what is shared counts as often as it is met; a slice's spare places count too). A statement '..UptoSaid' is the law's where the arguments, and the package variables that the reading takes, are together of bulk at most 1048576: NARROWER than '..Said'. Prove '..Said' where nothing that the law and all that it calls make is longer than what came in: it says more and counts as full. Else prove '..UptoSaid'. A law counts once. -/
mutual
def uptoBulk {H : Type} : DataW H → Nat
  | .lit (.string bytes) => bytes.length + 1
  | .lit _ => 1
  | .nil => 1
  | .ptr d => uptoBulk d + 1
  | .slice elems spare => uptoBulkAll elems + uptoBulkAll spare + 1
  | .agg parts => uptoBulkAll parts + 1
  | .iface _ d => uptoBulk d + 1
  | .map entries => uptoBulkEntries entries + 1
  | .held _ => 1
def uptoBulkAll {H : Type} : List (DataW H) → Nat
  | [] => 0
  | d :: r => uptoBulk d + uptoBulkAll r
def uptoBulkEntries {H : Type} : List (Lit × DataW H) → Nat
  | [] => 0
  | x :: r => uptoBulkEntry x + uptoBulkEntries r
def uptoBulkEntry {H : Type} : Lit × DataW H → Nat
  | (.string bytes, d) => bytes.length + uptoBulk d + 1
  | (_, d) => uptoBulk d + 1
 end
def uptoSmall : (H : Type) → List (DataW H) → Bool := fun _ ds => decide (uptoBulkAll ds ≤ 1048576)
def OpenSpec.upto (s : _root_.Go.ChangeSpec) : _root_.Go.OpenSpec := { _root_.Go.OpenSpec.ofChange s with cond := some uptoSmall }

/-- 'pinnacelaw20.SaveParts', WHERE WHAT IT READS IS OF BULK AT MOST 1048576: true; the input reads as it did. -/
def savePartsUptoRow : OpenClaim := { program := "ytdffbihilhkkjaagreatdoor", sum := "eebf7a9b548a2afd176e3ca28f036c77afc68467e7240f8fbf2bbeee0c4f1aaf", func := "pinnace/pinnacelaw20.SaveParts", spec := "saveParts", inPlace := ["sync/atomic.AddInt64", "sync/atomic.LoadUint32", "(*internal/sync.Mutex).Lock", "internal/race.Disable", "sync/atomic.CompareAndSwapInt32", "internal/race.Enable", "internal/race.Acquire", "(*internal/sync.Mutex).lockSlow", "internal/sync.runtime_canSpin", "internal/sync.runtime_doSpin", "internal/sync.throw", "internal/sync.runtime_nanotime", "internal/sync.runtime_SemacquireMutex", "sync/atomic.AddInt32", "(*internal/sync.Mutex).Unlock", "internal/race.ReleaseMerge", "(*internal/sync.Mutex).unlockSlow", "internal/sync.fatal", "internal/sync.runtime_Semrelease", "sync/atomic.StoreUint32", "internal/reflectlite.ValueOf", "(internal/reflectlite.Value).Type", "(internal/reflectlite.Value).IsNil", "internal/reflectlite.TypeOf", "(internal/reflectlite.Value).Elem", "(internal/reflectlite.Value).Set"], unfollowed := true, recurses := true, named := ["pinnace/sum.nibbles", "pinnace/bus.regions", "errors.errorType"], apart := false, laid := [("errors.errorType", laid_errors_errorType), ("pinnace/bus.regions", laid_pinnace_bus_regions), ("pinnace/sum.nibbles", laid_pinnace_sum_nibbles)], narrowed := true }
def SavePartsUptoSaid : Prop := savePartsUptoRow.holds Tryz.pinned (OpenSpec.upto savePartsSpec)

/-- 'pinnacelaw20.SaveOnly', WHERE WHAT IT READS IS OF BULK AT MOST 1048576: true; the input reads as it did. -/
def saveOnlyUptoRow : OpenClaim := { program := "ytdffbihilhkkjaagreatdoor", sum := "eebf7a9b548a2afd176e3ca28f036c77afc68467e7240f8fbf2bbeee0c4f1aaf", func := "pinnace/pinnacelaw20.SaveOnly", spec := "saveOnly", inPlace := ["sync/atomic.AddInt64", "sync/atomic.LoadUint32", "(*internal/sync.Mutex).Lock", "internal/race.Disable", "sync/atomic.CompareAndSwapInt32", "internal/race.Enable", "internal/race.Acquire", "(*internal/sync.Mutex).lockSlow", "internal/sync.runtime_canSpin", "internal/sync.runtime_doSpin", "internal/sync.throw", "internal/sync.runtime_nanotime", "internal/sync.runtime_SemacquireMutex", "sync/atomic.AddInt32", "(*internal/sync.Mutex).Unlock", "internal/race.ReleaseMerge", "(*internal/sync.Mutex).unlockSlow", "internal/sync.fatal", "internal/sync.runtime_Semrelease", "sync/atomic.StoreUint32", "internal/reflectlite.ValueOf", "(internal/reflectlite.Value).Type", "(internal/reflectlite.Value).IsNil", "internal/reflectlite.TypeOf", "(internal/reflectlite.Value).Elem", "(internal/reflectlite.Value).Set"], unfollowed := true, recurses := true, named := ["pinnace/sum.nibbles", "pinnace/bus.regions", "errors.errorType"], apart := false, laid := [("errors.errorType", laid_errors_errorType), ("pinnace/bus.regions", laid_pinnace_bus_regions), ("pinnace/sum.nibbles", laid_pinnace_sum_nibbles)], narrowed := true }
def SaveOnlyUptoSaid : Prop := saveOnlyUptoRow.holds Tryz.pinned (OpenSpec.upto saveOnlySpec)

/-- 'pinnacelaw20.SavePages', WHERE WHAT IT READS IS OF BULK AT MOST 1048576: true; the input reads as it did. -/
def savePagesUptoRow : OpenClaim := { program := "ytdffbihilhkkjaagreatdoor", sum := "eebf7a9b548a2afd176e3ca28f036c77afc68467e7240f8fbf2bbeee0c4f1aaf", func := "pinnace/pinnacelaw20.SavePages", spec := "savePages", inPlace := ["sync/atomic.AddInt64", "sync/atomic.LoadUint32", "(*internal/sync.Mutex).Lock", "internal/race.Disable", "sync/atomic.CompareAndSwapInt32", "internal/race.Enable", "internal/race.Acquire", "(*internal/sync.Mutex).lockSlow", "internal/sync.runtime_canSpin", "internal/sync.runtime_doSpin", "internal/sync.throw", "internal/sync.runtime_nanotime", "internal/sync.runtime_SemacquireMutex", "sync/atomic.AddInt32", "(*internal/sync.Mutex).Unlock", "internal/race.ReleaseMerge", "(*internal/sync.Mutex).unlockSlow", "internal/sync.fatal", "internal/sync.runtime_Semrelease", "sync/atomic.StoreUint32", "internal/reflectlite.ValueOf", "(internal/reflectlite.Value).Type", "(internal/reflectlite.Value).IsNil", "internal/reflectlite.TypeOf", "(internal/reflectlite.Value).Elem", "(internal/reflectlite.Value).Set"], unfollowed := true, recurses := true, named := ["pinnace/sum.nibbles", "pinnace/bus.regions", "errors.errorType"], apart := false, laid := [("errors.errorType", laid_errors_errorType), ("pinnace/bus.regions", laid_pinnace_bus_regions), ("pinnace/sum.nibbles", laid_pinnace_sum_nibbles)], narrowed := true }
def SavePagesUptoSaid : Prop := savePagesUptoRow.holds Tryz.pinned (OpenSpec.upto savePagesSpec)

/-- 'pinnacelaw20.SaveFiles', WHERE WHAT IT READS IS OF BULK AT MOST 1048576: true; the input reads as it did. -/
def saveFilesUptoRow : OpenClaim := { program := "ytdffbihilhkkjaagreatdoor", sum := "eebf7a9b548a2afd176e3ca28f036c77afc68467e7240f8fbf2bbeee0c4f1aaf", func := "pinnace/pinnacelaw20.SaveFiles", spec := "saveFiles", inPlace := ["sync/atomic.LoadUint32", "(*internal/sync.Mutex).Lock", "internal/race.Disable", "sync/atomic.CompareAndSwapInt32", "internal/race.Enable", "internal/race.Acquire", "(*internal/sync.Mutex).lockSlow", "internal/sync.runtime_canSpin", "internal/sync.runtime_doSpin", "internal/sync.throw", "internal/sync.runtime_nanotime", "internal/sync.runtime_SemacquireMutex", "sync/atomic.AddInt32", "(*internal/sync.Mutex).Unlock", "internal/race.ReleaseMerge", "(*internal/sync.Mutex).unlockSlow", "internal/sync.fatal", "internal/sync.runtime_Semrelease", "sync/atomic.StoreUint32", "internal/reflectlite.ValueOf", "(internal/reflectlite.Value).Type", "(internal/reflectlite.Value).IsNil", "internal/reflectlite.TypeOf", "(internal/reflectlite.Value).Elem", "(internal/reflectlite.Value).Set", "sync/atomic.AddInt64"], unfollowed := true, recurses := true, named := ["pinnace/sum.nibbles", "errors.errorType", "pinnace/bus.regions"], apart := false, laid := [("errors.errorType", laid_errors_errorType), ("pinnace/bus.regions", laid_pinnace_bus_regions), ("pinnace/sum.nibbles", laid_pinnace_sum_nibbles)], narrowed := true }
def SaveFilesUptoSaid : Prop := saveFilesUptoRow.holds Tryz.pinned (OpenSpec.upto saveFilesSpec)

end Rows
end Go.Proofs.YtdffbihilhkkjaaGreatDoor
