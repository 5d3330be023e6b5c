import Derived.Test.YtdffbihilhkkjaaGreatDoorZ40
import Derived.Test.YtdffbihilhkkjaaGreatDoorZ41
namespace Go.Proofs.YtdffbihilhkkjaaGreatDoor
open Go.ChangeAt Go.ChangeShapes Go.Deep Go.RowKit Go.WideShapes
set_option linter.unusedVariables false
set_option linter.unusedSimpArgs false
set_option maxRecDepth 100000
set_option maxHeartbeats 8000000
namespace Op
variable {H:Type} {enc:TypeId×Value→H} {w:World} {base:Nat} {spare:Nat→Bool} {held:Bool} {r:Reach} {b0:Nat} {v:Value} {d:DataW H} {p:List MemPlace}
theorem open_bytes (hv:Value.okWide Tryz.prog w r b0 65 v) (h:DataW.Trod enc Tryz.prog w base spare held 65 v d p) (hs:Sz Tryz.prog 65 d):∃ A n c l,v=.slice A n c∧Bs w A n c l:=by
 obtain ⟨A,n,c,rfl⟩:=okWide_slice Tryz.underlying65 hv
 obtain ⟨fuel,hf⟩:=h
 have hf':DataW.trod enc Tryz.prog w base spare held fuel 65 [.slice A n c]=some (d,p):=hf
 exact zmI hf' hs
theorem open_u8 (hv:Value.okWide Tryz.prog w r b0 5 v) (h:DataW.Trod enc Tryz.prog w base spare held 5 v d p):∃ x:Nat,v=.int .u8 (x:Int)∧x<256:=by
 obtain ⟨x,rfl,_,_,wx⟩:=open_int Tryz.underlying5 hv h
 have:=zfr wx
 simp [IntKind.min,IntKind.max,IntKind.signed,IntKind.bits] at this
 exact ⟨x.toNat,by rw [Int.toNat_of_nonneg this.1],by omega⟩
theorem open_i64 (hv:Value.okWide Tryz.prog w r b0 3 v) (h:DataW.Trod enc Tryz.prog w base spare held 3 v d p):∃ x:Int,v=.int .i64 x∧-9223372036854775808≤x∧x≤9223372036854775807:=by
 obtain ⟨x,rfl,_,_,wx⟩:=open_int Tryz.underlying3 hv h
 have:=zfr wx
 simp [IntKind.min,IntKind.max,IntKind.signed,IntKind.bits] at this
 exact ⟨x,rfl,by omega,by omega⟩
end Op
end Go.Proofs.YtdffbihilhkkjaaGreatDoor
