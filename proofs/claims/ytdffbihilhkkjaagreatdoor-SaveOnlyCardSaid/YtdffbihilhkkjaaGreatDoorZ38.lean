import Derived.Test.YtdffbihilhkkjaaGreatDoorZ36
namespace Go.Proofs.YtdffbihilhkkjaaGreatDoor
set_option linter.unusedVariables false
set_option linter.unusedSimpArgs false
set_option maxRecDepth 100000
set_option maxHeartbeats 8000000
structure AlikeT (f t:Nat) (x y:List Nat):Prop where
 len:y.length=x.length
 small:∀ c∈y,c<256
 bits:∀ j,(j<f∨f+t≤j)→(Crc.allBits y)[j]?=(Crc.allBits x)[j]?
theorem AlikeT.refl (f:Nat) (x:List Nat) (h:∀ c∈x,c<256):AlikeT f 0 x x:=⟨rfl,h,fun _ _=>rfl⟩
theorem AlikeT.more {f t:Nat} {x y:List Nat} (h:AlikeT f t x y):AlikeT f (t+1) x y:=⟨h.len,h.small,fun j hj=>h.bits j (by omega)⟩
theorem AlikeT.alike {f t:Nat} {x y:List Nat} (h:AlikeT f t x y) (ht:t≤32):Alike f x y:=⟨h.len,h.small,fun j hj=>h.bits j (by omega)⟩
structure AlikeB (i:Nat) (x y:List Nat):Prop where
 len:y.length=x.length
 small:∀ c∈y,c<256
 bytes:∀ j,(j<i∨i+4≤j)→y[j]?=x[j]?
theorem AlikeB.refl (i:Nat) (x:List Nat) (h:∀ c∈x,c<256):AlikeB i x x:=⟨rfl,h,fun _ _=>rfl⟩
theorem AlikeB.set {i:Nat} {x y:List Nat} (h:AlikeB i x y) (k v:Nat) (hk:k<4) (hv:v<256):AlikeB i x (y.set (i+k) v):=by
 refine ⟨by simp [h.len],?_,?_⟩
 ·
  intro c hc
  rcases List.mem_or_eq_of_mem_set hc with hc | hc
  · exact h.small c hc
  · rw [hc];exact hv
 ·
  intro j hj
  rw [List.getElem?_set_ne (by omega),h.bytes j hj]
theorem AlikeB.alike {i:Nat} {x y:List Nat} (h:AlikeB i x y):Alike (8*i) x y:=by
 refine ⟨h.len,h.small,fun j hj=>?_⟩
 rw [Crc.allBits_get,Crc.allBits_get,h.bytes (j / 8) (by omega)]
theorem zlh {f:Nat} {l y:List Nat} (hl:∀ c∈l,c<256) (h:Alike f (zab l) y) (hne:y≠zab l):zaI y=false∧4≤y.length:=by
 have hlen:y.length=l.length+4:=by rw [h.len,zaA]
 refine ⟨?_,by omega⟩
 cases hs:zaI y with
 | false=>rfl
 | true=>exact absurd (zgq hl h ((zcB hlen).1 hs)) hne
end Go.Proofs.YtdffbihilhkkjaaGreatDoor
