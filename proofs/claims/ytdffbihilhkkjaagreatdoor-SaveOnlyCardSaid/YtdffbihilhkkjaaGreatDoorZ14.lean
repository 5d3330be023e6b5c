import Derived.Test.YtdffbihilhkkjaaGreatDoorZ7
namespace Go.Proofs.YtdffbihilhkkjaaGreatDoor
set_option linter.unusedVariables false
set_option linter.unusedSimpArgs false
set_option maxRecDepth 100000
set_option maxHeartbeats 8000000
namespace Tl
def Small (l:List Nat):Prop:=∀ x∈l,x<256
theorem takeN_bad {s:In} {n:Int} {top:Nat} (h:s.e≠0):takeN s n top=(s,0):=by unfold takeN;rw [if_pos h]
theorem ziw {s:In} {n top:Nat} (h:(takeN s n top).1.e=0):s.e=0∧1≤n∧n≤8∧n≤s.b.length∧num (s.b.take n)≤top∧takeN s n top=(⟨s.b.drop n,0⟩,num (s.b.take n)):=by
 unfold takeN at h ⊢
 by_cases h1:s.e≠0
 · rw [if_pos h1] at h;exact absurd h h1
 ·
  rw [if_neg h1] at h ⊢
  by_cases h2:(n:Int)<1∨8<(n:Int)
  · rw [if_pos h2] at h;simp at h
  ·
   rw [if_neg h2] at h ⊢
   by_cases h3:(s.b.length:Int)<(n:Int)
   · rw [if_pos h3] at h;simp at h
   ·
    rw [if_neg h3] at h ⊢
    simp only [Int.toNat_natCast] at h ⊢
    by_cases h4:top<num (s.b.take n)
    · rw [if_pos h4] at h;simp at h
    ·
     rw [if_neg h4]
     exact ⟨by omega,by omega,by omega,by omega,by omega,rfl⟩
theorem zd4:∀ (l:List (Nat×Nat)) {s:In},s.e≠0→(takes s l).1=s
 | [],s,h=>rfl
 | x::l,s,h=>by simp only [takes,takeN_bad h];exact zd4 l h
theorem zjZ {s:In} (h:done s=0):s.e=0∧s.b=[]:=by
 unfold done at h
 by_cases h1:s.e=0∧0<s.b.length
 · rw [if_pos h1] at h;cases h
 ·
  rw [if_neg h1] at h
  refine ⟨h,?_⟩
  cases hb:s.b with
  | nil=>rfl
  | cons x l=>exact absurd ⟨h,by rw [hb];simp⟩ h1
end Tl
end Go.Proofs.YtdffbihilhkkjaaGreatDoor
