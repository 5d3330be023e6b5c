/-
  A region that draws its order, whose operations answer alike in every world of a kind: walked once.
-/
import Derived.Test.YtcoiaggedipapaaDoorKit
import Derived.BigQuiet
import Derived.Deep.QuietTactic
namespace Go.Proofs.YtcoiaggedipapaaDoor
open Go.RowKit
set_option linter.unusedVariables false
set_option linter.unusedSimpArgs false

/-- A world of a kind. -/
structure Good (S : World → Prop) where
  val : World
  ok : S val
section
variable {P : Program} {S : World → Prop}
theorem wp_region_good {id : Nat} {Q : Exit → Act → World → Prop} {a : Act} {w : World} {l : List Oper} (S : World → Prop) (hm : P.follows .mixedOrders = true) (hB : Region.lexB .any l.toArray = true) (hS : S w.drew)
    (h : wpQuiet P l.toArray (fun w' => ∃ x : Good S, w' = x.val) (fun a' => ∀ w', (∃ x : Good S, w' = x.val) → Q .normal a' w') l a) : (Code.region id l.toArray true).wp P Q a w :=
  wp_region_quiet (C := fun w' => ∃ x : Good S, w' = x.val) hm hB ⟨⟨w.drew, hS⟩, rfl⟩ (by simpa using h)
theorem good_call {f : FuncId} {args : Array Value} {x : Good S} {v : Value} (h : Calls P f args x.val fun e w' => e = .returned v ∧ S w') : Calls P f args x.val fun e w'' => e = .returned v ∧ ∃ y : Good S, w'' = y.val :=
  h.mono fun _ w' ⟨he, hs⟩ => ⟨he, ⟨w', hs⟩, rfl⟩
theorem good_below {f : FuncId} {args : Array Value} {x : Good S} {v : Value} (hk : ∀ w w', S w → Below w.heap.size w w' → S w') (h : Calls P f args x.val fun e w' => e = .returned v ∧ Below x.val.heap.size x.val w') : Calls P f args x.val fun e w'' => e = .returned v ∧ ∃ y : Good S, w'' = y.val :=
  h.mono fun _ w' ⟨he, hb⟩ => ⟨he, ⟨w', hk _ _ x.ok hb⟩, rfl⟩
theorem good_same {f : FuncId} {args : Array Value} {x : Good S} {v : Value} (h : Calls P f args x.val fun e w' => e = .returned v ∧ x.val = w') : Calls P f args x.val fun e w'' => e = .returned v ∧ ∃ y : Good S, w'' = y.val :=
  h.mono fun _ w' ⟨he, hb⟩ => ⟨he, x, hb.symm⟩
end
end Go.Proofs.YtcoiaggedipapaaDoor
