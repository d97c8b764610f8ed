/- What a call that hands back a slice of its own says. -/
import Derived.Test.YtpjbnfpadbknpaaOwn
namespace Go.Proofs.Ytpjbnfpadbknpaa
set_option linter.unusedSimpArgs false
set_option linter.unusedVariables false
open Go.RowKit
section
variable {α : Type}
/-- The call returned 'f v', v a slice in new memory that reads as L; nothing that was there has changed. -/
def RetSl (w : World) (e : TypeId) (c : α → List Value) (sz : Nat) (L : List α) (f : Value → Value) (en : Ending) (w' : World) : Prop :=
  ∃ v, en = .returned (f v) ∧ Own w' w.heap.size e c sz v L ∧ Below w.heap.size w w'
end
end Go.Proofs.Ytpjbnfpadbknpaa
