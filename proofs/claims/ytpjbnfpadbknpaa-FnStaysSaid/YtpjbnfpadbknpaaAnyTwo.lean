/- A region that ends in a store: two operations are ready. -/
import Derived.Test.YtpjbnfpadbknpaaLast
namespace Go.Proofs.Ytpjbnfpadbknpaa
set_option linter.unusedSimpArgs false
set_option linter.unusedVariables false
open Go.RowKit
section
variable {P : Program} {ops : Array Oper} {md : Region.Mode} {Q : Exit → Act → World → Prop} {S : World → Prop} {z : Nat}
/-- Two operations are ready. -/
theorem AnyBut.two {i i' : Nat} {oi oi' : Oper} {n : Nat} {done : Array Bool} {a : Act} {w : World} (hi : ops[i]? = some oi) (hi' : ops[i']? = some oi') (hr : Region.ready md ops done = [i, i'])
    (h : ∀ K : Act → World → Prop, (∀ a' w', (i ≠ z → S w') → AnyBut P md ops Q S z n (done.setIfInBounds i true) a' w' → K a' w') → if Region.wanted oi (yielded ops a.tmps) then oi.wp P a w K Q else K (a.put oi.dst undef) w)
    (h' : ∀ K : Act → World → Prop, (∀ a' w', (i' ≠ z → S w') → AnyBut P md ops Q S z n (done.setIfInBounds i' true) a' w' → K a' w') → if Region.wanted oi' (yielded ops a.tmps) then oi'.wp P a w K Q else K (a.put oi'.dst undef) w) : AnyBut P md ops Q S z (n + 1) done a w := by
  refine ⟨fun h0 => (by rw [h0] at hr; cases hr), fun j hj => ?_⟩
  rw [hr] at hj
  have e : j = i ∨ j = i' := by simpa using hj
  rcases e with e | e
  · subst e
    have h1 := h (fun a' w' => (j ≠ z → S w') ∧ AnyBut P md ops Q S z n (done.setIfInBounds j true) a' w') (fun a' w' h1 h2 => ⟨h1, h2⟩)
    unfold wpOp
    simp only [hi]
    split
    · rename_i hw; rw [if_pos hw] at h1; exact .inl h1
    · rename_i hw; rw [if_neg hw] at h1; exact h1
  · subst e
    have h1 := h' (fun a' w' => (j ≠ z → S w') ∧ AnyBut P md ops Q S z n (done.setIfInBounds j true) a' w') (fun a' w' h1 h2 => ⟨h1, h2⟩)
    unfold wpOp
    simp only [hi']
    split
    · rename_i hw; rw [if_pos hw] at h1; exact .inl h1
    · rename_i hw; rw [if_neg hw] at h1; exact h1
end
end Go.Proofs.Ytpjbnfpadbknpaa
