/- Plain laws of FnTags: what can be made. No program in sight. -/
import Derived.Test.YtomjfhcfellikaaLearn2
namespace Go.Proofs.Ytomjfhcfellikaa
set_option linter.unusedSimpArgs false
set_option linter.unusedVariables false

theorem teq_self (a0 a1 a2 a3 a4 : Int) : teq a0 a1 a2 a3 a4 a0 a1 a2 a3 a4 = true := by simp [teq]
/-- What was learned can be made. -/
theorem learn_can (K : List Int) (T : List TagD) (x : TagD) (h : T.length < 300) : canMake K (learnT K T x) x = true := by
  cases hc : canMake K T x with
  | true =>
    have : learnT K T x = T := by unfold learnT; rw [hc]; rfl
    rw [this, hc]
  | false =>
    have e : learnT K T x = T ++ [x] := by unfold learnT; rw [hc]; simp [h]
    rw [e]
    unfold canMake
    rw [any_yes300 (T := T ++ [x]) (k := T.length) (by simp) h (by simp [teq_self])]
    simp
theorem can_two (a b : Int) (x : TagD) (h1 : x.fOne = a ∨ x.fOne = b) (h2 : x.fTwo = a ∨ x.fTwo = b) : canMake [a, b] [] x = true := by
  have e1 : hasI [a, b] x.fOne = true := by unfold hasI; rcases h1 with h | h <;> simp [h]
  have e2 : hasI [a, b] x.fTwo = true := by unfold hasI; rcases h2 with h | h <;> simp [h]
  unfold canMake
  rw [e1, e2]
  simp
theorem can_half (a b : Int) (x : TagD) (h0 : x.fKind = 1) (h1 : x.fTwo ≠ a) (h2 : x.fTwo ≠ b) : canMake [a, b] [] x = false := by
  have e2 : hasI [a, b] x.fTwo = false := by unfold hasI; simp; exact ⟨fun h => h1 h.symm, fun h => h2 h.symm⟩
  unfold canMake
  rw [e2]
  simp [teq, h0]
theorem learn_half (a b : Int) (x : TagD) (h0 : x.fKind = 1) (h1 : x.fTwo ≠ a) (h2 : x.fTwo ≠ b) : learnT [a, b] [] x = [x] := by
  unfold learnT
  rw [can_half a b x h0 h1 h2]
  rfl
theorem can_learnt (a b : Int) (x : TagD) : canMake [a, b] [x] x = true := by
  unfold canMake
  rw [any_yes300 (T := [x]) (k := 0) (by simp) (by simp) (by simp [teq_self])]
  simp
end Go.Proofs.Ytomjfhcfellikaa
