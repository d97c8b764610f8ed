/- The index of the first element that passes a test; -1 where there is none. -/
import Derived.Test.YtomjfhcfellikaaPart
namespace Go.Proofs.Ytomjfhcfellikaa
set_option linter.unusedSimpArgs false
set_option linter.unusedVariables false
open Go.RowKit
section
variable {α : Type}
def findI (p : α → Bool) : List α → Int
  | [] => -1
  | x :: L => if p x then 0 else (let r := findI p L; if r < 0 then -1 else r + 1)
theorem findI_lo (p : α → Bool) (L : List α) : findI p L = -1 ∨ 0 ≤ findI p L := by
  induction L with
  | nil => left; rfl
  | cons x L ih =>
    unfold findI
    by_cases h : p x = true
    · rw [if_pos h]; right; omega
    · rw [if_neg h]; simp only; split <;> omega
theorem findI_hit (p : α → Bool) : ∀ (L : List α) (k : Nat) (h : k < L.length), (∀ (i : Nat) (hi : i < L.length), i < k → p L[i] = false) → p L[k] = true → findI p L = k := by
  intro L
  induction L with
  | nil => intro k h; simp at h
  | cons x L ih =>
    intro k h hn hp
    unfold findI
    cases k with
    | zero => rw [if_pos (by simpa using hp)]; rfl
    | succ k =>
      have h0 := hn 0 (by simp) (by omega)
      simp only [List.getElem_cons_zero] at h0
      rw [if_neg (by simp [h0])]
      have := ih k (by simpa using h) (fun i hi hik => by have := hn (i + 1) (by simpa using hi) (by omega); simpa using this) (by simpa using hp)
      simp only [this]
      rw [if_neg (by omega)]; omega
theorem findI_none (p : α → Bool) (L : List α) (h : ∀ (i : Nat) (hi : i < L.length), p L[i] = false) : findI p L = -1 := by
  induction L with
  | nil => rfl
  | cons x L ih =>
    unfold findI
    have h0 := h 0 (by simp)
    simp only [List.getElem_cons_zero] at h0
    rw [if_neg (by simp [h0])]
    have := ih (fun i hi => by have := h (i + 1) (by simpa using hi); simpa using this)
    simp only [this]; rfl
end
end Go.Proofs.Ytomjfhcfellikaa
