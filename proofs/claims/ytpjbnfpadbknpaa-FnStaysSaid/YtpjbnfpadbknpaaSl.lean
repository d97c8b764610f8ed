/- Words for slices in memory, used by the walks of this seat. -/
import Derived.Test.YtpjbnfpadbknpaaBase
import Derived.Laws.OwnMore
import Derived.Deep.AppendLies
import Derived.Maps.AppendAt
import Derived.RegionTactic
import Derived.OwnWalk
import Derived.Laws.MakeOwn
import Derived.Laws.Rows
namespace Go.Proofs.Ytpjbnfpadbknpaa
set_option linter.unusedSimpArgs false
set_option linter.unusedVariables false
open Go.RowKit

/-- The slice with address A has the elements L, of sz cells each ('c x'); where it has any, it lies in one block from lo on, below hi. -/
def Rd {α : Type} (c : α → List Value) (sz : Nat) (w : World) (lo hi : Nat) (A : Option Addr) (L : List α) : Prop :=
  L = [] ∨ ∃ g o, A = some ⟨g, o, none⟩ ∧ lo ≤ g ∧ g < hi ∧ ∀ (k : Nat) (h : k < L.length) (j : Nat), j < sz → w.cell? ⟨g, o + k * sz + j, none⟩ = (c L[k])[j]?

section
variable {α : Type} {c : α → List Value} {sz lo hi lo' hi' : Nat} {w w' : World} {A : Option Addr} {L : List α}
theorem Rd.keep (h : Rd c sz w lo hi A L) (hk : ∀ p : Addr, lo ≤ p.block → p.block < hi → w'.cell? p = w.cell? p) : Rd c sz w' lo hi A L := by
  rcases h with h | ⟨g, o, e, h1, h2, h3⟩
  · exact .inl h
  · exact .inr ⟨g, o, e, h1, h2, fun k hk' j hj => (hk ⟨g, o + k * sz + j, none⟩ h1 h2).trans (h3 k hk' j hj)⟩
theorem Rd.wide (h : Rd c sz w lo hi A L) (h1 : lo' ≤ lo) (h2 : hi ≤ hi') : Rd c sz w lo' hi' A L := by
  rcases h with h | ⟨g, o, e, a, b, d⟩
  · exact .inl h
  · exact .inr ⟨g, o, e, by omega, by omega, d⟩
theorem Rd.below (h : Rd c sz w lo hi A L) (hb : Below hi w w') : Rd c sz w' lo hi A L := h.keep fun _ _ hp => hb.cell hp
theorem Rd.at_ (h : Rd c sz w lo hi A L) (hp : 0 < L.length) : ∃ g o, A = some ⟨g, o, none⟩ ∧ lo ≤ g ∧ g < hi ∧ ∀ (k : Nat) (h : k < L.length) (j : Nat), j < sz → w.cell? ⟨g, o + k * sz + j, none⟩ = (c L[k])[j]? := by
  rcases h with h | h
  · subst h; simp at hp
  · exact h
end
end Go.Proofs.Ytpjbnfpadbknpaa
