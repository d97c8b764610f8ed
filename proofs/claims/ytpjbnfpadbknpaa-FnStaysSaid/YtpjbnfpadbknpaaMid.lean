/- A region that draws its order: from some operation on, all only read: one walk in the order of the text. -/
import Derived.Test.YtpjbnfpadbknpaaBase
import Derived.Deep.QuietTactic
import Derived.BigQuiet
import Derived.Deep.RegionHeld3
namespace Go.Proofs.Ytpjbnfpadbknpaa
set_option linter.unusedSimpArgs false
set_option linter.unusedVariables false
open Go.RowKit
section
variable {P : Program} {ops : Array Oper} {md : Region.Mode} {C : World → Prop} {S : World → Prop}
theorem wpAnyH_of_quiet {Q : Act → Prop} {Q' : Exit → Act → World → Prop} (hQ : ∀ a w, C w → Q a → Q' .normal a w) (hS : ∀ w, C w → S w) : ∀ (fuel : Nat) (listed : Array Bool) (a : Act) (w : World), C w →
    wpAnyQ P md ops C Q fuel listed a → wpAnyH P md ops Q' S fuel listed a w
  | 0, _, _, _, hw, h => ⟨h.1, hQ _ _ hw h.2⟩
  | fuel + 1, _, _, _, hw, h => ⟨fun h0 => hQ _ _ hw (h.1 h0), fun i hi => wpOp_of_qOp hw (fun a' w' hw' hk => ⟨hS _ hw', wpAnyH_of_quiet hQ hS fuel _ a' w' hw' hk⟩) (h.2 i hi)⟩
theorem wpAnyH_rest {L : List Oper} {k fuel : Nat} {listed : Array Bool} {a : Act} {w : World} {Q : Exit → Act → World → Prop} (hs : Region.noSelect L.toArray = true) (hf : fuel = (L.drop k).length)
    (hB : Region.lexFrom .any L.toArray (L.drop k).length k listed = true) (hS : ∀ n, S (w.drewN n)) (h0 : w = w.drewN 0)
    (h : wpQuiet P L.toArray (fun w' => ∃ n, w' = w.drewN n) (fun a' => ∀ w', (∃ n, w' = w.drewN n) → Q .normal a' w') (L.drop k) a) : wpAnyH P .any L.toArray Q S fuel listed a w := by
  subst hf
  refine wpAnyH_of_quiet (C := fun w' => ∃ n, w' = w.drewN n) (Q := fun a' => ∀ w', (∃ n, w' = w.drewN n) → Q .normal a' w') (fun _ w' hw' h => h w' hw') (fun w' ⟨n, hn⟩ => by rw [hn]; exact hS n) _ _ _ _ ⟨0, h0⟩ ?_
  exact wpAnyQ_lex hs (L.drop k) k listed a (fun j => by simp [List.getElem?_drop]) hB h
theorem wpAnyH_world {Q : Exit → Act → World → Prop} {n : Nat} {listed : Array Bool} {a : Act} (W : World) (I : World → Prop) (hI : I W) (h : ∀ W', I W' → wpAnyH P md ops Q S n listed a W') : wpAnyH P md ops Q S n listed a W := h W hI
end
end Go.Proofs.Ytpjbnfpadbknpaa
