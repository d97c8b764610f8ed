/- PutPiece (reference and program): what the law needs of both. -/
import Derived.Test.YtpjbnfpadbknpaaSPut3
namespace Go.Proofs.Ytpjbnfpadbknpaa
set_option linter.unusedSimpArgs false
set_option linter.unusedVariables false
open Go.RowKit
theorem OwnO.grown {α : Type} {c : α → List Value} {sz base : Nat} {v : Value} {L : List α} {w w' : World} {row : Option Nat} (h : OwnO w base c sz v L) (hb : w.grownBy w' row) (hr : ∀ k, row = some k → v.ownBlock = some k → False) : OwnO w' base c sz v L :=
  h.keep hb.size fun k hk _ hl => hb.block k hl (fun e => hr k e.symm hk)
theorem putV_len (r : Int) (s : ByteArray) (L : List PieceD) (a : Int) (t : ByteArray) : (putV r s L a t).2.length ≤ L.length + 20 := by
  unfold putV
  split
  · rename_i h
    unfold putOk at h
    simp only [Bool.and_eq_true] at h
    obtain ⟨-, -, -, -, h5⟩ := h
    obtain ⟨-, -, h3, -, -⟩ := pok_parts h5
    omega
  · show L.length ≤ _; omega
end Go.Proofs.Ytpjbnfpadbknpaa
