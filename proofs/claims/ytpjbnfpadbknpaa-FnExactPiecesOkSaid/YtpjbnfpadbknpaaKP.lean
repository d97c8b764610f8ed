/- The worlds of the laws over a Pieces. Written by program (piecelaw.py). -/
import Derived.Test.YtpjbnfpadbknpaaPiecesS
namespace Go.Proofs.Ytpjbnfpadbknpaa
set_option linter.unusedSimpArgs false
set_option linter.unusedVariables false
open Go.RowKit
/-- The box of the argument, and that nothing else has changed. -/
structure KP (w : World) (x : PiecesA) (W : World) : Prop where
  b : Below w.heap.size w W
  z : w.heap.size + 1 ≤ W.heap.size
  k0 : W.cell? ⟨w.heap.size, 0, none⟩ = some (.int .i64 x.fRead)
  k1 : W.cell? ⟨w.heap.size, 1, none⟩ = some (.string x.fReady)
  k2 : W.cell? ⟨w.heap.size, 2, none⟩ = some (.slice x.aList x.fList.length x.cList)
theorem KP.next {w W W' : World} {x : PiecesA} (h : KP w x W) (hb : Below W.heap.size W W') : KP w x W' :=
  ⟨h.b.trans (hb.mono h.b.size), Nat.le_trans h.z hb.size, (hb.cell (by have := h.z; show w.heap.size < _; omega)).trans h.k0, (hb.cell (by have := h.z; show w.heap.size < _; omega)).trans h.k1, (hb.cell (by have := h.z; show w.heap.size < _; omega)).trans h.k2⟩
/-- Besides, block g holds a Pieces that reads as x does. -/
structure KQ (w : World) (x : PiecesA) (g : Nat) (A1 : Option Addr) (k1 : Nat) (W : World) : Prop where
  kp : KP w x W
  hg : w.heap.size + 1 ≤ g
  lt : g < W.heap.size
  g0 : W.cell? ⟨g, 0, none⟩ = some (.int .i64 x.fRead)
  g1 : W.cell? ⟨g, 1, none⟩ = some (.string x.fReady)
  g2 : W.cell? ⟨g, 2, none⟩ = some (.slice A1 x.fList.length k1)
  rL : Rd PieceD.cells 2 W 0 g A1 x.fList
theorem KQ.next {w W W' : World} {x : PiecesA} {g : Nat} {A1 : Option Addr} {k1 : Nat} (h : KQ w x g A1 k1 W) (hb : Below W.heap.size W W') : KQ w x g A1 k1 W' :=
  ⟨h.kp.next hb, h.hg, Nat.lt_of_lt_of_le h.lt hb.size, (hb.cell h.lt).trans h.g0, (hb.cell h.lt).trans h.g1, (hb.cell h.lt).trans h.g2, h.rL.below (hb.mono (Nat.le_of_lt h.lt))⟩
end Go.Proofs.Ytpjbnfpadbknpaa
