/- The worlds of the laws over a Known and a Tag. Written by program (canlaw.py). -/
import Derived.Test.YtomjfhcfellikaaKnown
namespace Go.Proofs.Ytomjfhcfellikaa
set_option linter.unusedSimpArgs false
set_option linter.unusedVariables false
open Go.RowKit
/-- The boxes of the two arguments, and that nothing else has changed. -/
structure KT (w : World) (x : KnownA) (t : TagD) (W : World) : Prop where
  b : Below w.heap.size w W
  z : w.heap.size + 2 ≤ W.heap.size
  k0 : W.cell? ⟨w.heap.size, 0, none⟩ = some (.slice x.aKeys x.fKeys.length x.cKeys)
  k1 : W.cell? ⟨w.heap.size, 1, none⟩ = some (.slice x.aTags x.fTags.length x.cTags)
  t0 : W.cell? ⟨w.heap.size + 1, 0, none⟩ = some (.int .i64 t.fKind)
  t1 : W.cell? ⟨w.heap.size + 1, 1, none⟩ = some (.int .i64 t.fOne)
  t2 : W.cell? ⟨w.heap.size + 1, 2, none⟩ = some (.int .i64 t.fTwo)
  t3 : W.cell? ⟨w.heap.size + 1, 3, none⟩ = some (.int .i64 t.fA)
  t4 : W.cell? ⟨w.heap.size + 1, 4, none⟩ = some (.int .i64 t.fB)
theorem KT.next {w W W' : World} {x : KnownA} {t : TagD} (h : KT w x t W) (hb : Below W.heap.size W W') : KT w x t W' :=
  ⟨h.b.trans (hb.mono h.b.size), Nat.le_trans h.z hb.size, (hb.cell (by have := h.z; show w.heap.size < _; omega)).trans h.k0, (hb.cell (by have := h.z; show w.heap.size < _; omega)).trans h.k1, (hb.cell (by have := h.z; show w.heap.size + 1 < _; omega)).trans h.t0, (hb.cell (by have := h.z; show w.heap.size + 1 < _; omega)).trans h.t1, (hb.cell (by have := h.z; show w.heap.size + 1 < _; omega)).trans h.t2, (hb.cell (by have := h.z; show w.heap.size + 1 < _; omega)).trans h.t3, (hb.cell (by have := h.z; show w.heap.size + 1 < _; omega)).trans h.t4⟩
/-- Besides, block g holds a Known that reads as x does. -/
structure KX (w : World) (x : KnownA) (t : TagD) (g : Nat) (A1 : Option Addr) (k1 : Nat) (A2 : Option Addr) (k2 : Nat) (W : World) : Prop where
  kt : KT w x t W
  hg : w.heap.size + 2 ≤ g
  lt : g < W.heap.size
  g0 : W.cell? ⟨g, 0, none⟩ = some (.slice A1 x.fKeys.length k1)
  g1 : W.cell? ⟨g, 1, none⟩ = some (.slice A2 x.fTags.length k2)
  rK : Rd icell 1 W 0 g A1 x.fKeys
  rT : Rd TagD.cells 5 W 0 g A2 x.fTags
theorem KX.next {w W W' : World} {x : KnownA} {t : TagD} {g : Nat} {A1 A2 : Option Addr} {k1 k2 : Nat} (h : KX w x t g A1 k1 A2 k2 W) (hb : Below W.heap.size W W') : KX w x t g A1 k1 A2 k2 W' :=
  ⟨h.kt.next hb, h.hg, Nat.lt_of_lt_of_le h.lt hb.size, (hb.cell h.lt).trans h.g0, (hb.cell h.lt).trans h.g1, h.rK.below (hb.mono (Nat.le_of_lt h.lt)), h.rT.below (hb.mono (Nat.le_of_lt h.lt))⟩
end Go.Proofs.Ytomjfhcfellikaa
