/- A Pieces in its box. -/
import Derived.Test.YtpjbnfpadbknpaaDrawCuts
import Derived.Test.YtpjbnfpadbknpaaPutAll
import Derived.Test.YtpjbnfpadbknpaaLaw0
namespace Go.Proofs.Ytpjbnfpadbknpaa
set_option linter.unusedSimpArgs false
set_option linter.unusedVariables false
open Go.RowKit

/-- Box b holds a Pieces of no bytes read: what can be read is S, and its list, in new memory from base on, is L. -/
structure PX (W : World) (base b : Nat) (S : ByteArray) (A : Option Addr) (cap : Nat) (L : List PieceD) : Prop where
  lt : b < W.heap.size
  hb : b < base
  c0 : W.cell? ⟨b, 0, none⟩ = some (.int .i64 0)
  c1 : W.cell? ⟨b, 1, none⟩ = some (.string S)
  c2 : W.cell? ⟨b, 2, none⟩ = some (.slice A L.length cap)
  fr : ∀ o, W.frozen? ⟨b, o, none⟩ = false
  own : Own W base 44 PieceD.cells 2 (.slice A L.length cap) L
section
variable {W W' : World} {base b : Nat} {S : ByteArray} {A : Option Addr} {cap : Nat} {L : List PieceD}
theorem PX.keep (h : PX W base b S A cap L) (hz : W.heap.size ≤ W'.heap.size) (hk : ∀ k, k < W.heap.size → (k = b ∨ base ≤ k) → W'.heap[k]? = W.heap[k]?) : PX W' base b S A cap L := by
  have hb : W'.heap[b]? = W.heap[b]? := hk b h.lt (.inl rfl)
  have hc : ∀ o, W'.cell? ⟨b, o, none⟩ = W.cell? ⟨b, o, none⟩ := fun o => by unfold World.cell?; rw [show (Addr.mk b o none).block = b from rfl, hb]
  have hf : ∀ o, W'.frozen? ⟨b, o, none⟩ = W.frozen? ⟨b, o, none⟩ := fun o => by unfold World.frozen?; rw [show (Addr.mk b o none).block = b from rfl, hb]
  exact ⟨Nat.lt_of_lt_of_le h.lt hz, h.hb, (hc 0).trans h.c0, (hc 1).trans h.c1, (hc 2).trans h.c2, fun o => (hf o).trans (h.fr o), h.own.keep fun k _ h1 h2 => hk k h2 (.inr h1)⟩
theorem PX.next (h : PX W base b S A cap L) (hb : Below W.heap.size W W') : PX W' base b S A cap L := h.keep hb.size fun k hk _ => hb.block k hk
theorem PX.drew (h : PX W base b S A cap L) : PX W.drew base b S A cap L := ⟨h.lt, h.hb, h.c0, h.c1, h.c2, h.fr, h.own.drew⟩
theorem PX.drewN (h : PX W base b S A cap L) (n : Nat) : PX (W.drewN n) base b S A cap L := ⟨h.lt, h.hb, h.c0, h.c1, h.c2, h.fr, h.own.drewN n⟩
/-- The other box was written. -/
theorem PX.other (h : PX W base b S A cap L) {p : Addr} (h1 : p.block ≠ b) (h2 : p.block < base) (v : Value) : PX (W.setCell p v) base b S A cap L :=
  h.keep (by simp) fun k _ hk => Below.heap_setCell _ _ _ _ (by rcases hk with rfl | hk <;> omega)
theorem PX.rd (h : PX W base b S A cap L) : Rd PieceD.cells 2 W 0 W.heap.size A L := h.own.rdv PieceD.cells_length
/-- A new Pieces was stored into the box. -/
theorem PX.set (h : PX W base b S A cap L) {S2 : ByteArray} {A2 : Option Addr} {cap2 : Nat} {L2 : List PieceD} (ho : Own W base 44 PieceD.cells 2 (.slice A2 L2.length cap2) L2) :
    PX (((W.setCell ⟨b, 0, none⟩ (.int .i64 0)).setCell ⟨b, 1, none⟩ (.string S2)).setCell ⟨b, 2, none⟩ (.slice A2 L2.length cap2)) base b S2 A2 cap2 L2 := by
  have hb := h.hb
  refine ⟨by simpa using h.lt, h.hb, ?_, ?_, ?_, fun o => ?_, ?_⟩
  · exact (World.cell?_setCell_other _ _ _ _ (by simp)).trans ((World.cell?_setCell_other _ _ _ _ (by simp)).trans (World.cell?_setCell_same _ _ _ h.c0))
  · exact (World.cell?_setCell_other _ _ _ _ (by simp)).trans (World.cell?_setCell_same _ _ _ ((World.cell?_setCell_other _ _ _ _ (by simp)).trans h.c1))
  · exact World.cell?_setCell_same _ _ _ ((World.cell?_setCell_other _ _ _ _ (by simp)).trans ((World.cell?_setCell_other _ _ _ _ (by simp)).trans h.c2))
  · rw [World.frozen?_setCell, World.frozen?_setCell, World.frozen?_setCell]; exact h.fr o
  · refine ho.keep fun k _ h1 _ => ?_
    rw [Below.heap_setCell _ _ _ _ (by show k ≠ b; omega), Below.heap_setCell _ _ _ _ (by show k ≠ b; omega), Below.heap_setCell _ _ _ _ (by show k ≠ b; omega)]
end
end Go.Proofs.Ytpjbnfpadbknpaa
