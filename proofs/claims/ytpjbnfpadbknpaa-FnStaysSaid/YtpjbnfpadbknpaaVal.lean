/- Blocks of a range that may have changed; slices of the call's own whose blocks lie in a range. -/
import Derived.Test.YtpjbnfpadbknpaaOwn
import Derived.Test.YtpjbnfpadbknpaaRet
namespace Go.Proofs.Ytpjbnfpadbknpaa
set_option linter.unusedSimpArgs false
set_option linter.unusedVariables false
open Go.RowKit

/-- From w to w' blocks were added, and none that was there has changed but those from lo to hi. -/
structure Touch (lo hi : Nat) (w w' : World) : Prop where
  os : w'.os = w.os
  tape : w'.tape = w.tape
  output : w'.output = w.output
  size : w.heap.size ≤ w'.heap.size
  block : ∀ k, k < w.heap.size → (k < lo ∨ hi ≤ k) → w'.heap[k]? = w.heap[k]?
section
variable {lo hi : Nat} {a w w' : World}
theorem Touch.refl (lo hi : Nat) (w : World) : Touch lo hi w w := ⟨rfl, rfl, rfl, Nat.le_refl _, fun _ _ _ => rfl⟩
theorem Touch.trans {b c : World} (h : Touch lo hi a b) (k : Touch lo hi b c) : Touch lo hi a c :=
  ⟨k.os.trans h.os, k.tape.trans h.tape, k.output.trans h.output, Nat.le_trans h.size k.size, fun i hi hn => (k.block i (Nat.lt_of_lt_of_le hi h.size) hn).trans (h.block i hi hn)⟩
theorem Touch.ofBelow (h : Below w.heap.size w w') : Touch lo hi w w' := ⟨h.os, h.tape, h.output, h.size, fun k hk _ => h.block k hk⟩
theorem Touch.via (h : Touch lo hi a w) (hb : Below w.heap.size w w') : Touch lo hi a w' := h.trans (.ofBelow hb)
theorem Touch.alloc (h : Touch lo hi a w) (o : Obj) : Touch lo hi a (w.alloc o) := h.via (by go_grown)
theorem Touch.drew (h : Touch lo hi a w) : Touch lo hi a w.drew := h.via ((Below.refl _ _).drew)
theorem Touch.drewN (h : Touch lo hi a w) (n : Nat) : Touch lo hi a (w.drewN n) := h.via (below_drewN (Below.refl _ _) n)
theorem Touch.setCell (h : Touch lo hi a w) {p : Addr} (h1 : lo ≤ p.block) (h2 : p.block < hi) (v : Value) : Touch lo hi a (w.setCell p v) :=
  h.trans ⟨rfl, rfl, rfl, by simp [World.setCell], fun k _ hk => Below.heap_setCell _ _ _ _ (by omega)⟩
theorem Touch.grown {row : Option Nat} (h : Touch lo hi a w) (hg : w.grownBy w' row) (hr : ∀ k, row = some k → lo ≤ k ∧ k < hi) : Touch lo hi a w' :=
  h.trans ⟨hg.os, hg.tape, hg.output, hg.size, fun k hk hn => hg.block k hk (fun e => by have := hr k e.symm; omega)⟩
theorem Touch.below {B : Nat} {w0 : World} (h : Touch lo hi w w') (h0 : Below B w0 w) (h1 : B ≤ lo) (h2 : B ≤ w.heap.size) : Below B w0 w' :=
  h0.trans ⟨h.os, h.tape, h.output, h.size, fun k hk => h.block k (by omega) (.inl (by omega))⟩
theorem Touch.mono {lo' hi' : Nat} (h : Touch lo hi w w') (h1 : lo' ≤ lo) (h2 : hi ≤ hi') : Touch lo' hi' w w' := ⟨h.os, h.tape, h.output, h.size, fun k hk hn => h.block k hk (by omega)⟩
end
section
variable {α : Type} {c : α → List Value} {sz lo hi : Nat} {e : TypeId} {v : Value} {L : List α} {w w' : World}
/-- The slice v reads as L, and its block, if it has one, lies from lo to hi. -/
def OwnIn (w : World) (lo hi : Nat) (e : TypeId) (c : α → List Value) (sz : Nat) (v : Value) (L : List α) : Prop := Own w lo e c sz v L ∧ ∀ k, v.ownBlock = some k → k < hi
theorem Own.inn (h : Own w lo e c sz v L) : OwnIn w lo w.heap.size e c sz v L := ⟨h, fun _ hk => (h.lt hk).2⟩
theorem OwnIn.keep (h : OwnIn w lo hi e c sz v L) (hk : ∀ k, lo ≤ k → k < hi → w'.heap[k]? = w.heap[k]?) : OwnIn w' lo hi e c sz v L := ⟨h.1.keep fun k h1 h2 _ => hk k h2 (h.2 k h1), h.2⟩
theorem OwnIn.wide {lo' hi' : Nat} (h : OwnIn w lo hi e c sz v L) (h1 : lo' ≤ lo) (h2 : hi ≤ hi') : OwnIn w lo' hi' e c sz v L := ⟨h.1.up h1, fun k hk => Nat.lt_of_lt_of_le (h.2 k hk) h2⟩
end
end Go.Proofs.Ytpjbnfpadbknpaa
