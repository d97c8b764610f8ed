/- The states of the region in which the reference's Learn copies its argument. -/
import Derived.Test.YtomjfhcfellikaaLearn2
import Derived.Deep.RegionHeld3
namespace Go.Proofs.Ytomjfhcfellikaa
set_option linter.unusedSimpArgs false
set_option linter.unusedVariables false
open Go.RowKit

/-- How far the region is: the empty slices that lie (eK, eT), the copies (vK, vT), the new box (bx). -/
structure LS (W0 : World) (K : List Int) (T : List TagD) (eK eT : Option Nat) (vK vT : Option Value) (bx : Option Nat) (W : World) : Prop where
  below : Below W0.heap.size W0 W
  lK : ∀ g, eK = some g → W0.heap.size ≤ g ∧ W.heap[g]? = some (.cells #[] 3 (0, 0)) ∧ eT ≠ some g ∧ bx ≠ some g
  lT : ∀ g, eT = some g → W0.heap.size ≤ g ∧ W.heap[g]? = some (.cells #[] 23 (0, 0)) ∧ eK ≠ some g ∧ bx ≠ some g
  oK : ∀ v, vK = some v → Own W W0.heap.size 3 icell 1 v K ∧ ∀ k, v.ownBlock = some k → eT ≠ some k ∧ bx ≠ some k ∧ ∀ u, vT = some u → u.ownBlock ≠ some k
  oT : ∀ v, vT = some v → Own W W0.heap.size 23 TagD.cells 5 v T ∧ ∀ k, v.ownBlock = some k → eK ≠ some k ∧ bx ≠ some k ∧ ∀ u, vK = some u → u.ownBlock ≠ some k
  bX : ∀ b, bx = some b → W0.heap.size ≤ b ∧ W.heap[b]? = some (.cells #[.slice none 0 0, .slice none 0 0] 35 (0, 0))
section
variable {W0 W W' : World} {K : List Int} {T : List TagD} {eK eT : Option Nat} {vK vT : Option Value} {bx : Option Nat}
theorem blkLt {W : World} {g : Nat} {o : Obj} (h : W.heap[g]? = some o) : g < W.heap.size := (Array.getElem?_eq_some_iff.1 h).1
theorem LS.start (W0 : World) (K : List Int) (T : List TagD) : LS W0 K T none none none none none W0 :=
  ⟨Below.refl _ _, fun _ h => (by cases h), fun _ h => (by cases h), fun _ h => (by cases h), fun _ h => (by cases h), fun _ h => (by cases h)⟩
theorem LS.mkK (h : LS W0 K T none eT none vT bx W) : LS W0 K T (some W.heap.size) eT none vT bx (W.alloc (.cells #[] 3)) := by
  have hz := h.below.size
  refine ⟨h.below.alloc hz _, ?_, ?_, fun _ e => (by cases e), ?_, ?_⟩
  · rintro g ⟨⟩
    refine ⟨hz, heap_alloc_new W _, fun e => ?_, fun e => ?_⟩
    · have := blkLt (h.lT _ e).2.1; omega
    · have := blkLt (h.bX _ e).2; omega
  · intro g e
    obtain ⟨a, b, c, d⟩ := h.lT g e
    have := blkLt b
    exact ⟨a, (Below.heap_alloc _ _ _ this).trans b, fun e' => by cases e'; omega, d⟩
  · intro v e
    obtain ⟨a, b⟩ := h.oT v e
    exact ⟨a.alloc _, fun k hk => ⟨fun e' => by cases e'; have := (a.lt hk).2; omega, (b k hk).2.1, fun _ e' => (by cases e')⟩⟩
  · intro b e
    obtain ⟨a, c⟩ := h.bX b e
    exact ⟨a, (Below.heap_alloc _ _ _ (blkLt c)).trans c⟩
theorem LS.mkT (h : LS W0 K T eK none vK none bx W) : LS W0 K T eK (some W.heap.size) vK none bx (W.alloc (.cells #[] 23)) := by
  have hz := h.below.size
  refine ⟨h.below.alloc hz _, ?_, ?_, ?_, fun _ e => (by cases e), ?_⟩
  · intro g e
    obtain ⟨a, b, c, d⟩ := h.lK g e
    have := blkLt b
    exact ⟨a, (Below.heap_alloc _ _ _ this).trans b, fun e' => by cases e'; omega, d⟩
  · rintro g ⟨⟩
    refine ⟨hz, heap_alloc_new W _, fun e => ?_, fun e => ?_⟩
    · have := blkLt (h.lK _ e).2.1; omega
    · have := blkLt (h.bX _ e).2; omega
  · intro v e
    obtain ⟨a, b⟩ := h.oK v e
    exact ⟨a.alloc _, fun k hk => ⟨fun e' => by cases e'; have := (a.lt hk).2; omega, (b k hk).2.1, fun _ e' => (by cases e')⟩⟩
  · intro b e
    obtain ⟨a, c⟩ := h.bX b e
    exact ⟨a, (Below.heap_alloc _ _ _ (blkLt c)).trans c⟩
theorem LS.mkB (h : LS W0 K T eK eT vK vT none W) : LS W0 K T eK eT vK vT (some W.heap.size) (W.alloc (.cells #[.slice none 0 0, .slice none 0 0] 35)) := by
  have hz := h.below.size
  refine ⟨h.below.alloc hz _, ?_, ?_, ?_, ?_, ?_⟩
  · intro g e
    obtain ⟨a, b, c, d⟩ := h.lK g e
    have := blkLt b
    exact ⟨a, (Below.heap_alloc _ _ _ this).trans b, c, fun e' => by cases e'; omega⟩
  · intro g e
    obtain ⟨a, b, c, d⟩ := h.lT g e
    have := blkLt b
    exact ⟨a, (Below.heap_alloc _ _ _ this).trans b, c, fun e' => by cases e'; omega⟩
  · intro v e
    obtain ⟨a, b⟩ := h.oK v e
    exact ⟨a.alloc _, fun k hk => ⟨(b k hk).1, fun e' => by cases e'; have := (a.lt hk).2; omega, (b k hk).2.2⟩⟩
  · intro v e
    obtain ⟨a, b⟩ := h.oT v e
    exact ⟨a.alloc _, fun k hk => ⟨(b k hk).1, fun e' => by cases e'; have := (a.lt hk).2; omega, (b k hk).2.2⟩⟩
  · rintro b ⟨⟩
    exact ⟨hz, heap_alloc_new W _⟩
theorem LS.apK {g : Nat} {v1 : Value} (h : LS W0 K T (some g) eT none vT bx W) (O : Own W' W0.heap.size 3 icell 1 v1 K) (G : W.grownBy W' (Value.slice (some ⟨g, 0, none⟩) 0 0).ownBlock) (X : v1.ownBlock = (Value.slice (some ⟨g, 0, none⟩) 0 0).ownBlock ∨ v1.ownBlock = some W.heap.size) : LS W0 K T none eT (some v1) vT bx W' := by
  have hz := h.below.size
  have hG : ∀ k, k < W.heap.size → k ≠ g → W'.heap[k]? = W.heap[k]? := fun k hk hn => G.block k hk (fun e => by simp [Value.ownBlock] at e; omega)
  obtain ⟨g1, g2, g3, g4⟩ := h.lK g rfl
  have hX : ∀ k, v1.ownBlock = some k → k = g ∨ k = W.heap.size := fun k hk => by
    rcases X with e | e <;> rw [hk] at e <;> simp [Value.ownBlock] at e <;> omega
  refine ⟨h.below.grown G hz (fun k e => by simp [Value.ownBlock] at e; omega), fun _ e => (by cases e), ?_, ?_, ?_, ?_⟩
  · intro g' e
    obtain ⟨a, b, c, d⟩ := h.lT g' e
    exact ⟨a, (hG g' (blkLt b) (fun e' => c (by rw [e']))).trans b, fun e' => (by cases e'), d⟩
  · rintro v ⟨⟩
    refine ⟨O, fun k hk => ⟨fun e => ?_, fun e => ?_, fun u e e2 => ?_⟩⟩
    · rcases hX k hk with rfl | rfl
      · exact g3 e
      · have := blkLt (h.lT _ e).2.1; omega
    · rcases hX k hk with rfl | rfl
      · exact g4 e
      · have := blkLt (h.bX _ e).2; omega
    · obtain ⟨a, b⟩ := h.oT u e
      rcases hX k hk with rfl | rfl
      · exact (b _ e2).1 rfl
      · have := (a.lt e2).2; omega
  · intro u e
    obtain ⟨a, b⟩ := h.oT u e
    refine ⟨a.keep (fun k hk _ hl => hG k hl (fun e' => (b k hk).1 (by rw [e']))), fun k hk => ⟨fun e' => (by cases e'), (b k hk).2.1, ?_⟩⟩
    rintro u' ⟨⟩ e3
    rcases hX k e3 with rfl | rfl
    · exact (b _ hk).1 rfl
    · have := (a.lt hk).2; omega
  · intro b e
    obtain ⟨a, c⟩ := h.bX b e
    exact ⟨a, (hG b (blkLt c) (fun e' => g4 (by rw [← e', e]))).trans c⟩
theorem LS.apT {g : Nat} {v1 : Value} (h : LS W0 K T eK (some g) vK none bx W) (O : Own W' W0.heap.size 23 TagD.cells 5 v1 T) (G : W.grownBy W' (Value.slice (some ⟨g, 0, none⟩) 0 0).ownBlock) (X : v1.ownBlock = (Value.slice (some ⟨g, 0, none⟩) 0 0).ownBlock ∨ v1.ownBlock = some W.heap.size) : LS W0 K T eK none vK (some v1) bx W' := by
  have hz := h.below.size
  have hG : ∀ k, k < W.heap.size → k ≠ g → W'.heap[k]? = W.heap[k]? := fun k hk hn => G.block k hk (fun e => by simp [Value.ownBlock] at e; omega)
  obtain ⟨g1, g2, g3, g4⟩ := h.lT g rfl
  have hX : ∀ k, v1.ownBlock = some k → k = g ∨ k = W.heap.size := fun k hk => by
    rcases X with e | e <;> rw [hk] at e <;> simp [Value.ownBlock] at e <;> omega
  refine ⟨h.below.grown G hz (fun k e => by simp [Value.ownBlock] at e; omega), ?_, fun _ e => (by cases e), ?_, ?_, ?_⟩
  · intro g' e
    obtain ⟨a, b, c, d⟩ := h.lK g' e
    exact ⟨a, (hG g' (blkLt b) (fun e' => c (by rw [e']))).trans b, fun e' => (by cases e'), d⟩
  · intro u e
    obtain ⟨a, b⟩ := h.oK u e
    refine ⟨a.keep (fun k hk _ hl => hG k hl (fun e' => (b k hk).1 (by rw [e']))), fun k hk => ⟨fun e' => (by cases e'), (b k hk).2.1, ?_⟩⟩
    rintro u' ⟨⟩ e3
    rcases hX k e3 with rfl | rfl
    · exact (b _ hk).1 rfl
    · have := (a.lt hk).2; omega
  · rintro v ⟨⟩
    refine ⟨O, fun k hk => ⟨fun e => ?_, fun e => ?_, fun u e e2 => ?_⟩⟩
    · rcases hX k hk with rfl | rfl
      · exact g3 e
      · have := blkLt (h.lK _ e).2.1; omega
    · rcases hX k hk with rfl | rfl
      · exact g4 e
      · have := blkLt (h.bX _ e).2; omega
    · obtain ⟨a, b⟩ := h.oK u e
      rcases hX k hk with rfl | rfl
      · exact (b _ e2).1 rfl
      · have := (a.lt e2).2; omega
  · intro b e
    obtain ⟨a, c⟩ := h.bX b e
    exact ⟨a, (hG b (blkLt c) (fun e' => g4 (by rw [← e', e]))).trans c⟩
end
end Go.Proofs.Ytomjfhcfellikaa
