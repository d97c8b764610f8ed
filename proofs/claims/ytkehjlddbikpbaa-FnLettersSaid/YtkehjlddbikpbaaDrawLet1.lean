/- A letter that is being drawn: it lies in box b; the result's box lies at w.heap.size. -/
import Derived.Test.YtkehjlddbikpbaaDrawLet0
import Derived.Test.YtkehjlddbikpbaaPart
import Derived.Test.YtkehjlddbikpbaaLetterOk
namespace Go.Proofs.Ytkehjlddbikpbaa
set_option linter.unusedSimpArgs false
set_option linter.unusedVariables false
open Go.RowKit

structure LSt (w W : World) (g : Nat) (S : Src) (s : Nat × Int) (b : Nat) (y : LetterD) : Prop where
  t : Touch g (g + 1) w W
  c : Cur W g S s
  gl : g < w.heap.size
  rb : w.heap.size < b
  res : ∃ old : Array Value, W.heap[w.heap.size]? = some (.cells old 33 (0, 0)) ∧ 19 = old.size
  row : W.heap[b]? = some (.cells y.arr 33 (0, 0))
theorem LSt.step {w W W' : World} {g : Nat} {S : Src} {s s' : Nat × Int} {b : Nat} {y : LetterD} (h : LSt w W g S s b y) (t : Touch g (g + 1) W W') (c : Cur W' g S s') : LSt w W' g S s' b y :=
  ⟨h.t.trans t, c, h.gl, h.rb, by obtain ⟨old, h1, h2⟩ := h.res; exact ⟨old, (t.block _ (Array.getElem?_eq_some_iff.1 h1).1 (.inr (by have := h.gl; omega))).trans h1, h2⟩, (t.block _ (Array.getElem?_eq_some_iff.1 h.row).1 (.inr (by have := h.gl; have := h.rb; omega))).trans h.row⟩
theorem LSt.put {w W W' : World} {g : Nat} {S : Src} {s : Nat × Int} {b : Nat} {y y' : LetterD} (h : LSt w W g S s b y) (hg : W'.heap[b]? = some (.cells y'.arr 33 (0, 0))) (hgr : W.grownBy W' (some b)) : LSt w W' g S s b y' := by
  have hT : Touch b (b + 1) W W' := (Touch.refl _ _ _).grown hgr (by rintro k ⟨⟩; omega)
  have := h.rb
  have := h.gl
  refine ⟨h.t.grownNew hgr (by rintro k ⟨⟩; omega), h.c.keep hT (by omega), h.gl, h.rb, ?_, hg⟩
  obtain ⟨old, h1, h2⟩ := h.res
  exact ⟨old, (hT.block _ (Array.getElem?_eq_some_iff.1 h1).1 (.inl h.rb)).trans h1, h2⟩
theorem LSt.set {w W : World} {g : Nat} {S : Src} {s : Nat × Int} {b : Nat} {y : LetterD} (h : LSt w W g S s b y) (i : Nat) (v : Value) (y' : LetterD) (e : y.arr.setIfInBounds i v = y'.arr) : LSt w (W.setCell ⟨b, i, none⟩ v) g S s b y' := by
  rw [setCell_eq_setRow W b i _ _ _ v h.row, e]
  exact h.put (setRow_heap W b _ _ _ _ h.row) ⟨rfl, rfl, rfl, by simp, fun k _ hne => setRow_other W b k _ (fun e => hne (by rw [e]))⟩
theorem LSt.cell {w W : World} {g : Nat} {S : Src} {s : Nat × Int} {b : Nat} {y : LetterD} (h : LSt w W g S s b y) (i : Nat) (v : Value) (e : y.arr[i]? = some v) : W.cell? ⟨b, i, none⟩ = some v := by
  rw [cell_of_row _ _ _ _ _ _ h.row]; exact e
theorem LSt.free {w W : World} {g : Nat} {S : Src} {s : Nat × Int} {b : Nat} {y : LetterD} (h : LSt w W g S s b y) (i : Nat) : W.frozen? ⟨b, i, none⟩ = false := frozen_of_row _ _ _ _ _ h.row
theorem LSt.done {w W W' : World} {g : Nat} {S : Src} {s : Nat × Int} {b : Nat} {y : LetterD} (h : LSt w W g S s b y) (hgr : W.grownBy W' (some w.heap.size)) : Cur W' g S s ∧ Touch g (g + 1) w W' :=
  ⟨h.c.keep ((Touch.refl w.heap.size (w.heap.size + 1) _).grown hgr (by rintro k ⟨⟩; omega)) h.gl, h.t.grownNew hgr (by rintro k ⟨⟩; exact Nat.le_refl _)⟩
/-- The letter has been laid into a new box. -/
theorem LSt.new {w W W' : World} {g : Nat} {S : Src} {s : Nat × Int} {y : LetterD} {o : Obj} (t : Touch g (g + 1) w W) (c : Cur W g S s) (gl : g < w.heap.size) (hz : w.heap.size < W.heap.size) (res : ∃ old : Array Value, W.heap[w.heap.size]? = some (.cells old 33 (0, 0)) ∧ 19 = old.size)
    (hg : W'.heap[W.heap.size]? = some (.cells y.arr 33 (0, 0))) (hgr : (W.alloc o).grownBy W' (some W.heap.size)) : LSt w W' g S s W.heap.size y := by
  have hT : Touch W.heap.size (W.heap.size + 1) W W' := ((Touch.refl _ _ _).alloc o).grown hgr (by rintro k ⟨⟩; omega)
  have hT2 : Touch g (g + 1) W W' := ((Touch.refl _ _ _).alloc o).grownNew hgr (by rintro k ⟨⟩; exact Nat.le_refl _)
  refine ⟨t.trans hT2, c.keep hT (by omega), gl, hz, ?_, hg⟩
  obtain ⟨old, h1, h2⟩ := res
  exact ⟨old, (hT.block _ hz (.inl hz)).trans h1, h2⟩
/-- The letter with another tag. -/
def LetterD.tagged (y : LetterD) (t : TagD) : LetterD := { y with fTagKind := t.fKind, fTagOne := t.fOne, fTagTwo := t.fTwo, fTagA := t.fA, fTagB := t.fB }
theorem tagged_arr (y : LetterD) (t : TagD) (vs : Array Value) (hv : vs = t.arr) : (y.arr.toList.take 9 ++ vs.toList ++ y.arr.toList.drop (9 + vs.size)).toArray = (y.tagged t).arr := by
  subst hv
  simp [LetterD.tagged]
end Go.Proofs.Ytkehjlddbikpbaa
