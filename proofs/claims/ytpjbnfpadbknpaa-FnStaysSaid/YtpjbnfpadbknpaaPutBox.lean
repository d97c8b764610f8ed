/- The boxes of PutPiece: the list that is laid out (bo) and the piece that is put (bn). -/
import Derived.Test.YtpjbnfpadbknpaaPutMerge
namespace Go.Proofs.Ytpjbnfpadbknpaa
set_option linter.unusedSimpArgs false
set_option linter.unusedVariables false
open Go.RowKit

/-- From W0 on (all that lies below B was there) only the boxes bo and bn have changed; what they hold. -/
structure PB (W0 : World) (B bo bn : Nat) (r : Int) (S : ByteArray) (vO : Value) (y : PieceD) (W : World) : Prop where
  os : W.os = W0.os
  tape : W.tape = W0.tape
  output : W.output = W0.output
  hB : B ≤ W.heap.size
  ho : bo < B
  hn : bn < B
  ne : bo ≠ bn
  keep : ∀ k, k < B → k ≠ bo → k ≠ bn → W.heap[k]? = W0.heap[k]?
  o0 : W.cell? ⟨bo, 0, none⟩ = some (.int .i64 r)
  o1 : W.cell? ⟨bo, 1, none⟩ = some (.string S)
  o2 : W.cell? ⟨bo, 2, none⟩ = some vO
  of : ∀ o, W.frozen? ⟨bo, o, none⟩ = false
  n0 : W.cell? ⟨bn, 0, none⟩ = some (.int .i64 y.fAt)
  n1 : W.cell? ⟨bn, 1, none⟩ = some (.string y.fText)
  nf : ∀ o, W.frozen? ⟨bn, o, none⟩ = false
section
variable {W0 W W' : World} {B bo bn : Nat} {r : Int} {S : ByteArray} {vO : Value} {y : PieceD}
theorem PB.next (h : PB W0 B bo bn r S vO y W) (hb : Below B W W') : PB W0 B bo bn r S vO y W' :=
  ⟨hb.os.trans h.os, hb.tape.trans h.tape, hb.output.trans h.output, Nat.le_trans h.hB hb.size, h.ho, h.hn, h.ne, fun k hk h1 h2 => (hb.block k hk).trans (h.keep k hk h1 h2),
    (hb.cell (p := ⟨bo, 0, none⟩) h.ho).trans h.o0, (hb.cell (p := ⟨bo, 1, none⟩) h.ho).trans h.o1, (hb.cell (p := ⟨bo, 2, none⟩) h.ho).trans h.o2, fun o => (hb.frozen (p := ⟨bo, o, none⟩) h.ho).trans (h.of o),
    (hb.cell (p := ⟨bn, 0, none⟩) h.hn).trans h.n0, (hb.cell (p := ⟨bn, 1, none⟩) h.hn).trans h.n1, fun o => (hb.frozen (p := ⟨bn, o, none⟩) h.hn).trans (h.nf o)⟩
theorem PB.setO (h : PB W0 B bo bn r S vO y W) (v : Value) : PB W0 B bo bn r S v y (W.setCell ⟨bo, 2, none⟩ v) :=
  ⟨h.os, h.tape, h.output, by simpa using h.hB, h.ho, h.hn, h.ne, fun k hk h1 h2 => (Below.heap_setCell _ _ _ _ (fun e => h1 e)).trans (h.keep k hk h1 h2),
    (World.cell?_setCell_other _ _ _ _ (by simp)).trans h.o0, (World.cell?_setCell_other _ _ _ _ (by simp)).trans h.o1, World.cell?_setCell_same _ _ _ h.o2, fun o => by rw [World.frozen?_setCell]; exact h.of o,
    (World.cell?_setCell_far _ _ _ _ h.ne).trans h.n0, (World.cell?_setCell_far _ _ _ _ h.ne).trans h.n1, fun o => by rw [World.frozen?_setCell]; exact h.nf o⟩
theorem PB.setS (h : PB W0 B bo bn r S vO y W) (S' : ByteArray) : PB W0 B bo bn r S' vO y (W.setCell ⟨bo, 1, none⟩ (.string S')) :=
  ⟨h.os, h.tape, h.output, by simpa using h.hB, h.ho, h.hn, h.ne, fun k hk h1 h2 => (Below.heap_setCell _ _ _ _ (fun e => h1 e)).trans (h.keep k hk h1 h2),
    (World.cell?_setCell_other _ _ _ _ (by simp)).trans h.o0, World.cell?_setCell_same _ _ _ h.o1, (World.cell?_setCell_other _ _ _ _ (by simp)).trans h.o2, fun o => by rw [World.frozen?_setCell]; exact h.of o,
    (World.cell?_setCell_far _ _ _ _ h.ne).trans h.n0, (World.cell?_setCell_far _ _ _ _ h.ne).trans h.n1, fun o => by rw [World.frozen?_setCell]; exact h.nf o⟩
theorem PB.setN (h : PB W0 B bo bn r S vO y W) (y' : PieceD) : PB W0 B bo bn r S vO y' ((W.setCell ⟨bn, 0, none⟩ (.int .i64 y'.fAt)).setCell ⟨bn, 1, none⟩ (.string y'.fText)) := by
  have hne : bn ≠ bo := fun e => h.ne e.symm
  refine ⟨h.os, h.tape, h.output, by simpa using h.hB, h.ho, h.hn, h.ne, fun k hk h1 h2 => ((Below.heap_setCell _ _ _ _ (fun e => h2 e)).trans (Below.heap_setCell _ _ _ _ (fun e => h2 e))).trans (h.keep k hk h1 h2), ?_, ?_, ?_, ?_, ?_, ?_, ?_⟩
  · exact ((World.cell?_setCell_far _ _ _ _ hne).trans (World.cell?_setCell_far _ _ _ _ hne)).trans h.o0
  · exact ((World.cell?_setCell_far _ _ _ _ hne).trans (World.cell?_setCell_far _ _ _ _ hne)).trans h.o1
  · exact ((World.cell?_setCell_far _ _ _ _ hne).trans (World.cell?_setCell_far _ _ _ _ hne)).trans h.o2
  · intro o; rw [World.frozen?_setCell, World.frozen?_setCell]; exact h.of o
  · exact (World.cell?_setCell_other _ _ _ _ (by simp)).trans (World.cell?_setCell_same _ _ _ h.n0)
  · exact World.cell?_setCell_same _ _ _ ((World.cell?_setCell_other _ _ _ _ (by simp)).trans h.n1)
  · intro o; rw [World.frozen?_setCell, World.frozen?_setCell]; exact h.nf o
theorem PB.cell (h : PB W0 B bo bn r S vO y W) {k o : Nat} (hk : k < B) (h1 : k ≠ bo) (h2 : k ≠ bn) : W.cell? ⟨k, o, none⟩ = W0.cell? ⟨k, o, none⟩ := by
  unfold World.cell?
  rw [show (Addr.mk k o none).block = k from rfl, h.keep k hk h1 h2]
theorem PB.frozen (h : PB W0 B bo bn r S vO y W) {k o : Nat} (hk : k < B) (h1 : k ≠ bo) (h2 : k ≠ bn) : W.frozen? ⟨k, o, none⟩ = W0.frozen? ⟨k, o, none⟩ := by
  unfold World.frozen?
  rw [show (Addr.mk k o none).block = k from rfl, h.keep k hk h1 h2]
theorem PB.below (h : PB W0 B bo bn r S vO y W) {w : World} {C : Nat} (h0 : Below C w W0) (hC : C ≤ B) (h1 : C ≤ bo) (h2 : C ≤ bn) (hz : w.heap.size ≤ B) : Below C w W :=
  ⟨h.os.trans h0.os, h.tape.trans h0.tape, h.output.trans h0.output, Nat.le_trans hz h.hB, fun k hk => (h.keep k (by omega) (by omega) (by omega)).trans (h0.block k hk)⟩
end
section
variable {α : Type} {c : α → List Value} {sz base : Nat} {e : TypeId} {v : Value} {L : List α} {w w' : World}
theorem Own.setBelow (h : Own w base e c sz v L) {p : Addr} (hp : p.block < base) (u : Value) : Own (w.setCell p u) base e c sz v L :=
  h.keep fun _ _ hb _ => Below.heap_setCell _ _ _ _ (by omega)
end
/-- The boxes of PutPiece's argument and of its result, and the box of the list that will be laid out. -/
structure PA (w : World) (bo : Nat) (r : Int) (s : ByteArray) (vL vO : Value) (W : World) : Prop where
  below : Below w.heap.size w W
  hlo : w.heap.size + 2 ≤ bo
  hlt : bo < W.heap.size
  p0 : W.cell? ⟨w.heap.size, 0, none⟩ = some (.int .i64 r)
  p1 : W.cell? ⟨w.heap.size, 1, none⟩ = some (.string s)
  p2 : W.cell? ⟨w.heap.size, 2, none⟩ = some vL
  q0 : W.cell? ⟨w.heap.size + 1, 0, none⟩ = some (.int .i64 0)
  q1 : W.cell? ⟨w.heap.size + 1, 1, none⟩ = some (.string ⟨#[]⟩)
  q2 : W.cell? ⟨w.heap.size + 1, 2, none⟩ = some (.slice none 0 0)
  qf : ∀ o, W.frozen? ⟨w.heap.size + 1, o, none⟩ = false
  o0 : W.cell? ⟨bo, 0, none⟩ = some (.int .i64 r)
  o1 : W.cell? ⟨bo, 1, none⟩ = some (.string s)
  o2 : W.cell? ⟨bo, 2, none⟩ = some vO
  of : ∀ o, W.frozen? ⟨bo, o, none⟩ = false
theorem calP (w : World) (o : Obj) (b off : Nat) (h : b < w.heap.size) : (w.alloc o).cell? ⟨b, off, none⟩ = w.cell? ⟨b, off, none⟩ := World.cell?_alloc_lt w o _ h
theorem falP (w : World) (o : Obj) (b off : Nat) (h : b < w.heap.size) : (w.alloc o).frozen? ⟨b, off, none⟩ = w.frozen? ⟨b, off, none⟩ := (by go_grown : Below w.heap.size w (w.alloc o)).frozen (p := ⟨b, off, none⟩) h
/-- The box of the piece that is put is laid behind them. -/
theorem PA.start {w W : World} {bo : Nat} {r : Int} {s : ByteArray} {vL vO : Value} (h : PA w bo r s vL vO W) (y : PieceD) : PB (W.alloc (.cells #[.int .i64 y.fAt, .string y.fText] 44)) (W.heap.size + 1) bo W.heap.size r s vO y (W.alloc (.cells #[.int .i64 y.fAt, .string y.fText] 44)) := by
  have hl := h.hlt
  exact ⟨rfl, rfl, rfl, by simp, by omega, by omega, by omega, fun _ _ _ _ => rfl, (calP _ _ _ _ hl).trans h.o0, (calP _ _ _ _ hl).trans h.o1, (calP _ _ _ _ hl).trans h.o2, fun o => (falP _ _ _ _ hl).trans (h.of o), by simp [go_sem], by simp [go_sem], fun o => by simp [go_sem]⟩
theorem PA.next {w W W' : World} {bo : Nat} {r : Int} {s : ByteArray} {vL vO : Value} (h : PA w bo r s vL vO W) (hb : Below W.heap.size W W') : PA w bo r s vL vO W' := by
  have h1 := h.hlo
  have h2 := h.hlt
  exact ⟨h.below.trans (hb.mono h.below.size), h1, Nat.lt_of_lt_of_le h2 hb.size, (hb.cell (by show w.heap.size < _; omega)).trans h.p0, (hb.cell (by show w.heap.size < _; omega)).trans h.p1, (hb.cell (by show w.heap.size < _; omega)).trans h.p2,
    (hb.cell (by show w.heap.size + 1 < _; omega)).trans h.q0, (hb.cell (by show w.heap.size + 1 < _; omega)).trans h.q1, (hb.cell (by show w.heap.size + 1 < _; omega)).trans h.q2, fun o => (hb.frozen (p := ⟨w.heap.size + 1, o, none⟩) (by show w.heap.size + 1 < _; omega)).trans (h.qf o),
    (hb.cell (by show bo < _; omega)).trans h.o0, (hb.cell (by show bo < _; omega)).trans h.o1, (hb.cell (by show bo < _; omega)).trans h.o2, fun o => (hb.frozen (p := ⟨bo, o, none⟩) (by show bo < _; omega)).trans (h.of o)⟩
/-- What the boxes of the argument and of the result hold behind the loop. -/
theorem PA.args {w W W' : World} {B bo bn : Nat} {r : Int} {s S : ByteArray} {vL vO vF : Value} {y : PieceD} (h : PA w bo r s vL vO W) (hp : PB W B bo bn r S vF y W') (hB : B ≤ W.heap.size) (hn : bo < bn) :
    (W'.cell? ⟨w.heap.size, 0, none⟩ = some (.int .i64 r) ∧ W'.cell? ⟨w.heap.size, 1, none⟩ = some (.string s) ∧ W'.cell? ⟨w.heap.size, 2, none⟩ = some vL) ∧
    (W'.cell? ⟨w.heap.size + 1, 0, none⟩ = some (.int .i64 0) ∧ W'.cell? ⟨w.heap.size + 1, 1, none⟩ = some (.string ⟨#[]⟩) ∧ W'.cell? ⟨w.heap.size + 1, 2, none⟩ = some (.slice none 0 0) ∧ ∀ o, W'.frozen? ⟨w.heap.size + 1, o, none⟩ = false) ∧ Below w.heap.size w W' := by
  have h1 := h.hlo
  have h3 := hp.ho
  have h4 := hp.hn
  exact ⟨⟨(hp.cell (by omega) (by omega) (by omega)).trans h.p0, (hp.cell (by omega) (by omega) (by omega)).trans h.p1, (hp.cell (by omega) (by omega) (by omega)).trans h.p2⟩,
    ⟨(hp.cell (by omega) (by omega) (by omega)).trans h.q0, (hp.cell (by omega) (by omega) (by omega)).trans h.q1, (hp.cell (by omega) (by omega) (by omega)).trans h.q2, fun o => (hp.frozen (by omega) (by omega) (by omega)).trans (h.qf o)⟩,
    ⟨hp.os.trans h.below.os, hp.tape.trans h.below.tape, hp.output.trans h.below.output, Nat.le_trans (by omega : w.heap.size ≤ B) hp.hB, fun k hk => (hp.keep k (by omega) (by omega) (by omega)).trans (h.below.block k hk)⟩⟩
/-- The box of the result is as it was laid. -/
structure QF (w W : World) : Prop where
  below : Below w.heap.size w W
  hz : w.heap.size + 2 ≤ W.heap.size
  q0 : W.cell? ⟨w.heap.size + 1, 0, none⟩ = some (.int .i64 0)
  q1 : W.cell? ⟨w.heap.size + 1, 1, none⟩ = some (.string ⟨#[]⟩)
  q2 : W.cell? ⟨w.heap.size + 1, 2, none⟩ = some (.slice none 0 0)
  qf : ∀ o, W.frozen? ⟨w.heap.size + 1, o, none⟩ = false
theorem QF.next {w W W' : World} (h : QF w W) (hb : Below W.heap.size W W') : QF w W' := by
  have h1 := h.hz
  exact ⟨h.below.trans (hb.mono h.below.size), Nat.le_trans h1 hb.size, (hb.cell (by show w.heap.size + 1 < _; omega)).trans h.q0, (hb.cell (by show w.heap.size + 1 < _; omega)).trans h.q1, (hb.cell (by show w.heap.size + 1 < _; omega)).trans h.q2, fun o => (hb.frozen (p := ⟨w.heap.size + 1, o, none⟩) (by show w.heap.size + 1 < _; omega)).trans (h.qf o)⟩
theorem PA.qfs {w W W' : World} {B bo bn : Nat} {r : Int} {s S : ByteArray} {vL vO vF : Value} {y : PieceD} (h : PA w bo r s vL vO W) (hp : PB W B bo bn r S vF y W') (hB : B ≤ W.heap.size) (hn : bo < bn) : QF w W' := by
  obtain ⟨-, ⟨a, b, c, d⟩, e⟩ := h.args hp hB hn
  have h1 := h.hlo
  have h2 := hp.ho
  have h3 := hp.hB
  exact ⟨e, by omega, a, b, c, d⟩
/-- What PutPiece computes, once its piece has something new. -/
theorem put_dec {r : Int} {s : ByteArray} {L : List PieceD} {a : Int} {t : ByteArray} {o : PieceD} {S' : ByteArray} {L' : List PieceD} (q1 : piecesOk r s L = true) (q2 : winB a 0 1000000000 = true) (q3 : winB t.size 1 200 = true) (ho : trimV (r + s.size) a t = o) (h0 : o.fText.size ≠ 0) (hc : coreV r s L o = (S', L')) : putV r s L a t = if piecesOk r S' L' = true then (S', L') else (s, L) := by
  have h1 : (o.fText.size != 0) = true := by simpa using h0
  unfold putV putOk
  rw [ho, hc, q1, q2, q3, h1]
  simp only [Bool.true_and]
theorem core_head {r nx : Int} {s : ByteArray} {L F : List PieceD} {o f : PieceD} {R : List PieceD} (hn : r + s.size = nx) (hF : putOut (putTo o L L.length) = F) (hf : F = f :: R) : (f.fAt = nx → coreV r s L o = (s ++ f.fText, R)) ∧ (f.fAt ≠ nx → coreV r s L o = (s, F)) := by
  unfold coreV headV
  rw [hF, hn]
  subst hf
  exact ⟨fun h => if_pos h, fun h => if_neg h⟩
end Go.Proofs.Ytpjbnfpadbknpaa
