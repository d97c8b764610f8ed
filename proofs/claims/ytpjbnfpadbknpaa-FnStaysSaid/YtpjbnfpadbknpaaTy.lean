/- The plain data of this seat: a structure for each Go struct that the statements take, its cells, and how an argument reads as one. Written by program (structs.py). -/
import Derived.Test.YtpjbnfpadbknpaaOpen
import Derived.Test.YtpjbnfpadbknpaaNum
namespace Go.Proofs.Ytpjbnfpadbknpaa
set_option linter.unusedSimpArgs false
set_option linter.unusedVariables false
open Go.RowKit Go.ChangeShapes Go.WideShapes Go.Deep

structure PieceD where
  fAt : Int
  fText : ByteArray
def PieceD.cells (x : PieceD) : List Value := [.int .i64 x.fAt, .string x.fText]
abbrev PieceD.row (x : PieceD) : List Value := [.int .i64 x.fAt, .string x.fText]
abbrev PieceD.arr (x : PieceD) : Array Value := #[.int .i64 x.fAt, .string x.fText]
abbrev PieceD.val (x : PieceD) : Value := .agg #[.int .i64 x.fAt, .string x.fText]
def PieceD.wf (x : PieceD) : Prop := (-9223372036854775808 ≤ x.fAt ∧ x.fAt ≤ 9223372036854775807) ∧ x.fText.size ≤ maxLen
theorem PieceD.cells_length (x : PieceD) : x.cells.length = 2 := rfl

theorem kc3 : Try.prog.cellsOf 3 = 1 := by kernel_rfl
theorem kc9 : Try.prog.cellsOf 9 = 1 := by kernel_rfl
section
variable {H : Type} {enc : TypeId × Value → H} {w : World} {base : Nat} {spare : Nat → Bool} {held : Bool}
theorem el_Piece (n : Nat) (cs : List Value) (y : DataW H × List MemPlace) (h : DataW.trod enc Try.prog w base spare held n 70 cs = some y) : ∃ x : PieceD, cs = x.cells ∧ x.wf := by
  have hl : cs.length = 2 := by obtain ⟨_, _, _, _, hlen, _⟩ := DataW.trod_struct Try.underlying70 h; exact hlen.trans (by kernel_rfl)
  match cs, hl with
  | [c0, c1], _ =>
    obtain ⟨xs, m, _, _, hlen, hn, hf⟩ := DataW.trod_struct Try.underlying70 h
    obtain ⟨y_0, e_0⟩ : ∃ y, xs[0]? = some y := ⟨_, List.getElem?_eq_getElem (by rw [hn]; decide)⟩
    have g_0 : DataW.trod enc Try.prog w base spare held m 3 [c0] = some y_0 := by have := hf 0 _ rfl; rw [e_0] at this; simpa [kc3] using this
    obtain ⟨x_0, q_0, -, w_0⟩ := DataW.trod_int Try.underlying3 g_0
    simp only [List.cons.injEq, and_true] at q_0; subst q_0
    obtain ⟨y_1, e_1⟩ : ∃ y, xs[1]? = some y := ⟨_, List.getElem?_eq_getElem (by rw [hn]; decide)⟩
    have g_1 : DataW.trod enc Try.prog w base spare held m 9 [c1] = some y_1 := by have := hf 1 _ rfl; rw [e_1] at this; simpa [kc9] using this
    obtain ⟨x_1, q_1, -, w_1⟩ := DataW.trod_string Try.underlying9 g_1
    simp only [List.cons.injEq, and_true] at q_1; subst q_1
    exact ⟨⟨x_0, x_1⟩, rfl, ⟨bounds_i64 w_0, w_1⟩⟩
end

structure PiecesA where
  fRead : Int
  fReady : ByteArray
  aList : Option Addr
  cList : Nat
  fList : List PieceD
def PiecesA.cells (x : PiecesA) : List Value := [.int .i64 x.fRead, .string x.fReady, .slice x.aList x.fList.length x.cList]
abbrev PiecesA.arr (x : PiecesA) : Array Value := #[.int .i64 x.fRead, .string x.fReady, .slice x.aList x.fList.length x.cList]
abbrev PiecesA.val (x : PiecesA) : Value := .agg #[.int .i64 x.fRead, .string x.fReady, .slice x.aList x.fList.length x.cList]
def PiecesA.wf (w : World) (x : PiecesA) : Prop := (-9223372036854775808 ≤ x.fRead ∧ x.fRead ≤ 9223372036854775807) ∧ x.fReady.size ≤ maxLen ∧ (x.fList.length ≤ x.cList ∧ x.cList ≤ maxLen ∧ (∀ y ∈ x.fList, PieceD.wf y) ∧ Rd PieceD.cells 2 w 0 w.heap.size x.aList x.fList)
theorem kc32 : Try.prog.cellsOf 32 = 1 := by kernel_rfl
section
variable {H : Type} {enc : TypeId × Value → H} {w : World} {base : Nat} {spare : Nat → Bool} {held : Bool}
theorem el_Pieces (n : Nat) (cs : List Value) (y : DataW H × List MemPlace) (h : DataW.trod enc Try.prog w base spare held n 34 cs = some y) : ∃ x : PiecesA, cs = x.cells ∧ x.wf w := by
  have hl : cs.length = 3 := by obtain ⟨_, _, _, _, hlen, _⟩ := DataW.trod_struct Try.underlying34 h; exact hlen.trans (by kernel_rfl)
  match cs, hl with
  | [c0, c1, c2], _ =>
    obtain ⟨xs, m, _, _, hlen, hn, hf⟩ := DataW.trod_struct Try.underlying34 h
    obtain ⟨y0, e0⟩ : ∃ y, xs[0]? = some y := ⟨_, List.getElem?_eq_getElem (by rw [hn]; decide)⟩
    have g0 : DataW.trod enc Try.prog w base spare held m 3 [c0] = some y0 := by have := hf 0 _ rfl; rw [e0] at this; simpa [kc3] using this
    obtain ⟨x0, q0, -, w0⟩ := DataW.trod_int Try.underlying3 g0
    simp only [List.cons.injEq, and_true] at q0; subst q0
    obtain ⟨y1, e1⟩ : ∃ y, xs[1]? = some y := ⟨_, List.getElem?_eq_getElem (by rw [hn]; decide)⟩
    have g1 : DataW.trod enc Try.prog w base spare held m 9 [c1] = some y1 := by have := hf 1 _ rfl; rw [e1] at this; simpa [kc9] using this
    obtain ⟨x1, q1, -, w1⟩ := DataW.trod_string Try.underlying9 g1
    simp only [List.cons.injEq, and_true] at q1; subst q1
    obtain ⟨y2, e2⟩ : ∃ y, xs[2]? = some y := ⟨_, List.getElem?_eq_getElem (by rw [hn]; decide)⟩
    have g2 : DataW.trod enc Try.prog w base spare held m 32 [c2] = some y2 := by have := hf 2 _ rfl; rw [e2] at this; simpa [kc32] using this
    obtain ⟨A2, k2, L2, q2, w2a, w2b, w2c, w2d⟩ := open_rows PieceD.cells PieceD.wf 2 PieceD.cells_length (by decide) Try.underlying32 (by kernel_rfl) el_Piece g2
    simp only [List.cons.injEq, and_true] at q2; subst q2
    exact ⟨⟨x0, x1, A2, k2, L2⟩, rfl, ⟨bounds_i64 w0, w1, ⟨w2a, w2b, w2c, w2d⟩⟩⟩
end

end Go.Proofs.Ytpjbnfpadbknpaa
