/- The plain data of this seat: a structure for each Go struct that the statements take, its cells, and how an argument reads as one. Written by program (structs.py). -/
import Derived.Test.YtddpgdgpicamiaaOpen
import Derived.Test.YtddpgdgpicamiaaNum
namespace Go.Proofs.Ytddpgdgpicamiaa
set_option linter.unusedSimpArgs false
set_option linter.unusedVariables false
open Go.RowKit Go.ChangeShapes Go.WideShapes Go.Deep

structure OutD where
  fText : ByteArray
  fBase : Int
  fSent : Int
  fRoom : Int
def OutD.cells (x : OutD) : List Value := [.string x.fText, .int .i64 x.fBase, .int .i64 x.fSent, .int .i64 x.fRoom]
abbrev OutD.row (x : OutD) : List Value := [.string x.fText, .int .i64 x.fBase, .int .i64 x.fSent, .int .i64 x.fRoom]
abbrev OutD.arr (x : OutD) : Array Value := #[.string x.fText, .int .i64 x.fBase, .int .i64 x.fSent, .int .i64 x.fRoom]
abbrev OutD.val (x : OutD) : Value := .agg #[.string x.fText, .int .i64 x.fBase, .int .i64 x.fSent, .int .i64 x.fRoom]
def OutD.wf (x : OutD) : Prop := x.fText.size ≤ maxLen ∧ (-9223372036854775808 ≤ x.fBase ∧ x.fBase ≤ 9223372036854775807) ∧ (-9223372036854775808 ≤ x.fSent ∧ x.fSent ≤ 9223372036854775807) ∧ (-9223372036854775808 ≤ x.fRoom ∧ x.fRoom ≤ 9223372036854775807)
theorem OutD.cells_length (x : OutD) : x.cells.length = 4 := rfl

theorem kc3 : Try.prog.cellsOf 3 = 1 := by kernel_rfl
theorem kc9 : Try.prog.cellsOf 9 = 1 := by kernel_rfl
section
variable {H : Type} {enc : TypeId × Value → H} {w : World} {base : Nat} {spare : Nat → Bool} {held : Bool}
theorem el_Out (n : Nat) (cs : List Value) (y : DataW H × List MemPlace) (h : DataW.trod enc Try.prog w base spare held n 23 cs = some y) : ∃ x : OutD, cs = x.cells ∧ x.wf := by
  have hl : cs.length = 4 := by obtain ⟨_, _, _, _, hlen, _⟩ := DataW.trod_struct Try.underlying23 h; exact hlen.trans (by kernel_rfl)
  match cs, hl with
  | [c0, c1, c2, c3], _ =>
    obtain ⟨xs, m, _, _, hlen, hn, hf⟩ := DataW.trod_struct Try.underlying23 h
    obtain ⟨y_0, e_0⟩ : ∃ y, xs[0]? = some y := ⟨_, List.getElem?_eq_getElem (by rw [hn]; decide)⟩
    have g_0 : DataW.trod enc Try.prog w base spare held m 9 [c0] = some y_0 := by have := hf 0 _ rfl; rw [e_0] at this; simpa [kc9] using this
    obtain ⟨x_0, q_0, -, w_0⟩ := DataW.trod_string Try.underlying9 g_0
    simp only [List.cons.injEq, and_true] at q_0; subst q_0
    obtain ⟨y_1, e_1⟩ : ∃ y, xs[1]? = some y := ⟨_, List.getElem?_eq_getElem (by rw [hn]; decide)⟩
    have g_1 : DataW.trod enc Try.prog w base spare held m 3 [c1] = some y_1 := by have := hf 1 _ rfl; rw [e_1] at this; simpa [kc3] using this
    obtain ⟨x_1, q_1, -, w_1⟩ := DataW.trod_int Try.underlying3 g_1
    simp only [List.cons.injEq, and_true] at q_1; subst q_1
    obtain ⟨y_2, e_2⟩ : ∃ y, xs[2]? = some y := ⟨_, List.getElem?_eq_getElem (by rw [hn]; decide)⟩
    have g_2 : DataW.trod enc Try.prog w base spare held m 3 [c2] = some y_2 := by have := hf 2 _ rfl; rw [e_2] at this; simpa [kc3] using this
    obtain ⟨x_2, q_2, -, w_2⟩ := DataW.trod_int Try.underlying3 g_2
    simp only [List.cons.injEq, and_true] at q_2; subst q_2
    obtain ⟨y_3, e_3⟩ : ∃ y, xs[3]? = some y := ⟨_, List.getElem?_eq_getElem (by rw [hn]; decide)⟩
    have g_3 : DataW.trod enc Try.prog w base spare held m 3 [c3] = some y_3 := by have := hf 3 _ rfl; rw [e_3] at this; simpa [kc3] using this
    obtain ⟨x_3, q_3, -, w_3⟩ := DataW.trod_int Try.underlying3 g_3
    simp only [List.cons.injEq, and_true] at q_3; subst q_3
    exact ⟨⟨x_0, x_1, x_2, x_3⟩, rfl, ⟨w_0, bounds_i64 w_1, bounds_i64 w_2, bounds_i64 w_3⟩⟩
end

structure PieceD where
  fAt : Int
  fText : ByteArray
def PieceD.cells (x : PieceD) : List Value := [.int .i64 x.fAt, .string x.fText]
abbrev PieceD.row (x : PieceD) : List Value := [.int .i64 x.fAt, .string x.fText]
abbrev PieceD.arr (x : PieceD) : Array Value := #[.int .i64 x.fAt, .string x.fText]
abbrev PieceD.val (x : PieceD) : Value := .agg #[.int .i64 x.fAt, .string x.fText]
def PieceD.wf (x : PieceD) : Prop := (-9223372036854775808 ≤ x.fAt ∧ x.fAt ≤ 9223372036854775807) ∧ x.fText.size ≤ maxLen
theorem PieceD.cells_length (x : PieceD) : x.cells.length = 2 := rfl

end Go.Proofs.Ytddpgdgpicamiaa
