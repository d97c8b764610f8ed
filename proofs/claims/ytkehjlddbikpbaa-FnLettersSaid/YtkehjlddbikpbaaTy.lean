/- The plain data of this seat: a structure for each Go struct that the statements take, its cells, and how an argument reads as one. Written by program (structs.py). -/
import Derived.Test.YtkehjlddbikpbaaOpen
import Derived.Test.YtkehjlddbikpbaaNum
namespace Go.Proofs.Ytkehjlddbikpbaa
set_option linter.unusedSimpArgs false
set_option linter.unusedVariables false
open Go.RowKit Go.ChangeShapes Go.WideShapes Go.Deep

structure TagD where
  fKind : Int
  fOne : Int
  fTwo : Int
  fA : Int
  fB : Int
def TagD.cells (x : TagD) : List Value := [.int .i64 x.fKind, .int .i64 x.fOne, .int .i64 x.fTwo, .int .i64 x.fA, .int .i64 x.fB]
abbrev TagD.row (x : TagD) : List Value := [.int .i64 x.fKind, .int .i64 x.fOne, .int .i64 x.fTwo, .int .i64 x.fA, .int .i64 x.fB]
abbrev TagD.arr (x : TagD) : Array Value := #[.int .i64 x.fKind, .int .i64 x.fOne, .int .i64 x.fTwo, .int .i64 x.fA, .int .i64 x.fB]
abbrev TagD.val (x : TagD) : Value := .agg #[.int .i64 x.fKind, .int .i64 x.fOne, .int .i64 x.fTwo, .int .i64 x.fA, .int .i64 x.fB]
def TagD.wf (x : TagD) : Prop := (-9223372036854775808 ≤ x.fKind ∧ x.fKind ≤ 9223372036854775807) ∧ (-9223372036854775808 ≤ x.fOne ∧ x.fOne ≤ 9223372036854775807) ∧ (-9223372036854775808 ≤ x.fTwo ∧ x.fTwo ≤ 9223372036854775807) ∧ (-9223372036854775808 ≤ x.fA ∧ x.fA ≤ 9223372036854775807) ∧ (-9223372036854775808 ≤ x.fB ∧ x.fB ≤ 9223372036854775807)
theorem TagD.cells_length (x : TagD) : x.cells.length = 5 := rfl

theorem kc3 : Try.prog.cellsOf 3 = 1 := by kernel_rfl
section
variable {H : Type} {enc : TypeId × Value → H} {w : World} {base : Nat} {spare : Nat → Bool} {held : Bool}
theorem el_Tag (n : Nat) (cs : List Value) (y : DataW H × List MemPlace) (h : DataW.trod enc Try.prog w base spare held n 24 cs = some y) : ∃ x : TagD, cs = x.cells ∧ x.wf := by
  have hl : cs.length = 5 := by obtain ⟨_, _, _, _, hlen, _⟩ := DataW.trod_struct Try.underlying24 h; exact hlen.trans (by kernel_rfl)
  match cs, hl with
  | [c0, c1, c2, c3, c4], _ =>
    obtain ⟨xs, m, _, _, hlen, hn, hf⟩ := DataW.trod_struct Try.underlying24 h
    obtain ⟨y_0, e_0⟩ : ∃ y, xs[0]? = some y := ⟨_, List.getElem?_eq_getElem (by rw [hn]; decide)⟩
    have g_0 : DataW.trod enc Try.prog w base spare held m 3 [c0] = some y_0 := by have := hf 0 _ rfl; rw [e_0] at this; simpa [kc3] using this
    obtain ⟨x_0, q_0, -, w_0⟩ := DataW.trod_int Try.underlying3 g_0
    simp only [List.cons.injEq, and_true] at q_0; subst q_0
    obtain ⟨y_1, e_1⟩ : ∃ y, xs[1]? = some y := ⟨_, List.getElem?_eq_getElem (by rw [hn]; decide)⟩
    have g_1 : DataW.trod enc Try.prog w base spare held m 3 [c1] = some y_1 := by have := hf 1 _ rfl; rw [e_1] at this; simpa [kc3] using this
    obtain ⟨x_1, q_1, -, w_1⟩ := DataW.trod_int Try.underlying3 g_1
    simp only [List.cons.injEq, and_true] at q_1; subst q_1
    obtain ⟨y_2, e_2⟩ : ∃ y, xs[2]? = some y := ⟨_, List.getElem?_eq_getElem (by rw [hn]; decide)⟩
    have g_2 : DataW.trod enc Try.prog w base spare held m 3 [c2] = some y_2 := by have := hf 2 _ rfl; rw [e_2] at this; simpa [kc3] using this
    obtain ⟨x_2, q_2, -, w_2⟩ := DataW.trod_int Try.underlying3 g_2
    simp only [List.cons.injEq, and_true] at q_2; subst q_2
    obtain ⟨y_3, e_3⟩ : ∃ y, xs[3]? = some y := ⟨_, List.getElem?_eq_getElem (by rw [hn]; decide)⟩
    have g_3 : DataW.trod enc Try.prog w base spare held m 3 [c3] = some y_3 := by have := hf 3 _ rfl; rw [e_3] at this; simpa [kc3] using this
    obtain ⟨x_3, q_3, -, w_3⟩ := DataW.trod_int Try.underlying3 g_3
    simp only [List.cons.injEq, and_true] at q_3; subst q_3
    obtain ⟨y_4, e_4⟩ : ∃ y, xs[4]? = some y := ⟨_, List.getElem?_eq_getElem (by rw [hn]; decide)⟩
    have g_4 : DataW.trod enc Try.prog w base spare held m 3 [c4] = some y_4 := by have := hf 4 _ rfl; rw [e_4] at this; simpa [kc3] using this
    obtain ⟨x_4, q_4, -, w_4⟩ := DataW.trod_int Try.underlying3 g_4
    simp only [List.cons.injEq, and_true] at q_4; subst q_4
    exact ⟨⟨x_0, x_1, x_2, x_3, x_4⟩, rfl, ⟨bounds_i64 w_0, bounds_i64 w_1, bounds_i64 w_2, bounds_i64 w_3, bounds_i64 w_4⟩⟩
end

structure LetterD where
  fKind : Int
  fFrom : Int
  fTo : Int
  fPort : Int
  fKey : Int
  fToken : Int
  fNonce : Int
  fGive : Int
  fSign : Int
  fTagKind : Int
  fTagOne : Int
  fTagTwo : Int
  fTagA : Int
  fTagB : Int
  fId : Int
  fAddr : Int
  fSpare : Bool
  fAt : Int
  fText : ByteArray
def LetterD.cells (x : LetterD) : List Value := [.int .i64 x.fKind, .int .i64 x.fFrom, .int .i64 x.fTo, .int .i64 x.fPort, .int .i64 x.fKey, .int .i64 x.fToken, .int .i64 x.fNonce, .int .i64 x.fGive, .int .i64 x.fSign, .int .i64 x.fTagKind, .int .i64 x.fTagOne, .int .i64 x.fTagTwo, .int .i64 x.fTagA, .int .i64 x.fTagB, .int .i64 x.fId, .int .i64 x.fAddr, .bool x.fSpare, .int .i64 x.fAt, .string x.fText]
abbrev LetterD.row (x : LetterD) : List Value := [.int .i64 x.fKind, .int .i64 x.fFrom, .int .i64 x.fTo, .int .i64 x.fPort, .int .i64 x.fKey, .int .i64 x.fToken, .int .i64 x.fNonce, .int .i64 x.fGive, .int .i64 x.fSign, .int .i64 x.fTagKind, .int .i64 x.fTagOne, .int .i64 x.fTagTwo, .int .i64 x.fTagA, .int .i64 x.fTagB, .int .i64 x.fId, .int .i64 x.fAddr, .bool x.fSpare, .int .i64 x.fAt, .string x.fText]
abbrev LetterD.arr (x : LetterD) : Array Value := #[.int .i64 x.fKind, .int .i64 x.fFrom, .int .i64 x.fTo, .int .i64 x.fPort, .int .i64 x.fKey, .int .i64 x.fToken, .int .i64 x.fNonce, .int .i64 x.fGive, .int .i64 x.fSign, .int .i64 x.fTagKind, .int .i64 x.fTagOne, .int .i64 x.fTagTwo, .int .i64 x.fTagA, .int .i64 x.fTagB, .int .i64 x.fId, .int .i64 x.fAddr, .bool x.fSpare, .int .i64 x.fAt, .string x.fText]
abbrev LetterD.val (x : LetterD) : Value := .agg #[.int .i64 x.fKind, .int .i64 x.fFrom, .int .i64 x.fTo, .int .i64 x.fPort, .int .i64 x.fKey, .int .i64 x.fToken, .int .i64 x.fNonce, .int .i64 x.fGive, .int .i64 x.fSign, .int .i64 x.fTagKind, .int .i64 x.fTagOne, .int .i64 x.fTagTwo, .int .i64 x.fTagA, .int .i64 x.fTagB, .int .i64 x.fId, .int .i64 x.fAddr, .bool x.fSpare, .int .i64 x.fAt, .string x.fText]
def LetterD.wf (x : LetterD) : Prop := (-9223372036854775808 ≤ x.fKind ∧ x.fKind ≤ 9223372036854775807) ∧ (-9223372036854775808 ≤ x.fFrom ∧ x.fFrom ≤ 9223372036854775807) ∧ (-9223372036854775808 ≤ x.fTo ∧ x.fTo ≤ 9223372036854775807) ∧ (-9223372036854775808 ≤ x.fPort ∧ x.fPort ≤ 9223372036854775807) ∧ (-9223372036854775808 ≤ x.fKey ∧ x.fKey ≤ 9223372036854775807) ∧ (-9223372036854775808 ≤ x.fToken ∧ x.fToken ≤ 9223372036854775807) ∧ (-9223372036854775808 ≤ x.fNonce ∧ x.fNonce ≤ 9223372036854775807) ∧ (-9223372036854775808 ≤ x.fGive ∧ x.fGive ≤ 9223372036854775807) ∧ (-9223372036854775808 ≤ x.fSign ∧ x.fSign ≤ 9223372036854775807) ∧ (-9223372036854775808 ≤ x.fTagKind ∧ x.fTagKind ≤ 9223372036854775807) ∧ (-9223372036854775808 ≤ x.fTagOne ∧ x.fTagOne ≤ 9223372036854775807) ∧ (-9223372036854775808 ≤ x.fTagTwo ∧ x.fTagTwo ≤ 9223372036854775807) ∧ (-9223372036854775808 ≤ x.fTagA ∧ x.fTagA ≤ 9223372036854775807) ∧ (-9223372036854775808 ≤ x.fTagB ∧ x.fTagB ≤ 9223372036854775807) ∧ (-9223372036854775808 ≤ x.fId ∧ x.fId ≤ 9223372036854775807) ∧ (-9223372036854775808 ≤ x.fAddr ∧ x.fAddr ≤ 9223372036854775807) ∧ True ∧ (-9223372036854775808 ≤ x.fAt ∧ x.fAt ≤ 9223372036854775807) ∧ x.fText.size ≤ maxLen
theorem LetterD.cells_length (x : LetterD) : x.cells.length = 19 := rfl

theorem kc4 : Try.prog.cellsOf 4 = 1 := by kernel_rfl
theorem kc9 : Try.prog.cellsOf 9 = 1 := by kernel_rfl
theorem kc24 : Try.prog.cellsOf 24 = 5 := by kernel_rfl
section
variable {H : Type} {enc : TypeId × Value → H} {w : World} {base : Nat} {spare : Nat → Bool} {held : Bool}
theorem el_Letter (n : Nat) (cs : List Value) (y : DataW H × List MemPlace) (h : DataW.trod enc Try.prog w base spare held n 26 cs = some y) : ∃ x : LetterD, cs = x.cells ∧ x.wf := by
  have hl : cs.length = 19 := by obtain ⟨_, _, _, _, hlen, _⟩ := DataW.trod_struct Try.underlying26 h; exact hlen.trans (by kernel_rfl)
  match cs, hl with
  | [c0, c1, c2, c3, c4, c5, c6, c7, c8, c9, c10, c11, c12, c13, c14, c15, c16, c17, c18], _ =>
    obtain ⟨xs, m, _, _, hlen, hn, hf⟩ := DataW.trod_struct Try.underlying26 h
    obtain ⟨y_0, e_0⟩ : ∃ y, xs[0]? = some y := ⟨_, List.getElem?_eq_getElem (by rw [hn]; decide)⟩
    have g_0 : DataW.trod enc Try.prog w base spare held m 3 [c0] = some y_0 := by have := hf 0 _ rfl; rw [e_0] at this; simpa [kc3] using this
    obtain ⟨x_0, q_0, -, w_0⟩ := DataW.trod_int Try.underlying3 g_0
    simp only [List.cons.injEq, and_true] at q_0; subst q_0
    obtain ⟨y_1, e_1⟩ : ∃ y, xs[1]? = some y := ⟨_, List.getElem?_eq_getElem (by rw [hn]; decide)⟩
    have g_1 : DataW.trod enc Try.prog w base spare held m 3 [c1] = some y_1 := by have := hf 1 _ rfl; rw [e_1] at this; simpa [kc3] using this
    obtain ⟨x_1, q_1, -, w_1⟩ := DataW.trod_int Try.underlying3 g_1
    simp only [List.cons.injEq, and_true] at q_1; subst q_1
    obtain ⟨y_2, e_2⟩ : ∃ y, xs[2]? = some y := ⟨_, List.getElem?_eq_getElem (by rw [hn]; decide)⟩
    have g_2 : DataW.trod enc Try.prog w base spare held m 3 [c2] = some y_2 := by have := hf 2 _ rfl; rw [e_2] at this; simpa [kc3] using this
    obtain ⟨x_2, q_2, -, w_2⟩ := DataW.trod_int Try.underlying3 g_2
    simp only [List.cons.injEq, and_true] at q_2; subst q_2
    obtain ⟨y_3, e_3⟩ : ∃ y, xs[3]? = some y := ⟨_, List.getElem?_eq_getElem (by rw [hn]; decide)⟩
    have g_3 : DataW.trod enc Try.prog w base spare held m 3 [c3] = some y_3 := by have := hf 3 _ rfl; rw [e_3] at this; simpa [kc3] using this
    obtain ⟨x_3, q_3, -, w_3⟩ := DataW.trod_int Try.underlying3 g_3
    simp only [List.cons.injEq, and_true] at q_3; subst q_3
    obtain ⟨y_4, e_4⟩ : ∃ y, xs[4]? = some y := ⟨_, List.getElem?_eq_getElem (by rw [hn]; decide)⟩
    have g_4 : DataW.trod enc Try.prog w base spare held m 3 [c4] = some y_4 := by have := hf 4 _ rfl; rw [e_4] at this; simpa [kc3] using this
    obtain ⟨x_4, q_4, -, w_4⟩ := DataW.trod_int Try.underlying3 g_4
    simp only [List.cons.injEq, and_true] at q_4; subst q_4
    obtain ⟨y_5, e_5⟩ : ∃ y, xs[5]? = some y := ⟨_, List.getElem?_eq_getElem (by rw [hn]; decide)⟩
    have g_5 : DataW.trod enc Try.prog w base spare held m 3 [c5] = some y_5 := by have := hf 5 _ rfl; rw [e_5] at this; simpa [kc3] using this
    obtain ⟨x_5, q_5, -, w_5⟩ := DataW.trod_int Try.underlying3 g_5
    simp only [List.cons.injEq, and_true] at q_5; subst q_5
    obtain ⟨y_6, e_6⟩ : ∃ y, xs[6]? = some y := ⟨_, List.getElem?_eq_getElem (by rw [hn]; decide)⟩
    have g_6 : DataW.trod enc Try.prog w base spare held m 3 [c6] = some y_6 := by have := hf 6 _ rfl; rw [e_6] at this; simpa [kc3] using this
    obtain ⟨x_6, q_6, -, w_6⟩ := DataW.trod_int Try.underlying3 g_6
    simp only [List.cons.injEq, and_true] at q_6; subst q_6
    obtain ⟨y_7, e_7⟩ : ∃ y, xs[7]? = some y := ⟨_, List.getElem?_eq_getElem (by rw [hn]; decide)⟩
    have g_7 : DataW.trod enc Try.prog w base spare held m 3 [c7] = some y_7 := by have := hf 7 _ rfl; rw [e_7] at this; simpa [kc3] using this
    obtain ⟨x_7, q_7, -, w_7⟩ := DataW.trod_int Try.underlying3 g_7
    simp only [List.cons.injEq, and_true] at q_7; subst q_7
    obtain ⟨y_8, e_8⟩ : ∃ y, xs[8]? = some y := ⟨_, List.getElem?_eq_getElem (by rw [hn]; decide)⟩
    have g_8 : DataW.trod enc Try.prog w base spare held m 3 [c8] = some y_8 := by have := hf 8 _ rfl; rw [e_8] at this; simpa [kc3] using this
    obtain ⟨x_8, q_8, -, w_8⟩ := DataW.trod_int Try.underlying3 g_8
    simp only [List.cons.injEq, and_true] at q_8; subst q_8
    obtain ⟨y_9, e_9⟩ : ∃ y, xs[9]? = some y := ⟨_, List.getElem?_eq_getElem (by rw [hn]; decide)⟩
    have g_9 : DataW.trod enc Try.prog w base spare held m 24 [c9, c10, c11, c12, c13] = some y_9 := by have := hf 9 _ rfl; rw [e_9] at this; simpa [kc24] using this
    obtain ⟨xs_9, m_9, _, _, hlen_9, hn_9, hf_9⟩ := DataW.trod_struct Try.underlying24 g_9
    obtain ⟨y_9_0, e_9_0⟩ : ∃ y, xs_9[0]? = some y := ⟨_, List.getElem?_eq_getElem (by rw [hn_9]; decide)⟩
    have g_9_0 : DataW.trod enc Try.prog w base spare held m_9 3 [c9] = some y_9_0 := by have := hf_9 0 _ rfl; rw [e_9_0] at this; simpa [kc3] using this
    obtain ⟨x_9_0, q_9_0, -, w_9_0⟩ := DataW.trod_int Try.underlying3 g_9_0
    simp only [List.cons.injEq, and_true] at q_9_0; subst q_9_0
    obtain ⟨y_9_1, e_9_1⟩ : ∃ y, xs_9[1]? = some y := ⟨_, List.getElem?_eq_getElem (by rw [hn_9]; decide)⟩
    have g_9_1 : DataW.trod enc Try.prog w base spare held m_9 3 [c10] = some y_9_1 := by have := hf_9 1 _ rfl; rw [e_9_1] at this; simpa [kc3] using this
    obtain ⟨x_9_1, q_9_1, -, w_9_1⟩ := DataW.trod_int Try.underlying3 g_9_1
    simp only [List.cons.injEq, and_true] at q_9_1; subst q_9_1
    obtain ⟨y_9_2, e_9_2⟩ : ∃ y, xs_9[2]? = some y := ⟨_, List.getElem?_eq_getElem (by rw [hn_9]; decide)⟩
    have g_9_2 : DataW.trod enc Try.prog w base spare held m_9 3 [c11] = some y_9_2 := by have := hf_9 2 _ rfl; rw [e_9_2] at this; simpa [kc3] using this
    obtain ⟨x_9_2, q_9_2, -, w_9_2⟩ := DataW.trod_int Try.underlying3 g_9_2
    simp only [List.cons.injEq, and_true] at q_9_2; subst q_9_2
    obtain ⟨y_9_3, e_9_3⟩ : ∃ y, xs_9[3]? = some y := ⟨_, List.getElem?_eq_getElem (by rw [hn_9]; decide)⟩
    have g_9_3 : DataW.trod enc Try.prog w base spare held m_9 3 [c12] = some y_9_3 := by have := hf_9 3 _ rfl; rw [e_9_3] at this; simpa [kc3] using this
    obtain ⟨x_9_3, q_9_3, -, w_9_3⟩ := DataW.trod_int Try.underlying3 g_9_3
    simp only [List.cons.injEq, and_true] at q_9_3; subst q_9_3
    obtain ⟨y_9_4, e_9_4⟩ : ∃ y, xs_9[4]? = some y := ⟨_, List.getElem?_eq_getElem (by rw [hn_9]; decide)⟩
    have g_9_4 : DataW.trod enc Try.prog w base spare held m_9 3 [c13] = some y_9_4 := by have := hf_9 4 _ rfl; rw [e_9_4] at this; simpa [kc3] using this
    obtain ⟨x_9_4, q_9_4, -, w_9_4⟩ := DataW.trod_int Try.underlying3 g_9_4
    simp only [List.cons.injEq, and_true] at q_9_4; subst q_9_4
    obtain ⟨y_10, e_10⟩ : ∃ y, xs[10]? = some y := ⟨_, List.getElem?_eq_getElem (by rw [hn]; decide)⟩
    have g_10 : DataW.trod enc Try.prog w base spare held m 3 [c14] = some y_10 := by have := hf 10 _ rfl; rw [e_10] at this; simpa [kc3] using this
    obtain ⟨x_10, q_10, -, w_10⟩ := DataW.trod_int Try.underlying3 g_10
    simp only [List.cons.injEq, and_true] at q_10; subst q_10
    obtain ⟨y_11, e_11⟩ : ∃ y, xs[11]? = some y := ⟨_, List.getElem?_eq_getElem (by rw [hn]; decide)⟩
    have g_11 : DataW.trod enc Try.prog w base spare held m 3 [c15] = some y_11 := by have := hf 11 _ rfl; rw [e_11] at this; simpa [kc3] using this
    obtain ⟨x_11, q_11, -, w_11⟩ := DataW.trod_int Try.underlying3 g_11
    simp only [List.cons.injEq, and_true] at q_11; subst q_11
    obtain ⟨y_12, e_12⟩ : ∃ y, xs[12]? = some y := ⟨_, List.getElem?_eq_getElem (by rw [hn]; decide)⟩
    have g_12 : DataW.trod enc Try.prog w base spare held m 4 [c16] = some y_12 := by have := hf 12 _ rfl; rw [e_12] at this; simpa [kc4] using this
    obtain ⟨x_12, q_12, -⟩ := DataW.trod_bool Try.underlying4 g_12
    simp only [List.cons.injEq, and_true] at q_12; subst q_12
    obtain ⟨y_13, e_13⟩ : ∃ y, xs[13]? = some y := ⟨_, List.getElem?_eq_getElem (by rw [hn]; decide)⟩
    have g_13 : DataW.trod enc Try.prog w base spare held m 3 [c17] = some y_13 := by have := hf 13 _ rfl; rw [e_13] at this; simpa [kc3] using this
    obtain ⟨x_13, q_13, -, w_13⟩ := DataW.trod_int Try.underlying3 g_13
    simp only [List.cons.injEq, and_true] at q_13; subst q_13
    obtain ⟨y_14, e_14⟩ : ∃ y, xs[14]? = some y := ⟨_, List.getElem?_eq_getElem (by rw [hn]; decide)⟩
    have g_14 : DataW.trod enc Try.prog w base spare held m 9 [c18] = some y_14 := by have := hf 14 _ rfl; rw [e_14] at this; simpa [kc9] using this
    obtain ⟨x_14, q_14, -, w_14⟩ := DataW.trod_string Try.underlying9 g_14
    simp only [List.cons.injEq, and_true] at q_14; subst q_14
    exact ⟨⟨x_0, x_1, x_2, x_3, x_4, x_5, x_6, x_7, x_8, x_9_0, x_9_1, x_9_2, x_9_3, x_9_4, x_10, x_11, x_12, x_13, x_14⟩, rfl, ⟨bounds_i64 w_0, bounds_i64 w_1, bounds_i64 w_2, bounds_i64 w_3, bounds_i64 w_4, bounds_i64 w_5, bounds_i64 w_6, bounds_i64 w_7, bounds_i64 w_8, bounds_i64 w_9_0, bounds_i64 w_9_1, bounds_i64 w_9_2, bounds_i64 w_9_3, bounds_i64 w_9_4, bounds_i64 w_10, bounds_i64 w_11, trivial, bounds_i64 w_13, w_14⟩⟩
end

end Go.Proofs.Ytkehjlddbikpbaa
