/- The plain data of this seat: a structure for each Go struct that the statements take, its cells, and how an argument reads as one. Written by program (structs.py). -/
import Derived.Test.YtcnklfddokpbiaaOpen
import Derived.Test.YtcnklfddokpbiaaNum
namespace Go.Proofs.Ytcnklfddokpbiaa
set_option linter.unusedSimpArgs false
set_option linter.unusedVariables false
open Go.RowKit Go.ChangeShapes Go.WideShapes Go.Deep

structure RoadD where
  fOwn : Int
  fFar : Int
  fPort : Int
def RoadD.cells (x : RoadD) : List Value := [.int .i64 x.fOwn, .int .i64 x.fFar, .int .i64 x.fPort]
abbrev RoadD.row (x : RoadD) : List Value := [.int .i64 x.fOwn, .int .i64 x.fFar, .int .i64 x.fPort]
abbrev RoadD.arr (x : RoadD) : Array Value := #[.int .i64 x.fOwn, .int .i64 x.fFar, .int .i64 x.fPort]
abbrev RoadD.val (x : RoadD) : Value := .agg #[.int .i64 x.fOwn, .int .i64 x.fFar, .int .i64 x.fPort]
def RoadD.wf (x : RoadD) : Prop := (-9223372036854775808 ≤ x.fOwn ∧ x.fOwn ≤ 9223372036854775807) ∧ (-9223372036854775808 ≤ x.fFar ∧ x.fFar ≤ 9223372036854775807) ∧ (-9223372036854775808 ≤ x.fPort ∧ x.fPort ≤ 9223372036854775807)
theorem RoadD.cells_length (x : RoadD) : x.cells.length = 3 := rfl

theorem kc3 : Try.prog.cellsOf 3 = 1 := by kernel_rfl
section
variable {H : Type} {enc : TypeId × Value → H} {w : World} {base : Nat} {spare : Nat → Bool} {held : Bool}
theorem el_Road (n : Nat) (cs : List Value) (y : DataW H × List MemPlace) (h : DataW.trod enc Try.prog w base spare held n 24 cs = some y) : ∃ x : RoadD, cs = x.cells ∧ x.wf := by
  have hl : cs.length = 3 := by obtain ⟨_, _, _, _, hlen, _⟩ := DataW.trod_struct Try.underlying24 h; exact hlen.trans (by kernel_rfl)
  match cs, hl with
  | [c0, c1, c2], _ =>
    obtain ⟨xs, m, _, _, hlen, hn, hf⟩ := DataW.trod_struct Try.underlying24 h
    obtain ⟨y_0, e_0⟩ : ∃ y, xs[0]? = some y := ⟨_, List.getElem?_eq_getElem (by rw [hn]; decide)⟩
    have g_0 : DataW.trod enc Try.prog w base spare held m 3 [c0] = some y_0 := by have := hf 0 _ rfl; rw [e_0] at this; simpa [kc3] using this
    obtain ⟨x_0, q_0, -, w_0⟩ := DataW.trod_int Try.underlying3 g_0
    simp only [List.cons.injEq, and_true] at q_0; subst q_0
    obtain ⟨y_1, e_1⟩ : ∃ y, xs[1]? = some y := ⟨_, List.getElem?_eq_getElem (by rw [hn]; decide)⟩
    have g_1 : DataW.trod enc Try.prog w base spare held m 3 [c1] = some y_1 := by have := hf 1 _ rfl; rw [e_1] at this; simpa [kc3] using this
    obtain ⟨x_1, q_1, -, w_1⟩ := DataW.trod_int Try.underlying3 g_1
    simp only [List.cons.injEq, and_true] at q_1; subst q_1
    obtain ⟨y_2, e_2⟩ : ∃ y, xs[2]? = some y := ⟨_, List.getElem?_eq_getElem (by rw [hn]; decide)⟩
    have g_2 : DataW.trod enc Try.prog w base spare held m 3 [c2] = some y_2 := by have := hf 2 _ rfl; rw [e_2] at this; simpa [kc3] using this
    obtain ⟨x_2, q_2, -, w_2⟩ := DataW.trod_int Try.underlying3 g_2
    simp only [List.cons.injEq, and_true] at q_2; subst q_2
    exact ⟨⟨x_0, x_1, x_2⟩, rfl, ⟨bounds_i64 w_0, bounds_i64 w_1, bounds_i64 w_2⟩⟩
end

structure HalfD where
  fRoadOwn : Int
  fRoadFar : Int
  fRoadPort : Int
  fTheirs : Int
  fMine : Int
  fGive : Int
  fTake : Int
  fUntil : Int
def HalfD.cells (x : HalfD) : List Value := [.int .i64 x.fRoadOwn, .int .i64 x.fRoadFar, .int .i64 x.fRoadPort, .int .i64 x.fTheirs, .int .i64 x.fMine, .int .i64 x.fGive, .int .i64 x.fTake, .int .i64 x.fUntil]
abbrev HalfD.row (x : HalfD) : List Value := [.int .i64 x.fRoadOwn, .int .i64 x.fRoadFar, .int .i64 x.fRoadPort, .int .i64 x.fTheirs, .int .i64 x.fMine, .int .i64 x.fGive, .int .i64 x.fTake, .int .i64 x.fUntil]
abbrev HalfD.arr (x : HalfD) : Array Value := #[.int .i64 x.fRoadOwn, .int .i64 x.fRoadFar, .int .i64 x.fRoadPort, .int .i64 x.fTheirs, .int .i64 x.fMine, .int .i64 x.fGive, .int .i64 x.fTake, .int .i64 x.fUntil]
abbrev HalfD.val (x : HalfD) : Value := .agg #[.int .i64 x.fRoadOwn, .int .i64 x.fRoadFar, .int .i64 x.fRoadPort, .int .i64 x.fTheirs, .int .i64 x.fMine, .int .i64 x.fGive, .int .i64 x.fTake, .int .i64 x.fUntil]
def HalfD.wf (x : HalfD) : Prop := (-9223372036854775808 ≤ x.fRoadOwn ∧ x.fRoadOwn ≤ 9223372036854775807) ∧ (-9223372036854775808 ≤ x.fRoadFar ∧ x.fRoadFar ≤ 9223372036854775807) ∧ (-9223372036854775808 ≤ x.fRoadPort ∧ x.fRoadPort ≤ 9223372036854775807) ∧ (-9223372036854775808 ≤ x.fTheirs ∧ x.fTheirs ≤ 9223372036854775807) ∧ (-9223372036854775808 ≤ x.fMine ∧ x.fMine ≤ 9223372036854775807) ∧ (-9223372036854775808 ≤ x.fGive ∧ x.fGive ≤ 9223372036854775807) ∧ (-9223372036854775808 ≤ x.fTake ∧ x.fTake ≤ 9223372036854775807) ∧ (-9223372036854775808 ≤ x.fUntil ∧ x.fUntil ≤ 9223372036854775807)
theorem HalfD.cells_length (x : HalfD) : x.cells.length = 8 := rfl

theorem kc24 : Try.prog.cellsOf 24 = 3 := by kernel_rfl
section
variable {H : Type} {enc : TypeId × Value → H} {w : World} {base : Nat} {spare : Nat → Bool} {held : Bool}
theorem el_Half (n : Nat) (cs : List Value) (y : DataW H × List MemPlace) (h : DataW.trod enc Try.prog w base spare held n 48 cs = some y) : ∃ x : HalfD, cs = x.cells ∧ x.wf := by
  have hl : cs.length = 8 := by obtain ⟨_, _, _, _, hlen, _⟩ := DataW.trod_struct Try.underlying48 h; exact hlen.trans (by kernel_rfl)
  match cs, hl with
  | [c0, c1, c2, c3, c4, c5, c6, c7], _ =>
    obtain ⟨xs, m, _, _, hlen, hn, hf⟩ := DataW.trod_struct Try.underlying48 h
    obtain ⟨y_0, e_0⟩ : ∃ y, xs[0]? = some y := ⟨_, List.getElem?_eq_getElem (by rw [hn]; decide)⟩
    have g_0 : DataW.trod enc Try.prog w base spare held m 24 [c0, c1, c2] = some y_0 := by have := hf 0 _ rfl; rw [e_0] at this; simpa [kc24] using this
    obtain ⟨xs_0, m_0, _, _, hlen_0, hn_0, hf_0⟩ := DataW.trod_struct Try.underlying24 g_0
    obtain ⟨y_0_0, e_0_0⟩ : ∃ y, xs_0[0]? = some y := ⟨_, List.getElem?_eq_getElem (by rw [hn_0]; decide)⟩
    have g_0_0 : DataW.trod enc Try.prog w base spare held m_0 3 [c0] = some y_0_0 := by have := hf_0 0 _ rfl; rw [e_0_0] at this; simpa [kc3] using this
    obtain ⟨x_0_0, q_0_0, -, w_0_0⟩ := DataW.trod_int Try.underlying3 g_0_0
    simp only [List.cons.injEq, and_true] at q_0_0; subst q_0_0
    obtain ⟨y_0_1, e_0_1⟩ : ∃ y, xs_0[1]? = some y := ⟨_, List.getElem?_eq_getElem (by rw [hn_0]; decide)⟩
    have g_0_1 : DataW.trod enc Try.prog w base spare held m_0 3 [c1] = some y_0_1 := by have := hf_0 1 _ rfl; rw [e_0_1] at this; simpa [kc3] using this
    obtain ⟨x_0_1, q_0_1, -, w_0_1⟩ := DataW.trod_int Try.underlying3 g_0_1
    simp only [List.cons.injEq, and_true] at q_0_1; subst q_0_1
    obtain ⟨y_0_2, e_0_2⟩ : ∃ y, xs_0[2]? = some y := ⟨_, List.getElem?_eq_getElem (by rw [hn_0]; decide)⟩
    have g_0_2 : DataW.trod enc Try.prog w base spare held m_0 3 [c2] = some y_0_2 := by have := hf_0 2 _ rfl; rw [e_0_2] at this; simpa [kc3] using this
    obtain ⟨x_0_2, q_0_2, -, w_0_2⟩ := DataW.trod_int Try.underlying3 g_0_2
    simp only [List.cons.injEq, and_true] at q_0_2; subst q_0_2
    obtain ⟨y_1, e_1⟩ : ∃ y, xs[1]? = some y := ⟨_, List.getElem?_eq_getElem (by rw [hn]; decide)⟩
    have g_1 : DataW.trod enc Try.prog w base spare held m 3 [c3] = some y_1 := by have := hf 1 _ rfl; rw [e_1] at this; simpa [kc3] using this
    obtain ⟨x_1, q_1, -, w_1⟩ := DataW.trod_int Try.underlying3 g_1
    simp only [List.cons.injEq, and_true] at q_1; subst q_1
    obtain ⟨y_2, e_2⟩ : ∃ y, xs[2]? = some y := ⟨_, List.getElem?_eq_getElem (by rw [hn]; decide)⟩
    have g_2 : DataW.trod enc Try.prog w base spare held m 3 [c4] = some y_2 := by have := hf 2 _ rfl; rw [e_2] at this; simpa [kc3] using this
    obtain ⟨x_2, q_2, -, w_2⟩ := DataW.trod_int Try.underlying3 g_2
    simp only [List.cons.injEq, and_true] at q_2; subst q_2
    obtain ⟨y_3, e_3⟩ : ∃ y, xs[3]? = some y := ⟨_, List.getElem?_eq_getElem (by rw [hn]; decide)⟩
    have g_3 : DataW.trod enc Try.prog w base spare held m 3 [c5] = some y_3 := by have := hf 3 _ rfl; rw [e_3] at this; simpa [kc3] using this
    obtain ⟨x_3, q_3, -, w_3⟩ := DataW.trod_int Try.underlying3 g_3
    simp only [List.cons.injEq, and_true] at q_3; subst q_3
    obtain ⟨y_4, e_4⟩ : ∃ y, xs[4]? = some y := ⟨_, List.getElem?_eq_getElem (by rw [hn]; decide)⟩
    have g_4 : DataW.trod enc Try.prog w base spare held m 3 [c6] = some y_4 := by have := hf 4 _ rfl; rw [e_4] at this; simpa [kc3] using this
    obtain ⟨x_4, q_4, -, w_4⟩ := DataW.trod_int Try.underlying3 g_4
    simp only [List.cons.injEq, and_true] at q_4; subst q_4
    obtain ⟨y_5, e_5⟩ : ∃ y, xs[5]? = some y := ⟨_, List.getElem?_eq_getElem (by rw [hn]; decide)⟩
    have g_5 : DataW.trod enc Try.prog w base spare held m 3 [c7] = some y_5 := by have := hf 5 _ rfl; rw [e_5] at this; simpa [kc3] using this
    obtain ⟨x_5, q_5, -, w_5⟩ := DataW.trod_int Try.underlying3 g_5
    simp only [List.cons.injEq, and_true] at q_5; subst q_5
    exact ⟨⟨x_0_0, x_0_1, x_0_2, x_1, x_2, x_3, x_4, x_5⟩, rfl, ⟨bounds_i64 w_0_0, bounds_i64 w_0_1, bounds_i64 w_0_2, bounds_i64 w_1, bounds_i64 w_2, bounds_i64 w_3, bounds_i64 w_4, bounds_i64 w_5⟩⟩
end

end Go.Proofs.Ytcnklfddokpbiaa
