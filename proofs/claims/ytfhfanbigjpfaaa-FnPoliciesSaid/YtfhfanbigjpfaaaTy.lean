/- The plain data of this seat: a structure for each Go struct that the statements take, its cells, and how an argument reads as one. Written by program (structs.py). -/
import Derived.Test.YtfhfanbigjpfaaaOpen
import Derived.Test.YtfhfanbigjpfaaaNum
namespace Go.Proofs.Ytfhfanbigjpfaaa
set_option linter.unusedSimpArgs false
set_option linter.unusedVariables false
open Go.RowKit Go.ChangeShapes Go.WideShapes Go.Deep

structure PolicyD where
  fKind : Int
  fMany : Int
def PolicyD.cells (x : PolicyD) : List Value := [.int .i64 x.fKind, .int .i64 x.fMany]
abbrev PolicyD.row (x : PolicyD) : List Value := [.int .i64 x.fKind, .int .i64 x.fMany]
abbrev PolicyD.arr (x : PolicyD) : Array Value := #[.int .i64 x.fKind, .int .i64 x.fMany]
abbrev PolicyD.val (x : PolicyD) : Value := .agg #[.int .i64 x.fKind, .int .i64 x.fMany]
def PolicyD.wf (x : PolicyD) : Prop := (-9223372036854775808 ≤ x.fKind ∧ x.fKind ≤ 9223372036854775807) ∧ (-9223372036854775808 ≤ x.fMany ∧ x.fMany ≤ 9223372036854775807)
theorem PolicyD.cells_length (x : PolicyD) : x.cells.length = 2 := rfl

theorem kc3 : Try.prog.cellsOf 3 = 1 := by kernel_rfl
section
variable {H : Type} {enc : TypeId × Value → H} {w : World} {base : Nat} {spare : Nat → Bool} {held : Bool}
theorem el_Policy (n : Nat) (cs : List Value) (y : DataW H × List MemPlace) (h : DataW.trod enc Try.prog w base spare held n 23 cs = some y) : ∃ x : PolicyD, cs = x.cells ∧ x.wf := by
  have hl : cs.length = 2 := by obtain ⟨_, _, _, _, hlen, _⟩ := DataW.trod_struct Try.underlying23 h; exact hlen.trans (by kernel_rfl)
  match cs, hl with
  | [c0, c1], _ =>
    obtain ⟨xs, m, _, _, hlen, hn, hf⟩ := DataW.trod_struct Try.underlying23 h
    obtain ⟨y_0, e_0⟩ : ∃ y, xs[0]? = some y := ⟨_, List.getElem?_eq_getElem (by rw [hn]; decide)⟩
    have g_0 : DataW.trod enc Try.prog w base spare held m 3 [c0] = some y_0 := by have := hf 0 _ rfl; rw [e_0] at this; simpa [kc3] using this
    obtain ⟨x_0, q_0, -, w_0⟩ := DataW.trod_int Try.underlying3 g_0
    simp only [List.cons.injEq, and_true] at q_0; subst q_0
    obtain ⟨y_1, e_1⟩ : ∃ y, xs[1]? = some y := ⟨_, List.getElem?_eq_getElem (by rw [hn]; decide)⟩
    have g_1 : DataW.trod enc Try.prog w base spare held m 3 [c1] = some y_1 := by have := hf 1 _ rfl; rw [e_1] at this; simpa [kc3] using this
    obtain ⟨x_1, q_1, -, w_1⟩ := DataW.trod_int Try.underlying3 g_1
    simp only [List.cons.injEq, and_true] at q_1; subst q_1
    exact ⟨⟨x_0, x_1⟩, rfl, ⟨bounds_i64 w_0, bounds_i64 w_1⟩⟩
end

structure RoadD where
  fOwn : Int
  fFar : Int
  fPort : Int
def RoadD.cells (x : RoadD) : List Value := [.int .i64 x.fOwn, .int .i64 x.fFar, .int .i64 x.fPort]
abbrev RoadD.row (x : RoadD) : List Value := [.int .i64 x.fOwn, .int .i64 x.fFar, .int .i64 x.fPort]
abbrev RoadD.arr (x : RoadD) : Array Value := #[.int .i64 x.fOwn, .int .i64 x.fFar, .int .i64 x.fPort]
abbrev RoadD.val (x : RoadD) : Value := .agg #[.int .i64 x.fOwn, .int .i64 x.fFar, .int .i64 x.fPort]
def RoadD.wf (x : RoadD) : Prop := (-9223372036854775808 ≤ x.fOwn ∧ x.fOwn ≤ 9223372036854775807) ∧ (-9223372036854775808 ≤ x.fFar ∧ x.fFar ≤ 9223372036854775807) ∧ (-9223372036854775808 ≤ x.fPort ∧ x.fPort ≤ 9223372036854775807)
theorem RoadD.cells_length (x : RoadD) : x.cells.length = 3 := rfl

section
variable {H : Type} {enc : TypeId × Value → H} {w : World} {base : Nat} {spare : Nat → Bool} {held : Bool}
theorem el_Road (n : Nat) (cs : List Value) (y : DataW H × List MemPlace) (h : DataW.trod enc Try.prog w base spare held n 29 cs = some y) : ∃ x : RoadD, cs = x.cells ∧ x.wf := by
  have hl : cs.length = 3 := by obtain ⟨_, _, _, _, hlen, _⟩ := DataW.trod_struct Try.underlying29 h; exact hlen.trans (by kernel_rfl)
  match cs, hl with
  | [c0, c1, c2], _ =>
    obtain ⟨xs, m, _, _, hlen, hn, hf⟩ := DataW.trod_struct Try.underlying29 h
    obtain ⟨y_0, e_0⟩ : ∃ y, xs[0]? = some y := ⟨_, List.getElem?_eq_getElem (by rw [hn]; decide)⟩
    have g_0 : DataW.trod enc Try.prog w base spare held m 3 [c0] = some y_0 := by have := hf 0 _ rfl; rw [e_0] at this; simpa [kc3] using this
    obtain ⟨x_0, q_0, -, w_0⟩ := DataW.trod_int Try.underlying3 g_0
    simp only [List.cons.injEq, and_true] at q_0; subst q_0
    obtain ⟨y_1, e_1⟩ : ∃ y, xs[1]? = some y := ⟨_, List.getElem?_eq_getElem (by rw [hn]; decide)⟩
    have g_1 : DataW.trod enc Try.prog w base spare held m 3 [c1] = some y_1 := by have := hf 1 _ rfl; rw [e_1] at this; simpa [kc3] using this
    obtain ⟨x_1, q_1, -, w_1⟩ := DataW.trod_int Try.underlying3 g_1
    simp only [List.cons.injEq, and_true] at q_1; subst q_1
    obtain ⟨y_2, e_2⟩ : ∃ y, xs[2]? = some y := ⟨_, List.getElem?_eq_getElem (by rw [hn]; decide)⟩
    have g_2 : DataW.trod enc Try.prog w base spare held m 3 [c2] = some y_2 := by have := hf 2 _ rfl; rw [e_2] at this; simpa [kc3] using this
    obtain ⟨x_2, q_2, -, w_2⟩ := DataW.trod_int Try.underlying3 g_2
    simp only [List.cons.injEq, and_true] at q_2; subst q_2
    exact ⟨⟨x_0, x_1, x_2⟩, rfl, ⟨bounds_i64 w_0, bounds_i64 w_1, bounds_i64 w_2⟩⟩
end

structure AddrD where
  fId : Int
  fAddr : Int
  fSpare : Bool
  fTold : Bool
def AddrD.cells (x : AddrD) : List Value := [.int .i64 x.fId, .int .i64 x.fAddr, .bool x.fSpare, .bool x.fTold]
abbrev AddrD.row (x : AddrD) : List Value := [.int .i64 x.fId, .int .i64 x.fAddr, .bool x.fSpare, .bool x.fTold]
abbrev AddrD.arr (x : AddrD) : Array Value := #[.int .i64 x.fId, .int .i64 x.fAddr, .bool x.fSpare, .bool x.fTold]
abbrev AddrD.val (x : AddrD) : Value := .agg #[.int .i64 x.fId, .int .i64 x.fAddr, .bool x.fSpare, .bool x.fTold]
def AddrD.wf (x : AddrD) : Prop := (-9223372036854775808 ≤ x.fId ∧ x.fId ≤ 9223372036854775807) ∧ (-9223372036854775808 ≤ x.fAddr ∧ x.fAddr ≤ 9223372036854775807) ∧ True ∧ True
theorem AddrD.cells_length (x : AddrD) : x.cells.length = 4 := rfl

theorem kc4 : Try.prog.cellsOf 4 = 1 := by kernel_rfl
section
variable {H : Type} {enc : TypeId × Value → H} {w : World} {base : Nat} {spare : Nat → Bool} {held : Bool}
theorem el_Addr (n : Nat) (cs : List Value) (y : DataW H × List MemPlace) (h : DataW.trod enc Try.prog w base spare held n 60 cs = some y) : ∃ x : AddrD, cs = x.cells ∧ x.wf := by
  have hl : cs.length = 4 := by obtain ⟨_, _, _, _, hlen, _⟩ := DataW.trod_struct Try.underlying60 h; exact hlen.trans (by kernel_rfl)
  match cs, hl with
  | [c0, c1, c2, c3], _ =>
    obtain ⟨xs, m, _, _, hlen, hn, hf⟩ := DataW.trod_struct Try.underlying60 h
    obtain ⟨y_0, e_0⟩ : ∃ y, xs[0]? = some y := ⟨_, List.getElem?_eq_getElem (by rw [hn]; decide)⟩
    have g_0 : DataW.trod enc Try.prog w base spare held m 3 [c0] = some y_0 := by have := hf 0 _ rfl; rw [e_0] at this; simpa [kc3] using this
    obtain ⟨x_0, q_0, -, w_0⟩ := DataW.trod_int Try.underlying3 g_0
    simp only [List.cons.injEq, and_true] at q_0; subst q_0
    obtain ⟨y_1, e_1⟩ : ∃ y, xs[1]? = some y := ⟨_, List.getElem?_eq_getElem (by rw [hn]; decide)⟩
    have g_1 : DataW.trod enc Try.prog w base spare held m 3 [c1] = some y_1 := by have := hf 1 _ rfl; rw [e_1] at this; simpa [kc3] using this
    obtain ⟨x_1, q_1, -, w_1⟩ := DataW.trod_int Try.underlying3 g_1
    simp only [List.cons.injEq, and_true] at q_1; subst q_1
    obtain ⟨y_2, e_2⟩ : ∃ y, xs[2]? = some y := ⟨_, List.getElem?_eq_getElem (by rw [hn]; decide)⟩
    have g_2 : DataW.trod enc Try.prog w base spare held m 4 [c2] = some y_2 := by have := hf 2 _ rfl; rw [e_2] at this; simpa [kc4] using this
    obtain ⟨x_2, q_2, -⟩ := DataW.trod_bool Try.underlying4 g_2
    simp only [List.cons.injEq, and_true] at q_2; subst q_2
    obtain ⟨y_3, e_3⟩ : ∃ y, xs[3]? = some y := ⟨_, List.getElem?_eq_getElem (by rw [hn]; decide)⟩
    have g_3 : DataW.trod enc Try.prog w base spare held m 4 [c3] = some y_3 := by have := hf 3 _ rfl; rw [e_3] at this; simpa [kc4] using this
    obtain ⟨x_3, q_3, -⟩ := DataW.trod_bool Try.underlying4 g_3
    simp only [List.cons.injEq, and_true] at q_3; subst q_3
    exact ⟨⟨x_0, x_1, x_2, x_3⟩, rfl, ⟨bounds_i64 w_0, bounds_i64 w_1, trivial, trivial⟩⟩
end

end Go.Proofs.Ytfhfanbigjpfaaa
