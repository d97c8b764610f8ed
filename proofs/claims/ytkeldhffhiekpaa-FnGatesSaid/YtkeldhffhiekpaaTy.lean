/- The plain data of this seat: a structure for each Go struct that the statements take, its cells, and how an argument reads as one. Written by program (structs.py). -/
import Derived.Test.YtkeldhffhiekpaaOpen
import Derived.Test.YtkeldhffhiekpaaNum
namespace Go.Proofs.Ytkeldhffhiekpaa
set_option linter.unusedSimpArgs false
set_option linter.unusedVariables false
open Go.RowKit Go.ChangeShapes Go.WideShapes Go.Deep

structure BucketD where
  fRate : Int
  fBurst : Int
  fHave : Int
def BucketD.cells (x : BucketD) : List Value := [.int .i64 x.fRate, .int .i64 x.fBurst, .int .i64 x.fHave]
abbrev BucketD.row (x : BucketD) : List Value := [.int .i64 x.fRate, .int .i64 x.fBurst, .int .i64 x.fHave]
abbrev BucketD.arr (x : BucketD) : Array Value := #[.int .i64 x.fRate, .int .i64 x.fBurst, .int .i64 x.fHave]
abbrev BucketD.val (x : BucketD) : Value := .agg #[.int .i64 x.fRate, .int .i64 x.fBurst, .int .i64 x.fHave]
def BucketD.wf (x : BucketD) : Prop := (-9223372036854775808 ≤ x.fRate ∧ x.fRate ≤ 9223372036854775807) ∧ (-9223372036854775808 ≤ x.fBurst ∧ x.fBurst ≤ 9223372036854775807) ∧ (-9223372036854775808 ≤ x.fHave ∧ x.fHave ≤ 9223372036854775807)
theorem BucketD.cells_length (x : BucketD) : x.cells.length = 3 := rfl

theorem kc3 : Try.prog.cellsOf 3 = 1 := by kernel_rfl
section
variable {H : Type} {enc : TypeId × Value → H} {w : World} {base : Nat} {spare : Nat → Bool} {held : Bool}
theorem el_Bucket (n : Nat) (cs : List Value) (y : DataW H × List MemPlace) (h : DataW.trod enc Try.prog w base spare held n 23 cs = some y) : ∃ x : BucketD, cs = x.cells ∧ x.wf := by
  have hl : cs.length = 3 := by obtain ⟨_, _, _, _, hlen, _⟩ := DataW.trod_struct Try.underlying23 h; exact hlen.trans (by kernel_rfl)
  match cs, hl with
  | [c0, c1, c2], _ =>
    obtain ⟨xs, m, _, _, hlen, hn, hf⟩ := DataW.trod_struct Try.underlying23 h
    obtain ⟨y_0, e_0⟩ : ∃ y, xs[0]? = some y := ⟨_, List.getElem?_eq_getElem (by rw [hn]; decide)⟩
    have g_0 : DataW.trod enc Try.prog w base spare held m 3 [c0] = some y_0 := by have := hf 0 _ rfl; rw [e_0] at this; simpa [kc3] using this
    obtain ⟨x_0, q_0, -, w_0⟩ := DataW.trod_int Try.underlying3 g_0
    simp only [List.cons.injEq, and_true] at q_0; subst q_0
    obtain ⟨y_1, e_1⟩ : ∃ y, xs[1]? = some y := ⟨_, List.getElem?_eq_getElem (by rw [hn]; decide)⟩
    have g_1 : DataW.trod enc Try.prog w base spare held m 3 [c1] = some y_1 := by have := hf 1 _ rfl; rw [e_1] at this; simpa [kc3] using this
    obtain ⟨x_1, q_1, -, w_1⟩ := DataW.trod_int Try.underlying3 g_1
    simp only [List.cons.injEq, and_true] at q_1; subst q_1
    obtain ⟨y_2, e_2⟩ : ∃ y, xs[2]? = some y := ⟨_, List.getElem?_eq_getElem (by rw [hn]; decide)⟩
    have g_2 : DataW.trod enc Try.prog w base spare held m 3 [c2] = some y_2 := by have := hf 2 _ rfl; rw [e_2] at this; simpa [kc3] using this
    obtain ⟨x_2, q_2, -, w_2⟩ := DataW.trod_int Try.underlying3 g_2
    simp only [List.cons.injEq, and_true] at q_2; subst q_2
    exact ⟨⟨x_0, x_1, x_2⟩, rfl, ⟨bounds_i64 w_0, bounds_i64 w_1, bounds_i64 w_2⟩⟩
end

end Go.Proofs.Ytkeldhffhiekpaa
