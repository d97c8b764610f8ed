/- The plain data of this seat: a structure for each Go struct that the statements take, its cells, and how an argument reads as one. Written by program (structs.py). -/
import Derived.Test.YtomjfhcfellikaaOpen
import Derived.Test.YtomjfhcfellikaaNum
namespace Go.Proofs.Ytomjfhcfellikaa
set_option linter.unusedSimpArgs false
set_option linter.unusedVariables false
open Go.RowKit Go.ChangeShapes Go.WideShapes Go.Deep

structure TagD where
  fKind : Int
  fOne : Int
  fTwo : Int
  fA : Int
  fB : Int
def TagD.cells (x : TagD) : List Value := [.int .i64 x.fKind, .int .i64 x.fOne, .int .i64 x.fTwo, .int .i64 x.fA, .int .i64 x.fB]
abbrev TagD.row (x : TagD) : List Value := [.int .i64 x.fKind, .int .i64 x.fOne, .int .i64 x.fTwo, .int .i64 x.fA, .int .i64 x.fB]
abbrev TagD.arr (x : TagD) : Array Value := #[.int .i64 x.fKind, .int .i64 x.fOne, .int .i64 x.fTwo, .int .i64 x.fA, .int .i64 x.fB]
abbrev TagD.val (x : TagD) : Value := .agg #[.int .i64 x.fKind, .int .i64 x.fOne, .int .i64 x.fTwo, .int .i64 x.fA, .int .i64 x.fB]
def TagD.wf (x : TagD) : Prop := (-9223372036854775808 ≤ x.fKind ∧ x.fKind ≤ 9223372036854775807) ∧ (-9223372036854775808 ≤ x.fOne ∧ x.fOne ≤ 9223372036854775807) ∧ (-9223372036854775808 ≤ x.fTwo ∧ x.fTwo ≤ 9223372036854775807) ∧ (-9223372036854775808 ≤ x.fA ∧ x.fA ≤ 9223372036854775807) ∧ (-9223372036854775808 ≤ x.fB ∧ x.fB ≤ 9223372036854775807)
theorem TagD.cells_length (x : TagD) : x.cells.length = 5 := rfl

theorem kc3 : Try.prog.cellsOf 3 = 1 := by kernel_rfl
section
variable {H : Type} {enc : TypeId × Value → H} {w : World} {base : Nat} {spare : Nat → Bool} {held : Bool}
theorem el_Tag (n : Nat) (cs : List Value) (y : DataW H × List MemPlace) (h : DataW.trod enc Try.prog w base spare held n 31 cs = some y) : ∃ x : TagD, cs = x.cells ∧ x.wf := by
  have hl : cs.length = 5 := by obtain ⟨_, _, _, _, hlen, _⟩ := DataW.trod_struct Try.underlying31 h; exact hlen.trans (by kernel_rfl)
  match cs, hl with
  | [c0, c1, c2, c3, c4], _ =>
    obtain ⟨xs, m, _, _, hlen, hn, hf⟩ := DataW.trod_struct Try.underlying31 h
    obtain ⟨y_0, e_0⟩ : ∃ y, xs[0]? = some y := ⟨_, List.getElem?_eq_getElem (by rw [hn]; decide)⟩
    have g_0 : DataW.trod enc Try.prog w base spare held m 3 [c0] = some y_0 := by have := hf 0 _ rfl; rw [e_0] at this; simpa [kc3] using this
    obtain ⟨x_0, q_0, -, w_0⟩ := DataW.trod_int Try.underlying3 g_0
    simp only [List.cons.injEq, and_true] at q_0; subst q_0
    obtain ⟨y_1, e_1⟩ : ∃ y, xs[1]? = some y := ⟨_, List.getElem?_eq_getElem (by rw [hn]; decide)⟩
    have g_1 : DataW.trod enc Try.prog w base spare held m 3 [c1] = some y_1 := by have := hf 1 _ rfl; rw [e_1] at this; simpa [kc3] using this
    obtain ⟨x_1, q_1, -, w_1⟩ := DataW.trod_int Try.underlying3 g_1
    simp only [List.cons.injEq, and_true] at q_1; subst q_1
    obtain ⟨y_2, e_2⟩ : ∃ y, xs[2]? = some y := ⟨_, List.getElem?_eq_getElem (by rw [hn]; decide)⟩
    have g_2 : DataW.trod enc Try.prog w base spare held m 3 [c2] = some y_2 := by have := hf 2 _ rfl; rw [e_2] at this; simpa [kc3] using this
    obtain ⟨x_2, q_2, -, w_2⟩ := DataW.trod_int Try.underlying3 g_2
    simp only [List.cons.injEq, and_true] at q_2; subst q_2
    obtain ⟨y_3, e_3⟩ : ∃ y, xs[3]? = some y := ⟨_, List.getElem?_eq_getElem (by rw [hn]; decide)⟩
    have g_3 : DataW.trod enc Try.prog w base spare held m 3 [c3] = some y_3 := by have := hf 3 _ rfl; rw [e_3] at this; simpa [kc3] using this
    obtain ⟨x_3, q_3, -, w_3⟩ := DataW.trod_int Try.underlying3 g_3
    simp only [List.cons.injEq, and_true] at q_3; subst q_3
    obtain ⟨y_4, e_4⟩ : ∃ y, xs[4]? = some y := ⟨_, List.getElem?_eq_getElem (by rw [hn]; decide)⟩
    have g_4 : DataW.trod enc Try.prog w base spare held m 3 [c4] = some y_4 := by have := hf 4 _ rfl; rw [e_4] at this; simpa [kc3] using this
    obtain ⟨x_4, q_4, -, w_4⟩ := DataW.trod_int Try.underlying3 g_4
    simp only [List.cons.injEq, and_true] at q_4; subst q_4
    exact ⟨⟨x_0, x_1, x_2, x_3, x_4⟩, rfl, ⟨bounds_i64 w_0, bounds_i64 w_1, bounds_i64 w_2, bounds_i64 w_3, bounds_i64 w_4⟩⟩
end

structure KnownA where
  aKeys : Option Addr
  cKeys : Nat
  fKeys : List Int
  aTags : Option Addr
  cTags : Nat
  fTags : List TagD
def KnownA.cells (x : KnownA) : List Value := [.slice x.aKeys x.fKeys.length x.cKeys, .slice x.aTags x.fTags.length x.cTags]
abbrev KnownA.arr (x : KnownA) : Array Value := #[.slice x.aKeys x.fKeys.length x.cKeys, .slice x.aTags x.fTags.length x.cTags]
abbrev KnownA.val (x : KnownA) : Value := .agg #[.slice x.aKeys x.fKeys.length x.cKeys, .slice x.aTags x.fTags.length x.cTags]
def KnownA.wf (w : World) (x : KnownA) : Prop := (x.fKeys.length ≤ x.cKeys ∧ x.cKeys ≤ maxLen ∧ (∀ y ∈ x.fKeys, (fun n => (Lit.int .i64 n).wf = true) y) ∧ Rd icell 1 w 0 w.heap.size x.aKeys x.fKeys) ∧ (x.fTags.length ≤ x.cTags ∧ x.cTags ≤ maxLen ∧ (∀ y ∈ x.fTags, TagD.wf y) ∧ Rd TagD.cells 5 w 0 w.heap.size x.aTags x.fTags)
theorem kc27 : Try.prog.cellsOf 27 = 1 := by kernel_rfl
theorem kc28 : Try.prog.cellsOf 28 = 1 := by kernel_rfl
section
variable {H : Type} {enc : TypeId × Value → H} {w : World} {base : Nat} {spare : Nat → Bool} {held : Bool}
theorem el_Known (n : Nat) (cs : List Value) (y : DataW H × List MemPlace) (h : DataW.trod enc Try.prog w base spare held n 30 cs = some y) : ∃ x : KnownA, cs = x.cells ∧ x.wf w := by
  have hl : cs.length = 2 := by obtain ⟨_, _, _, _, hlen, _⟩ := DataW.trod_struct Try.underlying30 h; exact hlen.trans (by kernel_rfl)
  match cs, hl with
  | [c0, c1], _ =>
    obtain ⟨xs, m, _, _, hlen, hn, hf⟩ := DataW.trod_struct Try.underlying30 h
    obtain ⟨y0, e0⟩ : ∃ y, xs[0]? = some y := ⟨_, List.getElem?_eq_getElem (by rw [hn]; decide)⟩
    have g0 : DataW.trod enc Try.prog w base spare held m 27 [c0] = some y0 := by have := hf 0 _ rfl; rw [e0] at this; simpa [kc27] using this
    obtain ⟨A0, k0, L0, q0, w0a, w0b, w0c, w0d⟩ := open_rows icell (fun n => (Lit.int .i64 n).wf = true) 1 (fun _ => rfl) (by decide) Try.underlying27 (by kernel_rfl) (fun n cs y h => by obtain ⟨x, rfl, -, hw⟩ := DataW.trod_int Try.underlying3 h; exact ⟨x, rfl, hw⟩) g0
    simp only [List.cons.injEq, and_true] at q0; subst q0
    obtain ⟨y1, e1⟩ : ∃ y, xs[1]? = some y := ⟨_, List.getElem?_eq_getElem (by rw [hn]; decide)⟩
    have g1 : DataW.trod enc Try.prog w base spare held m 28 [c1] = some y1 := by have := hf 1 _ rfl; rw [e1] at this; simpa [kc28] using this
    obtain ⟨A1, k1, L1, q1, w1a, w1b, w1c, w1d⟩ := open_rows TagD.cells TagD.wf 5 TagD.cells_length (by decide) Try.underlying28 (by kernel_rfl) el_Tag g1
    simp only [List.cons.injEq, and_true] at q1; subst q1
    exact ⟨⟨A0, k0, L0, A1, k1, L1⟩, rfl, ⟨⟨w0a, w0b, w0c, w0d⟩, ⟨w1a, w1b, w1c, w1d⟩⟩⟩
end

end Go.Proofs.Ytomjfhcfellikaa
