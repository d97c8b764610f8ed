/- TagBack, TagDone, TagAddr (program), TagAddr (reference): for every argument (as in Tags1, which cannot stand beside TagS). -/
import Derived.Test.YtomjfhcfellikaaBase
namespace Go.Proofs.Ytomjfhcfellikaa
set_option linter.unusedSimpArgs false
set_option linter.unusedVariables false
open Go.RowKit
/-- A tag by value. -/
abbrev tgv (k o t a b : Int) : Value := .agg #[.int .i64 k, .int .i64 o, .int .i64 t, .int .i64 a, .int .i64 b]
theorem iTagBack' (m t a b : Int) (w : World) : Calls Try.prog 13 #[.int .i64 m, .int .i64 t, .int .i64 a, .int .i64 b] w fun e w' => e = .returned (tgv 1 m t a b) ∧ Below w.heap.size w w' := by
  go_enter Try.func13, Try.ntmps13
  go_wp2
  go_returns
  exact ⟨rfl, by go_grown⟩
theorem iTagDone' (m t a b : Int) (w : World) : Calls Try.prog 23 #[.int .i64 m, .int .i64 t, .int .i64 a, .int .i64 b] w fun e w' => e = .returned (tgv 2 m t a b) ∧ Below w.heap.size w w' := by
  go_enter Try.func23, Try.ntmps23
  go_wp2
  go_returns
  exact ⟨rfl, by go_grown⟩
theorem iTagAddr' (m t a b : Int) (w : World) : Calls Try.prog 10 #[.int .i64 m, .int .i64 t, .int .i64 a, .int .i64 b] w fun e w' => e = .returned (tgv 3 m t a b) ∧ Below w.heap.size w w' := by
  go_enter Try.func10, Try.ntmps10
  go_wp2
  go_returns
  exact ⟨rfl, by go_grown⟩
theorem sTagAddr' (m t a b : Int) (w : World) : Calls Try.prog 9 #[.int .i64 m, .int .i64 t, .int .i64 a, .int .i64 b] w fun e w' => e = .returned (tgv 3 m t a b) ∧ Below w.heap.size w w' := by
  go_enter Try.func9, Try.ntmps9
  go_wp2
  go_returns
  exact ⟨rfl, by go_grown⟩
end Go.Proofs.Ytomjfhcfellikaa
