/- toRoad: for every argument. -/
import Derived.Test.YtcnklfddokpbiaaTy
import Derived.Test.YtcnklfddokpbiaaBase
namespace Go.Proofs.Ytcnklfddokpbiaa
set_option linter.unusedSimpArgs false
set_option linter.unusedVariables false
open Go.RowKit
theorem toRoad_any (x : RoadD) (w : World) : Calls Try.prog 12 #[x.val] w fun e w' => e = .returned x.val ∧ Below w.heap.size w w' := by
  go_enter Try.func12, Try.ntmps12
  go_wp2
  go_returns
  exact ⟨rfl, by go_grown⟩
end Go.Proofs.Ytcnklfddokpbiaa
