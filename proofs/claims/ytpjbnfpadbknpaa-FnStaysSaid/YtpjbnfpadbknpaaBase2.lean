/- within and l01In at a known answer. -/
import Derived.Test.YtpjbnfpadbknpaaBase
namespace Go.Proofs.Ytpjbnfpadbknpaa
set_option linter.unusedSimpArgs false
set_option linter.unusedVariables false
open Go.RowKit
theorem within_is (n a b : Int) (v : Bool) (h : winB n a b = v) (w : World) : Calls Try.prog 35 #[.int .i64 n, .int .i64 a, .int .i64 b] w fun e w' => e = .returned (.bool v) ∧ w = w' := by
  rw [← h]; exact within_any n a b w
theorem l01In_is (n a b : Int) (v : Bool) (h : winB n a b = v) (w : World) : Calls Try.prog 40 #[.int .i64 n, .int .i64 a, .int .i64 b] w fun e w' => e = .returned (.bool v) ∧ w = w' := by
  rw [← h]; exact l01In_any n a b w
end Go.Proofs.Ytpjbnfpadbknpaa
