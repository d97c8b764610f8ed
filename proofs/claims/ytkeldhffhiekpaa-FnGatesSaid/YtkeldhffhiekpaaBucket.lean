/- Contracts of the functions on buckets: toBucket, eqBucket, BucketOk, MostIn, BucketNew, TakeOne (program and reference). They hold for every argument. -/
import Derived.Test.YtkeldhffhiekpaaBase
namespace Go.Proofs.Ytkeldhffhiekpaa
set_option linter.unusedSimpArgs false
set_option linter.unusedVariables false
open Go.RowKit

/-- A bucket by value. -/
abbrev bkt (r b h : Int) : Value := .agg #[.int .i64 r, .int .i64 b, .int .i64 h]
/-- What BucketOk computes. -/
def bokB (r b h : Int) : Bool := winB r 0 100 && winB b 1 100 && winB h 0 b

theorem iBucketOk (r b h : Int) (w : World) : Calls Try.prog 12 #[bkt r b h] w fun e w' => e = .returned (.bool (bokB r b h)) ∧ Below w.heap.size w w' := by
  go_enter Try.func12, Try.ntmps12
  go_wp2_with (go_at_call 34; refine (within_any _ _ _ _).mono ?_; rintro e w' ⟨rfl, rfl⟩)
  all_goals (go_ret; exact ⟨ret_bool (by simp [bokB, *]), by go_grown⟩)
theorem sBucketOk (r b h : Int) (w : World) : Calls Try.prog 10 #[bkt r b h] w fun e w' => e = .returned (.bool (bokB r b h)) ∧ Below w.heap.size w w' := by
  go_enter Try.func10, Try.ntmps10
  go_wp2_with (go_at_call 33; refine (l01In_any _ _ _ _).mono ?_; rintro e w' ⟨rfl, rfl⟩)
  all_goals (go_ret; exact ⟨ret_bool (by simp [bokB, *]), by go_grown⟩)
theorem toBucket_any (r b h : Int) (w : World) : Calls Try.prog 11 #[bkt r b h] w fun e w' => e = .returned (bkt r b h) ∧ Below w.heap.size w w' := by
  go_enter Try.func11, Try.ntmps11
  go_wp2
  go_returns
  exact ⟨rfl, by go_grown⟩
/-- What eqBucket computes. -/
def eqB3 (a b c x y z : Int) : Bool := a == x && b == y && c == z
theorem eqBucket_any (a b c x y z : Int) (w : World) : Calls Try.prog 17 #[bkt a b c, bkt x y z] w fun e w' => e = .returned (.bool (eqB3 a b c x y z)) ∧ Below w.heap.size w w' := by
  go_enter Try.func17, Try.ntmps17
  go_wp2
  all_goals (go_ret; exact ⟨ret_bool (by go_light; simp_all [eqB3]), by go_grown⟩)
end Go.Proofs.Ytkeldhffhiekpaa
