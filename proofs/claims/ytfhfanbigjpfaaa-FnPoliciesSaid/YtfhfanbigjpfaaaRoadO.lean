/- Slices of Road of the call's own: what is appended, copied, marked. -/
import Derived.Test.YtfhfanbigjpfaaaRoadS
import Derived.Test.YtfhfanbigjpfaaaOwn
import Derived.Test.YtfhfanbigjpfaaaRet
namespace Go.Proofs.Ytfhfanbigjpfaaa
set_option linter.unusedSimpArgs false
set_option linter.unusedVariables false
open Go.RowKit
theorem slRoad : SlTy Try.prog 37 30 3 := SlTy.mk' Try.underlying37 infoRoad rfl (by decide) (by decide)
theorem RoadD.one (x : RoadD) : ∀ u ∈ x.cells, u.oneCell' = true := by intro u hu; simp [RoadD.cells] at hu; rcases hu with rfl | rfl | rfl <;> rfl
theorem markRoadS_nil (k0 : Int) (w : World) : Calls Try.prog 20 #[.slice none 0 0, .int .i64 k0] w fun e w' => e = .returned (.int .i64 k0) ∧ w = w' := by
  go_enter Try.func20, Try.ntmps20
  go_wp2_with fail
  go_rounds 1
  go_ret
  exact ⟨rfl, rfl⟩
theorem markRoadS_own (v : Value) (L : List RoadD) (base : Nat) (k0 : Int) (w : World) (h : Own w base 30 RoadD.cells 3 v L) (h0 : 0 ≤ k0) (h1 : k0 ≤ 1000000000) (hn : L.length ≤ 2000000) :
    Calls Try.prog 20 #[v, .int .i64 k0] w fun e w' => e = .returned (.int .i64 (k0 + 3 * (L.length : Int))) ∧ Own w' base 30 RoadD.cells 3 v (markL (mkRoad k0) L.length) ∧ w.grownBy w' v.ownBlock := by
  rcases h.form with ⟨rfl, rfl⟩ | ⟨g, cap, cur, rfl, hb, hg, hnc, hm, hs, ht⟩
  · refine (markRoadS_nil k0 w).mono ?_
    rintro e w' ⟨rfl, rfl⟩
    exact ⟨ret_int (by simp), Own.nil _ _ _, World.grownBy.refl w _⟩
  · refine (markRoadS_any g L.length cap base _ k0 w h hnc hm hb h0 h1 hn).mono ?_
    rintro e w' ⟨rfl, h1, h2⟩
    refine ⟨rfl, ?_, h2⟩
    unfold Own
    rw [markL_length]
    exact h1
end Go.Proofs.Ytfhfanbigjpfaaa
