/- Slices of Tag of the call's own: what is appended, copied, marked. -/
import Derived.Test.YtomjfhcfellikaaTagS
import Derived.Test.YtomjfhcfellikaaOwn
import Derived.Test.YtomjfhcfellikaaRet
namespace Go.Proofs.Ytomjfhcfellikaa
set_option linter.unusedSimpArgs false
set_option linter.unusedVariables false
open Go.RowKit
theorem slTag : SlTy Try.prog 33 23 5 := SlTy.mk' Try.underlying33 infoTag rfl (by decide) (by decide)
theorem TagD.one (x : TagD) : ∀ u ∈ x.cells, u.oneCell' = true := by intro u hu; simp [TagD.cells] at hu; rcases hu with rfl | rfl | rfl | rfl | rfl <;> rfl
theorem markTagS_nil (k0 : Int) (w : World) : Calls Try.prog 38 #[.slice none 0 0, .int .i64 k0] w fun e w' => e = .returned (.int .i64 k0) ∧ w = w' := by
  go_enter Try.func38, Try.ntmps38
  go_wp2_with fail
  go_rounds 1
  go_ret
  exact ⟨rfl, rfl⟩
theorem markTagS_own (v : Value) (L : List TagD) (base : Nat) (k0 : Int) (w : World) (h : Own w base 23 TagD.cells 5 v L) (h0 : 0 ≤ k0) (h1 : k0 ≤ 1000000000) (hn : L.length ≤ 2000000) :
    Calls Try.prog 38 #[v, .int .i64 k0] w fun e w' => e = .returned (.int .i64 (k0 + 5 * (L.length : Int))) ∧ Own w' base 23 TagD.cells 5 v (markL (mkTag k0) L.length) ∧ w.grownBy w' v.ownBlock := by
  rcases h.form with ⟨rfl, rfl⟩ | ⟨g, cap, cur, rfl, hb, hg, hnc, hm, hs, ht⟩
  · refine (markTagS_nil k0 w).mono ?_
    rintro e w' ⟨rfl, rfl⟩
    exact ⟨ret_int (by simp), Own.nil _ _ _, World.grownBy.refl w _⟩
  · refine (markTagS_any g L.length cap base _ k0 w h hnc hm hb h0 h1 hn).mono ?_
    rintro e w' ⟨rfl, h1, h2⟩
    refine ⟨rfl, ?_, h2⟩
    unfold Own
    rw [markL_length]
    exact h1
end Go.Proofs.Ytomjfhcfellikaa
