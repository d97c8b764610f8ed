/- Slices of Map of the call's own: what is appended, copied, marked. -/
import Derived.Test.YtofeiadogdhngaaMapS
import Derived.Test.YtofeiadogdhngaaOwn
import Derived.Test.YtofeiadogdhngaaRet
namespace Go.Proofs.Ytofeiadogdhngaa
set_option linter.unusedSimpArgs false
set_option linter.unusedVariables false
open Go.RowKit
theorem slMap : SlTy Try.prog 26 30 3 := SlTy.mk' Try.underlying26 infoMap rfl (by decide) (by decide)
theorem MapD.one (x : MapD) : ∀ u ∈ x.cells, u.oneCell' = true := by intro u hu; simp [MapD.cells] at hu; rcases hu with rfl | rfl | rfl <;> rfl
theorem markMapS_nil (k0 : Int) (w : World) : Calls Try.prog 12 #[.slice none 0 0, .int .i64 k0] w fun e w' => e = .returned (.int .i64 k0) ∧ w = w' := by
  go_enter Try.func12, Try.ntmps12
  go_wp2_with fail
  go_rounds 1
  go_ret
  exact ⟨rfl, rfl⟩
theorem markMapS_own (v : Value) (L : List MapD) (base : Nat) (k0 : Int) (w : World) (h : Own w base 30 MapD.cells 3 v L) (h0 : 0 ≤ k0) (h1 : k0 ≤ 1000000000) (hn : L.length ≤ 2000000) :
    Calls Try.prog 12 #[v, .int .i64 k0] w fun e w' => e = .returned (.int .i64 (k0 + 3 * (L.length : Int))) ∧ Own w' base 30 MapD.cells 3 v (markL (mkMap k0) L.length) ∧ w.grownBy w' v.ownBlock := by
  rcases h.form with ⟨rfl, rfl⟩ | ⟨g, cap, cur, rfl, hb, hg, hnc, hm, hs, ht⟩
  · refine (markMapS_nil k0 w).mono ?_
    rintro e w' ⟨rfl, rfl⟩
    exact ⟨ret_int (by simp), Own.nil _ _ _, World.grownBy.refl w _⟩
  · refine (markMapS_any g L.length cap base _ k0 w h hnc hm hb h0 h1 hn).mono ?_
    rintro e w' ⟨rfl, h1, h2⟩
    refine ⟨rfl, ?_, h2⟩
    unfold Own
    rw [markL_length]
    exact h1
theorem iCopyMap (A : Option Addr) (n cap : Nat) (L : List MapD) (w : World) (hn : n = L.length) (hr : Rd MapD.cells 3 w 0 w.heap.size A L) (hm : L.length ≤ 4294967296) :
    Calls Try.prog 23 #[.slice A n cap] w (RetSl w 30 MapD.cells 3 L fun v => v) := by
  subst hn
  go_enter Try.func23, Try.ntmps23
  go_wp2_with (at_builtin; refine wpList_append_rd _ rfl (.tmp 3) (.tmp 4) rfl slMap MapD.cells_length MapD.one w.heap.size _ [] L rfl (Own.empty w w.heap.size _ (Nat.le_refl _)) A L.length cap 0 w.heap.size rfl rfl (hr.keep fun p _ hp => World.cell?_alloc_lt w _ p hp) (by simp; omega) (by simp) ?_; intro v1 w1 O1 G1 A1)
  go_ret
  exact ⟨v1, rfl, O1, (Own.empty w w.heap.size _ (Nat.le_refl _)).below (c := MapD.cells) (sz := 3) G1 (by go_grown) (Nat.le_refl _) (by simp)⟩
end Go.Proofs.Ytofeiadogdhngaa
