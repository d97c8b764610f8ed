/- DropAddr (program and reference): for every slice that can be read. -/
import Derived.Test.YtfhfanbigjpfaaaAddrAt
import Derived.Test.YtfhfanbigjpfaaaAddrO
import Derived.Deep.RegionHeld3
import Derived.Deep.DrawnRows
namespace Go.Proofs.Ytfhfanbigjpfaaa
set_option linter.unusedSimpArgs false
set_option linter.unusedVariables false
open Go.RowKit
attribute [local go_sem ↓] Go.wp_at_zero Go.wp_at_succ

theorem findI_lt {α : Type} (p : α → Bool) (L : List α) : findI p L < L.length := by
  induction L with
  | nil => simp [findI]
  | cons x L ih =>
    unfold findI
    by_cases h : p x = true
    · rw [if_pos h, List.length_cons]; omega
    · rw [if_neg h, List.length_cons]; simp only; split <;> omega
/-- What DropAddr computes. -/
def dropK (L : List AddrD) (k : Int) : List AddrD := if k < 0 then L else L.take k.toNat ++ L.drop (k.toNat + 1)
def dropL (L : List AddrD) (id : Int) : List AddrD := dropK L (addrAt L id)
def dropOk (L : List AddrD) (id : Int) : Bool := decide (0 ≤ addrAt L id)
theorem dropK_le (L : List AddrD) (k : Int) : (dropK L k).length ≤ L.length := by
  unfold dropK; split
  · exact Nat.le_refl _
  · rw [List.length_append, List.length_take, List.length_drop]; omega
theorem dropL_le (L : List AddrD) (id : Int) : (dropL L id).length ≤ L.length := dropK_le _ _
end Go.Proofs.Ytfhfanbigjpfaaa
