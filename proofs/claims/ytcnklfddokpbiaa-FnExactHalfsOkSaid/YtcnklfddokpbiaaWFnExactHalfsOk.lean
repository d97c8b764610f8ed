/- The walk of FnExactHalfsOk: for every argument. -/
import Derived.Test.YtcnklfddokpbiaaHalfsOk
namespace Go.Proofs.Ytcnklfddokpbiaa
set_option linter.unusedSimpArgs false
set_option linter.unusedVariables false
open Go.RowKit
set_option maxRecDepth 100000 in
set_option maxHeartbeats 2000000 in
theorem walk_FnExactHalfsOk (A : Option Addr) (cap : Nat) (L : List HalfD)  (w : World) (hle : L.length ≤ cap) (hcap : cap ≤ maxLen) (_ : ∀ x ∈ L, x.wf) (hr : Rd HalfD.cells 8 w 0 w.heap.size A L)  :
    Calls Try.prog 4 #[.slice A L.length cap] w fun e w' => e = .returned (.bool true) ∧ Below w.heap.size w w' := by
  have hm : L.length ≤ maxLen := Nat.le_trans hle hcap
  by_cases h : (L.length : Int) ≤ 1048576
  · have hv : Hid (szI 1048576 L.length = 1048576 - L.length) := if_pos h
    have hn : L.length ≤ 1048576 := by omega
    go_enter Try.func4, Try.ntmps4
    go_wp2_with fail
    refine (szHalfS_any _ _ _ _ _ (by omega) (by omega) hm).mono ?_
    rintro e ws ⟨rfl, rfl⟩
    rw [hv.out]
    have hB0 : Below w.heap.size w (w) := Below.refl _ _
    have hz0 : w.heap.size ≤ (w).heap.size := Nat.le_refl _
    go_wp2_with fail
    refine (toHalfS_any A cap L _ (hr.later hB0 (Nat.le_refl _) (by omega)) hn).mono ?_
    rintro e w1 ⟨rfl, F1, hb1⟩
    have HF1_1 := Lib.hid F1
    clear F1
    have hl1 := (Array.getElem?_eq_some_iff.1 HF1_1.out).1
    have hz1 := hb1.size
    have hB1 : Below w.heap.size w w1 := hB0.trans (hb1.mono (by omega))
    clear hB0
    clear hb1
    go_wp2_with fail
    refine (sHalfsOk _ _ L  _ (rd_of_fresh HalfD.cells_length 0 (Nat.zero_le _) HF1_1.out) (Nat.le_refl _) hm).mono ?_
    rintro e w2 ⟨rfl, hb2⟩
    have hz2 := hb2.size
    have hB2 : Below w.heap.size w w2 := hB1.trans (hb2.mono (by omega))
    clear hB1
    have HF1_2 := Lib.hid ((hb2.block _ (Array.getElem?_eq_some_iff.1 HF1_1.out).1).trans HF1_1.out)
    clear HF1_1
    clear hb2
    clear HF1_2
    go_wp2_with fail
    refine (toHalfS_any A cap L _ (hr.later hB2 (Nat.le_refl _) (by omega)) hn).mono ?_
    rintro e w3 ⟨rfl, F3, hb3⟩
    have HF3_3 := Lib.hid F3
    clear F3
    have hl3 := (Array.getElem?_eq_some_iff.1 HF3_3.out).1
    have hz3 := hb3.size
    have hB3 : Below w.heap.size w w3 := hB2.trans (hb3.mono (by omega))
    clear hB2
    clear hb3
    go_wp2_with fail
    refine (iHalfsOk _ _ L  _ (rd_of_fresh HalfD.cells_length 0 (Nat.zero_le _) HF3_3.out) (Nat.le_refl _) hm).mono ?_
    rintro e w4 ⟨rfl, hb4⟩
    have hz4 := hb4.size
    have hB4 : Below w.heap.size w w4 := hB3.trans (hb4.mono (by omega))
    clear hB3
    have HF3_4 := Lib.hid ((hb4.block _ (Array.getElem?_eq_some_iff.1 HF3_3.out).1).trans HF3_3.out)
    clear HF3_3
    clear hb4
    go_wp2_with fail
    refine (toHalfS_any A cap L _ (hr.later hB4 (Nat.le_refl _) (by omega)) hn).mono ?_
    rintro e w5 ⟨rfl, F5, hb5⟩
    have HF6_5 := Lib.hid F5
    clear F5
    have hl5 := (Array.getElem?_eq_some_iff.1 HF6_5.out).1
    have hz5 := hb5.size
    have hB5 : Below w.heap.size w w5 := hB4.trans (hb5.mono (by omega))
    clear hB4
    have HF3_5 := Lib.hid ((hb5.block _ (Array.getElem?_eq_some_iff.1 HF3_4.out).1).trans HF3_4.out)
    clear HF3_4
    clear hb5
    go_wp2_with fail
    refine (eqHalfS_same _ _ _ _ L _ (rd_of_fresh HalfD.cells_length 0 (Nat.zero_le _) HF3_5.out) (rd_of_fresh HalfD.cells_length 0 (Nat.zero_le _) HF6_5.out) hm).mono ?_
    rintro e w6 ⟨rfl, hb6⟩
    have hz6 := hb6.size
    have hB6 : Below w.heap.size w w6 := hB5.trans (hb6.mono (by omega))
    clear hB5
    have HF3_6 := Lib.hid ((hb6.block _ (Array.getElem?_eq_some_iff.1 HF3_5.out).1).trans HF3_5.out)
    clear HF3_5
    have HF6_6 := Lib.hid ((hb6.block _ (Array.getElem?_eq_some_iff.1 HF6_5.out).1).trans HF6_5.out)
    clear HF6_5
    clear hb6
    go_wp2
    go_ret
    exact ⟨rfl, hB6⟩
  · have hv : Hid (szI 1048576 L.length = -1) := if_neg h
    go_enter Try.func4, Try.ntmps4
    go_wp2_with fail
    refine (szHalfS_any _ _ _ _ _ (by omega) (by omega) hm).mono ?_
    rintro e ws ⟨rfl, rfl⟩
    rw [hv.out]
    go_wp2
    go_ret
    exact ⟨rfl, Below.refl _ _⟩
end Go.Proofs.Ytcnklfddokpbiaa
