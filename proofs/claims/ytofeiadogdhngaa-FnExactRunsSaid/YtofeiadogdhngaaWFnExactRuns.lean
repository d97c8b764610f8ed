/- The walk of FnExactRuns: for every argument. -/
import Derived.Test.YtofeiadogdhngaaRuns
import Derived.Test.YtofeiadogdhngaaMapO
namespace Go.Proofs.Ytofeiadogdhngaa
set_option linter.unusedSimpArgs false
set_option linter.unusedVariables false
open Go.RowKit
set_option maxRecDepth 100000 in
set_option maxHeartbeats 2000000 in
theorem walk_FnExactRuns (A : Option Addr) (cap : Nat) (L : List MapD)  (w : World) (hle : L.length ≤ cap) (hcap : cap ≤ maxLen) (_ : ∀ x ∈ L, x.wf) (hr : Rd MapD.cells 3 w 0 w.heap.size A L)  :
    Calls Try.prog 4 #[.slice A L.length cap] w fun e w' => e = .returned (.bool true) ∧ Below w.heap.size w w' := by
  have hm : L.length ≤ maxLen := Nat.le_trans hle hcap
  obtain ⟨M, hM⟩ : ∃ M, M = runs L := ⟨_, rfl⟩
  have HM := Lib.hid hM
  clear hM
  have hMl : M.length ≤ L.length + 1 := by rw [HM.out]; exact (Nat.le_succ_of_le (runs_le L))
  by_cases h : (L.length : Int) ≤ 1048576
  · have hv : Hid (szI 1048576 L.length = 1048576 - L.length) := if_pos h
    have hn : L.length ≤ 1048576 := by omega
    have hMm : M.length ≤ maxLen := by unfold maxLen; omega
    go_enter Try.func4, Try.ntmps4
    go_wp2_with fail
    refine (szMapS_any _ _ _ _ _ (by omega) (by omega) hm).mono ?_
    rintro e ws ⟨rfl, rfl⟩
    rw [hv.out]
    have hB0 : Below w.heap.size w (w) := Below.refl _ _
    have hz0 : w.heap.size ≤ (w).heap.size := Nat.le_refl _
    go_wp2_with fail
    refine (toMapS_any A cap L _ (hr.later hB0 (Nat.le_refl _) (by omega)) hn).mono ?_
    rintro e w1 ⟨rfl, F1, hb1⟩
    have HF1_1 := Lib.hid F1
    clear F1
    have hl1 := (Array.getElem?_eq_some_iff.1 HF1_1.out).1
    have hz1 := hb1.size
    have hB1 : Below w.heap.size w w1 := hB0.trans (hb1.mono (by omega))
    clear hB0
    clear hb1
    go_wp2_with fail
    refine (sRuns _ _ L  _ (rd_of_fresh MapD.cells_length 0 (Nat.zero_le _) HF1_1.out) (Nat.le_refl _) hm).mono ?_
    rintro e w2 ⟨v_O0, rfl, O, hb2⟩
    rw [← HM.out] at O
    obtain ⟨A_O0, c_O0, rfl, hlc_O0, hmc_O0, R⟩ := O.rd0 MapD.cells_length
    clear R
    have hv_O0 : Hid (∀ k, (Value.slice A_O0 _ c_O0).ownBlock = some k → w1.heap.size ≤ k ∧ k < w2.heap.size) := fun k hk => O.lt hk
    have O0_2 := Lib.hid O
    clear O
    have hz2 := hb2.size
    have hB2 : Below w.heap.size w w2 := hB1.trans (hb2.mono (by omega))
    clear hB1
    have HF1_2 := Lib.hid ((hb2.block _ (Array.getElem?_eq_some_iff.1 HF1_1.out).1).trans HF1_1.out)
    clear HF1_1
    clear hb2
    clear HF1_2
    go_wp2_with fail
    refine (toMapS_any A cap L _ (hr.later hB2 (Nat.le_refl _) (by omega)) hn).mono ?_
    rintro e w3 ⟨rfl, F3, hb3⟩
    have HF3_3 := Lib.hid F3
    clear F3
    have hl3 := (Array.getElem?_eq_some_iff.1 HF3_3.out).1
    have hz3 := hb3.size
    have hB3 : Below w.heap.size w w3 := hB2.trans (hb3.mono (by omega))
    clear hB2
    have O0_3 := Lib.hid (O0_2.out.later hb3 (Nat.le_refl _))
    clear O0_2
    clear hb3
    go_wp2_with fail
    refine (iRuns _ _ L  _ (rd_of_fresh MapD.cells_length 0 (Nat.zero_le _) HF3_3.out) (Nat.le_refl _) hm).mono ?_
    rintro e w4 ⟨v_O1, rfl, O, hb4⟩
    rw [← HM.out] at O
    obtain ⟨A_O1, c_O1, rfl, hlc_O1, hmc_O1, R⟩ := O.rd0 MapD.cells_length
    clear R
    have hv_O1 : Hid (∀ k, (Value.slice A_O1 _ c_O1).ownBlock = some k → w3.heap.size ≤ k ∧ k < w4.heap.size) := fun k hk => O.lt hk
    have O1_4 := Lib.hid O
    clear O
    have hz4 := hb4.size
    have hB4 : Below w.heap.size w w4 := hB3.trans (hb4.mono (by omega))
    clear hB3
    have O0_4 := Lib.hid (O0_3.out.later hb4 (Nat.le_refl _))
    clear O0_3
    have HF3_4 := Lib.hid ((hb4.block _ (Array.getElem?_eq_some_iff.1 HF3_3.out).1).trans HF3_3.out)
    clear HF3_3
    clear hb4
    go_wp2_with fail
    refine (eqMapS_same _ _ _ _ M _ (O1_4.out.rdv MapD.cells_length) (O0_4.out.rdv MapD.cells_length) hMm).mono ?_
    rintro e w5 ⟨rfl, hb5⟩
    have hz5 := hb5.size
    have hB5 : Below w.heap.size w w5 := hB4.trans (hb5.mono (by omega))
    clear hB4
    have O0_5 := Lib.hid (O0_4.out.later hb5 (Nat.le_refl _))
    clear O0_4
    have HF3_5 := Lib.hid ((hb5.block _ (Array.getElem?_eq_some_iff.1 HF3_4.out).1).trans HF3_4.out)
    clear HF3_4
    have O1_5 := Lib.hid (O1_4.out.later hb5 (Nat.le_refl _))
    clear O1_4
    clear hb5
    go_wp2_with fail
    refine (toMapS_any A cap L _ (hr.later hB5 (Nat.le_refl _) (by omega)) hn).mono ?_
    rintro e w6 ⟨rfl, F6, hb6⟩
    have HF6_6 := Lib.hid F6
    clear F6
    have hl6 := (Array.getElem?_eq_some_iff.1 HF6_6.out).1
    have hz6 := hb6.size
    have hB6 : Below w.heap.size w w6 := hB5.trans (hb6.mono (by omega))
    clear hB5
    have O0_6 := Lib.hid (O0_5.out.later hb6 (Nat.le_refl _))
    clear O0_5
    have HF3_6 := Lib.hid ((hb6.block _ (Array.getElem?_eq_some_iff.1 HF3_5.out).1).trans HF3_5.out)
    clear HF3_5
    have O1_6 := Lib.hid (O1_5.out.later hb6 (Nat.le_refl _))
    clear O1_5
    clear hb6
    go_wp2_with fail
    refine (eqMapS_same _ _ _ _ L _ (rd_of_fresh MapD.cells_length 0 (Nat.zero_le _) HF3_6.out) (rd_of_fresh MapD.cells_length 0 (Nat.zero_le _) HF6_6.out) hm).mono ?_
    rintro e w7 ⟨rfl, hb7⟩
    have hz7 := hb7.size
    have hB7 : Below w.heap.size w w7 := hB6.trans (hb7.mono (by omega))
    clear hB6
    have O0_7 := Lib.hid (O0_6.out.later hb7 (Nat.le_refl _))
    clear O0_6
    have HF3_7 := Lib.hid ((hb7.block _ (Array.getElem?_eq_some_iff.1 HF3_6.out).1).trans HF3_6.out)
    clear HF3_6
    have O1_7 := Lib.hid (O1_6.out.later hb7 (Nat.le_refl _))
    clear O1_6
    have HF6_7 := Lib.hid ((hb7.block _ (Array.getElem?_eq_some_iff.1 HF6_6.out).1).trans HF6_6.out)
    clear HF6_6
    clear hb7
    clear HF6_7
    go_wp2_with fail
    refine (markMapS_own _ L w2.heap.size 1 _ (Own.fresh MapD.cells_length (Nat.le_refl _) hm HF3_7.out) (by omega) (by omega) (by omega)).mono ?_
    rintro e w8 ⟨rfl, -, hg8⟩
    clear HF3_7
    have hv_xF3 : Hid (∀ k, (Value.slice (some ⟨w2.heap.size, 0, none⟩) L.length L.length).ownBlock = some k → w2.heap.size ≤ k ∧ k < w3.heap.size) := fun k hk => by simp [Value.ownBlock] at hk; omega
    obtain ⟨K, hK⟩ : ∃ K : Int, K = 1 + 3 * (L.length : Int) := ⟨_, rfl⟩
    rw [← hK]
    have dK : decide (K < 0) = false := by rw [hK]; simp; omega
    have HK := Lib.hid hK
    clear hK
    have hz8 := hg8.size
    have hB8 : Below w.heap.size w w8 := hB7.grown hg8 (by omega) (fun k hk => by have := hv_xF3.out k hk; omega)
    clear hB7
    have O0_8 := Lib.hid (O0_7.out.grown hg8 (fun k h1 h2 => by have := hv_xF3.out k h1; have := hv_O0.out k h2; omega))
    clear O0_7
    have O1_8 := Lib.hid (O1_7.out.grown hg8 (fun k h1 h2 => by have := hv_xF3.out k h1; have := hv_O1.out k h2; omega))
    clear O1_7
    clear hg8
    go_wp2_with fail
    refine (eqMapS_same _ _ _ _ M _ (O1_8.out.rdv MapD.cells_length) (O0_8.out.rdv MapD.cells_length) hMm).mono ?_
    rintro e w9 ⟨rfl, hb9⟩
    have hz9 := hb9.size
    have hB9 : Below w.heap.size w w9 := hB8.trans (hb9.mono (by omega))
    clear hB8
    have O0_9 := Lib.hid (O0_8.out.later hb9 (Nat.le_refl _))
    clear O0_8
    have O1_9 := Lib.hid (O1_8.out.later hb9 (Nat.le_refl _))
    clear O1_8
    clear hb9
    go_wp2_with fail
    refine (markMapS_own _ M _ 1 _ O1_9.out (by omega) (by omega) (by omega)).mono ?_
    rintro e w10 ⟨rfl, Om, hg10⟩
    clear O1_9
    obtain ⟨Km, hKm⟩ : ∃ K : Int, K = 1 + 3 * (M.length : Int) := ⟨_, rfl⟩
    rw [← hKm]
    have dKm : decide (Km < 0) = false := by rw [hKm]; simp; omega
    have HKm := Lib.hid hKm
    clear hKm
    have hz10 := hg10.size
    have hB10 : Below w.heap.size w w10 := hB9.grown hg10 (by omega) (fun k hk => by have := hv_O1.out k hk; omega)
    clear hB9
    have O0_10 := Lib.hid (O0_9.out.grown hg10 (fun k h1 h2 => by have := hv_O1.out k h1; have := hv_O0.out k h2; omega))
    clear O0_9
    clear hg10
    have Om_10 := Lib.hid Om
    clear Om
    have hv_Om : Hid _ := hv_O1
    go_wp2_with fail
    refine (heldMapS_any _ M.length _ 1 _ 0 _ (Om_10.out.rdv MapD.cells_length) (by omega) (by omega) (by omega)).mono ?_
    rintro e ws ⟨rfl, rfl⟩
    rw [← HKm.out]
    go_wp2_with fail
    refine (toMapS_any A cap L _ (hr.later hB10 (Nat.le_refl _) (by omega)) hn).mono ?_
    rintro e w11 ⟨rfl, F11, hb11⟩
    have HF11_11 := Lib.hid F11
    clear F11
    have hl11 := (Array.getElem?_eq_some_iff.1 HF11_11.out).1
    have hz11 := hb11.size
    have hB11 : Below w.heap.size w w11 := hB10.trans (hb11.mono (by omega))
    clear hB10
    have O0_11 := Lib.hid (O0_10.out.later hb11 (Nat.le_refl _))
    clear O0_10
    have Om_11 := Lib.hid (Om_10.out.later hb11 (Nat.le_refl _))
    clear Om_10
    clear hb11
    go_wp2_with fail
    refine (iRuns _ _ L  _ (rd_of_fresh MapD.cells_length 0 (Nat.zero_le _) HF11_11.out) (Nat.le_refl _) hm).mono ?_
    rintro e w12 ⟨v_O2, rfl, O, hb12⟩
    rw [← HM.out] at O
    obtain ⟨A_O2, c_O2, rfl, hlc_O2, hmc_O2, R⟩ := O.rd0 MapD.cells_length
    clear R
    have hv_O2 : Hid (∀ k, (Value.slice A_O2 _ c_O2).ownBlock = some k → w11.heap.size ≤ k ∧ k < w12.heap.size) := fun k hk => O.lt hk
    have O2_12 := Lib.hid O
    clear O
    have hz12 := hb12.size
    have hB12 : Below w.heap.size w w12 := hB11.trans (hb12.mono (by omega))
    clear hB11
    have O0_12 := Lib.hid (O0_11.out.later hb12 (Nat.le_refl _))
    clear O0_11
    have Om_12 := Lib.hid (Om_11.out.later hb12 (Nat.le_refl _))
    clear Om_11
    have HF11_12 := Lib.hid ((hb12.block _ (Array.getElem?_eq_some_iff.1 HF11_11.out).1).trans HF11_11.out)
    clear HF11_11
    clear hb12
    go_wp2_with fail
    refine (eqMapS_same _ _ _ _ M _ (O2_12.out.rdv MapD.cells_length) (O0_12.out.rdv MapD.cells_length) hMm).mono ?_
    rintro e w13 ⟨rfl, hb13⟩
    have hz13 := hb13.size
    have hB13 : Below w.heap.size w w13 := hB12.trans (hb13.mono (by omega))
    clear hB12
    have O0_13 := Lib.hid (O0_12.out.later hb13 (Nat.le_refl _))
    clear O0_12
    have Om_13 := Lib.hid (Om_12.out.later hb13 (Nat.le_refl _))
    clear Om_12
    have HF11_13 := Lib.hid ((hb13.block _ (Array.getElem?_eq_some_iff.1 HF11_12.out).1).trans HF11_12.out)
    clear HF11_12
    have O2_13 := Lib.hid (O2_12.out.later hb13 (Nat.le_refl _))
    clear O2_12
    clear hb13
    go_wp2_with fail
    refine (heldMapS_any _ M.length _ 1 _ 0 _ (Om_13.out.rdv MapD.cells_length) (by omega) (by omega) (by omega)).mono ?_
    rintro e ws ⟨rfl, rfl⟩
    rw [← HKm.out]
    go_wp2
    go_ret
    exact ⟨rfl, hB13⟩
  · have hv : Hid (szI 1048576 L.length = -1) := if_neg h
    go_enter Try.func4, Try.ntmps4
    go_wp2_with fail
    refine (szMapS_any _ _ _ _ _ (by omega) (by omega) hm).mono ?_
    rintro e ws ⟨rfl, rfl⟩
    rw [hv.out]
    go_wp2
    go_ret
    exact ⟨rfl, Below.refl _ _⟩
end Go.Proofs.Ytofeiadogdhngaa
