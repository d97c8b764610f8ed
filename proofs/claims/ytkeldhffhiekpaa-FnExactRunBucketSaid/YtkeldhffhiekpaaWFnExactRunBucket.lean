/- The walk of FnExactRunBucket: for every argument. -/
import Derived.Test.YtkeldhffhiekpaaRunB
import Derived.Test.YtkeldhffhiekpaaIntS
import Derived.Test.YtkeldhffhiekpaaBoolS
namespace Go.Proofs.Ytkeldhffhiekpaa
set_option linter.unusedSimpArgs false
set_option linter.unusedVariables false
open Go.RowKit
set_option maxRecDepth 100000 in
set_option maxHeartbeats 4000000 in
theorem walk_FnExactRunBucket (x : BucketD) (A0 : Option Addr) (cap0 : Nat) (L0 : List Int) (w : World) (_ : x.wf) (hle0 : L0.length ≤ cap0) (hcap0 : cap0 ≤ maxLen) (_ : ∀ x ∈ L0, (Lit.int .i64 x).wf = true) (hr0 : Rd icell 1 w 0 w.heap.size A0 L0) :
    Calls Try.prog 8 #[x.val, .slice A0 L0.length cap0] w fun e w' => e = .returned (.bool true) ∧ Below w.heap.size w w' := by
  have hm0 : L0.length ≤ maxLen := Nat.le_trans hle0 hcap0
  obtain ⟨M, hM⟩ : ∃ M, M = runB x.fRate x.fBurst x.fHave L0 := ⟨_, rfl⟩
  have HM := Lib.hid hM
  clear hM
  have hMl : M.length ≤ 4000 := by rw [HM.out]; exact (runB_le x.fRate x.fBurst x.fHave L0)
  have hW : Below w.heap.size w (w.alloc (.cells #[.int .i64 x.fRate, .int .i64 x.fBurst, .int .i64 x.fHave] 23)) := by go_grown
  by_cases h0 : (L0.length : Int) ≤ 1048576
  · have hv0 : Hid (szI (1048576) L0.length = 1048576 - L0.length) := if_pos h0
    have hn0 : L0.length ≤ 1048576 := by omega
    have hMm : M.length ≤ maxLen := by unfold maxLen; omega
    have dsz : decide ((1048576 : Int) < (L0.length : Int)) = false := by simp; omega
    go_enter Try.func8, Try.ntmps8
    have hB0 : Below w.heap.size w (w.alloc (.cells #[.int .i64 x.fRate, .int .i64 x.fBurst, .int .i64 x.fHave] 23)) := hW
    have hz0 : w.heap.size ≤ (w.alloc (.cells #[.int .i64 x.fRate, .int .i64 x.fBurst, .int .i64 x.fHave] 23)).heap.size := hW.size
    have HB_0 : Hid ((w.alloc (.cells #[.int .i64 x.fRate, .int .i64 x.fBurst, .int .i64 x.fHave] 23)).heap[w.heap.size]? = some (.cells #[.int .i64 x.fRate, .int .i64 x.fBurst, .int .i64 x.fHave] 23 (0, 0))) := heap_alloc_new w _
    go_wp2_with fail
    refine (toBucket_any x.fRate x.fBurst x.fHave _).mono ?_
    rintro e w1 ⟨rfl, hb1⟩
    have hz1 := hb1.size
    try simp at hz1
    have hB1 : Below w.heap.size w w1 := hB0.trans (hb1.mono (by omega))
    clear hB0
    have HB_1 := Lib.hid ((hb1.block _ (Array.getElem?_eq_some_iff.1 HB_0.out).1).trans HB_0.out)
    clear HB_0
    clear hb1
    go_wp2_with fail
    refine (toIntS_any A0 cap0 L0 _ (hr0.later hB1 (Nat.le_refl _) (by first | omega | (simp; omega))) hn0).mono ?_
    rintro e w2 ⟨rfl, F2, hb2⟩
    have HF1_2 := Lib.hid F2
    clear F2
    have hl2 := (Array.getElem?_eq_some_iff.1 HF1_2.out).1
    have hz2 := hb2.size
    have hB2 : Below w.heap.size w w2 := hB1.trans (hb2.mono (by omega))
    clear hB1
    have HB_2 := Lib.hid ((hb2.block _ (Array.getElem?_eq_some_iff.1 HB_1.out).1).trans HB_1.out)
    clear HB_1
    clear hb2
    go_wp2_with fail
    refine (sRunBucket x.fRate x.fBurst x.fHave _ _ L0 _ (rd_of_fresh icell_length 0 (Nat.zero_le _) HF1_2.out) hm0).mono ?_
    rintro e w3 ⟨v_O0, rfl, O, hb3⟩
    rw [← HM.out] at O
    obtain ⟨A_O0, c_O0, rfl, hlc_O0, hmc_O0, R⟩ := O.rd0 bocell_length
    clear R
    have hv_O0 : Hid (∀ k, (Value.slice A_O0 _ c_O0).ownBlock = some k → w2.heap.size ≤ k ∧ k < w3.heap.size) := fun k hk => O.lt hk
    have O0_3 := Lib.hid O
    clear O
    have hz3 := hb3.size
    have hB3 : Below w.heap.size w w3 := hB2.trans (hb3.mono (by omega))
    clear hB2
    have HB_3 := Lib.hid ((hb3.block _ (Array.getElem?_eq_some_iff.1 HB_2.out).1).trans HB_2.out)
    clear HB_2
    have HF1_3 := Lib.hid ((hb3.block _ (Array.getElem?_eq_some_iff.1 HF1_2.out).1).trans HF1_2.out)
    clear HF1_2
    clear hb3
    clear HF1_3
    go_wp2_with fail
    refine (toIntS_any A0 cap0 L0 _ (hr0.later hB3 (Nat.le_refl _) (by first | omega | (simp; omega))) hn0).mono ?_
    rintro e w4 ⟨rfl, F4, hb4⟩
    have HF2_4 := Lib.hid F4
    clear F4
    have hl4 := (Array.getElem?_eq_some_iff.1 HF2_4.out).1
    have hz4 := hb4.size
    have hB4 : Below w.heap.size w w4 := hB3.trans (hb4.mono (by omega))
    clear hB3
    have HB_4 := Lib.hid ((hb4.block _ (Array.getElem?_eq_some_iff.1 HB_3.out).1).trans HB_3.out)
    clear HB_3
    have O0_4 := Lib.hid (O0_3.out.later hb4 (Nat.le_refl _))
    clear O0_3
    clear hb4
    have rw4_0 : w4.cell? ⟨w.heap.size, 0, none⟩ = some (.int .i64 x.fRate) := by rw [cell_of_row _ _ _ _ _ (0, 0) HB_4.out]; rfl
    have rw4_1 : w4.cell? ⟨w.heap.size, 1, none⟩ = some (.int .i64 x.fBurst) := by rw [cell_of_row _ _ _ _ _ (0, 0) HB_4.out]; rfl
    have rw4_2 : w4.cell? ⟨w.heap.size, 2, none⟩ = some (.int .i64 x.fHave) := by rw [cell_of_row _ _ _ _ _ (0, 0) HB_4.out]; rfl
    go_wp2_with fail
    refine (toBucket_any x.fRate x.fBurst x.fHave _).mono ?_
    rintro e w5 ⟨rfl, hb5⟩
    have hz5 := hb5.size
    have hB5 : Below w.heap.size w w5 := hB4.trans (hb5.mono (by omega))
    clear hB4
    have HB_5 := Lib.hid ((hb5.block _ (Array.getElem?_eq_some_iff.1 HB_4.out).1).trans HB_4.out)
    clear HB_4
    have O0_5 := Lib.hid (O0_4.out.later hb5 (Nat.le_refl _))
    clear O0_4
    have HF2_5 := Lib.hid ((hb5.block _ (Array.getElem?_eq_some_iff.1 HF2_4.out).1).trans HF2_4.out)
    clear HF2_4
    clear hb5
    clear rw4_0 rw4_1 rw4_2
    go_wp2_with fail
    refine (iRunBucket x.fRate x.fBurst x.fHave _ _ L0 _ (rd_of_fresh icell_length 0 (Nat.zero_le _) HF2_5.out) hm0).mono ?_
    rintro e w6 ⟨v_O1, rfl, O, hb6⟩
    rw [← HM.out] at O
    obtain ⟨A_O1, c_O1, rfl, hlc_O1, hmc_O1, R⟩ := O.rd0 bocell_length
    clear R
    have hv_O1 : Hid (∀ k, (Value.slice A_O1 _ c_O1).ownBlock = some k → w5.heap.size ≤ k ∧ k < w6.heap.size) := fun k hk => O.lt hk
    have O1_6 := Lib.hid O
    clear O
    have hz6 := hb6.size
    have hB6 : Below w.heap.size w w6 := hB5.trans (hb6.mono (by omega))
    clear hB5
    have HB_6 := Lib.hid ((hb6.block _ (Array.getElem?_eq_some_iff.1 HB_5.out).1).trans HB_5.out)
    clear HB_5
    have O0_6 := Lib.hid (O0_5.out.later hb6 (Nat.le_refl _))
    clear O0_5
    have HF2_6 := Lib.hid ((hb6.block _ (Array.getElem?_eq_some_iff.1 HF2_5.out).1).trans HF2_5.out)
    clear HF2_5
    clear hb6
    go_wp2_with fail
    refine (eqBoolS_same _ _ _ _ M _ (O1_6.out.rdv bocell_length) (O0_6.out.rdv bocell_length) hMm).mono ?_
    rintro e w7 ⟨rfl, hb7⟩
    have hz7 := hb7.size
    have hB7 : Below w.heap.size w w7 := hB6.trans (hb7.mono (by omega))
    clear hB6
    have HB_7 := Lib.hid ((hb7.block _ (Array.getElem?_eq_some_iff.1 HB_6.out).1).trans HB_6.out)
    clear HB_6
    have O0_7 := Lib.hid (O0_6.out.later hb7 (Nat.le_refl _))
    clear O0_6
    have HF2_7 := Lib.hid ((hb7.block _ (Array.getElem?_eq_some_iff.1 HF2_6.out).1).trans HF2_6.out)
    clear HF2_6
    have O1_7 := Lib.hid (O1_6.out.later hb7 (Nat.le_refl _))
    clear O1_6
    clear hb7
    go_wp2_with fail
    refine (toIntS_any A0 cap0 L0 _ (hr0.later hB7 (Nat.le_refl _) (by omega)) hn0).mono ?_
    rintro e w8 ⟨rfl, F8, hb8⟩
    have HF3_8 := Lib.hid F8
    clear F8
    have hl8 := (Array.getElem?_eq_some_iff.1 HF3_8.out).1
    have hz8 := hb8.size
    have hB8 : Below w.heap.size w w8 := hB7.trans (hb8.mono (by omega))
    clear hB7
    have HB_8 := Lib.hid ((hb8.block _ (Array.getElem?_eq_some_iff.1 HB_7.out).1).trans HB_7.out)
    clear HB_7
    have O0_8 := Lib.hid (O0_7.out.later hb8 (Nat.le_refl _))
    clear O0_7
    have HF2_8 := Lib.hid ((hb8.block _ (Array.getElem?_eq_some_iff.1 HF2_7.out).1).trans HF2_7.out)
    clear HF2_7
    have O1_8 := Lib.hid (O1_7.out.later hb8 (Nat.le_refl _))
    clear O1_7
    clear hb8
    go_wp2_with fail
    refine (eqIntS_same _ _ _ _ L0 _ (rd_of_fresh icell_length 0 (Nat.zero_le _) HF2_8.out) (rd_of_fresh icell_length 0 (Nat.zero_le _) HF3_8.out) hm0).mono ?_
    rintro e w9 ⟨rfl, hb9⟩
    have hz9 := hb9.size
    have hB9 : Below w.heap.size w w9 := hB8.trans (hb9.mono (by omega))
    clear hB8
    have HB_9 := Lib.hid ((hb9.block _ (Array.getElem?_eq_some_iff.1 HB_8.out).1).trans HB_8.out)
    clear HB_8
    have O0_9 := Lib.hid (O0_8.out.later hb9 (Nat.le_refl _))
    clear O0_8
    have HF2_9 := Lib.hid ((hb9.block _ (Array.getElem?_eq_some_iff.1 HF2_8.out).1).trans HF2_8.out)
    clear HF2_8
    have O1_9 := Lib.hid (O1_8.out.later hb9 (Nat.le_refl _))
    clear O1_8
    have HF3_9 := Lib.hid ((hb9.block _ (Array.getElem?_eq_some_iff.1 HF3_8.out).1).trans HF3_8.out)
    clear HF3_8
    clear hb9
    clear HF3_9
    go_wp2_with fail
    refine (markIntS_own _ L0 w3.heap.size 1 _ (Own.fresh icell_length (Nat.le_refl _) hm0 HF2_9.out) (by omega) (by omega) (by omega)).mono ?_
    rintro e w10 ⟨rfl, -, hg10⟩
    clear HF2_9
    have hv_xF2 : Hid (∀ k, (Value.slice (some ⟨w3.heap.size, 0, none⟩) L0.length L0.length).ownBlock = some k → w3.heap.size ≤ k ∧ k < w4.heap.size) := fun k hk => by simp [Value.ownBlock] at hk; omega
    obtain ⟨K0, hK0⟩ : ∃ K : Int, K = 1 + 1 * (L0.length : Int) := ⟨_, rfl⟩
    rw [← hK0]
    have bK0 : 0 ≤ K0 ∧ K0 ≤ 100000000 := by omega
    have dK0 : decide (K0 < 0) = false := by simp; omega
    have HK0 := Lib.hid hK0
    clear hK0
    have hz10 := hg10.size
    have hB10 : Below w.heap.size w w10 := hB9.grown hg10 (by omega) (fun k hk => by have := hv_xF2.out k hk; omega)
    clear hB9
    have HB_10 := Lib.hid ((hg10.block _ (Array.getElem?_eq_some_iff.1 HB_9.out).1 (fun hk => by have := hv_xF2.out _ hk.symm; omega)).trans HB_9.out)
    clear HB_9
    have O0_10 := Lib.hid (O0_9.out.grown hg10 (fun k h1 h2 => by have := hv_xF2.out k h1; have := hv_O0.out k h2; omega))
    clear O0_9
    have O1_10 := Lib.hid (O1_9.out.grown hg10 (fun k h1 h2 => by have := hv_xF2.out k h1; have := hv_O1.out k h2; omega))
    clear O1_9
    clear hg10
    go_wp2_with fail
    refine (eqBoolS_same _ _ _ _ M _ (O1_10.out.rdv bocell_length) (O0_10.out.rdv bocell_length) hMm).mono ?_
    rintro e w11 ⟨rfl, hb11⟩
    have hz11 := hb11.size
    have hB11 : Below w.heap.size w w11 := hB10.trans (hb11.mono (by omega))
    clear hB10
    have HB_11 := Lib.hid ((hb11.block _ (Array.getElem?_eq_some_iff.1 HB_10.out).1).trans HB_10.out)
    clear HB_10
    have O0_11 := Lib.hid (O0_10.out.later hb11 (Nat.le_refl _))
    clear O0_10
    have O1_11 := Lib.hid (O1_10.out.later hb11 (Nat.le_refl _))
    clear O1_10
    clear hb11
    go_wp2_with fail
    refine (markBoolS_own _ M _ 1 _ O1_11.out (by omega) (by omega) (by omega)).mono ?_
    rintro e w12 ⟨rfl, Om, hg12⟩
    clear O1_11
    obtain ⟨Km, hKm⟩ : ∃ K : Int, K = 1 + 1 * (M.length : Int) := ⟨_, rfl⟩
    rw [← hKm]
    have dKm : decide (Km < 0) = false := by rw [hKm]; simp; omega
    have HKm := Lib.hid hKm
    clear hKm
    have hz12 := hg12.size
    have hB12 : Below w.heap.size w w12 := hB11.grown hg12 (by omega) (fun k hk => by have := hv_O1.out k hk; omega)
    clear hB11
    have HB_12 := Lib.hid ((hg12.block _ (Array.getElem?_eq_some_iff.1 HB_11.out).1 (fun hk => by have := hv_O1.out _ hk.symm; omega)).trans HB_11.out)
    clear HB_11
    have O0_12 := Lib.hid (O0_11.out.grown hg12 (fun k h1 h2 => by have := hv_O1.out k h1; have := hv_O0.out k h2; omega))
    clear O0_11
    clear hg12
    have Om_12 := Lib.hid Om
    clear Om
    have hv_Om : Hid _ := hv_O1
    go_wp2_with fail
    refine (heldBoolS_any _ M.length _ 1 _ 0 _ (Om_12.out.rdv bocell_length) (by omega) (by omega) (by omega)).mono ?_
    rintro e ws ⟨rfl, rfl⟩
    rw [← HKm.out]
    have rw12_0 : w12.cell? ⟨w.heap.size, 0, none⟩ = some (.int .i64 x.fRate) := by rw [cell_of_row _ _ _ _ _ (0, 0) HB_12.out]; rfl
    have rw12_1 : w12.cell? ⟨w.heap.size, 1, none⟩ = some (.int .i64 x.fBurst) := by rw [cell_of_row _ _ _ _ _ (0, 0) HB_12.out]; rfl
    have rw12_2 : w12.cell? ⟨w.heap.size, 2, none⟩ = some (.int .i64 x.fHave) := by rw [cell_of_row _ _ _ _ _ (0, 0) HB_12.out]; rfl
    go_wp2_with fail
    refine (toBucket_any x.fRate x.fBurst x.fHave _).mono ?_
    rintro e w13 ⟨rfl, hb13⟩
    have hz13 := hb13.size
    have hB13 : Below w.heap.size w w13 := hB12.trans (hb13.mono (by omega))
    clear hB12
    have HB_13 := Lib.hid ((hb13.block _ (Array.getElem?_eq_some_iff.1 HB_12.out).1).trans HB_12.out)
    clear HB_12
    have O0_13 := Lib.hid (O0_12.out.later hb13 (Nat.le_refl _))
    clear O0_12
    have Om_13 := Lib.hid (Om_12.out.later hb13 (Nat.le_refl _))
    clear Om_12
    clear hb13
    clear rw12_0 rw12_1 rw12_2
    go_wp2_with fail
    refine (toIntS_any A0 cap0 L0 _ (hr0.later hB13 (Nat.le_refl _) (by first | omega | (simp; omega))) hn0).mono ?_
    rintro e w14 ⟨rfl, F14, hb14⟩
    have HF4_14 := Lib.hid F14
    clear F14
    have hl14 := (Array.getElem?_eq_some_iff.1 HF4_14.out).1
    have hz14 := hb14.size
    have hB14 : Below w.heap.size w w14 := hB13.trans (hb14.mono (by omega))
    clear hB13
    have HB_14 := Lib.hid ((hb14.block _ (Array.getElem?_eq_some_iff.1 HB_13.out).1).trans HB_13.out)
    clear HB_13
    have O0_14 := Lib.hid (O0_13.out.later hb14 (Nat.le_refl _))
    clear O0_13
    have Om_14 := Lib.hid (Om_13.out.later hb14 (Nat.le_refl _))
    clear Om_13
    clear hb14
    go_wp2_with fail
    refine (iRunBucket x.fRate x.fBurst x.fHave _ _ L0 _ (rd_of_fresh icell_length 0 (Nat.zero_le _) HF4_14.out) hm0).mono ?_
    rintro e w15 ⟨v_O2, rfl, O, hb15⟩
    rw [← HM.out] at O
    obtain ⟨A_O2, c_O2, rfl, hlc_O2, hmc_O2, R⟩ := O.rd0 bocell_length
    clear R
    have hv_O2 : Hid (∀ k, (Value.slice A_O2 _ c_O2).ownBlock = some k → w14.heap.size ≤ k ∧ k < w15.heap.size) := fun k hk => O.lt hk
    have O2_15 := Lib.hid O
    clear O
    have hz15 := hb15.size
    have hB15 : Below w.heap.size w w15 := hB14.trans (hb15.mono (by omega))
    clear hB14
    have HB_15 := Lib.hid ((hb15.block _ (Array.getElem?_eq_some_iff.1 HB_14.out).1).trans HB_14.out)
    clear HB_14
    have O0_15 := Lib.hid (O0_14.out.later hb15 (Nat.le_refl _))
    clear O0_14
    have Om_15 := Lib.hid (Om_14.out.later hb15 (Nat.le_refl _))
    clear Om_14
    have HF4_15 := Lib.hid ((hb15.block _ (Array.getElem?_eq_some_iff.1 HF4_14.out).1).trans HF4_14.out)
    clear HF4_14
    clear hb15
    clear HF4_15
    go_wp2_with fail
    refine (eqBoolS_same _ _ _ _ M _ (O2_15.out.rdv bocell_length) (O0_15.out.rdv bocell_length) hMm).mono ?_
    rintro e w16 ⟨rfl, hb16⟩
    have hz16 := hb16.size
    have hB16 : Below w.heap.size w w16 := hB15.trans (hb16.mono (by omega))
    clear hB15
    have HB_16 := Lib.hid ((hb16.block _ (Array.getElem?_eq_some_iff.1 HB_15.out).1).trans HB_15.out)
    clear HB_15
    have O0_16 := Lib.hid (O0_15.out.later hb16 (Nat.le_refl _))
    clear O0_15
    have Om_16 := Lib.hid (Om_15.out.later hb16 (Nat.le_refl _))
    clear Om_15
    have O2_16 := Lib.hid (O2_15.out.later hb16 (Nat.le_refl _))
    clear O2_15
    clear hb16
    go_wp2_with fail
    refine (heldBoolS_any _ M.length _ 1 _ 0 _ (Om_16.out.rdv bocell_length) (by omega) (by omega) (by omega)).mono ?_
    rintro e ws ⟨rfl, rfl⟩
    rw [← HKm.out]
    go_wp2
    go_ret
    exact ⟨rfl, hB16⟩
  · have hv0 : Hid (szI (1048576) L0.length = -1) := if_neg h0
    have dsz : decide ((1048576 : Int) < (L0.length : Int)) = true := by simp; omega
    go_enter Try.func8, Try.ntmps8
    go_wp2
    go_ret
    exact ⟨rfl, hW⟩
end Go.Proofs.Ytkeldhffhiekpaa
