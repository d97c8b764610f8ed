/- The walk of FnExactWantedOf: for every argument. -/
import Derived.Test.YtfhfanbigjpfaaaWanted
import Derived.Test.YtfhfanbigjpfaaaRoadO
import Derived.Test.YtfhfanbigjpfaaaAddrO
namespace Go.Proofs.Ytfhfanbigjpfaaa
set_option linter.unusedSimpArgs false
set_option linter.unusedVariables false
open Go.RowKit
set_option maxRecDepth 100000 in
set_option maxHeartbeats 4000000 in
theorem walk_FnExactWantedOf (x : PolicyD) (A0 : Option Addr) (cap0 : Nat) (L0 : List AddrD) (A1 : Option Addr) (cap1 : Nat) (L1 : List AddrD) (w : World) (_ : x.wf) (hle0 : L0.length ≤ cap0) (hcap0 : cap0 ≤ maxLen) (_ : ∀ x ∈ L0, x.wf) (hr0 : Rd AddrD.cells 4 w 0 w.heap.size A0 L0) (hle1 : L1.length ≤ cap1) (hcap1 : cap1 ≤ maxLen) (_ : ∀ x ∈ L1, x.wf) (hr1 : Rd AddrD.cells 4 w 0 w.heap.size A1 L1) :
    Calls Try.prog 6 #[x.val, .slice A0 L0.length cap0, .slice A1 L1.length cap1] w fun e w' => e = .returned (.bool true) ∧ Below w.heap.size w w' := by
  have hm0 : L0.length ≤ maxLen := Nat.le_trans hle0 hcap0
  have hm1 : L1.length ≤ maxLen := Nat.le_trans hle1 hcap1
  obtain ⟨M, hM⟩ : ∃ M, M = wanted x L0 L1 := ⟨_, rfl⟩
  have HM := Lib.hid hM
  clear hM
  have hMl : M.length ≤ 8 := by rw [HM.out]; exact (wanted_le x L0 L1)
  have hW : Below w.heap.size w (w.alloc (.cells #[.int .i64 x.fKind, .int .i64 x.fMany] 23)) := by go_grown
  by_cases h0 : (L0.length : Int) ≤ 1048576
  · have hv0 : Hid (szI (1048576) L0.length = 1048576 - L0.length) := if_pos h0
    by_cases h1 : (L1.length : Int) ≤ 1048576 - L0.length
    · have hv1 : Hid (szI (1048576 - L0.length) L1.length = 1048576 - L0.length - L1.length) := if_pos h1
      have hn0 : L0.length ≤ 1048576 := by omega
      have hn1 : L1.length ≤ 1048576 := by omega
      have hMm : M.length ≤ maxLen := by unfold maxLen; omega
      go_enter Try.func6, Try.ntmps6
      go_wp2_with fail
      refine (szAddrS_any _ _ _ _ _ (by omega) (by omega) hm0).mono ?_
      rintro e ws ⟨rfl, rfl⟩
      rw [hv0.out]
      go_wp2_with fail
      refine (szAddrS_any _ _ _ _ _ (by omega) (by omega) hm1).mono ?_
      rintro e ws ⟨rfl, rfl⟩
      rw [hv1.out]
      have hB0 : Below w.heap.size w (w.alloc (.cells #[.int .i64 x.fKind, .int .i64 x.fMany] 23)) := hW
      have hz0 : w.heap.size ≤ (w.alloc (.cells #[.int .i64 x.fKind, .int .i64 x.fMany] 23)).heap.size := hW.size
      have HB_0 : Hid ((w.alloc (.cells #[.int .i64 x.fKind, .int .i64 x.fMany] 23)).heap[w.heap.size]? = some (.cells #[.int .i64 x.fKind, .int .i64 x.fMany] 23 (0, 0))) := heap_alloc_new w _
      go_wp2_with fail
      refine (toPolicy_any x _).mono ?_
      rintro e w1 ⟨rfl, hb1⟩
      have hz1 := hb1.size
      try simp at hz1
      have hB1 : Below w.heap.size w w1 := hB0.trans (hb1.mono (by omega))
      clear hB0
      have HB_1 := Lib.hid ((hb1.block _ (Array.getElem?_eq_some_iff.1 HB_0.out).1).trans HB_0.out)
      clear HB_0
      clear hb1
      go_wp2_with fail
      refine (toAddrS_any A0 cap0 L0 _ (hr0.later hB1 (Nat.le_refl _) (by first | omega | (simp; omega))) hn0).mono ?_
      rintro e w2 ⟨rfl, F2, hb2⟩
      have HF1_2 := Lib.hid F2
      clear F2
      have hl2 := (Array.getElem?_eq_some_iff.1 HF1_2.out).1
      have hz2 := hb2.size
      have hB2 : Below w.heap.size w w2 := hB1.trans (hb2.mono (by omega))
      clear hB1
      have HB_2 := Lib.hid ((hb2.block _ (Array.getElem?_eq_some_iff.1 HB_1.out).1).trans HB_1.out)
      clear HB_1
      clear hb2
      go_wp2_with fail
      refine (toAddrS_any A1 cap1 L1 _ (hr1.later hB2 (Nat.le_refl _) (by first | omega | (simp; omega))) hn1).mono ?_
      rintro e w3 ⟨rfl, F3, hb3⟩
      have HF2_3 := Lib.hid F3
      clear F3
      have hl3 := (Array.getElem?_eq_some_iff.1 HF2_3.out).1
      have hz3 := hb3.size
      have hB3 : Below w.heap.size w w3 := hB2.trans (hb3.mono (by omega))
      clear hB2
      have HB_3 := Lib.hid ((hb3.block _ (Array.getElem?_eq_some_iff.1 HB_2.out).1).trans HB_2.out)
      clear HB_2
      have HF1_3 := Lib.hid ((hb3.block _ (Array.getElem?_eq_some_iff.1 HF1_2.out).1).trans HF1_2.out)
      clear HF1_2
      clear hb3
      go_wp2_with fail
      refine (sWantedOf x _ _ L0 _ _ L1 _ (rd_of_fresh AddrD.cells_length 0 (Nat.zero_le _) HF1_3.out) (rd_of_fresh AddrD.cells_length 0 (Nat.zero_le _) HF2_3.out) hm0 hm1).mono ?_
      rintro e w4 ⟨v_O0, rfl, O, hb4⟩
      rw [← HM.out] at O
      obtain ⟨A_O0, c_O0, rfl, hlc_O0, hmc_O0, R⟩ := O.rd0 RoadD.cells_length
      clear R
      have hv_O0 : Hid (∀ k, (Value.slice A_O0 _ c_O0).ownBlock = some k → w3.heap.size ≤ k ∧ k < w4.heap.size) := fun k hk => O.lt hk
      have O0_4 := Lib.hid O
      clear O
      have hz4 := hb4.size
      have hB4 : Below w.heap.size w w4 := hB3.trans (hb4.mono (by omega))
      clear hB3
      have HB_4 := Lib.hid ((hb4.block _ (Array.getElem?_eq_some_iff.1 HB_3.out).1).trans HB_3.out)
      clear HB_3
      have HF1_4 := Lib.hid ((hb4.block _ (Array.getElem?_eq_some_iff.1 HF1_3.out).1).trans HF1_3.out)
      clear HF1_3
      have HF2_4 := Lib.hid ((hb4.block _ (Array.getElem?_eq_some_iff.1 HF2_3.out).1).trans HF2_3.out)
      clear HF2_3
      clear hb4
      clear HF1_4
      clear HF2_4
      go_wp2_with fail
      refine (toAddrS_any A0 cap0 L0 _ (hr0.later hB4 (Nat.le_refl _) (by first | omega | (simp; omega))) hn0).mono ?_
      rintro e w5 ⟨rfl, F5, hb5⟩
      have HF3_5 := Lib.hid F5
      clear F5
      have hl5 := (Array.getElem?_eq_some_iff.1 HF3_5.out).1
      have hz5 := hb5.size
      have hB5 : Below w.heap.size w w5 := hB4.trans (hb5.mono (by omega))
      clear hB4
      have HB_5 := Lib.hid ((hb5.block _ (Array.getElem?_eq_some_iff.1 HB_4.out).1).trans HB_4.out)
      clear HB_4
      have O0_5 := Lib.hid (O0_4.out.later hb5 (Nat.le_refl _))
      clear O0_4
      clear hb5
      go_wp2_with fail
      refine (toAddrS_any A1 cap1 L1 _ (hr1.later hB5 (Nat.le_refl _) (by first | omega | (simp; omega))) hn1).mono ?_
      rintro e w6 ⟨rfl, F6, hb6⟩
      have HF4_6 := Lib.hid F6
      clear F6
      have hl6 := (Array.getElem?_eq_some_iff.1 HF4_6.out).1
      have hz6 := hb6.size
      have hB6 : Below w.heap.size w w6 := hB5.trans (hb6.mono (by omega))
      clear hB5
      have HB_6 := Lib.hid ((hb6.block _ (Array.getElem?_eq_some_iff.1 HB_5.out).1).trans HB_5.out)
      clear HB_5
      have O0_6 := Lib.hid (O0_5.out.later hb6 (Nat.le_refl _))
      clear O0_5
      have HF3_6 := Lib.hid ((hb6.block _ (Array.getElem?_eq_some_iff.1 HF3_5.out).1).trans HF3_5.out)
      clear HF3_5
      clear hb6
      have rw6_0 : w6.cell? ⟨w.heap.size, 0, none⟩ = some (.int .i64 x.fKind) := by rw [cell_of_row _ _ _ _ _ (0, 0) HB_6.out]; rfl
      have rw6_1 : w6.cell? ⟨w.heap.size, 1, none⟩ = some (.int .i64 x.fMany) := by rw [cell_of_row _ _ _ _ _ (0, 0) HB_6.out]; rfl
      go_wp2_with fail
      refine (toPolicy_any x _).mono ?_
      rintro e w7 ⟨rfl, hb7⟩
      have hz7 := hb7.size
      have hB7 : Below w.heap.size w w7 := hB6.trans (hb7.mono (by omega))
      clear hB6
      have HB_7 := Lib.hid ((hb7.block _ (Array.getElem?_eq_some_iff.1 HB_6.out).1).trans HB_6.out)
      clear HB_6
      have O0_7 := Lib.hid (O0_6.out.later hb7 (Nat.le_refl _))
      clear O0_6
      have HF3_7 := Lib.hid ((hb7.block _ (Array.getElem?_eq_some_iff.1 HF3_6.out).1).trans HF3_6.out)
      clear HF3_6
      have HF4_7 := Lib.hid ((hb7.block _ (Array.getElem?_eq_some_iff.1 HF4_6.out).1).trans HF4_6.out)
      clear HF4_6
      clear hb7
      clear rw6_0 rw6_1
      go_wp2_with fail
      refine (iWantedOf x _ _ L0 _ _ L1 _ (rd_of_fresh AddrD.cells_length 0 (Nat.zero_le _) HF3_7.out) (rd_of_fresh AddrD.cells_length 0 (Nat.zero_le _) HF4_7.out) hm0 hm1).mono ?_
      rintro e w8 ⟨v_O1, rfl, O, hb8⟩
      rw [← HM.out] at O
      obtain ⟨A_O1, c_O1, rfl, hlc_O1, hmc_O1, R⟩ := O.rd0 RoadD.cells_length
      clear R
      have hv_O1 : Hid (∀ k, (Value.slice A_O1 _ c_O1).ownBlock = some k → w7.heap.size ≤ k ∧ k < w8.heap.size) := fun k hk => O.lt hk
      have O1_8 := Lib.hid O
      clear O
      have hz8 := hb8.size
      have hB8 : Below w.heap.size w w8 := hB7.trans (hb8.mono (by omega))
      clear hB7
      have HB_8 := Lib.hid ((hb8.block _ (Array.getElem?_eq_some_iff.1 HB_7.out).1).trans HB_7.out)
      clear HB_7
      have O0_8 := Lib.hid (O0_7.out.later hb8 (Nat.le_refl _))
      clear O0_7
      have HF3_8 := Lib.hid ((hb8.block _ (Array.getElem?_eq_some_iff.1 HF3_7.out).1).trans HF3_7.out)
      clear HF3_7
      have HF4_8 := Lib.hid ((hb8.block _ (Array.getElem?_eq_some_iff.1 HF4_7.out).1).trans HF4_7.out)
      clear HF4_7
      clear hb8
      go_wp2_with fail
      refine (eqRoadS_same _ _ _ _ M _ (O1_8.out.rdv RoadD.cells_length) (O0_8.out.rdv RoadD.cells_length) hMm).mono ?_
      rintro e w9 ⟨rfl, hb9⟩
      have hz9 := hb9.size
      have hB9 : Below w.heap.size w w9 := hB8.trans (hb9.mono (by omega))
      clear hB8
      have HB_9 := Lib.hid ((hb9.block _ (Array.getElem?_eq_some_iff.1 HB_8.out).1).trans HB_8.out)
      clear HB_8
      have O0_9 := Lib.hid (O0_8.out.later hb9 (Nat.le_refl _))
      clear O0_8
      have HF3_9 := Lib.hid ((hb9.block _ (Array.getElem?_eq_some_iff.1 HF3_8.out).1).trans HF3_8.out)
      clear HF3_8
      have HF4_9 := Lib.hid ((hb9.block _ (Array.getElem?_eq_some_iff.1 HF4_8.out).1).trans HF4_8.out)
      clear HF4_8
      have O1_9 := Lib.hid (O1_8.out.later hb9 (Nat.le_refl _))
      clear O1_8
      clear hb9
      go_wp2_with fail
      refine (toAddrS_any A0 cap0 L0 _ (hr0.later hB9 (Nat.le_refl _) (by omega)) hn0).mono ?_
      rintro e w10 ⟨rfl, F10, hb10⟩
      have HF5_10 := Lib.hid F10
      clear F10
      have hl10 := (Array.getElem?_eq_some_iff.1 HF5_10.out).1
      have hz10 := hb10.size
      have hB10 : Below w.heap.size w w10 := hB9.trans (hb10.mono (by omega))
      clear hB9
      have HB_10 := Lib.hid ((hb10.block _ (Array.getElem?_eq_some_iff.1 HB_9.out).1).trans HB_9.out)
      clear HB_9
      have O0_10 := Lib.hid (O0_9.out.later hb10 (Nat.le_refl _))
      clear O0_9
      have HF3_10 := Lib.hid ((hb10.block _ (Array.getElem?_eq_some_iff.1 HF3_9.out).1).trans HF3_9.out)
      clear HF3_9
      have HF4_10 := Lib.hid ((hb10.block _ (Array.getElem?_eq_some_iff.1 HF4_9.out).1).trans HF4_9.out)
      clear HF4_9
      have O1_10 := Lib.hid (O1_9.out.later hb10 (Nat.le_refl _))
      clear O1_9
      clear hb10
      go_wp2_with fail
      refine (eqAddrS_same _ _ _ _ L0 _ (rd_of_fresh AddrD.cells_length 0 (Nat.zero_le _) HF3_10.out) (rd_of_fresh AddrD.cells_length 0 (Nat.zero_le _) HF5_10.out) hm0).mono ?_
      rintro e w11 ⟨rfl, hb11⟩
      have hz11 := hb11.size
      have hB11 : Below w.heap.size w w11 := hB10.trans (hb11.mono (by omega))
      clear hB10
      have HB_11 := Lib.hid ((hb11.block _ (Array.getElem?_eq_some_iff.1 HB_10.out).1).trans HB_10.out)
      clear HB_10
      have O0_11 := Lib.hid (O0_10.out.later hb11 (Nat.le_refl _))
      clear O0_10
      have HF3_11 := Lib.hid ((hb11.block _ (Array.getElem?_eq_some_iff.1 HF3_10.out).1).trans HF3_10.out)
      clear HF3_10
      have HF4_11 := Lib.hid ((hb11.block _ (Array.getElem?_eq_some_iff.1 HF4_10.out).1).trans HF4_10.out)
      clear HF4_10
      have O1_11 := Lib.hid (O1_10.out.later hb11 (Nat.le_refl _))
      clear O1_10
      have HF5_11 := Lib.hid ((hb11.block _ (Array.getElem?_eq_some_iff.1 HF5_10.out).1).trans HF5_10.out)
      clear HF5_10
      clear hb11
      clear HF5_11
      go_wp2_with fail
      refine (toAddrS_any A1 cap1 L1 _ (hr1.later hB11 (Nat.le_refl _) (by omega)) hn1).mono ?_
      rintro e w12 ⟨rfl, F12, hb12⟩
      have HF6_12 := Lib.hid F12
      clear F12
      have hl12 := (Array.getElem?_eq_some_iff.1 HF6_12.out).1
      have hz12 := hb12.size
      have hB12 : Below w.heap.size w w12 := hB11.trans (hb12.mono (by omega))
      clear hB11
      have HB_12 := Lib.hid ((hb12.block _ (Array.getElem?_eq_some_iff.1 HB_11.out).1).trans HB_11.out)
      clear HB_11
      have O0_12 := Lib.hid (O0_11.out.later hb12 (Nat.le_refl _))
      clear O0_11
      have HF3_12 := Lib.hid ((hb12.block _ (Array.getElem?_eq_some_iff.1 HF3_11.out).1).trans HF3_11.out)
      clear HF3_11
      have HF4_12 := Lib.hid ((hb12.block _ (Array.getElem?_eq_some_iff.1 HF4_11.out).1).trans HF4_11.out)
      clear HF4_11
      have O1_12 := Lib.hid (O1_11.out.later hb12 (Nat.le_refl _))
      clear O1_11
      clear hb12
      go_wp2_with fail
      refine (eqAddrS_same _ _ _ _ L1 _ (rd_of_fresh AddrD.cells_length 0 (Nat.zero_le _) HF4_12.out) (rd_of_fresh AddrD.cells_length 0 (Nat.zero_le _) HF6_12.out) hm1).mono ?_
      rintro e w13 ⟨rfl, hb13⟩
      have hz13 := hb13.size
      have hB13 : Below w.heap.size w w13 := hB12.trans (hb13.mono (by omega))
      clear hB12
      have HB_13 := Lib.hid ((hb13.block _ (Array.getElem?_eq_some_iff.1 HB_12.out).1).trans HB_12.out)
      clear HB_12
      have O0_13 := Lib.hid (O0_12.out.later hb13 (Nat.le_refl _))
      clear O0_12
      have HF3_13 := Lib.hid ((hb13.block _ (Array.getElem?_eq_some_iff.1 HF3_12.out).1).trans HF3_12.out)
      clear HF3_12
      have HF4_13 := Lib.hid ((hb13.block _ (Array.getElem?_eq_some_iff.1 HF4_12.out).1).trans HF4_12.out)
      clear HF4_12
      have O1_13 := Lib.hid (O1_12.out.later hb13 (Nat.le_refl _))
      clear O1_12
      have HF6_13 := Lib.hid ((hb13.block _ (Array.getElem?_eq_some_iff.1 HF6_12.out).1).trans HF6_12.out)
      clear HF6_12
      clear hb13
      clear HF6_13
      go_wp2_with fail
      refine (markAddrS_own _ L0 w4.heap.size 1 _ (Own.fresh AddrD.cells_length (Nat.le_refl _) hm0 HF3_13.out) (by omega) (by omega) (by omega)).mono ?_
      rintro e w14 ⟨rfl, -, hg14⟩
      clear HF3_13
      have hv_xF3 : Hid (∀ k, (Value.slice (some ⟨w4.heap.size, 0, none⟩) L0.length L0.length).ownBlock = some k → w4.heap.size ≤ k ∧ k < w5.heap.size) := fun k hk => by simp [Value.ownBlock] at hk; omega
      obtain ⟨K0, hK0⟩ : ∃ K : Int, K = 1 + 4 * (L0.length : Int) := ⟨_, rfl⟩
      rw [← hK0]
      have bK0 : 0 ≤ K0 ∧ K0 ≤ 100000000 := by omega
      have dK0 : decide (K0 < 0) = false := by simp; omega
      have HK0 := Lib.hid hK0
      clear hK0
      have hz14 := hg14.size
      have hB14 : Below w.heap.size w w14 := hB13.grown hg14 (by omega) (fun k hk => by have := hv_xF3.out k hk; omega)
      clear hB13
      have HB_14 := Lib.hid ((hg14.block _ (Array.getElem?_eq_some_iff.1 HB_13.out).1 (fun hk => by have := hv_xF3.out _ hk.symm; omega)).trans HB_13.out)
      clear HB_13
      have O0_14 := Lib.hid (O0_13.out.grown hg14 (fun k h1 h2 => by have := hv_xF3.out k h1; have := hv_O0.out k h2; omega))
      clear O0_13
      have HF4_14 := Lib.hid ((hg14.block _ (Array.getElem?_eq_some_iff.1 HF4_13.out).1 (fun hk => by have := hv_xF3.out _ hk.symm; omega)).trans HF4_13.out)
      clear HF4_13
      have O1_14 := Lib.hid (O1_13.out.grown hg14 (fun k h1 h2 => by have := hv_xF3.out k h1; have := hv_O1.out k h2; omega))
      clear O1_13
      clear hg14
      go_wp2_with fail
      refine (markAddrS_own _ L1 w5.heap.size K0 _ (Own.fresh AddrD.cells_length (Nat.le_refl _) hm1 HF4_14.out) (by omega) (by omega) (by omega)).mono ?_
      rintro e w15 ⟨rfl, -, hg15⟩
      clear HF4_14
      have hv_xF4 : Hid (∀ k, (Value.slice (some ⟨w5.heap.size, 0, none⟩) L1.length L1.length).ownBlock = some k → w5.heap.size ≤ k ∧ k < w6.heap.size) := fun k hk => by simp [Value.ownBlock] at hk; omega
      obtain ⟨K1, hK1⟩ : ∃ K : Int, K = K0 + 4 * (L1.length : Int) := ⟨_, rfl⟩
      rw [← hK1]
      have bK1 : 0 ≤ K1 ∧ K1 ≤ 200000000 := by omega
      have dK1 : decide (K1 < 0) = false := by simp; omega
      have HK1 := Lib.hid hK1
      clear hK1
      have hz15 := hg15.size
      have hB15 : Below w.heap.size w w15 := hB14.grown hg15 (by omega) (fun k hk => by have := hv_xF4.out k hk; omega)
      clear hB14
      have HB_15 := Lib.hid ((hg15.block _ (Array.getElem?_eq_some_iff.1 HB_14.out).1 (fun hk => by have := hv_xF4.out _ hk.symm; omega)).trans HB_14.out)
      clear HB_14
      have O0_15 := Lib.hid (O0_14.out.grown hg15 (fun k h1 h2 => by have := hv_xF4.out k h1; have := hv_O0.out k h2; omega))
      clear O0_14
      have O1_15 := Lib.hid (O1_14.out.grown hg15 (fun k h1 h2 => by have := hv_xF4.out k h1; have := hv_O1.out k h2; omega))
      clear O1_14
      clear hg15
      go_wp2_with fail
      refine (eqRoadS_same _ _ _ _ M _ (O1_15.out.rdv RoadD.cells_length) (O0_15.out.rdv RoadD.cells_length) hMm).mono ?_
      rintro e w16 ⟨rfl, hb16⟩
      have hz16 := hb16.size
      have hB16 : Below w.heap.size w w16 := hB15.trans (hb16.mono (by omega))
      clear hB15
      have HB_16 := Lib.hid ((hb16.block _ (Array.getElem?_eq_some_iff.1 HB_15.out).1).trans HB_15.out)
      clear HB_15
      have O0_16 := Lib.hid (O0_15.out.later hb16 (Nat.le_refl _))
      clear O0_15
      have O1_16 := Lib.hid (O1_15.out.later hb16 (Nat.le_refl _))
      clear O1_15
      clear hb16
      go_wp2_with fail
      refine (markRoadS_own _ M _ 1 _ O1_16.out (by omega) (by omega) (by omega)).mono ?_
      rintro e w17 ⟨rfl, Om, hg17⟩
      clear O1_16
      obtain ⟨Km, hKm⟩ : ∃ K : Int, K = 1 + 3 * (M.length : Int) := ⟨_, rfl⟩
      rw [← hKm]
      have dKm : decide (Km < 0) = false := by rw [hKm]; simp; omega
      have HKm := Lib.hid hKm
      clear hKm
      have hz17 := hg17.size
      have hB17 : Below w.heap.size w w17 := hB16.grown hg17 (by omega) (fun k hk => by have := hv_O1.out k hk; omega)
      clear hB16
      have HB_17 := Lib.hid ((hg17.block _ (Array.getElem?_eq_some_iff.1 HB_16.out).1 (fun hk => by have := hv_O1.out _ hk.symm; omega)).trans HB_16.out)
      clear HB_16
      have O0_17 := Lib.hid (O0_16.out.grown hg17 (fun k h1 h2 => by have := hv_O1.out k h1; have := hv_O0.out k h2; omega))
      clear O0_16
      clear hg17
      have Om_17 := Lib.hid Om
      clear Om
      have hv_Om : Hid _ := hv_O1
      go_wp2_with fail
      refine (heldRoadS_any _ M.length _ 1 _ 0 _ (Om_17.out.rdv RoadD.cells_length) (by omega) (by omega) (by omega)).mono ?_
      rintro e ws ⟨rfl, rfl⟩
      rw [← HKm.out]
      have rw17_0 : w17.cell? ⟨w.heap.size, 0, none⟩ = some (.int .i64 x.fKind) := by rw [cell_of_row _ _ _ _ _ (0, 0) HB_17.out]; rfl
      have rw17_1 : w17.cell? ⟨w.heap.size, 1, none⟩ = some (.int .i64 x.fMany) := by rw [cell_of_row _ _ _ _ _ (0, 0) HB_17.out]; rfl
      go_wp2_with fail
      refine (toPolicy_any x _).mono ?_
      rintro e w18 ⟨rfl, hb18⟩
      have hz18 := hb18.size
      have hB18 : Below w.heap.size w w18 := hB17.trans (hb18.mono (by omega))
      clear hB17
      have HB_18 := Lib.hid ((hb18.block _ (Array.getElem?_eq_some_iff.1 HB_17.out).1).trans HB_17.out)
      clear HB_17
      have O0_18 := Lib.hid (O0_17.out.later hb18 (Nat.le_refl _))
      clear O0_17
      have Om_18 := Lib.hid (Om_17.out.later hb18 (Nat.le_refl _))
      clear Om_17
      clear hb18
      clear rw17_0 rw17_1
      go_wp2_with fail
      refine (toAddrS_any A0 cap0 L0 _ (hr0.later hB18 (Nat.le_refl _) (by first | omega | (simp; omega))) hn0).mono ?_
      rintro e w19 ⟨rfl, F19, hb19⟩
      have HF7_19 := Lib.hid F19
      clear F19
      have hl19 := (Array.getElem?_eq_some_iff.1 HF7_19.out).1
      have hz19 := hb19.size
      have hB19 : Below w.heap.size w w19 := hB18.trans (hb19.mono (by omega))
      clear hB18
      have HB_19 := Lib.hid ((hb19.block _ (Array.getElem?_eq_some_iff.1 HB_18.out).1).trans HB_18.out)
      clear HB_18
      have O0_19 := Lib.hid (O0_18.out.later hb19 (Nat.le_refl _))
      clear O0_18
      have Om_19 := Lib.hid (Om_18.out.later hb19 (Nat.le_refl _))
      clear Om_18
      clear hb19
      go_wp2_with fail
      refine (toAddrS_any A1 cap1 L1 _ (hr1.later hB19 (Nat.le_refl _) (by first | omega | (simp; omega))) hn1).mono ?_
      rintro e w20 ⟨rfl, F20, hb20⟩
      have HF8_20 := Lib.hid F20
      clear F20
      have hl20 := (Array.getElem?_eq_some_iff.1 HF8_20.out).1
      have hz20 := hb20.size
      have hB20 : Below w.heap.size w w20 := hB19.trans (hb20.mono (by omega))
      clear hB19
      have HB_20 := Lib.hid ((hb20.block _ (Array.getElem?_eq_some_iff.1 HB_19.out).1).trans HB_19.out)
      clear HB_19
      have O0_20 := Lib.hid (O0_19.out.later hb20 (Nat.le_refl _))
      clear O0_19
      have Om_20 := Lib.hid (Om_19.out.later hb20 (Nat.le_refl _))
      clear Om_19
      have HF7_20 := Lib.hid ((hb20.block _ (Array.getElem?_eq_some_iff.1 HF7_19.out).1).trans HF7_19.out)
      clear HF7_19
      clear hb20
      go_wp2_with fail
      refine (iWantedOf x _ _ L0 _ _ L1 _ (rd_of_fresh AddrD.cells_length 0 (Nat.zero_le _) HF7_20.out) (rd_of_fresh AddrD.cells_length 0 (Nat.zero_le _) HF8_20.out) hm0 hm1).mono ?_
      rintro e w21 ⟨v_O2, rfl, O, hb21⟩
      rw [← HM.out] at O
      obtain ⟨A_O2, c_O2, rfl, hlc_O2, hmc_O2, R⟩ := O.rd0 RoadD.cells_length
      clear R
      have hv_O2 : Hid (∀ k, (Value.slice A_O2 _ c_O2).ownBlock = some k → w20.heap.size ≤ k ∧ k < w21.heap.size) := fun k hk => O.lt hk
      have O2_21 := Lib.hid O
      clear O
      have hz21 := hb21.size
      have hB21 : Below w.heap.size w w21 := hB20.trans (hb21.mono (by omega))
      clear hB20
      have HB_21 := Lib.hid ((hb21.block _ (Array.getElem?_eq_some_iff.1 HB_20.out).1).trans HB_20.out)
      clear HB_20
      have O0_21 := Lib.hid (O0_20.out.later hb21 (Nat.le_refl _))
      clear O0_20
      have Om_21 := Lib.hid (Om_20.out.later hb21 (Nat.le_refl _))
      clear Om_20
      have HF7_21 := Lib.hid ((hb21.block _ (Array.getElem?_eq_some_iff.1 HF7_20.out).1).trans HF7_20.out)
      clear HF7_20
      have HF8_21 := Lib.hid ((hb21.block _ (Array.getElem?_eq_some_iff.1 HF8_20.out).1).trans HF8_20.out)
      clear HF8_20
      clear hb21
      clear HF7_21
      clear HF8_21
      go_wp2_with fail
      refine (eqRoadS_same _ _ _ _ M _ (O2_21.out.rdv RoadD.cells_length) (O0_21.out.rdv RoadD.cells_length) hMm).mono ?_
      rintro e w22 ⟨rfl, hb22⟩
      have hz22 := hb22.size
      have hB22 : Below w.heap.size w w22 := hB21.trans (hb22.mono (by omega))
      clear hB21
      have HB_22 := Lib.hid ((hb22.block _ (Array.getElem?_eq_some_iff.1 HB_21.out).1).trans HB_21.out)
      clear HB_21
      have O0_22 := Lib.hid (O0_21.out.later hb22 (Nat.le_refl _))
      clear O0_21
      have Om_22 := Lib.hid (Om_21.out.later hb22 (Nat.le_refl _))
      clear Om_21
      have O2_22 := Lib.hid (O2_21.out.later hb22 (Nat.le_refl _))
      clear O2_21
      clear hb22
      go_wp2_with fail
      refine (heldRoadS_any _ M.length _ 1 _ 0 _ (Om_22.out.rdv RoadD.cells_length) (by omega) (by omega) (by omega)).mono ?_
      rintro e ws ⟨rfl, rfl⟩
      rw [← HKm.out]
      go_wp2
      go_ret
      exact ⟨rfl, hB22⟩
    · have hv1 : Hid (szI (1048576 - L0.length) L1.length = -1) := if_neg h1
      go_enter Try.func6, Try.ntmps6
      go_wp2_with fail
      refine (szAddrS_any _ _ _ _ _ (by omega) (by omega) hm0).mono ?_
      rintro e ws ⟨rfl, rfl⟩
      rw [hv0.out]
      go_wp2_with fail
      refine (szAddrS_any _ _ _ _ _ (by omega) (by omega) hm1).mono ?_
      rintro e ws ⟨rfl, rfl⟩
      rw [hv1.out]
      go_wp2
      go_ret
      exact ⟨rfl, hW⟩
  · have hv0 : Hid (szI (1048576) L0.length = -1) := if_neg h0
    go_enter Try.func6, Try.ntmps6
    go_wp2_with fail
    refine (szAddrS_any _ _ _ _ _ (by omega) (by omega) hm0).mono ?_
    rintro e ws ⟨rfl, rfl⟩
    rw [hv0.out]
    go_wp2
    go_ret
    exact ⟨rfl, hW⟩
end Go.Proofs.Ytfhfanbigjpfaaa
