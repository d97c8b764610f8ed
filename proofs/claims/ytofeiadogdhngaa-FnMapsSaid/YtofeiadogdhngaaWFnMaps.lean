/- The walk of FnMaps: for every input. Written by program (fnmaps.py). -/
import Derived.Test.YtofeiadogdhngaaLaw0
import Derived.Test.YtofeiadogdhngaaDrawMap
import Derived.Test.YtofeiadogdhngaaSeqAt
import Derived.Deep.RegionHeld3
import Derived.Deep.DrawnRows
import Derived.StillTailTactics
namespace Go.Proofs.Ytofeiadogdhngaa
set_option linter.unusedSimpArgs false
set_option linter.unusedVariables false
open Go.RowKit
set_option maxHeartbeats 1000000 in
theorem sameMaps_same (A B : Option Addr) (ca cb : Nat) (L : List MapD) (w : World) (hr : Rd MapD.cells 3 w 0 w.heap.size A L) (hr2 : Rd MapD.cells 3 w 0 w.heap.size B L) (hn : L.length ≤ maxLen) :
    Calls Try.prog 18 #[.slice A L.length ca, .slice B L.length cb] w fun e w' => e = .returned (.bool true) ∧ Below w.heap.size w w' := by
  unfold maxLen at hn
  go_enter Try.func18, Try.ntmps18
  go_wp2_with fail
  go_loopw [5] (fun i wr => ∃ k : Nat, k ≤ L.length ∧ i = .int .i64 k ∧ ∃ n, wr = w.drewN n) (fun i _ => L.length - (intOf i).toNat)
  case atStart => exact ⟨0, Nat.zero_le _, rfl, 0, rfl⟩
  case round =>
    obtain ⟨k, hk, rfl, n, rfl⟩ := hrel
    by_cases hlt : k < L.length
    · obtain ⟨g, o, rfl, _, hg, hcell⟩ := hr.at_ (by omega)
      obtain ⟨g2, o2, rfl, _, hg2, hcell2⟩ := hr2.at_ (by omega)
      have a0 := hcell k hlt 0 (by decide)
      have a1 := hcell k hlt 1 (by decide)
      have a2 := hcell k hlt 2 (by decide)
      have b0 := hcell2 k hlt 0 (by decide)
      have b1 := hcell2 k hlt 1 (by decide)
      have b2 := hcell2 k hlt 2 (by decide)
      simp [MapD.cells] at a0 a1 a2 b0 b1 b2
      clear hcell hcell2
      have hki : (k : Int) < (L.length : Int) := by omega
      have hk0 : (0 : Int) ≤ (k : Int) := by omega
      go_wp2_with fail
      go_quiet (fail)
      go_wp2
      go_roundw
      case rel => exact ⟨k + 1, by omega, by go_num, _, by first | rfl | exact World.drewN_drewN _ _ _⟩
      case measure => simp [intOf]; omega
    · go_wp2
      go_ret
      exact ⟨rfl, below_drewN (Below.refl _ _) n⟩
set_option maxRecDepth 100000 in
set_option maxHeartbeats 4000000 in
theorem walk_FnMaps (A0 : Option Addr) (cap0 : Nat) (L0 : List Int) (w : World) (hle : L0.length ≤ cap0) (hcap : cap0 ≤ maxLen) (_ : ∀ x ∈ L0, (Lit.int .u8 x).wf = true) (hr : Rd bcells 1 w 0 w.heap.size A0 L0) :
    Calls Try.prog 5 #[.slice A0 L0.length cap0] w fun e w' => e = .returned (.bool true) ∧ Below w.heap.size w w' := by
  have hm0 : L0.length ≤ maxLen := Nat.le_trans hle hcap
  by_cases hbig : (1048576 : Int) < L0.length
  · have d0 : decide ((1048576 : Int) < (L0.length : Int)) = true := decide_eq_true hbig
    go_enter Try.func5, Try.ntmps5
    go_wp2_with fail
    refine (big_any _ _ _ _ hm0).mono ?_
    rintro e w1 ⟨rfl, rfl⟩
    go_wp2
    go_ret
    exact ⟨rfl, Below.refl _ _⟩
  have d0 : decide ((1048576 : Int) < (L0.length : Int)) = false := decide_eq_false hbig
  go_enter Try.func5, Try.ntmps5
  go_wp2_with fail
  refine (big_any _ _ _ _ hm0).mono ?_
  rintro e w1 ⟨rfl, rfl⟩
  go_wp2_with fail
  refine (DrawPutMap_some A0 cap0 L0 _ hr (by omega)).mono ?_
  rintro e w1 ⟨v, L, a, rfl, O1, hL, hb1⟩
  obtain ⟨A, cap, rfl, hle1, hcm1, -⟩ := O1.rd0 MapD.cells_length
  have hz1 := hb1.size
  go_wp2_with fail
  go_wp2_with fail
  refine (iPutMap A cap L a _ (by exact (O1.rdv MapD.cells_length).later (by (repeat' (first | (with_reducible exact Below.refl _ _) | (with_reducible assumption) | (with_reducible refine Below.alloc ?_ ?_ _) | (with_reducible refine Below.drew ?_) | (with_reducible refine below_drewN ?_ _) | (with_reducible refine Below.setCell ?_ ?_ _) | (with_reducible refine bvia ?_ (by with_reducible assumption) ?_) | go_size)) : Below w1.heap.size w1 _) (Nat.le_refl _) (by go_size)) hle1 hcm1 (by omega)).mono ?_
  rintro e w2 ⟨v2, rfl, O2, hb2⟩
  obtain ⟨hc, hf⟩ := bcell hb2
  have hc2_0 := fun o => hc (w1.heap.size) o (by go_size)
  have hf2_0 := fun o => hf (w1.heap.size) o (by go_size)
  have hz2_0 : w1.heap.size < w2.heap.size := Nat.lt_of_lt_of_le (by go_size) hb2.size
  clear hc hf
  have hz2 := hb2.size
  try simp at hz2
  have O1' := O1.later (by (repeat' (first | (with_reducible exact Below.refl _ _) | (with_reducible assumption) | (with_reducible refine Below.alloc ?_ ?_ _) | (with_reducible refine Below.drew ?_) | (with_reducible refine below_drewN ?_ _) | (with_reducible refine Below.setCell ?_ ?_ _) | (with_reducible refine bvia ?_ (by with_reducible assumption) ?_) | go_size)) : Below w1.heap.size w1 w2) (Nat.le_refl _)
  have hB2 : Below w.heap.size w w2 := hb1.trans ((by (repeat' (first | (with_reducible exact Below.refl _ _) | (with_reducible assumption) | (with_reducible refine Below.alloc ?_ ?_ _) | (with_reducible refine Below.drew ?_) | (with_reducible refine below_drewN ?_ _) | (with_reducible refine Below.setCell ?_ ?_ _) | (with_reducible refine bvia ?_ (by with_reducible assumption) ?_) | go_size)) : Below w1.heap.size w1 w2).mono hz1)
  have HX_2 : Hid (w2.heap[w1.heap.size]? = some (.cells a.arr 30 (0, 0))) := (hb2.block w1.heap.size (by simp)).trans (heap_alloc_new w1 _)
  simp only [World.size_alloc] at O2
  clear hc2_0 hf2_0 hb2
  cases hok : putOk L a with
  | false =>
    have hR : putR L a = L := by unfold putR; rw [hok]; rfl
    rw [hR] at O2
    obtain ⟨A2, cap2, rfl, -, -, -⟩ := O2.rd0 MapD.cells_length
    have HO1 := Lib.hid O1'
    have HO2 := Lib.hid O2
    clear hR O1 O1' O2
    go_wp2_with fail
    refine (sameMaps_same A2 A _ _ L _ (HO2.out.rdv MapD.cells_length) (HO1.out.rdv MapD.cells_length) (by unfold maxLen; omega)).mono ?_
    rintro e w3 ⟨rfl, hb3⟩
    have hB3 := hB2.trans (hb3.mono (by omega))
    clear hb3
    go_wp2
    go_ret
    exact ⟨rfl, hB3⟩
  | true =>
    have hR : putR L a = putL L a := by unfold putR; rw [hok]; rfl
    rw [hR] at O2
    obtain ⟨hs1, hokR, hs2, hs3, hRl, hMl, hab, hCl⟩ := map_law L a hok
    have hoM : mapsOk (putL L a) = true := hok
    clear hR
    generalize putL L a = M at O2 hs1 hokR hs2 hs3 hRl hMl hoM hCl
    obtain ⟨R, hR⟩ : ∃ R, R = runs M := ⟨_, rfl⟩
    rw [← hR] at hokR hs2 hRl
    obtain ⟨C, hC⟩ : ∃ C, C = cutM M (a.fSub + a.fLen) := ⟨_, rfl⟩
    rw [← hC] at hs3 hCl
    obtain ⟨q, hq⟩ : ∃ q, (seqAt C a.fSub).1 = q := ⟨_, rfl⟩
    have hs4 : seqAt C a.fSub = (q, false) := by rw [← hq, ← hs3]
    unfold bndM at hab
    have HS1 := Lib.hid hs1
    have HS2 := Lib.hid hs2
    have HS4 := Lib.hid hs4
    have HOM := Lib.hid hoM
    have HOR := Lib.hid hokR
    have HR := Lib.hid hR
    have HC := Lib.hid hC
    obtain ⟨A2, cap2, rfl, hle2, hcm2, -⟩ := O2.rd0 MapD.cells_length
    have HO_2 := Lib.hid O2
    have HL_2 := Lib.hid O1'
    have dl1 : decide ((R.length : Int) ≤ (M.length : Int)) = true := decide_eq_true (by omega)
    have dl2 : decide (R.length ≤ M.length) = true := decide_eq_true (by omega)
    have dl3 : ((M.length : Int) == (L.length : Int) + 1) = true := by simp; omega
    have hMl1 : M.length ≤ L.length + 1 := by omega
    clear hMl hs1 hs2 hs3 hs4 hq hoM hokR hR hC O1 O1' O2
    clear HL_2
    have x0 : w2.cell? ⟨w1.heap.size, 0, none⟩ = some (.int .i64 a.fSub) := by rw [cell_of_row _ _ _ _ _ (0, 0) HX_2.out]; rfl
    have x2 : w2.cell? ⟨w1.heap.size, 2, none⟩ = some (.int .i64 a.fLen) := by rw [cell_of_row _ _ _ _ _ (0, 0) HX_2.out]; rfl
    go_wp2_with fail
    (with_reducible refine (iSeqAt A2 cap2 M (a.fSub + a.fLen - 1) _ (by exact HO_2.out.rdv MapD.cells_length) hle2 hcm2).mono ?_)
    rintro e w3 ⟨rfl, hb3⟩
    simp only [HS1.out]
    clear x0 x2
    have hz3 := hb3.size
    have HX_3 : Hid (w3.heap[w1.heap.size]? = _) := (hb3.block _ (Array.getElem?_eq_some_iff.1 HX_2.out).1).trans HX_2.out
    have HO_3 := Lib.hid (HO_2.out.later hb3 (Nat.le_refl _))
    have hB3 := hB2.trans (hb3.mono (by omega))
    clear hb3 hB2 HX_2 HO_2
    go_wp2_with fail
    (with_reducible refine (iRuns A2 cap2 M _ (by exact HO_3.out.rdv MapD.cells_length) hle2 hcm2).mono ?_)
    rintro e w4 ⟨v4, rfl, O4, hb4⟩
    rw [← HR.out] at O4
    obtain ⟨A4, cap4, rfl, hle4, hcm4, -⟩ := O4.rd0 MapD.cells_length
    have HR_4 := Lib.hid O4
    clear O4
    have hz4 := hb4.size
    have HX_4 : Hid (w4.heap[w1.heap.size]? = _) := (hb4.block _ (Array.getElem?_eq_some_iff.1 HX_3.out).1).trans HX_3.out
    have HO_4 := Lib.hid (HO_3.out.later hb4 (Nat.le_refl _))
    have hB4 := hB3.trans (hb4.mono (by omega))
    clear hb4 hB3 HX_3 HO_3
    have x0 : w4.cell? ⟨w1.heap.size, 0, none⟩ = some (.int .i64 a.fSub) := by rw [cell_of_row _ _ _ _ _ (0, 0) HX_4.out]; rfl
    go_wp2_with fail
    (with_reducible refine (iSeqAt A4 cap4 R a.fSub _ (by exact HR_4.out.rdv MapD.cells_length) hle4 hcm4).mono ?_)
    rintro e w5 ⟨rfl, hb5⟩
    simp only [HS2.out]
    clear x0
    have hz5 := hb5.size
    have HX_5 : Hid (w5.heap[w1.heap.size]? = _) := (hb5.block _ (Array.getElem?_eq_some_iff.1 HX_4.out).1).trans HX_4.out
    have HO_5 := Lib.hid (HO_4.out.later hb5 (Nat.le_refl _))
    have HR_5 := Lib.hid (HR_4.out.later hb5 (Nat.le_refl _))
    have hB5 := hB4.trans (hb5.mono (by omega))
    clear hb5 hB4 HX_4 HO_4 HR_4
    have x0 : w5.cell? ⟨w1.heap.size, 0, none⟩ = some (.int .i64 a.fSub) := by rw [cell_of_row _ _ _ _ _ (0, 0) HX_5.out]; rfl
    have x2 : w5.cell? ⟨w1.heap.size, 2, none⟩ = some (.int .i64 a.fLen) := by rw [cell_of_row _ _ _ _ _ (0, 0) HX_5.out]; rfl
    go_wp2_with fail
    (with_reducible refine (iCutMaps A2 cap2 M (a.fSub + a.fLen) _ HOM.out (by exact HO_5.out.rdv MapD.cells_length) hle2 hcm2 (by omega)).mono ?_)
    rintro e w6 ⟨v6, rfl, O6, hb6⟩
    rw [← HC.out] at O6
    obtain ⟨A6, cap6, rfl, hle6, hcm6, -⟩ := O6.rd0 MapD.cells_length
    have HC_6 := Lib.hid O6
    clear O6
    clear x0 x2
    have hz6 := hb6.size
    have HX_6 : Hid (w6.heap[w1.heap.size]? = _) := (hb6.block _ (Array.getElem?_eq_some_iff.1 HX_5.out).1).trans HX_5.out
    have HO_6 := Lib.hid (HO_5.out.later hb6 (Nat.le_refl _))
    have HR_6 := Lib.hid (HR_5.out.later hb6 (Nat.le_refl _))
    have hB6 := hB5.trans (hb6.mono (by omega))
    clear hb6 hB5 HX_5 HO_5 HR_5
    have x0 : w6.cell? ⟨w1.heap.size, 0, none⟩ = some (.int .i64 a.fSub) := by rw [cell_of_row _ _ _ _ _ (0, 0) HX_6.out]; rfl
    go_wp2_with fail
    (with_reducible refine (iSeqAt A6 cap6 C a.fSub _ (by exact HC_6.out.rdv MapD.cells_length) hle6 hcm6).mono ?_)
    rintro e w7 ⟨rfl, hb7⟩
    simp only [HS4.out]
    clear x0
    have hz7 := hb7.size
    have HX_7 : Hid (w7.heap[w1.heap.size]? = _) := (hb7.block _ (Array.getElem?_eq_some_iff.1 HX_6.out).1).trans HX_6.out
    have HO_7 := Lib.hid (HO_6.out.later hb7 (Nat.le_refl _))
    have HR_7 := Lib.hid (HR_6.out.later hb7 (Nat.le_refl _))
    have hB7 := hB6.trans (hb7.mono (by omega))
    clear hb7 hB6 HX_6 HO_6 HR_6
    go_wp2_with fail
    (with_reducible refine (sMapsOk A2 cap2 M _ (by exact HO_7.out.rdv MapD.cells_length) hle2 hcm2).mono ?_)
    rintro e w8 ⟨rfl, hb8⟩
    rw [HOM.out]
    have hz8 := hb8.size
    have HX_8 : Hid (w8.heap[w1.heap.size]? = _) := (hb8.block _ (Array.getElem?_eq_some_iff.1 HX_7.out).1).trans HX_7.out
    have HR_8 := Lib.hid (HR_7.out.later hb8 (Nat.le_refl _))
    have hB8 := hB7.trans (hb8.mono (by omega))
    clear hb8 hB7 HX_7 HR_7
    go_wp2_with fail
    (with_reducible refine (iMapsOk A4 cap4 R _ (by exact HR_8.out.rdv MapD.cells_length) hle4 hcm4).mono ?_)
    rintro e w9 ⟨rfl, hb9⟩
    rw [HOR.out]
    have hz9 := hb9.size
    have HX_9 : Hid (w9.heap[w1.heap.size]? = _) := (hb9.block _ (Array.getElem?_eq_some_iff.1 HX_8.out).1).trans HX_8.out
    have hB9 := hB8.trans (hb9.mono (by omega))
    clear hb9 hB8 HX_8 
    have x0 : w9.cell? ⟨w1.heap.size, 0, none⟩ = some (.int .i64 a.fSub) := by rw [cell_of_row _ _ _ _ _ (0, 0) HX_9.out]; rfl
    have x1 : w9.cell? ⟨w1.heap.size, 1, none⟩ = some (.int .i64 a.fSeq) := by rw [cell_of_row _ _ _ _ _ (0, 0) HX_9.out]; rfl
    have x2 : w9.cell? ⟨w1.heap.size, 2, none⟩ = some (.int .i64 a.fLen) := by rw [cell_of_row _ _ _ _ _ (0, 0) HX_9.out]; rfl
    go_wp2
    go_ret
    exact ⟨rfl, hB9⟩
end Go.Proofs.Ytofeiadogdhngaa
