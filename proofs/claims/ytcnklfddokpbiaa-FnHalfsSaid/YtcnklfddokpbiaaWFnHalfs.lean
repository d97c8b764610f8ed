/- The walk of FnHalfs: for every input. Written by program (fnhalfs.py). -/
import Derived.Test.YtcnklfddokpbiaaLaw0
import Derived.Test.YtcnklfddokpbiaaDrawHalf
import Derived.Test.YtcnklfddokpbiaaHalfLaw
import Derived.Deep.RegionHeld3
import Derived.Deep.DrawnRows
import Derived.StillTailTactics
namespace Go.Proofs.Ytcnklfddokpbiaa
set_option linter.unusedSimpArgs false
set_option linter.unusedVariables false
open Go.RowKit
set_option maxHeartbeats 1000000 in
theorem sameHalfs_same (A B : Option Addr) (ca cb : Nat) (L : List HalfD) (w : World) (hr : Rd HalfD.cells 8 w 0 w.heap.size A L) (hr2 : Rd HalfD.cells 8 w 0 w.heap.size B L) (hn : L.length ≤ maxLen) :
    Calls Try.prog 26 #[.slice A L.length ca, .slice B L.length cb] w fun e w' => e = .returned (.bool true) ∧ Below w.heap.size w w' := by
  unfold maxLen at hn
  go_enter Try.func26, Try.ntmps26
  go_wp2_with fail
  go_loopw [5] (fun i wr => ∃ k : Nat, k ≤ L.length ∧ i = .int .i64 k ∧ ∃ n, wr = w.drewN n) (fun i _ => L.length - (intOf i).toNat)
  case atStart => exact ⟨0, Nat.zero_le _, rfl, 0, rfl⟩
  case round =>
    obtain ⟨k, hk, rfl, n, rfl⟩ := hrel
    by_cases hlt : k < L.length
    · obtain ⟨g, o, rfl, _, hg, hcell⟩ := hr.at_ (by omega)
      obtain ⟨g2, o2, rfl, _, hg2, hcell2⟩ := hr2.at_ (by omega)
      have a0 := hcell k hlt 0 (by decide)
      have a1 := hcell k hlt 1 (by decide)
      have a2 := hcell k hlt 2 (by decide)
      have a3 := hcell k hlt 3 (by decide)
      have a4 := hcell k hlt 4 (by decide)
      have a5 := hcell k hlt 5 (by decide)
      have a6 := hcell k hlt 6 (by decide)
      have a7 := hcell k hlt 7 (by decide)
      have b0 := hcell2 k hlt 0 (by decide)
      have b1 := hcell2 k hlt 1 (by decide)
      have b2 := hcell2 k hlt 2 (by decide)
      have b3 := hcell2 k hlt 3 (by decide)
      have b4 := hcell2 k hlt 4 (by decide)
      have b5 := hcell2 k hlt 5 (by decide)
      have b6 := hcell2 k hlt 6 (by decide)
      have b7 := hcell2 k hlt 7 (by decide)
      simp [HalfD.cells] at a0 a1 a2 a3 a4 a5 a6 a7 b0 b1 b2 b3 b4 b5 b6 b7
      clear hcell hcell2
      have hki : (k : Int) < (L.length : Int) := by omega
      have hk0 : (0 : Int) ≤ (k : Int) := by omega
      go_wp2_with fail
      go_quiet (fail)
      go_wp2
      go_roundw
      case rel => exact ⟨k + 1, by omega, by go_num, _, by first | rfl | exact World.drewN_drewN _ _ _⟩
      case measure => simp [intOf]; omega
    · go_wp2
      go_ret
      exact ⟨rfl, below_drewN (Below.refl _ _) n⟩
set_option maxRecDepth 100000 in
set_option maxHeartbeats 4000000 in
theorem walk_FnHalfs (A0 : Option Addr) (cap0 : Nat) (L0 : List Int) (w : World) (hle : L0.length ≤ cap0) (hcap : cap0 ≤ maxLen) (_ : ∀ x ∈ L0, (Lit.int .u8 x).wf = true) (hr : Rd bcells 1 w 0 w.heap.size A0 L0) :
    Calls Try.prog 7 #[.slice A0 L0.length cap0] w fun e w' => e = .returned (.bool true) ∧ Below w.heap.size w w' := by
  have hm0 : L0.length ≤ maxLen := Nat.le_trans hle hcap
  by_cases hbig : (1048576 : Int) < L0.length
  · have d0 : decide ((1048576 : Int) < (L0.length : Int)) = true := decide_eq_true hbig
    go_enter Try.func7, Try.ntmps7
    go_wp2_with fail
    refine (big_any _ _ _ _ hm0).mono ?_
    rintro e w1 ⟨rfl, rfl⟩
    go_wp2
    go_ret
    exact ⟨rfl, Below.refl _ _⟩
  have d0 : decide ((1048576 : Int) < (L0.length : Int)) = false := decide_eq_false hbig
  go_enter Try.func7, Try.ntmps7
  go_wp2_with fail
  refine (big_any _ _ _ _ hm0).mono ?_
  rintro e w1 ⟨rfl, rfl⟩
  go_wp2_with fail
  refine (DrawPutHalf_some A0 cap0 L0 _ hr (by omega)).mono ?_
  rintro e w1 ⟨v, L, a, rfl, O1, hL, hb1⟩
  obtain ⟨A, cap, rfl, hle1, hcm1, -⟩ := O1.rd0 HalfD.cells_length
  have hz1 := hb1.size
  go_wp2_with fail
  go_wp2_with fail
  refine (iPutHalf A cap L a _ (by exact (O1.rdv HalfD.cells_length).later (by (repeat' (first | (with_reducible exact Below.refl _ _) | (with_reducible assumption) | (with_reducible refine Below.alloc ?_ ?_ _) | (with_reducible refine Below.drew ?_) | (with_reducible refine below_drewN ?_ _) | (with_reducible refine Below.setCell ?_ ?_ _) | (with_reducible refine bvia ?_ (by with_reducible assumption) ?_) | go_size)) : Below w1.heap.size w1 _) (Nat.le_refl _) (by go_size)) hle1 hcm1 (by omega)).mono ?_
  rintro e w2 ⟨v2, rfl, O2, hb2⟩
  obtain ⟨hc, hf⟩ := bcell hb2
  have hc2_0 := fun o => hc (w1.heap.size) o (by go_size)
  have hf2_0 := fun o => hf (w1.heap.size) o (by go_size)
  have hz2_0 : w1.heap.size < w2.heap.size := Nat.lt_of_lt_of_le (by go_size) hb2.size
  clear hc hf
  have hz2 := hb2.size
  try simp at hz2
  have O1' := O1.later (by (repeat' (first | (with_reducible exact Below.refl _ _) | (with_reducible assumption) | (with_reducible refine Below.alloc ?_ ?_ _) | (with_reducible refine Below.drew ?_) | (with_reducible refine below_drewN ?_ _) | (with_reducible refine Below.setCell ?_ ?_ _) | (with_reducible refine bvia ?_ (by with_reducible assumption) ?_) | go_size)) : Below w1.heap.size w1 w2) (Nat.le_refl _)
  have hB2 : Below w.heap.size w w2 := hb1.trans ((by (repeat' (first | (with_reducible exact Below.refl _ _) | (with_reducible assumption) | (with_reducible refine Below.alloc ?_ ?_ _) | (with_reducible refine Below.drew ?_) | (with_reducible refine below_drewN ?_ _) | (with_reducible refine Below.setCell ?_ ?_ _) | (with_reducible refine bvia ?_ (by with_reducible assumption) ?_) | go_size)) : Below w1.heap.size w1 w2).mono hz1)
  have HX_2 : Hid (w2.heap[w1.heap.size]? = some (.cells a.arr 42 (0, 0))) := (hb2.block w1.heap.size (by simp)).trans (heap_alloc_new w1 _)
  simp only [World.size_alloc] at O2
  clear hc2_0 hf2_0 hb2
  cases hok : putHOk L a with
  | false =>
    have hR : putHR L a = L := by unfold putHR; rw [hok]; rfl
    rw [hR] at O2
    obtain ⟨A2, cap2, rfl, -, -, -⟩ := O2.rd0 HalfD.cells_length
    have HO1 := Lib.hid O1'
    have HO2 := Lib.hid O2
    clear hR O1 O1' O2
    go_wp2_with fail
    refine (sameHalfs_same A2 A _ _ L _ (HO2.out.rdv HalfD.cells_length) (HO1.out.rdv HalfD.cells_length) (by unfold maxLen; omega)).mono ?_
    rintro e w3 ⟨rfl, hb3⟩
    have hB3 := hB2.trans (hb3.mono (by omega))
    clear hb3
    go_wp2
    go_ret
    exact ⟨rfl, hB3⟩
  | true =>
    have hR : putHR L a = putHL L a := by unfold putHR; rw [hok]; rfl
    rw [hR] at O2
    obtain ⟨p, hp, hpa, hat, hdel, hdl, hyo, hmo, hu0, hu1⟩ := half_law L a hok
    have hoM : halfsOk (putHL L a) = true := hok
    have hlen : (putHL L a).length ≤ L.length + 1 := by rw [← hR]; exact putHR_le L a
    clear hR
    generalize putHL L a = M at O2 hp hpa hat hdel hdl hyo hmo hoM hlen
    have HAT : Hid (halfAt M a.fRoadOwn a.fRoadFar a.fRoadPort = p) := hat
    have HOM := Lib.hid hoM
    obtain ⟨D, hD⟩ : ∃ D, D = dropL M (rdOf a) := ⟨_, rfl⟩
    rw [← hD] at hdel hdl
    obtain ⟨Y, hY⟩ : ∃ Y, Y = young M a.fUntil := ⟨_, rfl⟩
    rw [← hY] at hyo
    obtain ⟨Z, hZ⟩ : ∃ Z, Z = young M (a.fUntil - 1) := ⟨_, rfl⟩
    rw [← hZ] at hmo
    have hYl : Y.length ≤ M.length := by rw [hY]; exact young_le _ _
    have hZl : Z.length ≤ M.length := by rw [hZ]; exact young_le _ _
    have HD := Lib.hid hD
    have HY := Lib.hid hY
    have HZ := Lib.hid hZ
    have HDEL : Hid (halfAt D a.fRoadOwn a.fRoadFar a.fRoadPort = -1) := hdel
    have HYO : Hid (halfAt Y a.fRoadOwn a.fRoadFar a.fRoadPort = -1) := hyo
    obtain ⟨q, hq⟩ : ∃ q : Nat, halfAt Z a.fRoadOwn a.fRoadFar a.fRoadPort = q := ⟨(halfAt Z a.fRoadOwn a.fRoadFar a.fRoadPort).toNat, by unfold atOf at hmo; omega⟩
    have HMO := Lib.hid hq
    obtain ⟨A2, cap2, rfl, hle2, hcm2, -⟩ := O2.rd0 HalfD.cells_length
    have hmM : M.length ≤ maxLen := Nat.le_trans hle2 hcm2
    have HO_2 := Lib.hid O2
    clear hat hdel hoM hyo hmo hq hD hY hZ O1 O1' O2
    have x0 : w2.cell? ⟨w1.heap.size, 0, none⟩ = some (.int .i64 a.fRoadOwn) := by rw [cell_of_row _ _ _ _ _ (0, 0) HX_2.out]; rfl
    have x1 : w2.cell? ⟨w1.heap.size, 1, none⟩ = some (.int .i64 a.fRoadFar) := by rw [cell_of_row _ _ _ _ _ (0, 0) HX_2.out]; rfl
    have x2 : w2.cell? ⟨w1.heap.size, 2, none⟩ = some (.int .i64 a.fRoadPort) := by rw [cell_of_row _ _ _ _ _ (0, 0) HX_2.out]; rfl
    go_wp2_with fail
    refine (iHalfAt A2 cap2 M _ _ _ _ (by exact HO_2.out.rdv HalfD.cells_length) hmM).mono ?_
    rintro e w3 ⟨rfl, hb3⟩
    rw [HAT.out]
    clear x0 x1 x2
    have hz3 := hb3.size
    have HX_3 : Hid (w3.heap[w1.heap.size]? = _) := (hb3.block _ (Array.getElem?_eq_some_iff.1 HX_2.out).1).trans HX_2.out
    have HO_3 := Lib.hid (HO_2.out.later hb3 (Nat.le_refl _))
    have hB3 := hB2.trans (hb3.mono (by omega))
    clear hb3 hB2 HX_2 HO_2
    have x0 : w3.cell? ⟨w1.heap.size, 0, none⟩ = some (.int .i64 a.fRoadOwn) := by rw [cell_of_row _ _ _ _ _ (0, 0) HX_3.out]; rfl
    have x1 : w3.cell? ⟨w1.heap.size, 1, none⟩ = some (.int .i64 a.fRoadFar) := by rw [cell_of_row _ _ _ _ _ (0, 0) HX_3.out]; rfl
    have x2 : w3.cell? ⟨w1.heap.size, 2, none⟩ = some (.int .i64 a.fRoadPort) := by rw [cell_of_row _ _ _ _ _ (0, 0) HX_3.out]; rfl
    have x3 : w3.cell? ⟨w1.heap.size, 3, none⟩ = some (.int .i64 a.fTheirs) := by rw [cell_of_row _ _ _ _ _ (0, 0) HX_3.out]; rfl
    have x4 : w3.cell? ⟨w1.heap.size, 4, none⟩ = some (.int .i64 a.fMine) := by rw [cell_of_row _ _ _ _ _ (0, 0) HX_3.out]; rfl
    have x5 : w3.cell? ⟨w1.heap.size, 5, none⟩ = some (.int .i64 a.fGive) := by rw [cell_of_row _ _ _ _ _ (0, 0) HX_3.out]; rfl
    have x6 : w3.cell? ⟨w1.heap.size, 6, none⟩ = some (.int .i64 a.fTake) := by rw [cell_of_row _ _ _ _ _ (0, 0) HX_3.out]; rfl
    have x7 : w3.cell? ⟨w1.heap.size, 7, none⟩ = some (.int .i64 a.fUntil) := by rw [cell_of_row _ _ _ _ _ (0, 0) HX_3.out]; rfl
    obtain ⟨g, ob, hgo, hglo, hghi, hcell⟩ := (HO_3.out.rdv HalfD.cells_length).at_ (by omega)
    subst hgo
    rw [List.getElem?_eq_getElem hp] at hpa
    have hpa' := Option.some.inj hpa
    have e0 : w3.cell? ⟨g, ob + p * 8, none⟩ = some (.int .i64 a.fRoadOwn) := by have := hcell p hp 0 (by decide); rw [hpa'] at this; simpa [HalfD.cells] using this
    have e1 : w3.cell? ⟨g, ob + p * 8 + 1, none⟩ = some (.int .i64 a.fRoadFar) := by have := hcell p hp 1 (by decide); rw [hpa'] at this; simpa [HalfD.cells] using this
    have e2 : w3.cell? ⟨g, ob + p * 8 + 2, none⟩ = some (.int .i64 a.fRoadPort) := by have := hcell p hp 2 (by decide); rw [hpa'] at this; simpa [HalfD.cells] using this
    have e3 : w3.cell? ⟨g, ob + p * 8 + 3, none⟩ = some (.int .i64 a.fTheirs) := by have := hcell p hp 3 (by decide); rw [hpa'] at this; simpa [HalfD.cells] using this
    have e4 : w3.cell? ⟨g, ob + p * 8 + 4, none⟩ = some (.int .i64 a.fMine) := by have := hcell p hp 4 (by decide); rw [hpa'] at this; simpa [HalfD.cells] using this
    have e5 : w3.cell? ⟨g, ob + p * 8 + 5, none⟩ = some (.int .i64 a.fGive) := by have := hcell p hp 5 (by decide); rw [hpa'] at this; simpa [HalfD.cells] using this
    have e6 : w3.cell? ⟨g, ob + p * 8 + 6, none⟩ = some (.int .i64 a.fTake) := by have := hcell p hp 6 (by decide); rw [hpa'] at this; simpa [HalfD.cells] using this
    have e7 : w3.cell? ⟨g, ob + p * 8 + 7, none⟩ = some (.int .i64 a.fUntil) := by have := hcell p hp 7 (by decide); rw [hpa'] at this; simpa [HalfD.cells] using this
    clear hcell hpa hpa'
    have hpi : (p : Int) < (M.length : Int) := by omega
    have hp0 : (0 : Int) ≤ (p : Int) := by omega
    have dg1 : decide ((M.length : Int) ≤ (p : Int)) = false := decide_eq_false (by omega)
    have dg2 : decide (M.length ≤ p) = false := decide_eq_false (by omega)
    go_wp2_with fail
    go_region_held3 (fun w' => w'.cell? ⟨w1.heap.size, 0, none⟩ = some (.int .i64 a.fRoadOwn) ∧ w'.cell? ⟨w1.heap.size, 1, none⟩ = some (.int .i64 a.fRoadFar) ∧ w'.cell? ⟨w1.heap.size, 2, none⟩ = some (.int .i64 a.fRoadPort) ∧ w'.cell? ⟨w1.heap.size, 3, none⟩ = some (.int .i64 a.fTheirs) ∧ w'.cell? ⟨w1.heap.size, 4, none⟩ = some (.int .i64 a.fMine) ∧ w'.cell? ⟨w1.heap.size, 5, none⟩ = some (.int .i64 a.fGive) ∧ w'.cell? ⟨w1.heap.size, 6, none⟩ = some (.int .i64 a.fTake) ∧ w'.cell? ⟨w1.heap.size, 7, none⟩ = some (.int .i64 a.fUntil) ∧ w'.cell? ⟨g, ob + p * 8, none⟩ = some (.int .i64 a.fRoadOwn) ∧ w'.cell? ⟨g, ob + p * 8 + 1, none⟩ = some (.int .i64 a.fRoadFar) ∧ w'.cell? ⟨g, ob + p * 8 + 2, none⟩ = some (.int .i64 a.fRoadPort) ∧ w'.cell? ⟨g, ob + p * 8 + 3, none⟩ = some (.int .i64 a.fTheirs) ∧ w'.cell? ⟨g, ob + p * 8 + 4, none⟩ = some (.int .i64 a.fMine) ∧ w'.cell? ⟨g, ob + p * 8 + 5, none⟩ = some (.int .i64 a.fGive) ∧ w'.cell? ⟨g, ob + p * 8 + 6, none⟩ = some (.int .i64 a.fTake) ∧ w'.cell? ⟨g, ob + p * 8 + 7, none⟩ = some (.int .i64 a.fUntil)) (first | (refine ⟨?_, ?_, ?_, ?_, ?_, ?_, ?_, ?_, ?_, ?_, ?_, ?_, ?_, ?_, ?_, ?_⟩ <;> assumption) | go_keep)
      (first
        | (go_at_call 15; refine (sHalfsOk _ cap2 M _ (by exact (HO_3.out.rdv HalfD.cells_length).later (by (repeat' (first | (with_reducible exact Below.refl _ _) | (with_reducible assumption) | (with_reducible refine Below.alloc ?_ ?_ _) | (with_reducible refine Below.drew ?_) | (with_reducible refine below_drewN ?_ _) | (with_reducible refine Below.setCell ?_ ?_ _) | (with_reducible refine bvia ?_ (by with_reducible assumption) ?_) | go_size))) (Nat.le_refl _) (by go_size)) hle2 hcm2).mono ?_; rintro e w4 ⟨rfl, hb4⟩; rw [HOM.out]; have hq4 : Below w3.heap.size w3 w4 := (by (repeat' (first | (with_reducible exact Below.refl _ _) | (with_reducible assumption) | (with_reducible refine Below.alloc ?_ ?_ _) | (with_reducible refine Below.drew ?_) | (with_reducible refine below_drewN ?_ _) | (with_reducible refine Below.setCell ?_ ?_ _) | (with_reducible refine bvia ?_ (by with_reducible assumption) ?_) | go_size))); have y0 : w4.cell? ⟨w1.heap.size, 0, none⟩ = some (.int .i64 a.fRoadOwn) := (hq4.cell (by show w1.heap.size < _; omega)).trans x0; have y1 : w4.cell? ⟨w1.heap.size, 1, none⟩ = some (.int .i64 a.fRoadFar) := (hq4.cell (by show w1.heap.size < _; omega)).trans x1; have y2 : w4.cell? ⟨w1.heap.size, 2, none⟩ = some (.int .i64 a.fRoadPort) := (hq4.cell (by show w1.heap.size < _; omega)).trans x2; have y3 : w4.cell? ⟨w1.heap.size, 3, none⟩ = some (.int .i64 a.fTheirs) := (hq4.cell (by show w1.heap.size < _; omega)).trans x3; have y4 : w4.cell? ⟨w1.heap.size, 4, none⟩ = some (.int .i64 a.fMine) := (hq4.cell (by show w1.heap.size < _; omega)).trans x4; have y5 : w4.cell? ⟨w1.heap.size, 5, none⟩ = some (.int .i64 a.fGive) := (hq4.cell (by show w1.heap.size < _; omega)).trans x5; have y6 : w4.cell? ⟨w1.heap.size, 6, none⟩ = some (.int .i64 a.fTake) := (hq4.cell (by show w1.heap.size < _; omega)).trans x6; have y7 : w4.cell? ⟨w1.heap.size, 7, none⟩ = some (.int .i64 a.fUntil) := (hq4.cell (by show w1.heap.size < _; omega)).trans x7; have f0 : w4.cell? ⟨g, ob + p * 8, none⟩ = some (.int .i64 a.fRoadOwn) := (hq4.cell hghi).trans e0; have f1 : w4.cell? ⟨g, ob + p * 8 + 1, none⟩ = some (.int .i64 a.fRoadFar) := (hq4.cell hghi).trans e1; have f2 : w4.cell? ⟨g, ob + p * 8 + 2, none⟩ = some (.int .i64 a.fRoadPort) := (hq4.cell hghi).trans e2; have f3 : w4.cell? ⟨g, ob + p * 8 + 3, none⟩ = some (.int .i64 a.fTheirs) := (hq4.cell hghi).trans e3; have f4 : w4.cell? ⟨g, ob + p * 8 + 4, none⟩ = some (.int .i64 a.fMine) := (hq4.cell hghi).trans e4; have f5 : w4.cell? ⟨g, ob + p * 8 + 5, none⟩ = some (.int .i64 a.fGive) := (hq4.cell hghi).trans e5; have f6 : w4.cell? ⟨g, ob + p * 8 + 6, none⟩ = some (.int .i64 a.fTake) := (hq4.cell hghi).trans e6; have f7 : w4.cell? ⟨g, ob + p * 8 + 7, none⟩ = some (.int .i64 a.fUntil) := (hq4.cell hghi).trans e7)
        | fail)
    clear hb4
    have hb4 := hq4
    clear hq4 e0 f0 y0 e1 f1 y1 e2 f2 y2 e3 f3 y3 e4 f4 y4 e5 f5 y5 e6 f6 y6 e7 f7 y7
    clear x0 x1 x2 x3 x4 x5 x6 x7
    have hz4 := hb4.size
    have HX_4 : Hid (w4.heap[w1.heap.size]? = _) := (hb4.block _ (Array.getElem?_eq_some_iff.1 HX_3.out).1).trans HX_3.out
    have HO_4 := Lib.hid (HO_3.out.later hb4 (Nat.le_refl _))
    have hB4 := hB3.trans (hb4.mono (by omega))
    clear hb4 hB3 HX_3 HO_3
    have x0 : w4.cell? ⟨w1.heap.size, 0, none⟩ = some (.int .i64 a.fRoadOwn) := by rw [cell_of_row _ _ _ _ _ (0, 0) HX_4.out]; rfl
    have x1 : w4.cell? ⟨w1.heap.size, 1, none⟩ = some (.int .i64 a.fRoadFar) := by rw [cell_of_row _ _ _ _ _ (0, 0) HX_4.out]; rfl
    have x2 : w4.cell? ⟨w1.heap.size, 2, none⟩ = some (.int .i64 a.fRoadPort) := by rw [cell_of_row _ _ _ _ _ (0, 0) HX_4.out]; rfl
    go_wp2_with fail
    refine (iDropHalf _ cap2 M (rdOf a) _ (by exact HO_4.out.rdv HalfD.cells_length) hle2 hcm2 (by omega)).mono ?_
    rintro e w5 ⟨v5, rfl, O5, hb5⟩
    rw [← HD.out] at O5
    obtain ⟨A5, cap5, rfl, hle5, hcm5, -⟩ := O5.rd0 HalfD.cells_length
    have HD_5 := Lib.hid O5
    clear O5
    clear x0 x1 x2
    have hz5 := hb5.size
    have HX_5 : Hid (w5.heap[w1.heap.size]? = _) := (hb5.block _ (Array.getElem?_eq_some_iff.1 HX_4.out).1).trans HX_4.out
    have HO_5 := Lib.hid (HO_4.out.later hb5 (Nat.le_refl _))
    have hB5 := hB4.trans (hb5.mono (by omega))
    clear hb5 hB4 HX_4 HO_4
    have x7 : w5.cell? ⟨w1.heap.size, 7, none⟩ = some (.int .i64 a.fUntil) := by rw [cell_of_row _ _ _ _ _ (0, 0) HX_5.out]; rfl
    go_wp2_with fail
    refine (iYounger _ cap2 M a.fUntil _ (by exact HO_5.out.rdv HalfD.cells_length) (by omega)).mono ?_
    rintro e w6 ⟨v6, rfl, O6, hb6⟩
    rw [← HY.out] at O6
    obtain ⟨A6, cap6, rfl, hle6, hcm6, -⟩ := O6.rd0 HalfD.cells_length
    clear x7
    have hz6 := hb6.size
    have HX_6 : Hid (w6.heap[w1.heap.size]? = _) := (hb6.block _ (Array.getElem?_eq_some_iff.1 HX_5.out).1).trans HX_5.out
    have HO_6 := Lib.hid (HO_5.out.later hb6 (Nat.le_refl _))
    have HD_6 := Lib.hid (HD_5.out.later hb6 (Nat.le_refl _))
    have hB6 := hB5.trans (hb6.mono (by omega))
    clear hb6 hB5 HX_5 HO_5 HD_5
    go_wp2_with (at_builtin; refine wpList_append_rd _ rfl (.tmp 62) (.tmp 63) rfl slHalf HalfD.cells_length HalfD.one w6.heap.size _ [] Y rfl (Own.empty w6 w6.heap.size _ (Nat.le_refl _)) A6 Y.length cap6 0 w6.heap.size rfl rfl ((O6.rdv HalfD.cells_length).keep fun p _ hp => World.cell?_alloc_lt w6 _ p hp) (by simp; omega) (by simp) ?_; intro v7 w7 O7 G7 X7; rw [List.nil_append] at O7; have hb7 : Below w6.heap.size w6 w7 := ((Own.empty w6 w6.heap.size _ (Nat.le_refl _)).below (c := HalfD.cells) (sz := 8) G7 (by go_grown) (Nat.le_refl _) (by simp)); obtain ⟨A7, cap7, rfl, hle7, hcm7, -⟩ := O7.rd0 HalfD.cells_length; have HY_7 := Lib.hid O7; clear O7 O6 G7 X7; have HX_7 : Hid (w7.heap[w1.heap.size]? = some (.cells a.arr 42 (0, 0))) := (hb7.block _ (Array.getElem?_eq_some_iff.1 HX_6.out).1).trans HX_6.out; have x7 : w7.cell? ⟨w1.heap.size, 7, none⟩ = some (.int .i64 a.fUntil) := (by rw [cell_of_row _ _ _ _ _ (0, 0) HX_7.out]; rfl))
    clear x7 HX_7
    have hz7 := hb7.size
    have HX_7 : Hid (w7.heap[w1.heap.size]? = _) := (hb7.block _ (Array.getElem?_eq_some_iff.1 HX_6.out).1).trans HX_6.out
    have HO_7 := Lib.hid (HO_6.out.later hb7 (Nat.le_refl _))
    have HD_7 := Lib.hid (HD_6.out.later hb7 (Nat.le_refl _))
    have hB7 := hB6.trans (hb7.mono (by omega))
    clear hb7 hB6 HX_6 HO_6 HD_6
    have x7 : w7.cell? ⟨w1.heap.size, 7, none⟩ = some (.int .i64 a.fUntil) := by rw [cell_of_row _ _ _ _ _ (0, 0) HX_7.out]; rfl
    refine (iYounger _ cap2 M (a.fUntil - 1) _ (by exact HO_7.out.rdv HalfD.cells_length) (by omega)).mono ?_
    rintro e w8 ⟨v8, rfl, O8, hb8⟩
    rw [← HZ.out] at O8
    obtain ⟨A8, cap8, rfl, hle8, hcm8, -⟩ := O8.rd0 HalfD.cells_length
    have HZ_8 := Lib.hid O8
    clear O8
    clear x7
    have hz8 := hb8.size
    have HX_8 : Hid (w8.heap[w1.heap.size]? = _) := (hb8.block _ (Array.getElem?_eq_some_iff.1 HX_7.out).1).trans HX_7.out
    have HO_8 := Lib.hid (HO_7.out.later hb8 (Nat.le_refl _))
    have HD_8 := Lib.hid (HD_7.out.later hb8 (Nat.le_refl _))
    have HY_8 := Lib.hid (HY_7.out.later hb8 (Nat.le_refl _))
    have hB8 := hB7.trans (hb8.mono (by omega))
    clear hb8 hB7 HX_7 HO_7 HD_7 HY_7
    have dl : ((D.length : Int) == (M.length : Int) - 1) = true := by simp; omega
    have dq : decide ((0 : Int) ≤ (q : Int)) = true := decide_eq_true (by omega)
    have x0 : w8.cell? ⟨w1.heap.size, 0, none⟩ = some (.int .i64 a.fRoadOwn) := by rw [cell_of_row _ _ _ _ _ (0, 0) HX_8.out]; rfl
    have x1 : w8.cell? ⟨w1.heap.size, 1, none⟩ = some (.int .i64 a.fRoadFar) := by rw [cell_of_row _ _ _ _ _ (0, 0) HX_8.out]; rfl
    have x2 : w8.cell? ⟨w1.heap.size, 2, none⟩ = some (.int .i64 a.fRoadPort) := by rw [cell_of_row _ _ _ _ _ (0, 0) HX_8.out]; rfl
    go_wp2_with fail
    refine (iHalfAt _ cap5 D _ _ _ _ (by exact HD_8.out.rdv HalfD.cells_length) (by unfold maxLen at *; omega)).mono ?_
    rintro e w9 ⟨rfl, hb9⟩
    rw [HDEL.out]
    clear x0 x1 x2
    have hz9 := hb9.size
    have HX_9 : Hid (w9.heap[w1.heap.size]? = _) := (hb9.block _ (Array.getElem?_eq_some_iff.1 HX_8.out).1).trans HX_8.out
    have HO_9 := Lib.hid (HO_8.out.later hb9 (Nat.le_refl _))
    have HY_9 := Lib.hid (HY_8.out.later hb9 (Nat.le_refl _))
    have HZ_9 := Lib.hid (HZ_8.out.later hb9 (Nat.le_refl _))
    have hB9 := hB8.trans (hb9.mono (by omega))
    clear hb9 hB8 HX_8 HO_8 HY_8 HZ_8
    have x0 : w9.cell? ⟨w1.heap.size, 0, none⟩ = some (.int .i64 a.fRoadOwn) := by rw [cell_of_row _ _ _ _ _ (0, 0) HX_9.out]; rfl
    have x1 : w9.cell? ⟨w1.heap.size, 1, none⟩ = some (.int .i64 a.fRoadFar) := by rw [cell_of_row _ _ _ _ _ (0, 0) HX_9.out]; rfl
    have x2 : w9.cell? ⟨w1.heap.size, 2, none⟩ = some (.int .i64 a.fRoadPort) := by rw [cell_of_row _ _ _ _ _ (0, 0) HX_9.out]; rfl
    go_wp2_with fail
    refine (iHalfAt _ cap7 Y _ _ _ _ (by exact HY_9.out.rdv HalfD.cells_length) (by unfold maxLen at *; omega)).mono ?_
    rintro e w10 ⟨rfl, hb10⟩
    rw [HYO.out]
    clear x0 x1 x2
    have hz10 := hb10.size
    have HX_10 : Hid (w10.heap[w1.heap.size]? = _) := (hb10.block _ (Array.getElem?_eq_some_iff.1 HX_9.out).1).trans HX_9.out
    have HO_10 := Lib.hid (HO_9.out.later hb10 (Nat.le_refl _))
    have HZ_10 := Lib.hid (HZ_9.out.later hb10 (Nat.le_refl _))
    have hB10 := hB9.trans (hb10.mono (by omega))
    clear hb10 hB9 HX_9 HO_9 HZ_9
    have x0 : w10.cell? ⟨w1.heap.size, 0, none⟩ = some (.int .i64 a.fRoadOwn) := by rw [cell_of_row _ _ _ _ _ (0, 0) HX_10.out]; rfl
    have x1 : w10.cell? ⟨w1.heap.size, 1, none⟩ = some (.int .i64 a.fRoadFar) := by rw [cell_of_row _ _ _ _ _ (0, 0) HX_10.out]; rfl
    have x2 : w10.cell? ⟨w1.heap.size, 2, none⟩ = some (.int .i64 a.fRoadPort) := by rw [cell_of_row _ _ _ _ _ (0, 0) HX_10.out]; rfl
    go_wp2_with fail
    refine (iHalfAt _ cap8 Z _ _ _ _ (by exact HZ_10.out.rdv HalfD.cells_length) (by unfold maxLen at *; omega)).mono ?_
    rintro e w11 ⟨rfl, hb11⟩
    rw [HMO.out]
    clear x0 x1 x2
    have hz11 := hb11.size
    have HX_11 : Hid (w11.heap[w1.heap.size]? = _) := (hb11.block _ (Array.getElem?_eq_some_iff.1 HX_10.out).1).trans HX_10.out
    have HO_11 := Lib.hid (HO_10.out.later hb11 (Nat.le_refl _))
    have hB11 := hB10.trans (hb11.mono (by omega))
    clear hb11 hB10 HX_10 HO_10
    go_wp2_with fail
    refine (iHalfsOk _ cap2 M _ (by exact HO_11.out.rdv HalfD.cells_length) hle2 hcm2).mono ?_
    rintro e w12 ⟨rfl, hb12⟩
    rw [HOM.out]
    have hz12 := hb12.size
    have HX_12 : Hid (w12.heap[w1.heap.size]? = _) := (hb12.block _ (Array.getElem?_eq_some_iff.1 HX_11.out).1).trans HX_11.out
    have hB12 := hB11.trans (hb12.mono (by omega))
    clear hb12 hB11 HX_11 
    go_wp2
    go_ret
    exact ⟨rfl, hB12⟩
end Go.Proofs.Ytcnklfddokpbiaa
