/- DropHalf (program and reference): for every slice that can be read. -/
import Derived.Test.YtcnklfddokpbiaaHalfAt
import Derived.Test.YtcnklfddokpbiaaHalfO
import Derived.Deep.RegionHeld3
import Derived.Deep.DrawnRows
namespace Go.Proofs.Ytcnklfddokpbiaa
set_option linter.unusedSimpArgs false
set_option linter.unusedVariables false
open Go.RowKit
attribute [local go_sem ↓] Go.wp_at_zero Go.wp_at_succ

theorem findI_lt {α : Type} (p : α → Bool) (L : List α) : findI p L < L.length := by
  induction L with
  | nil => simp [findI]
  | cons x L ih =>
    unfold findI
    by_cases h : p x = true
    · rw [if_pos h, List.length_cons]; omega
    · rw [if_neg h, List.length_cons]; simp only; split <;> omega
/-- What DropAddr computes. -/
def dropK (L : List HalfD) (k : Int) : List HalfD := if k < 0 then L else L.take k.toNat ++ L.drop (k.toNat + 1)
def dropL (L : List HalfD) (x : RoadD) : List HalfD := dropK L (halfAt L x.fOwn x.fFar x.fPort)
theorem dropK_le (L : List HalfD) (k : Int) : (dropK L k).length ≤ L.length := by
  unfold dropK; split
  · exact Nat.le_refl _
  · rw [List.length_append, List.length_take, List.length_drop]; omega
theorem dropL_le (L : List HalfD) (x : RoadD) : (dropL L x).length ≤ L.length := dropK_le _ _
set_option maxHeartbeats 2000000 in
theorem iDropHalf (A : Option Addr) (cap : Nat) (L : List HalfD) (x : RoadD) (w : World) (hr : Rd HalfD.cells 8 w 0 w.heap.size A L) (hle : L.length ≤ cap) (hcm : cap ≤ maxLen) (hn : L.length ≤ 4294967295) :
    Calls Try.prog 22 #[.slice A L.length cap, x.val] w (RetSl w 42 HalfD.cells 8 (dropL L x) fun v => v) := by
  unfold maxLen at hcm
  have hC := fun W hr => iHalfAt A cap L x.fOwn x.fFar x.fPort W hr (by unfold maxLen; omega)
  have hlo := findI_lo (roadIs x.fOwn x.fFar x.fPort) L
  have hlt := findI_lt (roadIs x.fOwn x.fFar x.fPort) L
  have e1 : dropL L x = dropK L (halfAt L x.fOwn x.fFar x.fPort) := rfl
  rw [e1]
  clear e1
  have hW : Below w.heap.size w (w.alloc (.cells #[.int .i64 x.fOwn, .int .i64 x.fFar, .int .i64 x.fPort] 29)) := by go_grown
  have hr0 := hr.later hW (Nat.le_refl _) hW.size
  have HC := Lib.hid hC
  clear hC
  change halfAt L x.fOwn x.fFar x.fPort = -1 ∨ 0 ≤ halfAt L x.fOwn x.fFar x.fPort at hlo
  change halfAt L x.fOwn x.fFar x.fPort < L.length at hlt
  generalize halfAt L x.fOwn x.fFar x.fPort = z at *
  by_cases h0 : 0 ≤ z
  · obtain ⟨k, rfl⟩ := Int.eq_ofNat_of_zero_le h0
    have hk : k < L.length := by omega
    obtain ⟨g, o, rfl, _, hg, _⟩ := hr.at_ (by omega)
    have hm : Hid (dropK L (k : Int) = L.take k ++ L.drop (k + 1)) := by show dropK L (k : Int) = _; unfold dropK; rw [if_neg (by omega), Int.toNat_natCast]
    have b1 : (0 : Int) ≤ (k : Int) := by omega
    have b2 : (k : Int) ≤ (cap : Int) := by omega
    have b3 : (k : Int) + 1 ≤ (L.length : Int) := by omega
    have b4 : (L.length : Int) ≤ (cap : Int) := by omega
    have b5 : (0 : Int) ≤ (k : Int) + 1 := by omega
    have b7 : ((k : Int) + 1).toNat = k + 1 := by omega
    have b6 : IntKind.i64.wrap ((k : Int) + 1) = (k : Int) + 1 := IntWalk.i64_in _ (by omega)
    have d0 : decide ((k : Int) < 0) = false := by simp
    go_enter Try.func22, Try.ntmps22
    go_wp2_with fail
    refine (HC.out _ hr0).mono ?_
    rintro e w1 ⟨rfl, hb0⟩
    have hb1 : Below w.heap.size w w1 := hW.trans (hb0.mono hW.size)
    have hz1 := hb1.size
    clear hb0
    have hr1 := hr.later hb1 (Nat.le_refl _) hz1
    go_wp2_with fail
    obtain ⟨sel, hsel, hrs⟩ := cut_sel hr cap (k + 1) hle
    have HRS := Lib.hid hrs
    clear hrs
    go_region_held3 (fun _ => True) (trivial)
      (first
        | (go_at_call 34; refine (iCopyHalf _ k _ (L.take k) _ (by simp; omega) (by exact hr1.take k) (by simp; omega)).mono ?_; rintro e w2 ⟨v2, rfl, O2, hb2⟩; have hq2 : Below w.heap.size w w2 := (by first | exact hb1.trans (hb2.mono hz1) | exact hb1.drew.trans (hb2.mono hz1)); have hz2 : w1.heap.size ≤ w2.heap.size := hb2.size)
        | ((refine step_append_rd _ (by rfl) (.tmp 16) (.tmp 20) (by rfl) slHalf HalfD.cells_length HalfD.one w1.heap.size v2 (L.take k) (L.drop (k + 1)) (by rfl) O2 _ _ _ 0 w.heap.size (by rfl) (by simp) (by exact HRS.out.later hq2 (Nat.le_refl _) (Nat.le_refl _)) (by simp; omega) hz2 ?_; intro v3 w3 O3 G3 A3))
        | fail)
    have hq3 : Below w.heap.size w w3 := O2.below G3 hq2 (by exact hz1) (by omega)
    go_wp2
    go_ret
    exact ⟨v3, rfl, by rw [hm.out]; exact O3.up hz1, hq3⟩
  · have hm : Hid (dropK L z = L) := by show dropK L z = _; unfold dropK; rw [if_pos (by omega)]
    have d0 : decide (z < 0) = true := by simp; omega
    go_enter Try.func22, Try.ntmps22
    go_wp2_with fail
    refine (HC.out _ hr0).mono ?_
    rintro e w1 ⟨rfl, hb0⟩
    have hb1 : Below w.heap.size w w1 := hW.trans (hb0.mono hW.size)
    have hz1 := hb1.size
    clear hb0
    have hr1 := hr.later hb1 (Nat.le_refl _) hz1
    go_wp2_with fail
    refine (iCopyHalf _ _ _ L _ rfl hr1 (by omega)).mono ?_
    rintro e w2 ⟨v2, rfl, O2, hb2⟩
    go_wp2
    go_ret
    exact ⟨v2, rfl, by rw [hm.out]; exact O2.up hz1, hb1.trans (hb2.mono hz1)⟩
set_option maxHeartbeats 2000000 in
theorem sDropHalf (A : Option Addr) (cap : Nat) (L : List HalfD) (x : RoadD) (w : World) (hr : Rd HalfD.cells 8 w 0 w.heap.size A L) (hle : L.length ≤ cap) (hcm : cap ≤ maxLen) (hn : L.length ≤ 4294967295) :
    Calls Try.prog 21 #[.slice A L.length cap, x.val] w (RetSl w 42 HalfD.cells 8 (dropL L x) fun v => v) := by
  unfold maxLen at hcm
  have hC := fun W hr => sHalfAt A cap L x.fOwn x.fFar x.fPort W hr (by unfold maxLen; omega)
  have hlo := findI_lo (roadIs x.fOwn x.fFar x.fPort) L
  have hlt := findI_lt (roadIs x.fOwn x.fFar x.fPort) L
  have e1 : dropL L x = dropK L (halfAt L x.fOwn x.fFar x.fPort) := rfl
  rw [e1]
  clear e1
  have hW : Below w.heap.size w (w.alloc (.cells #[.int .i64 x.fOwn, .int .i64 x.fFar, .int .i64 x.fPort] 29)) := by go_grown
  have hr0 := hr.later hW (Nat.le_refl _) hW.size
  have HC := Lib.hid hC
  clear hC
  change halfAt L x.fOwn x.fFar x.fPort = -1 ∨ 0 ≤ halfAt L x.fOwn x.fFar x.fPort at hlo
  change halfAt L x.fOwn x.fFar x.fPort < L.length at hlt
  generalize halfAt L x.fOwn x.fFar x.fPort = z at *
  by_cases h0 : 0 ≤ z
  · obtain ⟨k, rfl⟩ := Int.eq_ofNat_of_zero_le h0
    have hk : k < L.length := by omega
    obtain ⟨g, o, rfl, _, hg, _⟩ := hr.at_ (by omega)
    have hm : Hid (dropK L (k : Int) = L.take k ++ L.drop (k + 1)) := by show dropK L (k : Int) = _; unfold dropK; rw [if_neg (by omega), Int.toNat_natCast]
    have b1 : (0 : Int) ≤ (k : Int) := by omega
    have b2 : (k : Int) ≤ (cap : Int) := by omega
    have b3 : (k : Int) + 1 ≤ (L.length : Int) := by omega
    have b4 : (L.length : Int) ≤ (cap : Int) := by omega
    have d0 : decide ((k : Int) < 0) = false := by simp
    obtain ⟨sel, hsel, hrs⟩ := cut_sel hr cap (k + 1) hle
    have HRS := Lib.hid hrs
    clear hrs
    go_enter Try.func21, Try.ntmps21
    go_wp2_with fail
    refine (HC.out _ hr0).mono ?_
    rintro e w0 ⟨rfl, hb0⟩
    have hbw : Below w.heap.size w w0 := hW.trans (hb0.mono hW.size)
    have hzw := hbw.size
    clear hb0
    have HE := Lib.hid (Own.empty (c := HalfD.cells) (sz := 8) w0 w.heap.size 42 hzw)
    go_wp2_with (first
      | (at_builtin; refine wpList_append_rd _ rfl (.tmp 15) (.tmp 18) rfl slHalf HalfD.cells_length HalfD.one w.heap.size _ [] (L.take k) rfl HE.out _ _ _ 0 w.heap.size rfl (by simp; omega) (by exact (hr.take k).later (by (repeat' (first | (with_reducible exact Below.refl _ _) | (with_reducible assumption) | (with_reducible refine Below.alloc ?_ ?_ _) | (with_reducible refine Below.drew ?_) | (with_reducible refine below_drewN ?_ _) | (with_reducible refine Below.setCell ?_ ?_ _) | (with_reducible refine bvia ?_ (by with_reducible assumption) ?_) | go_size))) (Nat.le_refl _) (Nat.le_refl _)) (by simp; omega) (by go_size) ?_; intro v1 w1 O1 G1 A1; have hq1 : Below w.heap.size w w1 := Own.below2 G1 HE.out (by (repeat' (first | (with_reducible exact Below.refl _ _) | (with_reducible assumption) | (with_reducible refine Below.alloc ?_ ?_ _) | (with_reducible refine Below.drew ?_) | (with_reducible refine below_drewN ?_ _) | (with_reducible refine Below.setCell ?_ ?_ _) | (with_reducible refine bvia ?_ (by with_reducible assumption) ?_) | go_size))) (Nat.le_refl _) (by go_size); have hz1 := hq1.size)
      | (at_builtin; refine wpList_append_rd _ rfl (.tmp 20) (.tmp 24) rfl slHalf HalfD.cells_length HalfD.one w.heap.size v1 ([] ++ L.take k) (L.drop (k + 1)) rfl O1 _ _ _ 0 w.heap.size rfl (by simp) (by exact HRS.out.later hq1 (Nat.le_refl _) (Nat.le_refl _)) (by simp; omega) hz1 ?_; intro v2 w2 O2 G2 A2))
    have hq2 : Below w.heap.size w w2 := O1.below G2 hq1 (Nat.le_refl _) hz1
    go_ret
    exact ⟨v2, rfl, by rw [hm.out]; exact O2, hq2⟩
  · have hm : Hid (dropK L z = L) := by show dropK L z = _; unfold dropK; rw [if_pos (by omega)]
    have d0 : decide (z < 0) = true := by simp; omega
    go_enter Try.func21, Try.ntmps21
    go_wp2_with fail
    refine (HC.out _ hr0).mono ?_
    rintro e w0 ⟨rfl, hb0⟩
    have hbw : Below w.heap.size w w0 := hW.trans (hb0.mono hW.size)
    have hzw := hbw.size
    clear hb0
    have HE := Lib.hid (Own.empty (c := HalfD.cells) (sz := 8) w0 w.heap.size 42 hzw)
    go_wp2_with (at_builtin; refine wpList_append_rd _ rfl (.tmp 12) (.tmp 13) rfl slHalf HalfD.cells_length HalfD.one w.heap.size _ [] L rfl HE.out A L.length cap 0 w.heap.size rfl rfl (by exact hr.later (by (repeat' (first | (with_reducible exact Below.refl _ _) | (with_reducible assumption) | (with_reducible refine Below.alloc ?_ ?_ _) | (with_reducible refine Below.drew ?_) | (with_reducible refine below_drewN ?_ _) | (with_reducible refine Below.setCell ?_ ?_ _) | (with_reducible refine bvia ?_ (by with_reducible assumption) ?_) | go_size))) (Nat.le_refl _) (Nat.le_refl _)) (by simp; omega) (by go_size) ?_; intro v1 w1 O1 G1 A1)
    go_ret
    exact ⟨v1, rfl, by rw [hm.out]; exact O1, Own.below2 G1 HE.out (by (repeat' (first | (with_reducible exact Below.refl _ _) | (with_reducible assumption) | (with_reducible refine Below.alloc ?_ ?_ _) | (with_reducible refine Below.drew ?_) | (with_reducible refine below_drewN ?_ _) | (with_reducible refine Below.setCell ?_ ?_ _) | (with_reducible refine bvia ?_ (by with_reducible assumption) ?_) | go_size))) (Nat.le_refl _) (by go_size)⟩
end Go.Proofs.Ytcnklfddokpbiaa
