/- hasRoad, l12Has, MissingOf (program and reference): for every slice that can be read. -/
import Derived.Test.YtfhfanbigjpfaaaRoadO
import Derived.Test.YtfhfanbigjpfaaaFind
import Derived.Laws.StructEq
import Derived.StillTailTactics
namespace Go.Proofs.Ytfhfanbigjpfaaa
set_option linter.unusedSimpArgs false
set_option linter.unusedVariables false
open Go.RowKit

def sameR (x y : RoadD) : Bool := y.fOwn == x.fOwn && (y.fFar == x.fFar && y.fPort == x.fPort)
/-- What hasRoad computes. -/
def hasR (L : List RoadD) (x : RoadD) : Bool := L.any (sameR x)
def NoneTo {α : Type} (p : α → Bool) (L : List α) (k : Nat) : Prop := ∀ (i : Nat) (hi : i < L.length), i < k → p L[i] = false
theorem NoneTo.zero {α : Type} (p : α → Bool) (L : List α) : NoneTo p L 0 := fun i hi h => absurd h (by omega)
theorem NoneTo.succ {α : Type} {p : α → Bool} {L : List α} {k : Nat} (h : NoneTo p L k) (hk : k < L.length) (hn : p L[k] = false) : NoneTo p L (k + 1) := fun i hi hik => by
  rcases Nat.lt_or_ge i k with h' | h'
  · exact h i hi h'
  · obtain rfl : i = k := by omega
    exact hn
theorem has_yes {L : List RoadD} {x : RoadD} {k : Nat} (hk : k < L.length) (h : sameR x L[k] = true) : hasR L x = true := List.any_eq_true.2 ⟨_, List.getElem_mem hk, h⟩
theorem has_no {L : List RoadD} {x : RoadD} (h : NoneTo (sameR x) L L.length) : hasR L x = false := by
  unfold hasR; rw [List.any_eq_false]
  intro y hy
  obtain ⟨i, hi, rfl⟩ := List.getElem_of_mem hy
  simp [h i hi hi]
set_option maxHeartbeats 1000000 in
theorem hasRoad_any (A : Option Addr) (cap : Nat) (L : List RoadD) (x : RoadD) (w : World) (hr : Rd RoadD.cells 3 w 0 w.heap.size A L) (hn : L.length ≤ maxLen) :
    Calls Try.prog 34 #[.slice A L.length cap, x.val] w fun e w' => e = .returned (.bool (hasR L x)) ∧ Below w.heap.size w w' := by
  unfold maxLen at hn
  have hW : Below w.heap.size w (w.alloc (.cells #[.int .i64 x.fOwn, .int .i64 x.fFar, .int .i64 x.fPort] 30)) := by go_grown
  go_enter Try.func34, Try.ntmps34
  go_wp2_with fail
  go_loopw [9] (fun i wr => ∃ k : Nat, k ≤ L.length ∧ i = .int .i64 k ∧ NoneTo (sameR x) L k ∧ Below (w.alloc (.cells #[.int .i64 x.fOwn, .int .i64 x.fFar, .int .i64 x.fPort] 30)).heap.size (w.alloc (.cells #[.int .i64 x.fOwn, .int .i64 x.fFar, .int .i64 x.fPort] 30)) wr) (fun i _ => L.length - (intOf i).toNat)
  case atStart => exact ⟨0, Nat.zero_le _, rfl, NoneTo.zero _ _, Below.refl _ _⟩
  case round =>
    obtain ⟨k, hk, rfl, hN, hB⟩ := hrel
    have hBz := hB.size
    simp at hBz
    have hlz : w.heap.size < wr.heap.size := by omega
    have r0 : wr.cell? ⟨w.heap.size, 0, none⟩ = some (.int .i64 x.fOwn) := by rw [hB.cell (by simp)]; simp
    have r1 : wr.cell? ⟨w.heap.size, 1, none⟩ = some (.int .i64 x.fFar) := by rw [hB.cell (by simp)]; simp
    have r2 : wr.cell? ⟨w.heap.size, 2, none⟩ = some (.int .i64 x.fPort) := by rw [hB.cell (by simp)]; simp
    have HB := Lib.hid hB
    have hBw : Below w.heap.size w wr := hW.trans (hB.mono (by simp))
    clear hB
    by_cases hlt : k < L.length
    · obtain ⟨g, o, rfl, _, hg, hcell⟩ := hr.at_ (by omega)
      have hx : ∀ j v, (L[k].cells)[j]? = some v → wr.cell? ⟨g, o + k * 3 + j, none⟩ = some v := fun j v hv => by
        have hj : j < 3 := (List.getElem?_eq_some_iff.1 hv).1
        rw [hBw.cell (p := ⟨g, o + k * 3 + j, none⟩) hg, hcell k hlt j hj, hv]
      have HX := Lib.hid hx
      clear hx hcell
      have hki : (k : Int) < (L.length : Int) := by omega
      go_wp2_with (refine wpList_load_part rfl 30 (.tmp 11) rfl g _ rfl L[k].row _ HX.out Try.underlying30 rfl (by kernel_rfl) ?_)
      · go_ret
        exact ⟨ret_bool (has_yes hlt (by simp [sameR, *])).symm, by (repeat' (first | (with_reducible exact Below.refl _ _) | (with_reducible assumption) | (with_reducible refine Below.alloc ?_ ?_ _) | (with_reducible refine Below.drew ?_) | (with_reducible refine below_drewN ?_ _) | (with_reducible refine Below.setCell ?_ ?_ _) | (with_reducible refine bvia ?_ (by with_reducible assumption) ?_) | go_size))⟩
      all_goals
        have hN' := hN.succ hlt (by simp [sameR, *])
        have hB' := HB.out
        go_roundw
        case rel => exact ⟨k + 1, by omega, by go_num, hN', by (repeat' (first | (with_reducible exact Below.refl _ _) | (with_reducible assumption) | (with_reducible refine Below.alloc ?_ ?_ _) | (with_reducible refine Below.drew ?_) | (with_reducible refine below_drewN ?_ _) | (with_reducible refine Below.setCell ?_ ?_ _) | (with_reducible refine bvia ?_ (by with_reducible assumption) ?_) | go_size))⟩
        case measure => simp [intOf]; omega
    · obtain rfl : k = L.length := by omega
      have hv := Lib.hid (has_no hN)
      go_wp2
      go_ret
      exact ⟨ret_bool hv.out.symm, hBw⟩
set_option maxHeartbeats 1000000 in
theorem l12Has_any (A : Option Addr) (cap : Nat) (L : List RoadD) (x : RoadD) (w : World) (hr : Rd RoadD.cells 3 w 0 w.heap.size A L) (hn : L.length ≤ maxLen) :
    Calls Try.prog 33 #[.slice A L.length cap, x.val] w fun e w' => e = .returned (.bool (hasR L x)) ∧ Below w.heap.size w w' := by
  unfold maxLen at hn
  have hW : Below w.heap.size w (w.alloc (.cells #[.int .i64 x.fOwn, .int .i64 x.fFar, .int .i64 x.fPort] 30)) := by go_grown
  go_enter Try.func33, Try.ntmps33
  go_wp2_with fail
  go_loopw [5] (fun i wr => ∃ k : Nat, k ≤ L.length ∧ i = .int .i64 k ∧ NoneTo (sameR x) L k ∧ Below (w.alloc (.cells #[.int .i64 x.fOwn, .int .i64 x.fFar, .int .i64 x.fPort] 30)).heap.size (w.alloc (.cells #[.int .i64 x.fOwn, .int .i64 x.fFar, .int .i64 x.fPort] 30)) wr) (fun i _ => L.length - (intOf i).toNat)
  case atStart => exact ⟨0, Nat.zero_le _, rfl, NoneTo.zero _ _, Below.refl _ _⟩
  case round =>
    obtain ⟨k, hk, rfl, hN, hB⟩ := hrel
    have hBz := hB.size
    simp at hBz
    have hlz : w.heap.size < wr.heap.size := by omega
    have r0 : wr.cell? ⟨w.heap.size, 0, none⟩ = some (.int .i64 x.fOwn) := by rw [hB.cell (by simp)]; simp
    have r1 : wr.cell? ⟨w.heap.size, 1, none⟩ = some (.int .i64 x.fFar) := by rw [hB.cell (by simp)]; simp
    have r2 : wr.cell? ⟨w.heap.size, 2, none⟩ = some (.int .i64 x.fPort) := by rw [hB.cell (by simp)]; simp
    have HB := Lib.hid hB
    have hBw : Below w.heap.size w wr := hW.trans (hB.mono (by simp))
    clear hB
    by_cases hlt : k < L.length
    · obtain ⟨g, o, rfl, _, hg, hcell⟩ := hr.at_ (by omega)
      have hx : ∀ j v, (L[k].cells)[j]? = some v → wr.cell? ⟨g, o + k * 3 + j, none⟩ = some v := fun j v hv => by
        have hj : j < 3 := (List.getElem?_eq_some_iff.1 hv).1
        rw [hBw.cell (p := ⟨g, o + k * 3 + j, none⟩) hg, hcell k hlt j hj, hv]
      have a0 : wr.cell? ⟨g, o + k * 3, none⟩ = some (.int .i64 L[k].fOwn) := hx 0 _ rfl
      have a1 : wr.cell? ⟨g, o + k * 3 + 1, none⟩ = some (.int .i64 L[k].fFar) := hx 1 _ rfl
      have a2 : wr.cell? ⟨g, o + k * 3 + 2, none⟩ = some (.int .i64 L[k].fPort) := hx 2 _ rfl
      clear hx hcell
      have hki : (k : Int) < (L.length : Int) := by omega
      have hk0 : (0 : Int) ≤ (k : Int) := by omega
      go_wp2
      go_still_tail 5, (by kernel_rfl)
      go_wp2
      · go_ret
        exact ⟨ret_bool (has_yes hlt (by simp [sameR, *])).symm, by (repeat' (first | (with_reducible exact Below.refl _ _) | (with_reducible assumption) | (with_reducible refine Below.alloc ?_ ?_ _) | (with_reducible refine Below.drew ?_) | (with_reducible refine below_drewN ?_ _) | (with_reducible refine Below.setCell ?_ ?_ _) | (with_reducible refine bvia ?_ (by with_reducible assumption) ?_) | go_size))⟩
      all_goals
        have hN' := hN.succ hlt (by simp [sameR, *])
        have hB' := HB.out
        go_roundw
        case rel => exact ⟨k + 1, by omega, by go_num, hN', by (repeat' (first | (with_reducible exact Below.refl _ _) | (with_reducible assumption) | (with_reducible refine Below.alloc ?_ ?_ _) | (with_reducible refine Below.drew ?_) | (with_reducible refine below_drewN ?_ _) | (with_reducible refine Below.setCell ?_ ?_ _) | (with_reducible refine bvia ?_ (by with_reducible assumption) ?_) | go_size))⟩
        case measure => simp [intOf]; omega
    · obtain rfl : k = L.length := by omega
      have hv := Lib.hid (has_no hN)
      go_wp2
      go_ret
      exact ⟨ret_bool hv.out.symm, hBw⟩
/-- What MissingOf computes. -/
def missTo (L H : List RoadD) (k : Nat) : List RoadD := (L.take k).filter fun r => !hasR H r
def missing (L H : List RoadD) : List RoadD := if L.length ≤ 64 ∧ H.length ≤ 64 then missTo L H L.length else []
theorem miss_no {L H : List RoadD} {k : Nat} (h : k < L.length) (ht : hasR H L[k] = true) : missTo L H (k + 1) = missTo L H k := by
  unfold missTo; rw [List.take_succ_eq_append_getElem h, List.filter_append]; simp [ht]
theorem miss_yes {L H : List RoadD} {k : Nat} (h : k < L.length) (ht : hasR H L[k] = false) : missTo L H (k + 1) = missTo L H k ++ [L[k]] := by
  unfold missTo; rw [List.take_succ_eq_append_getElem h, List.filter_append]; simp [ht]
theorem missTo_le (L H : List RoadD) (k : Nat) : (missTo L H k).length ≤ L.length := Nat.le_trans (List.length_filter_le _ _) (by rw [List.length_take]; omega)
theorem missing_le (L H : List RoadD) : (missing L H).length ≤ L.length := by
  unfold missing; split
  · exact missTo_le _ _ _
  · exact Nat.zero_le _
theorem missing_out {L H : List RoadD} (h : ¬ (L.length ≤ 64 ∧ H.length ≤ 64)) : missing L H = [] := if_neg h
theorem missing_in {L H : List RoadD} (h1 : L.length ≤ 64) (h2 : H.length ≤ 64) : missing L H = missTo L H L.length := if_pos ⟨h1, h2⟩
set_option maxHeartbeats 1000000 in
theorem iMissingOf (A : Option Addr) (cap : Nat) (L : List RoadD) (A2 : Option Addr) (cap2 : Nat) (H : List RoadD) (w : World) (hr : Rd RoadD.cells 3 w 0 w.heap.size A L) (hr2 : Rd RoadD.cells 3 w 0 w.heap.size A2 H) (hm : L.length ≤ maxLen) (hm2 : H.length ≤ maxLen) :
    Calls Try.prog 18 #[.slice A L.length cap, .slice A2 H.length cap2] w (RetSl w 30 RoadD.cells 3 (missing L H) fun v => v) := by
  have hm2' := hm2
  unfold maxLen at hm hm2'
  by_cases h1 : (L.length : Int) ≤ 64
  · by_cases h2 : (H.length : Int) ≤ 64
    · have hv := Lib.hid (missing_in (L := L) (H := H) (by omega) (by omega))
      have d1 : decide ((64 : Int) < (L.length : Int)) = false := by simp; omega
      have d2 : decide ((64 : Int) < (H.length : Int)) = false := by simp; omega
      go_enter Try.func18, Try.ntmps18
      go_wp2_with fail
      go_loopw [5, 18] (fun v i wr => ∃ k : Nat, k ≤ L.length ∧ i = .int .i64 k ∧ Own wr w.heap.size 30 RoadD.cells 3 v (missTo L H k) ∧ Below w.heap.size w wr) (fun _ i _ => L.length - (intOf i).toNat)
      case atStart => exact ⟨0, Nat.zero_le _, rfl, Own.nil _ _ _, Below.refl _ _⟩
      case round =>
        obtain ⟨k, hk, rfl, hO, hB⟩ := hrel
        have hBz := hB.size
        by_cases hlt : k < L.length
        · obtain ⟨g, o, rfl, _, hg, hcell⟩ := hr.at_ (by omega)
          have hx : ∀ j v, (L[k].cells)[j]? = some v → wr.cell? ⟨g, o + k * 3 + j, none⟩ = some v := fun j v hv => by
            have hj : j < 3 := (List.getElem?_eq_some_iff.1 hv).1
            rw [hB.cell (p := ⟨g, o + k * 3 + j, none⟩) hg, hcell k hlt j hj, hv]
          have HX := Lib.hid hx
          clear hx hcell
          have hki : (k : Int) < (L.length : Int) := by omega
          have hle := missTo_le L H k
          have HO := Lib.hid hO
          clear hO
          have hrw : Below w.heap.size w (wr.alloc (.cells #[.int .i64 L[k].fOwn, .int .i64 L[k].fFar, .int .i64 L[k].fPort] 30)) := hB.alloc hBz _
          go_wp2_with (refine wpList_load_part rfl 30 (.tmp 20) rfl g _ rfl L[k].row _ HX.out Try.underlying30 rfl (by kernel_rfl) ?_)
          refine (hasRoad_any A2 cap2 H L[k] _ (hr2.later hrw (Nat.le_refl _) hrw.size) hm2).mono ?_
          rintro e w1 ⟨rfl, hb1⟩
          have hz1 := hb1.size
          simp at hz1
          have hB1 : Below w.heap.size w w1 := hrw.trans (hb1.mono hrw.size)
          have x0 : w1.cell? ⟨wr.heap.size, 0, none⟩ = some (.int .i64 L[k].fOwn) := by rw [hb1.cell (by simp)]; simp
          have x1 : w1.cell? ⟨wr.heap.size, 1, none⟩ = some (.int .i64 L[k].fFar) := by rw [hb1.cell (by simp)]; simp
          have x2 : w1.cell? ⟨wr.heap.size, 2, none⟩ = some (.int .i64 L[k].fPort) := by rw [hb1.cell (by simp)]; simp
          have HO1 := Lib.hid ((HO.out.alloc _).later hb1 (Nat.le_refl _))
          by_cases ht : hasR H L[k] = true
          · have hs := Lib.hid (miss_no hlt ht)
            go_wp2
            go_roundw
            case rel => exact ⟨k + 1, by omega, by go_num, by rw [hs.out]; exact HO1.out, by (repeat' (first | (with_reducible exact Below.refl _ _) | (with_reducible assumption) | (with_reducible refine Below.alloc ?_ ?_ _) | (with_reducible refine Below.drew ?_) | (with_reducible refine below_drewN ?_ _) | (with_reducible refine Below.setCell ?_ ?_ _) | (with_reducible refine bvia ?_ (by with_reducible assumption) ?_) | go_size))⟩
            case measure => simp [intOf]; omega
          · have ht : hasR H L[k] = false := by simpa using ht
            have hs := Lib.hid (miss_yes hlt ht)
            go_wp2_with (at_builtin; refine wpList_append_rd _ rfl (.tmp 26) (.tmp 28) rfl slRoad RoadD.cells_length RoadD.one w.heap.size _ (missTo L H k) [L[k]] rfl (HO1.out.alloc _) (some ⟨w1.heap.size, 0, none⟩) 1 1 0 (w1.heap.size + 1) rfl rfl (rd_one _ _ _ _ RoadD.cells_length rfl _ rfl _ (by omega)) (by simp; omega) (by simp; omega) ?_; intro v2 w2 O2 G2 A2')
            have hB2 : Below w.heap.size w w2 := Own.below2 G2 (HO1.out.alloc _) (by go_grown) (Nat.le_refl _) (by simp; omega)
            clear G2 A2'
            go_roundw
            case rel => exact ⟨k + 1, by omega, by go_num, by rw [hs.out]; exact O2, hB2⟩
            case measure => simp [intOf]; omega
        · obtain rfl : k = L.length := by omega
          rw [← hv.out] at hO
          go_wp2
          go_ret
          exact ⟨_, rfl, hO, hB⟩
    · have hv := Lib.hid (missing_out (L := L) (H := H) (by omega))
      have d1 : decide ((64 : Int) < (L.length : Int)) = false := by simp; omega
      have d2 : decide ((64 : Int) < (H.length : Int)) = true := by simp; omega
      go_enter Try.func18, Try.ntmps18
      go_wp2
      go_ret
      exact ⟨_, rfl, by rw [hv.out]; exact Own.nil _ _ _, Below.refl _ _⟩
  · have hv := Lib.hid (missing_out (L := L) (H := H) (by omega))
    have d1 : decide ((64 : Int) < (L.length : Int)) = true := by simp; omega
    go_enter Try.func18, Try.ntmps18
    go_wp2
    go_ret
    exact ⟨_, rfl, by rw [hv.out]; exact Own.nil _ _ _, Below.refl _ _⟩
set_option maxHeartbeats 1000000 in
theorem sMissingOf (A : Option Addr) (cap : Nat) (L : List RoadD) (A2 : Option Addr) (cap2 : Nat) (H : List RoadD) (w : World) (hr : Rd RoadD.cells 3 w 0 w.heap.size A L) (hr2 : Rd RoadD.cells 3 w 0 w.heap.size A2 H) (hm : L.length ≤ maxLen) (hm2 : H.length ≤ maxLen) :
    Calls Try.prog 16 #[.slice A L.length cap, .slice A2 H.length cap2] w (RetSl w 30 RoadD.cells 3 (missing L H) fun v => v) := by
  have hm2' := hm2
  unfold maxLen at hm hm2'
  by_cases h12 : L.length ≤ 64 ∧ H.length ≤ 64
  · obtain ⟨h1, h2⟩ := h12
    have hv := Lib.hid (missing_in (L := L) (H := H) (by omega) (by omega))
    have d1 : decide ((L.length : Int) ≤ 64) = true := by simp; omega
    have d2 : decide ((H.length : Int) ≤ 64) = true := by simp; omega
    go_enter Try.func16, Try.ntmps16
    go_wp2_with fail
    go_loopw [5, 6] (fun v i wr => ∃ k : Nat, k ≤ L.length ∧ i = .int .i64 k ∧ Own wr w.heap.size 30 RoadD.cells 3 v (missTo L H k) ∧ Below w.heap.size w wr) (fun _ i _ => L.length - (intOf i).toNat)
    case atStart => exact ⟨0, Nat.zero_le _, rfl, Own.empty _ _ _ (Nat.le_refl _), by go_grown⟩
    case round =>
      obtain ⟨k, hk, rfl, hO, hB⟩ := hrel
      have hBz := hB.size
      by_cases hlt : k < L.length
      · obtain ⟨g, o, rfl, _, hg, hcell⟩ := hr.at_ (by omega)
        have hx : ∀ j v, (L[k].cells)[j]? = some v → wr.cell? ⟨g, o + k * 3 + j, none⟩ = some v := fun j v hv => by
          have hj : j < 3 := (List.getElem?_eq_some_iff.1 hv).1
          rw [hB.cell (p := ⟨g, o + k * 3 + j, none⟩) hg, hcell k hlt j hj, hv]
        have HX := Lib.hid hx
        clear hx hcell
        have hki : (k : Int) < (L.length : Int) := by omega
        have hle := missTo_le L H k
        have HO := Lib.hid hO
        clear hO
        go_wp2_with (refine wpList_load_part rfl 30 (.tmp 27) rfl g _ rfl L[k].row _ HX.out Try.underlying30 rfl (by kernel_rfl) ?_)
        refine (l12Has_any A2 cap2 H L[k] _ (hr2.later hB (Nat.le_refl _) hB.size) hm2).mono ?_
        rintro e w1 ⟨rfl, hb1⟩
        have hz1 := hb1.size
        have hB1 : Below w.heap.size w w1 := hB.trans (hb1.mono hB.size)
        have HX1 : Hid (∀ j v, (L[k].cells)[j]? = some v → w1.cell? ⟨g, o + k * 3 + j, none⟩ = some v) := fun j v hv => by rw [hb1.cell (p := ⟨g, o + k * 3 + j, none⟩) (by show g < wr.heap.size; omega)]; exact HX.out j v hv
        have HO1 := Lib.hid (HO.out.later hb1 (Nat.le_refl _))
        by_cases ht : hasR H L[k] = true
        · have hs := Lib.hid (miss_no hlt ht)
          go_wp2
          go_roundw
          case rel => exact ⟨k + 1, by omega, by go_num, by rw [hs.out]; exact HO1.out, by (repeat' (first | (with_reducible exact Below.refl _ _) | (with_reducible assumption) | (with_reducible refine Below.alloc ?_ ?_ _) | (with_reducible refine Below.drew ?_) | (with_reducible refine below_drewN ?_ _) | (with_reducible refine Below.setCell ?_ ?_ _) | (with_reducible refine bvia ?_ (by with_reducible assumption) ?_) | go_size))⟩
          case measure => simp [intOf]; omega
        · have ht : hasR H L[k] = false := by simpa using ht
          have hs := Lib.hid (miss_yes hlt ht)
          go_wp2_with (first | (refine wpList_load_part rfl 30 (.tmp 34) rfl g _ rfl L[k].row _ HX1.out Try.underlying30 rfl (by kernel_rfl) ?_) | (at_builtin; refine wpList_append_rd _ rfl (.tmp 31) (.tmp 36) rfl slRoad RoadD.cells_length RoadD.one w.heap.size _ (missTo L H k) [L[k]] rfl (HO1.out.alloc _) (some ⟨w1.heap.size, 0, none⟩) 1 1 0 (w1.heap.size + 1) rfl rfl (rd_one _ _ _ _ RoadD.cells_length rfl _ rfl _ (by omega)) (by simp; omega) (by simp; omega) ?_; intro v2 w2 O2 G2 A2'))
          have hB2 : Below w.heap.size w w2 := Own.below2 G2 (HO1.out.alloc _) (by go_grown) (Nat.le_refl _) (by simp; omega)
          clear G2 A2'
          go_roundw
          case rel => exact ⟨k + 1, by omega, by go_num, by rw [hs.out]; exact O2, hB2⟩
          case measure => simp [intOf]; omega
      · obtain rfl : k = L.length := by omega
        rw [← hv.out] at hO
        go_wp2
        go_ret
        exact ⟨_, rfl, hO, hB⟩
  · have hv := Lib.hid (missing_out (L := L) (H := H) h12)
    have hd : Hid (¬ (L.length ≤ 64 ∧ H.length ≤ 64)) := h12
    clear h12
    go_enter Try.func16, Try.ntmps16
    go_wp2_with fail
    go_rounds 1
    all_goals first
      | (exfalso; have := hd.out; omega)
      | (go_ret; exact ⟨_, rfl, by rw [hv.out]; exact Own.empty _ _ _ (Nat.le_refl _), by go_grown⟩)
end Go.Proofs.Ytfhfanbigjpfaaa
