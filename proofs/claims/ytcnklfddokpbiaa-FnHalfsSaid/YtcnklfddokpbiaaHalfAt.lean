/- HalfAt (program and reference), and the walk of FnExactHalfAt: for every argument. -/
import Derived.Test.YtcnklfddokpbiaaHalfS
import Derived.Test.YtcnklfddokpbiaaFind
import Derived.Laws.StructEq
import Derived.StillTailTactics
namespace Go.Proofs.Ytcnklfddokpbiaa
set_option linter.unusedSimpArgs false
set_option linter.unusedVariables false
open Go.RowKit

abbrev rd (a b c : Int) : Value := .agg #[.int .i64 a, .int .i64 b, .int .i64 c]
/-- The road of a half. -/
def roadIs (a b c : Int) (h : HalfD) : Bool := h.fRoadOwn == a && (h.fRoadFar == b && h.fRoadPort == c)
/-- What HalfAt computes. -/
def halfAt (L : List HalfD) (a b c : Int) : Int := findI (roadIs a b c) L
/-- None of the first k passes the test. -/
def NoneTo {α : Type} (p : α → Bool) (L : List α) (k : Nat) : Prop := ∀ (i : Nat) (hi : i < L.length), i < k → p L[i] = false
theorem NoneTo.zero {α : Type} (p : α → Bool) (L : List α) : NoneTo p L 0 := fun i hi h => absurd h (by omega)
theorem NoneTo.succ {α : Type} {p : α → Bool} {L : List α} {k : Nat} (h : NoneTo p L k) (hk : k < L.length) (hn : p L[k] = false) : NoneTo p L (k + 1) := fun i hi hik => by
  rcases Nat.lt_or_ge i k with h' | h'
  · exact h i hi h'
  · obtain rfl : i = k := by omega
    exact hn
set_option maxHeartbeats 400000 in
theorem iHalfAt (A : Option Addr) (cap : Nat) (L : List HalfD) (a b c : Int) (w : World) (hr : Rd HalfD.cells 8 w 0 w.heap.size A L) (hn : L.length ≤ maxLen) :
    Calls Try.prog 13 #[.slice A L.length cap, rd a b c] w fun e w' => e = .returned (.int .i64 (halfAt L a b c)) ∧ Below w.heap.size w w' := by
  unfold maxLen at hn
  have hW : Below w.heap.size w (w.alloc (.cells #[.int .i64 a, .int .i64 b, .int .i64 c] 29)) := by go_grown
  go_enter Try.func13, Try.ntmps13
  go_wp2_with fail
  go_loopw [9] (fun i wr => ∃ k : Nat, k ≤ L.length ∧ i = .int .i64 k ∧ NoneTo (roadIs a b c) L k ∧ Below (w.alloc (.cells #[.int .i64 a, .int .i64 b, .int .i64 c] 29)).heap.size (w.alloc (.cells #[.int .i64 a, .int .i64 b, .int .i64 c] 29)) wr) (fun i _ => L.length - (intOf i).toNat)
  case atStart => exact ⟨0, Nat.zero_le _, rfl, NoneTo.zero _ _, Below.refl _ _⟩
  case round =>
    obtain ⟨k, hk, rfl, hN, hB⟩ := hrel
    have hBz := hB.size
    simp at hBz
    have hlz : w.heap.size < wr.heap.size := by omega
    have r0 : wr.cell? ⟨w.heap.size, 0, none⟩ = some (.int .i64 a) := by rw [hB.cell (by simp)]; simp
    have r1 : wr.cell? ⟨w.heap.size, 1, none⟩ = some (.int .i64 b) := by rw [hB.cell (by simp)]; simp
    have r2 : wr.cell? ⟨w.heap.size, 2, none⟩ = some (.int .i64 c) := by rw [hB.cell (by simp)]; simp
    have HB := Lib.hid hB
    have hBw : Below w.heap.size w wr := hW.trans (hB.mono (by simp))
    clear hB
    by_cases hlt : k < L.length
    · obtain ⟨g, o, rfl, _, hg, hcell⟩ := hr.at_ (by omega)
      have hx : ∀ j v, (L[k].cells)[j]? = some v → wr.cell? ⟨g, o + k * 8 + j, none⟩ = some v := fun j v hv => by
        have hj : j < 8 := (List.getElem?_eq_some_iff.1 hv).1
        rw [hBw.cell (p := ⟨g, o + k * 8 + j, none⟩) hg, hcell k hlt j hj, hv]
      have HX := Lib.hid hx
      clear hx hcell
      have hki : (k : Int) < (L.length : Int) := by omega
      go_wp2_with (refine wpList_load_part rfl 42 (.tmp 12) rfl g _ rfl L[k].row _ HX.out Try.underlying42 rfl (by kernel_rfl) ?_)
      · go_ret
        exact ⟨ret_int (findI_hit (roadIs a b c) L k hlt hN (by simp [roadIs, *])).symm, by (repeat' (first | (with_reducible exact Below.refl _ _) | (with_reducible assumption) | (with_reducible refine Below.alloc ?_ ?_ _) | (with_reducible refine Below.drew ?_) | (with_reducible refine below_drewN ?_ _) | (with_reducible refine Below.setCell ?_ ?_ _) | (with_reducible refine bvia ?_ (by with_reducible assumption) ?_) | go_size))⟩
      all_goals
        have hN' := hN.succ hlt (by simp [roadIs, *])
        have hB' := HB.out
        go_roundw
        case rel => exact ⟨k + 1, by omega, by go_num, hN', by (repeat' (first | (with_reducible exact Below.refl _ _) | (with_reducible assumption) | (with_reducible refine Below.alloc ?_ ?_ _) | (with_reducible refine Below.drew ?_) | (with_reducible refine below_drewN ?_ _) | (with_reducible refine Below.setCell ?_ ?_ _) | (with_reducible refine bvia ?_ (by with_reducible assumption) ?_) | go_size))⟩
        case measure => simp [intOf]; omega
    · obtain rfl : k = L.length := by omega
      have hv := Lib.hid (findI_none (roadIs a b c) L (fun i hi => hN i hi hi))
      go_wp2
      go_ret
      exact ⟨ret_int hv.out.symm, hBw⟩
set_option maxHeartbeats 400000 in
theorem sHalfAt (A : Option Addr) (cap : Nat) (L : List HalfD) (a b c : Int) (w : World) (hr : Rd HalfD.cells 8 w 0 w.heap.size A L) (hn : L.length ≤ maxLen) :
    Calls Try.prog 10 #[.slice A L.length cap, rd a b c] w fun e w' => e = .returned (.int .i64 (halfAt L a b c)) ∧ Below w.heap.size w w' := by
  unfold maxLen at hn
  have hW : Below w.heap.size w (w.alloc (.cells #[.int .i64 a, .int .i64 b, .int .i64 c] 29)) := by go_grown
  go_enter Try.func10, Try.ntmps10
  go_wp2_with fail
  go_loopw [5] (fun i wr => ∃ k : Nat, k ≤ L.length ∧ i = .int .i64 k ∧ NoneTo (roadIs a b c) L k ∧ Below (w.alloc (.cells #[.int .i64 a, .int .i64 b, .int .i64 c] 29)).heap.size (w.alloc (.cells #[.int .i64 a, .int .i64 b, .int .i64 c] 29)) wr) (fun i _ => L.length - (intOf i).toNat)
  case atStart => exact ⟨0, Nat.zero_le _, rfl, NoneTo.zero _ _, Below.refl _ _⟩
  case round =>
    obtain ⟨k, hk, rfl, hN, hB⟩ := hrel
    have hBz := hB.size
    simp at hBz
    have hlz : w.heap.size < wr.heap.size := by omega
    have r0 : wr.cell? ⟨w.heap.size, 0, none⟩ = some (.int .i64 a) := by rw [hB.cell (by simp)]; simp
    have r1 : wr.cell? ⟨w.heap.size, 1, none⟩ = some (.int .i64 b) := by rw [hB.cell (by simp)]; simp
    have r2 : wr.cell? ⟨w.heap.size, 2, none⟩ = some (.int .i64 c) := by rw [hB.cell (by simp)]; simp
    have HB := Lib.hid hB
    have hBw : Below w.heap.size w wr := hW.trans (hB.mono (by simp))
    clear hB
    by_cases hlt : k < L.length
    · obtain ⟨g, o, rfl, _, hg, hcell⟩ := hr.at_ (by omega)
      have hx : ∀ j v, (L[k].cells)[j]? = some v → wr.cell? ⟨g, o + k * 8 + j, none⟩ = some v := fun j v hv => by
        have hj : j < 8 := (List.getElem?_eq_some_iff.1 hv).1
        rw [hBw.cell (p := ⟨g, o + k * 8 + j, none⟩) hg, hcell k hlt j hj, hv]
      have a0 : wr.cell? ⟨g, o + k * 8, none⟩ = some (.int .i64 L[k].fRoadOwn) := hx 0 _ rfl
      have a1 : wr.cell? ⟨g, o + k * 8 + 1, none⟩ = some (.int .i64 L[k].fRoadFar) := hx 1 _ rfl
      have a2 : wr.cell? ⟨g, o + k * 8 + 2, none⟩ = some (.int .i64 L[k].fRoadPort) := hx 2 _ rfl
      clear hx hcell
      have hki : (k : Int) < (L.length : Int) := by omega
      have hk0 : (0 : Int) ≤ (k : Int) := by omega
      go_wp2
      go_still_tail 6, (by kernel_rfl)
      go_wp2
      · go_ret
        exact ⟨ret_int (findI_hit (roadIs a b c) L k hlt hN (by simp [roadIs, *])).symm, by (repeat' (first | (with_reducible exact Below.refl _ _) | (with_reducible assumption) | (with_reducible refine Below.alloc ?_ ?_ _) | (with_reducible refine Below.drew ?_) | (with_reducible refine below_drewN ?_ _) | (with_reducible refine Below.setCell ?_ ?_ _) | (with_reducible refine bvia ?_ (by with_reducible assumption) ?_) | go_size))⟩
      all_goals
        have hN' := hN.succ hlt (by simp [roadIs, *])
        have hB' := HB.out
        go_roundw
        case rel => exact ⟨k + 1, by omega, by go_num, hN', by (repeat' (first | (with_reducible exact Below.refl _ _) | (with_reducible assumption) | (with_reducible refine Below.alloc ?_ ?_ _) | (with_reducible refine Below.drew ?_) | (with_reducible refine below_drewN ?_ _) | (with_reducible refine Below.setCell ?_ ?_ _) | (with_reducible refine bvia ?_ (by with_reducible assumption) ?_) | go_size))⟩
        case measure => simp [intOf]; omega
    · obtain rfl : k = L.length := by omega
      have hv := Lib.hid (findI_none (roadIs a b c) L (fun i hi => hN i hi hi))
      go_wp2
      go_ret
      exact ⟨ret_int hv.out.symm, hBw⟩
end Go.Proofs.Ytcnklfddokpbiaa
