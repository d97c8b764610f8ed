/- The walk of FnExactHalfAt: for every argument. -/
import Derived.Test.YtcnklfddokpbiaaHalfAt
import Derived.Deep.RegionHeld3
namespace Go.Proofs.Ytcnklfddokpbiaa
set_option linter.unusedSimpArgs false
set_option linter.unusedVariables false
open Go.RowKit

theorem toRoad_any (a b c : Int) (w : World) : Calls Try.prog 12 #[rd a b c] w fun e w' => e = .returned (rd a b c) ∧ Below w.heap.size w w' := by
  go_enter Try.func12, Try.ntmps12
  go_wp2
  go_returns
  exact ⟨rfl, by go_grown⟩
set_option maxHeartbeats 1000000 in
theorem walk_FnExactHalfAt (A : Option Addr) (cap : Nat) (L : List HalfD) (x : RoadD) (w : World) (hle : L.length ≤ cap) (hcap : cap ≤ maxLen) (_ : ∀ x ∈ L, x.wf) (hr : Rd HalfD.cells 8 w 0 w.heap.size A L) (_ : x.wf) :
    Calls Try.prog 3 #[.slice A L.length cap, x.val] w fun e w' => e = .returned (.bool true) ∧ Below w.heap.size w w' := by
  obtain ⟨a, b, c⟩ := x
  have hm : L.length ≤ maxLen := Nat.le_trans hle hcap
  have hW : Below w.heap.size w (w.alloc (.cells #[.int .i64 a, .int .i64 b, .int .i64 c] 24)) := by go_grown
  have hr0 := hr.later hW (Nat.le_refl _) hW.size
  by_cases h : (L.length : Int) ≤ 1048576
  · have hv : Hid (szI 1048576 L.length = 1048576 - L.length) := if_pos h
    have hn : L.length ≤ 1048576 := by omega
    go_enter Try.func3, Try.ntmps3
    go_wp2_with fail
    refine (szHalfS_any _ _ _ _ _ (by omega) (by omega) hm).mono ?_
    rintro e w0 ⟨rfl, rfl⟩
    rw [hv.out]
    go_wp2_with fail
    go_region_held3 (fun w' => w'.cell? ⟨w.heap.size, 0, none⟩ = some (.int .i64 a) ∧ w'.cell? ⟨w.heap.size, 1, none⟩ = some (.int .i64 b) ∧ w'.cell? ⟨w.heap.size, 2, none⟩ = some (.int .i64 c)) (first | (refine ⟨?_, ?_, ?_⟩ <;> assumption) | go_keep)
      (first
        | (go_at_call 11; refine (toHalfS_any A cap L _ (by exact hr0) hn).mono ?_; rintro e w1 ⟨rfl, F1, hb1⟩; have r10 : w1.cell? ⟨w.heap.size, 0, none⟩ = some (.int .i64 a) := (by rw [hb1.cell (by simp)]; simp); have r11 : w1.cell? ⟨w.heap.size, 1, none⟩ = some (.int .i64 b) := (by rw [hb1.cell (by simp)]; simp); have r12 : w1.cell? ⟨w.heap.size, 2, none⟩ = some (.int .i64 c) := (by rw [hb1.cell (by simp)]; simp); (try simp only [World.size_alloc, World.size_drew] at F1); have HF1 := Lib.hid F1; clear F1; have hz1 := hb1.size; simp at hz1)
        | (go_at_call 12; refine (toRoad_any a b c _).mono ?_; rintro e w2 ⟨rfl, hb2⟩; have r20 : w2.cell? ⟨w.heap.size, 0, none⟩ = some (.int .i64 a) := (by rw [hb2.cell (by show w.heap.size < w1.heap.size; omega)]; exact r10); have r21 : w2.cell? ⟨w.heap.size, 1, none⟩ = some (.int .i64 b) := (by rw [hb2.cell (by show w.heap.size < w1.heap.size; omega)]; exact r11); have r22 : w2.cell? ⟨w.heap.size, 2, none⟩ = some (.int .i64 c) := (by rw [hb2.cell (by show w.heap.size < w1.heap.size; omega)]; exact r12); have hz2 := hb2.size)
        | (go_at_call 10; refine (sHalfAt _ _ L a b c _ (by exact (rd_of_fresh HalfD.cells_length 0 (Nat.zero_le _) HF1.out).later hb2 (Nat.le_refl _) hz2) hm).mono ?_; rintro e w3 ⟨rfl, hb3⟩; have r30 : w3.cell? ⟨w.heap.size, 0, none⟩ = some (.int .i64 a) := (by rw [hb3.cell (by show w.heap.size < w2.heap.size; omega)]; exact r20); have r31 : w3.cell? ⟨w.heap.size, 1, none⟩ = some (.int .i64 b) := (by rw [hb3.cell (by show w.heap.size < w2.heap.size; omega)]; exact r21); have r32 : w3.cell? ⟨w.heap.size, 2, none⟩ = some (.int .i64 c) := (by rw [hb3.cell (by show w.heap.size < w2.heap.size; omega)]; exact r22); have hz3 := hb3.size))
    have hB1 : Below w.heap.size w w1 := hW.trans (Below.trans (Below.drew (Below.refl _ _)) (hb1.mono (by simp)))
    have hB3 : Below w.heap.size w w3 := (hB1.trans (hb2.mono (by omega))).trans (hb3.mono (by omega))
    go_wp2_with fail
    refine (toHalfS_any A cap L _ (hr.later hB3 (Nat.le_refl _) (by omega)) hn).mono ?_
    rintro e w4 ⟨rfl, F4, hb4⟩
    have hz4 := hb4.size
    have HF4 := Lib.hid F4
    clear F4
    have hl4 : w3.heap.size < w4.heap.size := (Array.getElem?_eq_some_iff.1 HF4.out).1
    have r40 : w4.cell? ⟨w.heap.size, 0, none⟩ = some (.int .i64 a) := (by rw [hb4.cell (by show w.heap.size < w3.heap.size; omega)]; exact r30)
    have r41 : w4.cell? ⟨w.heap.size, 1, none⟩ = some (.int .i64 b) := (by rw [hb4.cell (by show w.heap.size < w3.heap.size; omega)]; exact r31)
    have r42 : w4.cell? ⟨w.heap.size, 2, none⟩ = some (.int .i64 c) := (by rw [hb4.cell (by show w.heap.size < w3.heap.size; omega)]; exact r32)
    clear r10 r11 r12 r20 r21 r22 r30 r31 r32
    go_wp2_with fail
    refine (toRoad_any a b c _).mono ?_
    rintro e w5 ⟨rfl, hb5⟩
    have hz5 := hb5.size
    go_wp2_with fail
    refine (iHalfAt _ _ L a b c _ ((rd_of_fresh HalfD.cells_length 0 (Nat.zero_le _) HF4.out).later hb5 (Nat.le_refl _) hz5) hm).mono ?_
    rintro e w6 ⟨rfl, hb6⟩
    have hz6 := hb6.size
    have hB6 : Below w.heap.size w w6 := ((hB3.trans (hb4.mono (by omega))).trans (hb5.mono (by omega))).trans (hb6.mono (by omega))
    go_wp2_with fail
    refine (toHalfS_any A cap L _ (hr.later hB6 (Nat.le_refl _) (by omega)) hn).mono ?_
    rintro e w7 ⟨rfl, F7, hb7⟩
    have hz7 := hb7.size
    have HF7 := Lib.hid F7
    clear F7
    go_wp2_with fail
    refine (eqHalfS_same _ _ _ _ L _ ((((rd_of_fresh HalfD.cells_length 0 (Nat.zero_le _) HF4.out).later hb5 (Nat.le_refl _) hz5).later hb6 (Nat.le_refl _) hz6).later hb7 (Nat.le_refl _) hz7) (rd_of_fresh HalfD.cells_length 0 (Nat.zero_le _) HF7.out) hm).mono ?_
    rintro e w8 ⟨rfl, hb8⟩
    go_wp2
    go_ret
    exact ⟨rfl, (hB6.trans (hb7.mono (by omega))).trans (hb8.mono (by omega))⟩
  · have hv : Hid (szI 1048576 L.length = -1) := if_neg h
    go_enter Try.func3, Try.ntmps3
    go_wp2_with fail
    refine (szHalfS_any _ _ _ _ _ (by omega) (by omega) hm).mono ?_
    rintro e w0 ⟨rfl, rfl⟩
    rw [hv.out]
    go_wp2
    go_ret
    exact ⟨rfl, hW⟩
end Go.Proofs.Ytcnklfddokpbiaa
