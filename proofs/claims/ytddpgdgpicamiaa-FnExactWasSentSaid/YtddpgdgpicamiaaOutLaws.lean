/- The walks of FnExactOutOk, FnExactNextPiece, FnExactAnew, FnExactCame, FnExactAccept, FnExactWasSent: each law returns true for every argument. -/
import Derived.Test.YtddpgdgpicamiaaOut4
namespace Go.Proofs.Ytddpgdgpicamiaa
set_option linter.unusedSimpArgs false
set_option linter.unusedVariables false
open Go.RowKit

theorem eqPiece_same (a : Int) (s : ByteArray) (w : World) : Calls Try.prog 16 #[pc a s, pc a s] w fun e w' => e = .returned (.bool true) ∧ Below w.heap.size w w' := by
  go_enter Try.func16, Try.ntmps16
  go_wp2
  go_ret
  exact ⟨rfl, by go_grown⟩
set_option maxHeartbeats 400000 in
theorem walk_FnExactOutOk (x : OutD)  (w : World) (hx : x.wf)  : Calls Try.prog 3 #[x.val] w fun e w' => e = .returned (.bool true) ∧ Below w.heap.size w w' := by
  obtain ⟨s, b, n, r⟩ := x
  obtain ⟨hs, -, hn, -⟩ := hx
  simp only at hs hn
  by_cases h : (s.size : Int) ≤ 1048576
  · have hv : Hid (szI 1048576 s.size = 1048576 - s.size) := if_pos h
    go_enter Try.func3, Try.ntmps3
    go_wp2_with fail
    refine (szOut_any _ _ _ _ _ _ (by omega) (by omega) hs).mono ?_
    rintro e w1 ⟨rfl, hb1⟩
    obtain ⟨hc, hf⟩ := bcell hb1
    have hc1_0 := fun o => hc (w.heap.size) o (by go_size)
    have hf1_0 := fun o => hf (w.heap.size) o (by go_size)
    have hz1_0 : w.heap.size < w1.heap.size := Nat.lt_of_lt_of_le (by go_size) hb1.size
    clear hc hf
    have hz1 := hb1.size
    try simp at hz1
    rw [hv.out]
    go_wp2_with fail
    refine (toOut_any _ _ _ _ _).mono ?_
    rintro e w2 ⟨rfl, hb2⟩
    obtain ⟨hc, hf⟩ := bcell hb2
    have hc2_0 := fun o => hc (w.heap.size) o (by go_size)
    have hf2_0 := fun o => hf (w.heap.size) o (by go_size)
    have hz2_0 : w.heap.size < w2.heap.size := Nat.lt_of_lt_of_le (by go_size) hb2.size
    clear hc hf
    have hz2 := hb2.size
    try simp at hz2
    go_wp2_with fail
    refine (sOutOk _ _ _ _ _ hs).mono ?_
    rintro e w3 ⟨rfl, hb3⟩
    obtain ⟨hc, hf⟩ := bcell hb3
    have hc3_0 := fun o => hc (w.heap.size) o (by go_size)
    have hf3_0 := fun o => hf (w.heap.size) o (by go_size)
    have hz3_0 : w.heap.size < w3.heap.size := Nat.lt_of_lt_of_le (by go_size) hb3.size
    clear hc hf
    have hz3 := hb3.size
    try simp at hz3
    go_wp2_with fail
    refine (toOut_any _ _ _ _ _).mono ?_
    rintro e w4 ⟨rfl, hb4⟩
    obtain ⟨hc, hf⟩ := bcell hb4
    have hc4_0 := fun o => hc (w.heap.size) o (by go_size)
    have hf4_0 := fun o => hf (w.heap.size) o (by go_size)
    have hz4_0 : w.heap.size < w4.heap.size := Nat.lt_of_lt_of_le (by go_size) hb4.size
    clear hc hf
    have hz4 := hb4.size
    try simp at hz4
    go_wp2_with fail
    refine (iOutOk _ _ _ _ _ hs).mono ?_
    rintro e w5 ⟨rfl, hb5⟩
    obtain ⟨hc, hf⟩ := bcell hb5
    have hc5_0 := fun o => hc (w.heap.size) o (by go_size)
    have hf5_0 := fun o => hf (w.heap.size) o (by go_size)
    have hz5_0 : w.heap.size < w5.heap.size := Nat.lt_of_lt_of_le (by go_size) hb5.size
    clear hc hf
    have hz5 := hb5.size
    try simp at hz5
    go_wp2
    go_ret
    exact ⟨rfl, by (repeat' (first | (with_reducible exact Below.refl _ _) | (with_reducible assumption) | (with_reducible refine Below.alloc ?_ ?_ _) | (with_reducible refine Below.drew ?_) | (with_reducible refine below_drewN ?_ _) | (with_reducible refine Below.setCell ?_ ?_ _) | (with_reducible refine bvia ?_ (by with_reducible assumption) ?_) | go_size))⟩
  · have hv : Hid (szI 1048576 s.size = -1) := if_neg h
    go_enter Try.func3, Try.ntmps3
    go_wp2_with fail
    refine (szOut_any _ _ _ _ _ _ (by omega) (by omega) hs).mono ?_
    rintro e w1 ⟨rfl, hb1⟩
    obtain ⟨hc, hf⟩ := bcell hb1
    have hc1_0 := fun o => hc (w.heap.size) o (by go_size)
    have hf1_0 := fun o => hf (w.heap.size) o (by go_size)
    have hz1_0 : w.heap.size < w1.heap.size := Nat.lt_of_lt_of_le (by go_size) hb1.size
    clear hc hf
    have hz1 := hb1.size
    try simp at hz1
    rw [hv.out]
    go_wp2
    go_ret
    exact ⟨rfl, by (repeat' (first | (with_reducible exact Below.refl _ _) | (with_reducible assumption) | (with_reducible refine Below.alloc ?_ ?_ _) | (with_reducible refine Below.drew ?_) | (with_reducible refine below_drewN ?_ _) | (with_reducible refine Below.setCell ?_ ?_ _) | (with_reducible refine bvia ?_ (by with_reducible assumption) ?_) | go_size))⟩
set_option maxHeartbeats 400000 in
theorem walk_FnExactNextPiece (x : OutD)  (w : World) (hx : x.wf)  : Calls Try.prog 4 #[x.val] w fun e w' => e = .returned (.bool true) ∧ Below w.heap.size w w' := by
  obtain ⟨s, b, n, r⟩ := x
  obtain ⟨hs, -, hn, -⟩ := hx
  simp only at hs hn
  by_cases h : (s.size : Int) ≤ 1048576
  · have hv : Hid (szI 1048576 s.size = 1048576 - s.size) := if_pos h
    go_enter Try.func4, Try.ntmps4
    go_wp2_with fail
    refine (szOut_any _ _ _ _ _ _ (by omega) (by omega) hs).mono ?_
    rintro e w1 ⟨rfl, hb1⟩
    obtain ⟨hc, hf⟩ := bcell hb1
    have hc1_0 := fun o => hc (w.heap.size) o (by go_size)
    have hf1_0 := fun o => hf (w.heap.size) o (by go_size)
    have hz1_0 : w.heap.size < w1.heap.size := Nat.lt_of_lt_of_le (by go_size) hb1.size
    clear hc hf
    have hz1 := hb1.size
    try simp at hz1
    rw [hv.out]
    go_wp2_with fail
    refine (toOut_any _ _ _ _ _).mono ?_
    rintro e w2 ⟨rfl, hb2⟩
    obtain ⟨hc, hf⟩ := bcell hb2
    have hc2_0 := fun o => hc (w.heap.size) o (by go_size)
    have hf2_0 := fun o => hf (w.heap.size) o (by go_size)
    have hz2_0 : w.heap.size < w2.heap.size := Nat.lt_of_lt_of_le (by go_size) hb2.size
    clear hc hf
    have hz2 := hb2.size
    try simp at hz2
    go_wp2_with fail
    refine (sNextPiece _ _ _ _ _ hs).mono ?_
    rintro e w3 ⟨rfl, hb3⟩
    obtain ⟨hc, hf⟩ := bcell hb3
    have hc3_0 := fun o => hc (w.heap.size) o (by go_size)
    have hf3_0 := fun o => hf (w.heap.size) o (by go_size)
    have hz3_0 : w.heap.size < w3.heap.size := Nat.lt_of_lt_of_le (by go_size) hb3.size
    clear hc hf
    have hz3 := hb3.size
    try simp at hz3
    go_wp2_with fail
    refine (toOut_any _ _ _ _ _).mono ?_
    rintro e w4 ⟨rfl, hb4⟩
    obtain ⟨hc, hf⟩ := bcell hb4
    have hc4_0 := fun o => hc (w.heap.size) o (by go_size)
    have hf4_0 := fun o => hf (w.heap.size) o (by go_size)
    have hz4_0 : w.heap.size < w4.heap.size := Nat.lt_of_lt_of_le (by go_size) hb4.size
    have hc4_1 := fun o => hc (w3.heap.size) o (by go_size)
    have hf4_1 := fun o => hf (w3.heap.size) o (by go_size)
    have hz4_1 : w3.heap.size < w4.heap.size := Nat.lt_of_lt_of_le (by go_size) hb4.size
    clear hc hf
    have hz4 := hb4.size
    try simp at hz4
    go_wp2_with fail
    refine (iNextPiece _ _ _ _ _ hs).mono ?_
    rintro e w5 ⟨rfl, hb5⟩
    obtain ⟨hc, hf⟩ := bcell hb5
    have hc5_0 := fun o => hc (w.heap.size) o (by go_size)
    have hf5_0 := fun o => hf (w.heap.size) o (by go_size)
    have hz5_0 : w.heap.size < w5.heap.size := Nat.lt_of_lt_of_le (by go_size) hb5.size
    have hc5_1 := fun o => hc (w3.heap.size) o (by go_size)
    have hf5_1 := fun o => hf (w3.heap.size) o (by go_size)
    have hz5_1 : w3.heap.size < w5.heap.size := Nat.lt_of_lt_of_le (by go_size) hb5.size
    clear hc hf
    have hz5 := hb5.size
    try simp at hz5
    go_wp2_with fail
    refine (eqPiece_same _ _ _).mono ?_
    rintro e w6 ⟨rfl, hb6⟩
    have hz6 := hb6.size
    try simp at hz6
    go_wp2
    go_ret
    exact ⟨rfl, by (repeat' (first | (with_reducible exact Below.refl _ _) | (with_reducible assumption) | (with_reducible refine Below.alloc ?_ ?_ _) | (with_reducible refine Below.drew ?_) | (with_reducible refine below_drewN ?_ _) | (with_reducible refine Below.setCell ?_ ?_ _) | (with_reducible refine bvia ?_ (by with_reducible assumption) ?_) | go_size))⟩
  · have hv : Hid (szI 1048576 s.size = -1) := if_neg h
    go_enter Try.func4, Try.ntmps4
    go_wp2_with fail
    refine (szOut_any _ _ _ _ _ _ (by omega) (by omega) hs).mono ?_
    rintro e w1 ⟨rfl, hb1⟩
    obtain ⟨hc, hf⟩ := bcell hb1
    have hc1_0 := fun o => hc (w.heap.size) o (by go_size)
    have hf1_0 := fun o => hf (w.heap.size) o (by go_size)
    have hz1_0 : w.heap.size < w1.heap.size := Nat.lt_of_lt_of_le (by go_size) hb1.size
    clear hc hf
    have hz1 := hb1.size
    try simp at hz1
    rw [hv.out]
    go_wp2
    go_ret
    exact ⟨rfl, by (repeat' (first | (with_reducible exact Below.refl _ _) | (with_reducible assumption) | (with_reducible refine Below.alloc ?_ ?_ _) | (with_reducible refine Below.drew ?_) | (with_reducible refine below_drewN ?_ _) | (with_reducible refine Below.setCell ?_ ?_ _) | (with_reducible refine bvia ?_ (by with_reducible assumption) ?_) | go_size))⟩
set_option maxHeartbeats 400000 in
theorem walk_FnExactAnew (x : OutD)  (w : World) (hx : x.wf)  : Calls Try.prog 5 #[x.val] w fun e w' => e = .returned (.bool true) ∧ Below w.heap.size w w' := by
  obtain ⟨s, b, n, r⟩ := x
  obtain ⟨hs, -, hn, -⟩ := hx
  simp only at hs hn
  by_cases h : (s.size : Int) ≤ 1048576
  · have hv : Hid (szI 1048576 s.size = 1048576 - s.size) := if_pos h
    go_enter Try.func5, Try.ntmps5
    go_wp2_with fail
    refine (szOut_any _ _ _ _ _ _ (by omega) (by omega) hs).mono ?_
    rintro e w1 ⟨rfl, hb1⟩
    obtain ⟨hc, hf⟩ := bcell hb1
    have hc1_0 := fun o => hc (w.heap.size) o (by go_size)
    have hf1_0 := fun o => hf (w.heap.size) o (by go_size)
    have hz1_0 : w.heap.size < w1.heap.size := Nat.lt_of_lt_of_le (by go_size) hb1.size
    clear hc hf
    have hz1 := hb1.size
    try simp at hz1
    rw [hv.out]
    go_wp2_with fail
    refine (toOut_any _ _ _ _ _).mono ?_
    rintro e w2 ⟨rfl, hb2⟩
    obtain ⟨hc, hf⟩ := bcell hb2
    have hc2_0 := fun o => hc (w.heap.size) o (by go_size)
    have hf2_0 := fun o => hf (w.heap.size) o (by go_size)
    have hz2_0 : w.heap.size < w2.heap.size := Nat.lt_of_lt_of_le (by go_size) hb2.size
    clear hc hf
    have hz2 := hb2.size
    try simp at hz2
    go_wp2_with fail
    refine (sAnew _ _ _ _ _ hs).mono ?_
    rintro e w3 ⟨rfl, hb3⟩
    obtain ⟨hc, hf⟩ := bcell hb3
    have hc3_0 := fun o => hc (w.heap.size) o (by go_size)
    have hf3_0 := fun o => hf (w.heap.size) o (by go_size)
    have hz3_0 : w.heap.size < w3.heap.size := Nat.lt_of_lt_of_le (by go_size) hb3.size
    clear hc hf
    have hz3 := hb3.size
    try simp at hz3
    go_wp2_with fail
    refine (toOut_any _ _ _ _ _).mono ?_
    rintro e w4 ⟨rfl, hb4⟩
    obtain ⟨hc, hf⟩ := bcell hb4
    have hc4_0 := fun o => hc (w.heap.size) o (by go_size)
    have hf4_0 := fun o => hf (w.heap.size) o (by go_size)
    have hz4_0 : w.heap.size < w4.heap.size := Nat.lt_of_lt_of_le (by go_size) hb4.size
    have hc4_1 := fun o => hc (w3.heap.size) o (by go_size)
    have hf4_1 := fun o => hf (w3.heap.size) o (by go_size)
    have hz4_1 : w3.heap.size < w4.heap.size := Nat.lt_of_lt_of_le (by go_size) hb4.size
    clear hc hf
    have hz4 := hb4.size
    try simp at hz4
    go_wp2_with fail
    refine (iAnew _ _ _ _ _ hs).mono ?_
    rintro e w5 ⟨rfl, hb5⟩
    obtain ⟨hc, hf⟩ := bcell hb5
    have hc5_0 := fun o => hc (w.heap.size) o (by go_size)
    have hf5_0 := fun o => hf (w.heap.size) o (by go_size)
    have hz5_0 : w.heap.size < w5.heap.size := Nat.lt_of_lt_of_le (by go_size) hb5.size
    have hc5_1 := fun o => hc (w3.heap.size) o (by go_size)
    have hf5_1 := fun o => hf (w3.heap.size) o (by go_size)
    have hz5_1 : w3.heap.size < w5.heap.size := Nat.lt_of_lt_of_le (by go_size) hb5.size
    clear hc hf
    have hz5 := hb5.size
    try simp at hz5
    go_wp2_with fail
    refine (eqOut_same _ _ _ _ _).mono ?_
    rintro e w6 ⟨rfl, hb6⟩
    have hz6 := hb6.size
    try simp at hz6
    go_wp2
    go_ret
    exact ⟨rfl, by (repeat' (first | (with_reducible exact Below.refl _ _) | (with_reducible assumption) | (with_reducible refine Below.alloc ?_ ?_ _) | (with_reducible refine Below.drew ?_) | (with_reducible refine below_drewN ?_ _) | (with_reducible refine Below.setCell ?_ ?_ _) | (with_reducible refine bvia ?_ (by with_reducible assumption) ?_) | go_size))⟩
  · have hv : Hid (szI 1048576 s.size = -1) := if_neg h
    go_enter Try.func5, Try.ntmps5
    go_wp2_with fail
    refine (szOut_any _ _ _ _ _ _ (by omega) (by omega) hs).mono ?_
    rintro e w1 ⟨rfl, hb1⟩
    obtain ⟨hc, hf⟩ := bcell hb1
    have hc1_0 := fun o => hc (w.heap.size) o (by go_size)
    have hf1_0 := fun o => hf (w.heap.size) o (by go_size)
    have hz1_0 : w.heap.size < w1.heap.size := Nat.lt_of_lt_of_le (by go_size) hb1.size
    clear hc hf
    have hz1 := hb1.size
    try simp at hz1
    rw [hv.out]
    go_wp2
    go_ret
    exact ⟨rfl, by (repeat' (first | (with_reducible exact Below.refl _ _) | (with_reducible assumption) | (with_reducible refine Below.alloc ?_ ?_ _) | (with_reducible refine Below.drew ?_) | (with_reducible refine below_drewN ?_ _) | (with_reducible refine Below.setCell ?_ ?_ _) | (with_reducible refine bvia ?_ (by with_reducible assumption) ?_) | go_size))⟩
set_option maxHeartbeats 400000 in
theorem walk_FnExactCame (x : OutD) (u : Int) (w : World) (hx : x.wf) (_ : (-9223372036854775808 ≤ u ∧ u ≤ 9223372036854775807)) : Calls Try.prog 6 #[x.val, .int .i64 u] w fun e w' => e = .returned (.bool true) ∧ Below w.heap.size w w' := by
  obtain ⟨s, b, n, r⟩ := x
  obtain ⟨hs, -, hn, -⟩ := hx
  simp only at hs hn
  by_cases h : (s.size : Int) ≤ 1048576
  · have hv : Hid (szI 1048576 s.size = 1048576 - s.size) := if_pos h
    go_enter Try.func6, Try.ntmps6
    go_wp2_with fail
    refine (szOut_any _ _ _ _ _ _ (by omega) (by omega) hs).mono ?_
    rintro e w1 ⟨rfl, hb1⟩
    obtain ⟨hc, hf⟩ := bcell hb1
    have hc1_0 := fun o => hc (w.heap.size) o (by go_size)
    have hf1_0 := fun o => hf (w.heap.size) o (by go_size)
    have hz1_0 : w.heap.size < w1.heap.size := Nat.lt_of_lt_of_le (by go_size) hb1.size
    clear hc hf
    have hz1 := hb1.size
    try simp at hz1
    rw [hv.out]
    go_wp2_with fail
    refine (toOut_any _ _ _ _ _).mono ?_
    rintro e w2 ⟨rfl, hb2⟩
    obtain ⟨hc, hf⟩ := bcell hb2
    have hc2_0 := fun o => hc (w.heap.size) o (by go_size)
    have hf2_0 := fun o => hf (w.heap.size) o (by go_size)
    have hz2_0 : w.heap.size < w2.heap.size := Nat.lt_of_lt_of_le (by go_size) hb2.size
    clear hc hf
    have hz2 := hb2.size
    try simp at hz2
    go_wp2_with fail
    refine (sCame _ _ _ _ _ _ hs).mono ?_
    rintro e w3 ⟨rfl, hb3⟩
    obtain ⟨hc, hf⟩ := bcell hb3
    have hc3_0 := fun o => hc (w.heap.size) o (by go_size)
    have hf3_0 := fun o => hf (w.heap.size) o (by go_size)
    have hz3_0 : w.heap.size < w3.heap.size := Nat.lt_of_lt_of_le (by go_size) hb3.size
    clear hc hf
    have hz3 := hb3.size
    try simp at hz3
    go_wp2_with fail
    refine (toOut_any _ _ _ _ _).mono ?_
    rintro e w4 ⟨rfl, hb4⟩
    obtain ⟨hc, hf⟩ := bcell hb4
    have hc4_0 := fun o => hc (w.heap.size) o (by go_size)
    have hf4_0 := fun o => hf (w.heap.size) o (by go_size)
    have hz4_0 : w.heap.size < w4.heap.size := Nat.lt_of_lt_of_le (by go_size) hb4.size
    have hc4_1 := fun o => hc (w3.heap.size) o (by go_size)
    have hf4_1 := fun o => hf (w3.heap.size) o (by go_size)
    have hz4_1 : w3.heap.size < w4.heap.size := Nat.lt_of_lt_of_le (by go_size) hb4.size
    clear hc hf
    have hz4 := hb4.size
    try simp at hz4
    go_wp2_with fail
    refine (iCame _ _ _ _ _ _ hs).mono ?_
    rintro e w5 ⟨rfl, hb5⟩
    obtain ⟨hc, hf⟩ := bcell hb5
    have hc5_0 := fun o => hc (w.heap.size) o (by go_size)
    have hf5_0 := fun o => hf (w.heap.size) o (by go_size)
    have hz5_0 : w.heap.size < w5.heap.size := Nat.lt_of_lt_of_le (by go_size) hb5.size
    have hc5_1 := fun o => hc (w3.heap.size) o (by go_size)
    have hf5_1 := fun o => hf (w3.heap.size) o (by go_size)
    have hz5_1 : w3.heap.size < w5.heap.size := Nat.lt_of_lt_of_le (by go_size) hb5.size
    clear hc hf
    have hz5 := hb5.size
    try simp at hz5
    go_wp2_with fail
    refine (eqOut_same _ _ _ _ _).mono ?_
    rintro e w6 ⟨rfl, hb6⟩
    have hz6 := hb6.size
    try simp at hz6
    go_wp2
    go_ret
    exact ⟨rfl, by (repeat' (first | (with_reducible exact Below.refl _ _) | (with_reducible assumption) | (with_reducible refine Below.alloc ?_ ?_ _) | (with_reducible refine Below.drew ?_) | (with_reducible refine below_drewN ?_ _) | (with_reducible refine Below.setCell ?_ ?_ _) | (with_reducible refine bvia ?_ (by with_reducible assumption) ?_) | go_size))⟩
  · have hv : Hid (szI 1048576 s.size = -1) := if_neg h
    go_enter Try.func6, Try.ntmps6
    go_wp2_with fail
    refine (szOut_any _ _ _ _ _ _ (by omega) (by omega) hs).mono ?_
    rintro e w1 ⟨rfl, hb1⟩
    obtain ⟨hc, hf⟩ := bcell hb1
    have hc1_0 := fun o => hc (w.heap.size) o (by go_size)
    have hf1_0 := fun o => hf (w.heap.size) o (by go_size)
    have hz1_0 : w.heap.size < w1.heap.size := Nat.lt_of_lt_of_le (by go_size) hb1.size
    clear hc hf
    have hz1 := hb1.size
    try simp at hz1
    rw [hv.out]
    go_wp2
    go_ret
    exact ⟨rfl, by (repeat' (first | (with_reducible exact Below.refl _ _) | (with_reducible assumption) | (with_reducible refine Below.alloc ?_ ?_ _) | (with_reducible refine Below.drew ?_) | (with_reducible refine below_drewN ?_ _) | (with_reducible refine Below.setCell ?_ ?_ _) | (with_reducible refine bvia ?_ (by with_reducible assumption) ?_) | go_size))⟩
set_option maxHeartbeats 400000 in
theorem walk_FnExactWasSent (x : OutD)  (w : World) (hx : x.wf)  : Calls Try.prog 8 #[x.val] w fun e w' => e = .returned (.bool true) ∧ Below w.heap.size w w' := by
  obtain ⟨s, b, n, r⟩ := x
  obtain ⟨hs, -, hn, -⟩ := hx
  simp only at hs hn
  by_cases h : (s.size : Int) ≤ 1048576
  · have hv : Hid (szI 1048576 s.size = 1048576 - s.size) := if_pos h
    go_enter Try.func8, Try.ntmps8
    go_wp2_with fail
    refine (szOut_any _ _ _ _ _ _ (by omega) (by omega) hs).mono ?_
    rintro e w1 ⟨rfl, hb1⟩
    obtain ⟨hc, hf⟩ := bcell hb1
    have hc1_0 := fun o => hc (w.heap.size) o (by go_size)
    have hf1_0 := fun o => hf (w.heap.size) o (by go_size)
    have hz1_0 : w.heap.size < w1.heap.size := Nat.lt_of_lt_of_le (by go_size) hb1.size
    clear hc hf
    have hz1 := hb1.size
    try simp at hz1
    rw [hv.out]
    go_wp2_with fail
    refine (toOut_any _ _ _ _ _).mono ?_
    rintro e w2 ⟨rfl, hb2⟩
    obtain ⟨hc, hf⟩ := bcell hb2
    have hc2_0 := fun o => hc (w.heap.size) o (by go_size)
    have hf2_0 := fun o => hf (w.heap.size) o (by go_size)
    have hz2_0 : w.heap.size < w2.heap.size := Nat.lt_of_lt_of_le (by go_size) hb2.size
    clear hc hf
    have hz2 := hb2.size
    try simp at hz2
    go_wp2_with fail
    refine (sWasSent _ _ _ _ _ hs hn).mono ?_
    rintro e w3 ⟨rfl, hb3⟩
    obtain ⟨hc, hf⟩ := bcell hb3
    have hc3_0 := fun o => hc (w.heap.size) o (by go_size)
    have hf3_0 := fun o => hf (w.heap.size) o (by go_size)
    have hz3_0 : w.heap.size < w3.heap.size := Nat.lt_of_lt_of_le (by go_size) hb3.size
    clear hc hf
    have hz3 := hb3.size
    try simp at hz3
    go_wp2_with fail
    refine (toOut_any _ _ _ _ _).mono ?_
    rintro e w4 ⟨rfl, hb4⟩
    obtain ⟨hc, hf⟩ := bcell hb4
    have hc4_0 := fun o => hc (w.heap.size) o (by go_size)
    have hf4_0 := fun o => hf (w.heap.size) o (by go_size)
    have hz4_0 : w.heap.size < w4.heap.size := Nat.lt_of_lt_of_le (by go_size) hb4.size
    have hc4_1 := fun o => hc (w3.heap.size) o (by go_size)
    have hf4_1 := fun o => hf (w3.heap.size) o (by go_size)
    have hz4_1 : w3.heap.size < w4.heap.size := Nat.lt_of_lt_of_le (by go_size) hb4.size
    clear hc hf
    have hz4 := hb4.size
    try simp at hz4
    go_wp2_with fail
    refine (iWasSent _ _ _ _ _ hs hn).mono ?_
    rintro e w5 ⟨rfl, hb5⟩
    obtain ⟨hc, hf⟩ := bcell hb5
    have hc5_0 := fun o => hc (w.heap.size) o (by go_size)
    have hf5_0 := fun o => hf (w.heap.size) o (by go_size)
    have hz5_0 : w.heap.size < w5.heap.size := Nat.lt_of_lt_of_le (by go_size) hb5.size
    have hc5_1 := fun o => hc (w3.heap.size) o (by go_size)
    have hf5_1 := fun o => hf (w3.heap.size) o (by go_size)
    have hz5_1 : w3.heap.size < w5.heap.size := Nat.lt_of_lt_of_le (by go_size) hb5.size
    clear hc hf
    have hz5 := hb5.size
    try simp at hz5
    go_wp2_with fail
    refine (eqOut_same _ _ _ _ _).mono ?_
    rintro e w6 ⟨rfl, hb6⟩
    have hz6 := hb6.size
    try simp at hz6
    go_wp2
    go_ret
    exact ⟨rfl, by (repeat' (first | (with_reducible exact Below.refl _ _) | (with_reducible assumption) | (with_reducible refine Below.alloc ?_ ?_ _) | (with_reducible refine Below.drew ?_) | (with_reducible refine below_drewN ?_ _) | (with_reducible refine Below.setCell ?_ ?_ _) | (with_reducible refine bvia ?_ (by with_reducible assumption) ?_) | go_size))⟩
  · have hv : Hid (szI 1048576 s.size = -1) := if_neg h
    go_enter Try.func8, Try.ntmps8
    go_wp2_with fail
    refine (szOut_any _ _ _ _ _ _ (by omega) (by omega) hs).mono ?_
    rintro e w1 ⟨rfl, hb1⟩
    obtain ⟨hc, hf⟩ := bcell hb1
    have hc1_0 := fun o => hc (w.heap.size) o (by go_size)
    have hf1_0 := fun o => hf (w.heap.size) o (by go_size)
    have hz1_0 : w.heap.size < w1.heap.size := Nat.lt_of_lt_of_le (by go_size) hb1.size
    clear hc hf
    have hz1 := hb1.size
    try simp at hz1
    rw [hv.out]
    go_wp2
    go_ret
    exact ⟨rfl, by (repeat' (first | (with_reducible exact Below.refl _ _) | (with_reducible assumption) | (with_reducible refine Below.alloc ?_ ?_ _) | (with_reducible refine Below.drew ?_) | (with_reducible refine below_drewN ?_ _) | (with_reducible refine Below.setCell ?_ ?_ _) | (with_reducible refine bvia ?_ (by with_reducible assumption) ?_) | go_size))⟩
set_option maxHeartbeats 400000 in
theorem walk_FnExactAccept (x : OutD) (t : ByteArray) (w : World) (hx : x.wf) (htm : t.size ≤ maxLen) : Calls Try.prog 7 #[x.val, .string t] w fun e w' => e = .returned (.bool true) ∧ Below w.heap.size w w' := by
  obtain ⟨s, b, n, r⟩ := x
  obtain ⟨hs, -, hn, -⟩ := hx
  simp only at hs hn
  have htm' := htm
  unfold maxLen at htm'
  by_cases ht : (t.size : Int) ≤ 1048576
  · by_cases h : (s.size : Int) ≤ 1048576
    · have hv : Hid (szI 1048576 s.size = 1048576 - s.size) := if_pos h
      go_enter Try.func7, Try.ntmps7
      go_wp2_with fail
      refine (szOut_any _ _ _ _ _ _ (by omega) (by omega) hs).mono ?_
      rintro e w1 ⟨rfl, hb1⟩
      obtain ⟨hc, hf⟩ := bcell hb1
      have hc1_0 := fun o => hc (w.heap.size) o (by go_size)
      have hf1_0 := fun o => hf (w.heap.size) o (by go_size)
      have hz1_0 : w.heap.size < w1.heap.size := Nat.lt_of_lt_of_le (by go_size) hb1.size
      clear hc hf
      have hz1 := hb1.size
      try simp at hz1
      rw [hv.out]
      go_wp2_with fail
      refine (toOut_any _ _ _ _ _).mono ?_
      rintro e w2 ⟨rfl, hb2⟩
      obtain ⟨hc, hf⟩ := bcell hb2
      have hc2_0 := fun o => hc (w.heap.size) o (by go_size)
      have hf2_0 := fun o => hf (w.heap.size) o (by go_size)
      have hz2_0 : w.heap.size < w2.heap.size := Nat.lt_of_lt_of_le (by go_size) hb2.size
      clear hc hf
      have hz2 := hb2.size
      try simp at hz2
      go_wp2_with fail
      refine (sAccept _ _ _ _ _ _ hs (by omega)).mono ?_
      rintro e w3 ⟨rfl, hb3⟩
      obtain ⟨hc, hf⟩ := bcell hb3
      have hc3_0 := fun o => hc (w.heap.size) o (by go_size)
      have hf3_0 := fun o => hf (w.heap.size) o (by go_size)
      have hz3_0 : w.heap.size < w3.heap.size := Nat.lt_of_lt_of_le (by go_size) hb3.size
      clear hc hf
      have hz3 := hb3.size
      try simp at hz3
      go_wp2_with fail
      refine (toOut_any _ _ _ _ _).mono ?_
      rintro e w4 ⟨rfl, hb4⟩
      obtain ⟨hc, hf⟩ := bcell hb4
      have hc4_0 := fun o => hc (w.heap.size) o (by go_size)
      have hf4_0 := fun o => hf (w.heap.size) o (by go_size)
      have hz4_0 : w.heap.size < w4.heap.size := Nat.lt_of_lt_of_le (by go_size) hb4.size
      have hc4_1 := fun o => hc (w3.heap.size) o (by go_size)
      have hf4_1 := fun o => hf (w3.heap.size) o (by go_size)
      have hz4_1 : w3.heap.size < w4.heap.size := Nat.lt_of_lt_of_le (by go_size) hb4.size
      clear hc hf
      have hz4 := hb4.size
      try simp at hz4
      go_wp2_with fail
      refine (iAccept _ _ _ _ _ _ hs (by omega)).mono ?_
      rintro e w5 ⟨rfl, hb5⟩
      obtain ⟨hc, hf⟩ := bcell hb5
      have hc5_0 := fun o => hc (w.heap.size) o (by go_size)
      have hf5_0 := fun o => hf (w.heap.size) o (by go_size)
      have hz5_0 : w.heap.size < w5.heap.size := Nat.lt_of_lt_of_le (by go_size) hb5.size
      have hc5_1 := fun o => hc (w3.heap.size) o (by go_size)
      have hf5_1 := fun o => hf (w3.heap.size) o (by go_size)
      have hz5_1 : w3.heap.size < w5.heap.size := Nat.lt_of_lt_of_le (by go_size) hb5.size
      clear hc hf
      have hz5 := hb5.size
      try simp at hz5
      go_wp2_with fail
      refine (eqOut_same _ _ _ _ _).mono ?_
      rintro e w6 ⟨rfl, hb6⟩
      have hz6 := hb6.size
      try simp at hz6
      go_wp2
      go_ret
      exact ⟨rfl, by (repeat' (first | (with_reducible exact Below.refl _ _) | (with_reducible assumption) | (with_reducible refine Below.alloc ?_ ?_ _) | (with_reducible refine Below.drew ?_) | (with_reducible refine below_drewN ?_ _) | (with_reducible refine Below.setCell ?_ ?_ _) | (with_reducible refine bvia ?_ (by with_reducible assumption) ?_) | go_size))⟩
    · have hv : Hid (szI 1048576 s.size = -1) := if_neg h
      go_enter Try.func7, Try.ntmps7
      go_wp2_with fail
      refine (szOut_any _ _ _ _ _ _ (by omega) (by omega) hs).mono ?_
      rintro e w1 ⟨rfl, hb1⟩
      obtain ⟨hc, hf⟩ := bcell hb1
      have hc1_0 := fun o => hc (w.heap.size) o (by go_size)
      have hf1_0 := fun o => hf (w.heap.size) o (by go_size)
      have hz1_0 : w.heap.size < w1.heap.size := Nat.lt_of_lt_of_le (by go_size) hb1.size
      clear hc hf
      have hz1 := hb1.size
      try simp at hz1
      rw [hv.out]
      go_wp2
      go_ret
      exact ⟨rfl, by (repeat' (first | (with_reducible exact Below.refl _ _) | (with_reducible assumption) | (with_reducible refine Below.alloc ?_ ?_ _) | (with_reducible refine Below.drew ?_) | (with_reducible refine below_drewN ?_ _) | (with_reducible refine Below.setCell ?_ ?_ _) | (with_reducible refine bvia ?_ (by with_reducible assumption) ?_) | go_size))⟩
  · go_enter Try.func7, Try.ntmps7
    go_wp2
    go_ret
    exact ⟨rfl, by go_grown⟩
end Go.Proofs.Ytddpgdgpicamiaa
