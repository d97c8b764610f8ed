/- The walk of FnExactRoadOf, toLetter, LetterOk (program and reference); the walks of FnExactRoadOf, FnExactLetterOk. They hold for every argument. -/
import Derived.Test.YtkehjlddbikpbaaLetters2
namespace Go.Proofs.Ytkehjlddbikpbaa
set_option linter.unusedSimpArgs false
set_option linter.unusedVariables false
open Go.RowKit

theorem walk_FnExactRoadOf (x : LetterD) (w : World) (hx : x.wf) : Calls Try.prog 4 #[x.val] w fun e w' => e = .returned (.bool true) ∧ Below w.heap.size w w' := by
  have hsz : x.fText.size ≤ maxLen := hx.2.2.2.2.2.2.2.2.2.2.2.2.2.2.2.2.2.2
  clear hx
  have G_0 := heap_alloc_new w (.cells x.arr 26)
  by_cases h : (x.fText.size : Int) ≤ 1048576
  · have hv : Hid (szI 1048576 x.fText.size = 1048576 - x.fText.size) := if_pos h
    go_enter Try.func4, Try.ntmps4
    go_wp2_with (refine wpList_load_row rfl 26 (.tmp 1) rfl (w.heap.size) rfl 26 x.arr (0, 0) _ G_0 Try.underlying26 rfl (by kernel_rfl) ?_)
    refine (szLetter_any x _ _ (by omega) (by omega) hsz).mono ?_
    rintro e w1 ⟨rfl, hb1⟩
    have hz1 := hb1.size
    try simp at hz1
    have G_1 := (hb1.block (w.heap.size) (by go_size)).trans G_0
    rw [hv.out]
    go_wp2_with (refine wpList_load_row rfl 26 (.tmp 1) rfl (w.heap.size) rfl 26 x.arr (0, 0) _ G_1 Try.underlying26 rfl (by kernel_rfl) ?_)
    refine (toLetter_any x _).mono ?_
    rintro e w2 ⟨rfl, hb2⟩
    have hz2 := hb2.size
    try simp at hz2
    have G_2 := (hb2.block (w.heap.size) (by go_size)).trans G_1
    go_wp2_with fail
    refine (sRoadOf x _).mono ?_
    rintro e w3 ⟨rfl, hb3⟩
    have hz3 := hb3.size
    try simp at hz3
    have G_3 := (hb3.block (w.heap.size) (by go_size)).trans G_2
    have H_3 := fun o => (heap_alloc_at w3 o w.heap.size).trans ((if_neg (by omega)).trans G_3)
    go_wp2_with (refine wpList_load_row rfl 26 (.tmp 1) rfl (w.heap.size) rfl 26 x.arr (0, 0) _ (H_3 _) Try.underlying26 rfl (by kernel_rfl) ?_)
    go_wp2_with fail
    refine (toLetter_any x _).mono ?_
    rintro e w4 ⟨rfl, hb4⟩
    obtain ⟨hc, hf⟩ := bcell hb4
    have hc4_0 := fun o => hc (w3.heap.size) o (by go_size)
    have hf4_0 := fun o => hf (w3.heap.size) o (by go_size)
    have hz4_0 : w3.heap.size < w4.heap.size := Nat.lt_of_lt_of_le (by go_size) hb4.size
    clear hc hf
    have hz4 := hb4.size
    try simp at hz4
    go_wp2_with fail
    refine (iRoadOf x _).mono ?_
    rintro e w5 ⟨rfl, hb5⟩
    obtain ⟨hc, hf⟩ := bcell hb5
    have hc5_0 := fun o => hc (w3.heap.size) o (by go_size)
    have hf5_0 := fun o => hf (w3.heap.size) o (by go_size)
    have hz5_0 : w3.heap.size < w5.heap.size := Nat.lt_of_lt_of_le (by go_size) hb5.size
    clear hc hf
    have hz5 := hb5.size
    try simp at hz5
    go_wp2_with fail
    refine (eqRoad_same _ _ _ _).mono ?_
    rintro e w6 ⟨rfl, hb6⟩
    have hz6 := hb6.size
    try simp at hz6
    go_wp2
    go_ret
    exact ⟨rfl, by (repeat' (first | (with_reducible exact Below.refl _ _) | (with_reducible assumption) | (with_reducible refine Below.alloc ?_ ?_ _) | (with_reducible refine Below.drew ?_) | (with_reducible refine below_drewN ?_ _) | (with_reducible refine Below.setCell ?_ ?_ _) | (with_reducible refine bvia ?_ (by with_reducible assumption) ?_) | go_size))⟩
  · have hv : Hid (szI 1048576 x.fText.size = -1) := if_neg h
    go_enter Try.func4, Try.ntmps4
    go_wp2_with (refine wpList_load_row rfl 26 (.tmp 1) rfl (w.heap.size) rfl 26 x.arr (0, 0) _ G_0 Try.underlying26 rfl (by kernel_rfl) ?_)
    refine (szLetter_any x _ _ (by omega) (by omega) hsz).mono ?_
    rintro e w1 ⟨rfl, hb1⟩
    have hz1 := hb1.size
    try simp at hz1
    rw [hv.out]
    go_wp2
    go_ret
    exact ⟨rfl, by (repeat' (first | (with_reducible exact Below.refl _ _) | (with_reducible assumption) | (with_reducible refine Below.alloc ?_ ?_ _) | (with_reducible refine Below.drew ?_) | (with_reducible refine below_drewN ?_ _) | (with_reducible refine Below.setCell ?_ ?_ _) | (with_reducible refine bvia ?_ (by with_reducible assumption) ?_) | go_size))⟩
end Go.Proofs.Ytkehjlddbikpbaa
