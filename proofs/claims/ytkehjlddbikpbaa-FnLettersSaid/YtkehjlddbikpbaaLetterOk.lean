/- LetterOk (program and reference), and the walk of FnExactLetterOk: for every argument. -/
import Derived.Test.YtkehjlddbikpbaaLetters3
namespace Go.Proofs.Ytkehjlddbikpbaa
set_option linter.unusedSimpArgs false
set_option linter.unusedVariables false
open Go.RowKit

/-- The sixteen numbers of a letter that LetterOk looks at, in its order. -/
def LetterD.nums (x : LetterD) : List Int := [x.fFrom, x.fTo, x.fPort, x.fKey, x.fToken, x.fNonce, x.fGive, x.fSign, x.fId, x.fAddr, x.fAt, x.fTagKind, x.fTagOne, x.fTagTwo, x.fTagA, x.fTagB]
/-- What LetterOk computes. -/
def letOk (x : LetterD) : Bool := winB x.fKind 1 13 && numB x.nums && decide ((x.fText.size : Int) ≤ 20)
theorem l14Num_any (n : Int) (w : World) : Calls Try.prog 23 #[.int .i64 n] w fun e w' => e = .returned (.bool (winB n 0 1000000000)) ∧ w = w' := by
  go_enter Try.func23, Try.ntmps23
  go_wp2_with (go_at_call 20; refine (l01In_any _ _ _ _).mono ?_; rintro e w' ⟨rfl, rfl⟩)
  go_ret
  exact ⟨rfl, rfl⟩
set_option maxHeartbeats 1000000 in
theorem iLetterOk (x : LetterD) (w : World) : Calls Try.prog 15 #[x.val] w fun e w' => e = .returned (.bool (letOk x)) ∧ Below w.heap.size w w' := by
  by_cases h1 : winB x.fKind 1 13 = true
  · by_cases h2 : numB x.nums = true
    · have hv : Hid (letOk x = decide ((x.fText.size : Int) ≤ 20)) := by unfold letOk; rw [h1, h2]; rfl
      go_enter Try.func15, Try.ntmps15
      go_wp2_with (first | (go_at_call 21; refine (within_any _ _ _ _).mono ?_; rintro e w' ⟨rfl, rfl⟩) | (go_at_call 24; refine (isNumber_any _ _ x.nums _ (by exact Rd_new _ _ _ _ _ (by simp) rfl) (by first | (simp; done) | exact Nat.le_refl _) (by simp [maxLen])).mono ?_; rintro e w' ⟨rfl, rfl⟩))
      go_ret
      exact ⟨ret_bool hv.out.symm, by (repeat' (first | (with_reducible exact Below.refl _ _) | (with_reducible assumption) | (with_reducible refine Below.alloc ?_ ?_ _) | (with_reducible refine Below.drew ?_) | (with_reducible refine below_drewN ?_ _) | (with_reducible refine Below.setCell ?_ ?_ _) | (with_reducible refine bvia ?_ (by with_reducible assumption) ?_) | go_size))⟩
    · have hv := Lib.hid (show letOk x = false by unfold letOk; simp [h2])
      go_enter Try.func15, Try.ntmps15
      go_wp2_with (first | (go_at_call 21; refine (within_any _ _ _ _).mono ?_; rintro e w' ⟨rfl, rfl⟩) | (go_at_call 24; refine (isNumber_any _ _ x.nums _ (by exact Rd_new _ _ _ _ _ (by simp) rfl) (by first | (simp; done) | exact Nat.le_refl _) (by simp [maxLen])).mono ?_; rintro e w' ⟨rfl, rfl⟩))
      go_ret
      exact ⟨ret_bool hv.out.symm, by (repeat' (first | (with_reducible exact Below.refl _ _) | (with_reducible assumption) | (with_reducible refine Below.alloc ?_ ?_ _) | (with_reducible refine Below.drew ?_) | (with_reducible refine below_drewN ?_ _) | (with_reducible refine Below.setCell ?_ ?_ _) | (with_reducible refine bvia ?_ (by with_reducible assumption) ?_) | go_size))⟩
  · have hv := Lib.hid (show letOk x = false by unfold letOk; simp [h1])
    go_enter Try.func15, Try.ntmps15
    go_wp2_with (first | (go_at_call 21; refine (within_any _ _ _ _).mono ?_; rintro e w' ⟨rfl, rfl⟩) | (go_at_call 24; refine (isNumber_any _ _ x.nums _ (by exact Rd_new _ _ _ _ _ (by simp) rfl) (by first | (simp; done) | exact Nat.le_refl _) (by simp [maxLen])).mono ?_; rintro e w' ⟨rfl, rfl⟩))
    go_ret
    exact ⟨ret_bool hv.out.symm, by (repeat' (first | (with_reducible exact Below.refl _ _) | (with_reducible assumption) | (with_reducible refine Below.alloc ?_ ?_ _) | (with_reducible refine Below.drew ?_) | (with_reducible refine below_drewN ?_ _) | (with_reducible refine Below.setCell ?_ ?_ _) | (with_reducible refine bvia ?_ (by with_reducible assumption) ?_) | go_size))⟩
theorem nums_length (x : LetterD) : x.nums.length = 16 := rfl
set_option maxHeartbeats 1000000 in
theorem sLetterOk (x : LetterD) (w : World) (hs : x.fText.size ≤ maxLen) : Calls Try.prog 14 #[x.val] w fun e w' => e = .returned (.bool (letOk x)) ∧ Below w.heap.size w w' := by
  unfold maxLen at hs
  by_cases h1 : winB x.fKind 1 13 = true
  · by_cases h3 : (x.fText.size : Int) ≤ 20
    · have hv := Lib.hid (show letOk x = numB x.nums by unfold letOk; simp [h1, h3])
      have hrd := Rd_new (w.alloc (.cells x.arr 33)) (w.heap.size + 1) x.nums _ 3 (by simp) rfl
      have hl : x.nums.length = 16 := rfl
      go_enter Try.func14, Try.ntmps14
      go_wp2_with (go_at_call 20; refine (l01In_any _ _ _ _).mono ?_; rintro e w' ⟨rfl, rfl⟩)
      refine wp_world _ (fun W => (∀ (k : Nat) (h : k < x.nums.length), W.cell? ⟨w.heap.size + 1, k, none⟩ = some (.int .i64 x.nums[k])) ∧ Below w.heap.size w W) ⟨?_, ?_⟩ ?_
      · intro k hk
        obtain ⟨g, o, e1, _, hg, hcell⟩ := hrd.at_ (by rw [hl]; decide)
        simp only [Option.some.injEq, Addr.mk.injEq, and_true] at e1
        obtain ⟨rfl, rfl⟩ := e1
        have := hcell k hk 0 (by decide)
        rw [show 0 + k * 1 + 0 = k from by omega] at this
        exact this
      · go_grown
      · rintro W ⟨hcell, hB⟩
        clear hrd
        have HC := Lib.hid hcell
        clear hcell
        go_loop [4] (fun i => ∃ k : Nat, k ≤ 16 ∧ i = .int .i64 k ∧ Hid (numB (x.nums.take k) = true)) (fun i => 16 - (intOf i).toNat)
        case atStart => exact ⟨0, Nat.zero_le _, rfl, rfl⟩
        case round =>
          obtain ⟨k, hk, rfl, hp⟩ := hrel
          by_cases hlt : k < 16
          · have hlt' : k < x.nums.length := hlt
            have hx := HC.out k hlt'
            have hs := Lib.hid (numB_take hlt' hp.out)
            by_cases hb : winB x.nums[k] 0 1000000000 = true
            · go_wp2_with (go_at_call 23; refine (l14Num_any _ _).mono ?_; rintro e w' ⟨rfl, rfl⟩)
              go_round
              case rel => exact ⟨k + 1, by omega, by go_num, by rw [hs.out]; exact hb⟩
              case measure => simp [intOf]; omega
            · have hn := Lib.hid (numB_no hlt' (by simpa using hb))
              go_wp2_with (go_at_call 23; refine (l14Num_any _ _).mono ?_; rintro e w' ⟨rfl, rfl⟩)
              go_ret
              exact ⟨ret_bool (by rw [hv.out, hn.out]), hB⟩
          · go_wp2
            go_ret
            have h2 := hp.out
            rw [List.take_of_length_le (by rw [nums_length]; omega)] at h2
            exact ⟨ret_bool (by rw [hv.out, h2]), hB⟩
    · have hv := Lib.hid (show letOk x = false by unfold letOk; simp [h3])
      go_enter Try.func14, Try.ntmps14
      go_wp2_with (go_at_call 20; refine (l01In_any _ _ _ _).mono ?_; rintro e w' ⟨rfl, rfl⟩)
      go_ret
      exact ⟨ret_bool hv.out.symm, by go_grown⟩
  · have hv := Lib.hid (show letOk x = false by unfold letOk; simp [h1])
    go_enter Try.func14, Try.ntmps14
    go_wp2_with (go_at_call 20; refine (l01In_any _ _ _ _).mono ?_; rintro e w' ⟨rfl, rfl⟩)
    go_ret
    exact ⟨ret_bool hv.out.symm, by go_grown⟩
theorem walk_FnExactLetterOk (x : LetterD) (w : World) (hx : x.wf) : Calls Try.prog 5 #[x.val] w fun e w' => e = .returned (.bool true) ∧ Below w.heap.size w w' := by
  have hsz : x.fText.size ≤ maxLen := hx.2.2.2.2.2.2.2.2.2.2.2.2.2.2.2.2.2.2
  clear hx
  have G_0 := heap_alloc_new w (.cells x.arr 26)
  by_cases h : (x.fText.size : Int) ≤ 1048576
  · have hv : Hid (szI 1048576 x.fText.size = 1048576 - x.fText.size) := if_pos h
    go_enter Try.func5, Try.ntmps5
    go_wp2_with (refine wpList_load_row rfl 26 (.tmp 1) rfl (w.heap.size) rfl 26 x.arr (0, 0) _ G_0 Try.underlying26 rfl (by kernel_rfl) ?_)
    refine (szLetter_any x _ _ (by omega) (by omega) hsz).mono ?_
    rintro e w1 ⟨rfl, hb1⟩
    have hz1 := hb1.size
    try simp at hz1
    have G_1 := (hb1.block (w.heap.size) (by go_size)).trans G_0
    rw [hv.out]
    go_wp2_with (refine wpList_load_row rfl 26 (.tmp 1) rfl (w.heap.size) rfl 26 x.arr (0, 0) _ G_1 Try.underlying26 rfl (by kernel_rfl) ?_)
    refine (toLetter_any x _).mono ?_
    rintro e w2 ⟨rfl, hb2⟩
    have hz2 := hb2.size
    try simp at hz2
    have G_2 := (hb2.block (w.heap.size) (by go_size)).trans G_1
    go_wp2_with fail
    refine (sLetterOk x _ hsz).mono ?_
    rintro e w3 ⟨rfl, hb3⟩
    have hz3 := hb3.size
    try simp at hz3
    have G_3 := (hb3.block (w.heap.size) (by go_size)).trans G_2
    go_wp2_with (refine wpList_load_row rfl 26 (.tmp 1) rfl (w.heap.size) rfl 26 x.arr (0, 0) _ G_3 Try.underlying26 rfl (by kernel_rfl) ?_)
    go_wp2_with fail
    refine (toLetter_any x _).mono ?_
    rintro e w4 ⟨rfl, hb4⟩
    have hz4 := hb4.size
    try simp at hz4
    go_wp2_with fail
    refine (iLetterOk x _).mono ?_
    rintro e w5 ⟨rfl, hb5⟩
    have hz5 := hb5.size
    try simp at hz5
    go_wp2
    go_ret
    exact ⟨rfl, by (repeat' (first | (with_reducible exact Below.refl _ _) | (with_reducible assumption) | (with_reducible refine Below.alloc ?_ ?_ _) | (with_reducible refine Below.drew ?_) | (with_reducible refine below_drewN ?_ _) | (with_reducible refine Below.setCell ?_ ?_ _) | (with_reducible refine bvia ?_ (by with_reducible assumption) ?_) | go_size))⟩
  · have hv : Hid (szI 1048576 x.fText.size = -1) := if_neg h
    go_enter Try.func5, Try.ntmps5
    go_wp2_with (refine wpList_load_row rfl 26 (.tmp 1) rfl (w.heap.size) rfl 26 x.arr (0, 0) _ G_0 Try.underlying26 rfl (by kernel_rfl) ?_)
    refine (szLetter_any x _ _ (by omega) (by omega) hsz).mono ?_
    rintro e w1 ⟨rfl, hb1⟩
    have hz1 := hb1.size
    try simp at hz1
    rw [hv.out]
    go_wp2
    go_ret
    exact ⟨rfl, by (repeat' (first | (with_reducible exact Below.refl _ _) | (with_reducible assumption) | (with_reducible refine Below.alloc ?_ ?_ _) | (with_reducible refine Below.drew ?_) | (with_reducible refine below_drewN ?_ _) | (with_reducible refine Below.setCell ?_ ?_ _) | (with_reducible refine bvia ?_ (by with_reducible assumption) ?_) | go_size))⟩
end Go.Proofs.Ytkehjlddbikpbaa
