/- OutOk, Anew (program and reference), toOut, szOut, eqOut: for every argument. -/
import Derived.Test.YtddpgdgpicamiaaTy
import Derived.Test.YtddpgdgpicamiaaNum
namespace Go.Proofs.Ytddpgdgpicamiaa
set_option linter.unusedSimpArgs false
set_option linter.unusedVariables false
open Go.RowKit

abbrev ou (s : ByteArray) (b n r : Int) : Value := .agg #[.string s, .int .i64 b, .int .i64 n, .int .i64 r]
/-- What the functions sz.. leave of a budget l behind n letters. -/
def szI (l n : Int) : Int := if n ≤ l then l - n else -1
theorem szOut_any (s : ByteArray) (b n r l : Int) (w : World) (h0 : 0 ≤ l) (h1 : l ≤ 1048576) (hs : s.size ≤ maxLen) : Calls Try.prog 10 #[ou s b n r, .int .i64 l] w fun e w' => e = .returned (.int .i64 (szI l s.size)) ∧ Below w.heap.size w w' := by
  unfold maxLen at hs
  by_cases h : (s.size : Int) ≤ l
  · have hv : Hid (szI l s.size = l - s.size) := if_pos h
    go_enter Try.func10, Try.ntmps10
    go_wp2
    go_ret
    exact ⟨ret_int hv.out.symm, by go_grown⟩
  · have hv : Hid (szI l s.size = -1) := if_neg h
    go_enter Try.func10, Try.ntmps10
    go_wp2
    go_ret
    exact ⟨ret_int hv.out.symm, by go_grown⟩
theorem toOut_any (s : ByteArray) (b n r : Int) (w : World) : Calls Try.prog 12 #[ou s b n r] w fun e w' => e = .returned (ou s b n r) ∧ Below w.heap.size w w' := by
  go_enter Try.func12, Try.ntmps12
  go_wp2
  go_returns
  exact ⟨rfl, by go_grown⟩
theorem eqOut_same (s : ByteArray) (b n r : Int) (w : World) : Calls Try.prog 19 #[ou s b n r, ou s b n r] w fun e w' => e = .returned (.bool true) ∧ Below w.heap.size w w' := by
  go_enter Try.func19, Try.ntmps19
  go_wp2
  go_ret
  exact ⟨rfl, by go_grown⟩
/-- What OutOk computes. -/
def outOk (s : ByteArray) (b n r : Int) : Bool := winB b 0 1000000000 && winB r 1 200 && decide ((s.size : Int) ≤ r) && winB n b (b + s.size)
theorem outOk_bounds {s : ByteArray} {b n r : Int} (h : outOk s b n r = true) : 0 ≤ b ∧ b ≤ 1000000000 ∧ 1 ≤ r ∧ r ≤ 200 ∧ (s.size : Int) ≤ r ∧ b ≤ n ∧ n ≤ b + s.size := by
  simp [outOk, winB] at h; omega
set_option maxHeartbeats 400000 in
theorem iOutOk (s : ByteArray) (b n r : Int) (w : World) (hs : s.size ≤ maxLen) : Calls Try.prog 13 #[ou s b n r] w fun e w' => e = .returned (.bool (outOk s b n r)) ∧ Below w.heap.size w w' := by
  unfold maxLen at hs
  by_cases h1 : winB b 0 1000000000 = true
  · by_cases h2 : winB r 1 200 = true
    · have h1' := h1
      have h2' := h2
      simp only [winB, Bool.and_eq_true, decide_eq_true_eq] at h1' h2'
      have hn : numB [b] = true := by simp [numB, h1]
      by_cases h3 : (s.size : Int) ≤ r
      · have hv := Lib.hid (show outOk s b n r = winB n b (b + s.size) by unfold outOk; simp [h1, h2, h3])
        go_enter Try.func13, Try.ntmps13
        go_wp2_with (first | (go_at_call 30; refine (within_any _ _ _ _).mono ?_; rintro e w' ⟨rfl, rfl⟩) | (go_at_call 29; refine (isNumber_any _ _ [b] _ (by exact Rd_new _ _ _ _ _ (by simp) rfl) (by first | (simp; done) | exact Nat.le_refl _) (by simp [maxLen])).mono ?_; rintro e w' ⟨rfl, rfl⟩))
        go_ret
        exact ⟨ret_bool hv.out.symm, by (repeat' (first | (with_reducible exact Below.refl _ _) | (with_reducible assumption) | (with_reducible refine Below.alloc ?_ ?_ _) | (with_reducible refine Below.drew ?_) | (with_reducible refine below_drewN ?_ _) | (with_reducible refine Below.setCell ?_ ?_ _) | (with_reducible refine bvia ?_ (by with_reducible assumption) ?_) | go_size))⟩
      · have hv := Lib.hid (show outOk s b n r = false by unfold outOk; simp [h3])
        go_enter Try.func13, Try.ntmps13
        go_wp2_with (first | (go_at_call 30; refine (within_any _ _ _ _).mono ?_; rintro e w' ⟨rfl, rfl⟩) | (go_at_call 29; refine (isNumber_any _ _ [b] _ (by exact Rd_new _ _ _ _ _ (by simp) rfl) (by first | (simp; done) | exact Nat.le_refl _) (by simp [maxLen])).mono ?_; rintro e w' ⟨rfl, rfl⟩))
        go_ret
        exact ⟨ret_bool hv.out.symm, by (repeat' (first | (with_reducible exact Below.refl _ _) | (with_reducible assumption) | (with_reducible refine Below.alloc ?_ ?_ _) | (with_reducible refine Below.drew ?_) | (with_reducible refine below_drewN ?_ _) | (with_reducible refine Below.setCell ?_ ?_ _) | (with_reducible refine bvia ?_ (by with_reducible assumption) ?_) | go_size))⟩
    · have hv := Lib.hid (show outOk s b n r = false by unfold outOk; simp [h2])
      have hn : numB [b] = true := by simp [numB, h1]
      go_enter Try.func13, Try.ntmps13
      go_wp2_with (first | (go_at_call 30; refine (within_any _ _ _ _).mono ?_; rintro e w' ⟨rfl, rfl⟩) | (go_at_call 29; refine (isNumber_any _ _ [b] _ (by exact Rd_new _ _ _ _ _ (by simp) rfl) (by first | (simp; done) | exact Nat.le_refl _) (by simp [maxLen])).mono ?_; rintro e w' ⟨rfl, rfl⟩))
      go_ret
      exact ⟨ret_bool hv.out.symm, by (repeat' (first | (with_reducible exact Below.refl _ _) | (with_reducible assumption) | (with_reducible refine Below.alloc ?_ ?_ _) | (with_reducible refine Below.drew ?_) | (with_reducible refine below_drewN ?_ _) | (with_reducible refine Below.setCell ?_ ?_ _) | (with_reducible refine bvia ?_ (by with_reducible assumption) ?_) | go_size))⟩
  · have hv := Lib.hid (show outOk s b n r = false by unfold outOk; simp [h1])
    have hn : numB [b] = false := by simp [numB, h1]
    go_enter Try.func13, Try.ntmps13
    go_wp2_with (first | (go_at_call 30; refine (within_any _ _ _ _).mono ?_; rintro e w' ⟨rfl, rfl⟩) | (go_at_call 29; refine (isNumber_any _ _ [b] _ (by exact Rd_new _ _ _ _ _ (by simp) rfl) (by first | (simp; done) | exact Nat.le_refl _) (by simp [maxLen])).mono ?_; rintro e w' ⟨rfl, rfl⟩))
    go_ret
    exact ⟨ret_bool hv.out.symm, by (repeat' (first | (with_reducible exact Below.refl _ _) | (with_reducible assumption) | (with_reducible refine Below.alloc ?_ ?_ _) | (with_reducible refine Below.drew ?_) | (with_reducible refine below_drewN ?_ _) | (with_reducible refine Below.setCell ?_ ?_ _) | (with_reducible refine bvia ?_ (by with_reducible assumption) ?_) | go_size))⟩
set_option maxHeartbeats 400000 in
theorem sOutOk (s : ByteArray) (b n r : Int) (w : World) (hs : s.size ≤ maxLen) : Calls Try.prog 11 #[ou s b n r] w fun e w' => e = .returned (.bool (outOk s b n r)) ∧ Below w.heap.size w w' := by
  unfold maxLen at hs
  by_cases h1 : winB b 0 1000000000 = true
  · by_cases h2 : winB r 1 200 = true
    · have h1' := h1
      have h2' := h2
      simp only [winB, Bool.and_eq_true, decide_eq_true_eq] at h1' h2'
      by_cases h3 : (s.size : Int) ≤ r
      · have hv := Lib.hid (show outOk s b n r = winB n b (b + s.size) by unfold outOk; simp [h1, h2, h3])
        go_enter Try.func11, Try.ntmps11
        go_wp2_with (go_at_call 28; refine (l01In_any _ _ _ _).mono ?_; rintro e w' ⟨rfl, rfl⟩)
        go_ret
        exact ⟨ret_bool hv.out.symm, by (repeat' (first | (with_reducible exact Below.refl _ _) | (with_reducible assumption) | (with_reducible refine Below.alloc ?_ ?_ _) | (with_reducible refine Below.drew ?_) | (with_reducible refine below_drewN ?_ _) | (with_reducible refine Below.setCell ?_ ?_ _) | (with_reducible refine bvia ?_ (by with_reducible assumption) ?_) | go_size))⟩
      · have hv := Lib.hid (show outOk s b n r = false by unfold outOk; simp [h3])
        go_enter Try.func11, Try.ntmps11
        go_wp2_with (go_at_call 28; refine (l01In_any _ _ _ _).mono ?_; rintro e w' ⟨rfl, rfl⟩)
        go_ret
        exact ⟨ret_bool hv.out.symm, by (repeat' (first | (with_reducible exact Below.refl _ _) | (with_reducible assumption) | (with_reducible refine Below.alloc ?_ ?_ _) | (with_reducible refine Below.drew ?_) | (with_reducible refine below_drewN ?_ _) | (with_reducible refine Below.setCell ?_ ?_ _) | (with_reducible refine bvia ?_ (by with_reducible assumption) ?_) | go_size))⟩
    · have hv := Lib.hid (show outOk s b n r = false by unfold outOk; simp [h2])
      go_enter Try.func11, Try.ntmps11
      go_wp2_with (go_at_call 28; refine (l01In_any _ _ _ _).mono ?_; rintro e w' ⟨rfl, rfl⟩)
      go_ret
      exact ⟨ret_bool hv.out.symm, by (repeat' (first | (with_reducible exact Below.refl _ _) | (with_reducible assumption) | (with_reducible refine Below.alloc ?_ ?_ _) | (with_reducible refine Below.drew ?_) | (with_reducible refine below_drewN ?_ _) | (with_reducible refine Below.setCell ?_ ?_ _) | (with_reducible refine bvia ?_ (by with_reducible assumption) ?_) | go_size))⟩
  · have hv := Lib.hid (show outOk s b n r = false by unfold outOk; simp [h1])
    go_enter Try.func11, Try.ntmps11
    go_wp2_with (go_at_call 28; refine (l01In_any _ _ _ _).mono ?_; rintro e w' ⟨rfl, rfl⟩)
    go_ret
    exact ⟨ret_bool hv.out.symm, by (repeat' (first | (with_reducible exact Below.refl _ _) | (with_reducible assumption) | (with_reducible refine Below.alloc ?_ ?_ _) | (with_reducible refine Below.drew ?_) | (with_reducible refine below_drewN ?_ _) | (with_reducible refine Below.setCell ?_ ?_ _) | (with_reducible refine bvia ?_ (by with_reducible assumption) ?_) | go_size))⟩
end Go.Proofs.Ytddpgdgpicamiaa
