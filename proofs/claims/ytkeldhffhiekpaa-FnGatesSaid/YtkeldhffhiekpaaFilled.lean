/- Filled (program and reference), and the walk of FnExactFilled: for every argument. -/
import Derived.Test.YtkeldhffhiekpaaBucketLaws
import Derived.Test.YtkeldhffhiekpaaNum
namespace Go.Proofs.Ytkeldhffhiekpaa
set_option linter.unusedSimpArgs false
set_option linter.unusedVariables false
open Go.RowKit

/-- What Filled computes. -/
def fillOk (r b h t : Int) : Bool := bokB r b h && winB t 0 1000000000
def fillH (r b h t : Int) : Int := if fillOk r b h t then min b (h + r * t) else h
theorem mul_bd {r t : Int} (h1 : 0 ≤ r) (h2 : r ≤ 100) (h3 : 0 ≤ t) (h4 : t ≤ 1000000000) : 0 ≤ r * t ∧ r * t ≤ 100000000000 :=
  ⟨Int.mul_nonneg h1 h3, by have := Int.mul_le_mul h2 h4 h3 (by omega); omega⟩
theorem fill_yes {r b h t : Int} (k : bokB r b h = true) (z : winB t 0 1000000000 = true) : fillH r b h t = min b (h + r * t) := by simp [fillH, fillOk, k, z]
theorem fill_no {r b h t : Int} (k : fillOk r b h t = false) : fillH r b h t = h := by simp [fillH, k]
set_option maxHeartbeats 1000000 in
theorem iFilled (r b h t : Int) (w : World) : Calls Try.prog 21 #[bkt r b h, .int .i64 t] w fun e w' => e = .returned (bkt r b (fillH r b h t)) ∧ Below w.heap.size w w' := by
  by_cases k : bokB r b h = true
  · obtain ⟨k1, k2, k3, k4, k5, k6⟩ := bok_bounds k
    by_cases z : winB t 0 1000000000 = true
    · have z' := z
      simp only [winB, Bool.and_eq_true, decide_eq_true_eq] at z'
      obtain ⟨p1, p2⟩ := mul_bd k1 k2 z'.1 z'.2
      have hn : numB [t] = true := by simp [numB, z]
      have hv := Lib.hid (fill_yes k z)
      by_cases m : b ≤ h + r * t
      · go_enter Try.func21, Try.ntmps21
        go_wp2_with (first | (go_at_call 12; refine (iBucketOk _ _ _ _).mono ?_; rintro e w' ⟨rfl, hb⟩; obtain ⟨hc, hf⟩ := bcell hb; have hc0 := fun o => hc (w.heap.size) o (by go_size); have hf0 := fun o => hf (w.heap.size) o (by go_size); have hz0 : w.heap.size < w'.heap.size := Nat.lt_of_lt_of_le (by go_size) hb.size; have hc1 := fun o => hc (w.heap.size + 1) o (by go_size); have hf1 := fun o => hf (w.heap.size + 1) o (by go_size); have hz1 : w.heap.size + 1 < w'.heap.size := Nat.lt_of_lt_of_le (by go_size) hb.size; clear hc hf; have hz := hb.size; (try simp at hz)) | (go_at_call 36; refine (isNumber_any _ _ [t] _ (by exact Rd_new _ _ _ _ _ (by simp) rfl) (by first | (simp; done) | exact Nat.le_refl _) (by simp [maxLen])).mono ?_; rintro e w' ⟨rfl, rfl⟩))
        refine bodyPost_ret (v := bkt r b b) (by simp [results, Try.results21, go_sem, *]) rfl ?_
        exact ⟨by rw [hv.out, Int.min_eq_left m], by (repeat' (first | (with_reducible exact Below.refl _ _) | (with_reducible assumption) | (with_reducible refine Below.alloc ?_ ?_ _) | (with_reducible refine Below.drew ?_) | (with_reducible refine below_drewN ?_ _) | (with_reducible refine Below.setCell ?_ ?_ _) | (with_reducible refine bvia ?_ (by with_reducible assumption) ?_) | go_size))⟩
      · go_enter Try.func21, Try.ntmps21
        go_wp2_with (first | (go_at_call 12; refine (iBucketOk _ _ _ _).mono ?_; rintro e w' ⟨rfl, hb⟩; obtain ⟨hc, hf⟩ := bcell hb; have hc0 := fun o => hc (w.heap.size) o (by go_size); have hf0 := fun o => hf (w.heap.size) o (by go_size); have hz0 : w.heap.size < w'.heap.size := Nat.lt_of_lt_of_le (by go_size) hb.size; have hc1 := fun o => hc (w.heap.size + 1) o (by go_size); have hf1 := fun o => hf (w.heap.size + 1) o (by go_size); have hz1 : w.heap.size + 1 < w'.heap.size := Nat.lt_of_lt_of_le (by go_size) hb.size; clear hc hf; have hz := hb.size; (try simp at hz)) | (go_at_call 36; refine (isNumber_any _ _ [t] _ (by exact Rd_new _ _ _ _ _ (by simp) rfl) (by first | (simp; done) | exact Nat.le_refl _) (by simp [maxLen])).mono ?_; rintro e w' ⟨rfl, rfl⟩))
        refine bodyPost_ret (v := bkt r b (h + r * t)) (by simp [results, Try.results21, go_sem, *]) rfl ?_
        exact ⟨by rw [hv.out, Int.min_eq_right (by omega)], by (repeat' (first | (with_reducible exact Below.refl _ _) | (with_reducible assumption) | (with_reducible refine Below.alloc ?_ ?_ _) | (with_reducible refine Below.drew ?_) | (with_reducible refine below_drewN ?_ _) | (with_reducible refine Below.setCell ?_ ?_ _) | (with_reducible refine bvia ?_ (by with_reducible assumption) ?_) | go_size))⟩
    · have hn : numB [t] = false := by simp [numB, z]
      have hv := Lib.hid (fill_no (r := r) (b := b) (h := h) (t := t) (by simp [fillOk, z]))
      go_enter Try.func21, Try.ntmps21
      go_wp2_with (first | (go_at_call 12; refine (iBucketOk _ _ _ _).mono ?_; rintro e w' ⟨rfl, hb⟩; obtain ⟨hc, hf⟩ := bcell hb; have hc0 := fun o => hc (w.heap.size) o (by go_size); have hf0 := fun o => hf (w.heap.size) o (by go_size); have hz0 : w.heap.size < w'.heap.size := Nat.lt_of_lt_of_le (by go_size) hb.size; have hc1 := fun o => hc (w.heap.size + 1) o (by go_size); have hf1 := fun o => hf (w.heap.size + 1) o (by go_size); have hz1 : w.heap.size + 1 < w'.heap.size := Nat.lt_of_lt_of_le (by go_size) hb.size; clear hc hf; have hz := hb.size; (try simp at hz)) | (go_at_call 36; refine (isNumber_any _ _ [t] _ (by exact Rd_new _ _ _ _ _ (by simp) rfl) (by first | (simp; done) | exact Nat.le_refl _) (by simp [maxLen])).mono ?_; rintro e w' ⟨rfl, rfl⟩))
      refine bodyPost_ret (v := bkt r b h) (by simp [results, Try.results21, go_sem, *]) rfl ?_
      exact ⟨by rw [hv.out], by (repeat' (first | (with_reducible exact Below.refl _ _) | (with_reducible assumption) | (with_reducible refine Below.alloc ?_ ?_ _) | (with_reducible refine Below.drew ?_) | (with_reducible refine below_drewN ?_ _) | (with_reducible refine Below.setCell ?_ ?_ _) | (with_reducible refine bvia ?_ (by with_reducible assumption) ?_) | go_size))⟩
  · have hv := Lib.hid (fill_no (r := r) (b := b) (h := h) (t := t) (by simp [fillOk, k]))
    go_enter Try.func21, Try.ntmps21
    go_wp2_with (first | (go_at_call 12; refine (iBucketOk _ _ _ _).mono ?_; rintro e w' ⟨rfl, hb⟩; obtain ⟨hc, hf⟩ := bcell hb; have hc0 := fun o => hc (w.heap.size) o (by go_size); have hf0 := fun o => hf (w.heap.size) o (by go_size); have hz0 : w.heap.size < w'.heap.size := Nat.lt_of_lt_of_le (by go_size) hb.size; have hc1 := fun o => hc (w.heap.size + 1) o (by go_size); have hf1 := fun o => hf (w.heap.size + 1) o (by go_size); have hz1 : w.heap.size + 1 < w'.heap.size := Nat.lt_of_lt_of_le (by go_size) hb.size; clear hc hf; have hz := hb.size; (try simp at hz)) | (go_at_call 36; refine (isNumber_any _ _ [t] _ (by exact Rd_new _ _ _ _ _ (by simp) rfl) (by first | (simp; done) | exact Nat.le_refl _) (by simp [maxLen])).mono ?_; rintro e w' ⟨rfl, rfl⟩))
    refine bodyPost_ret (v := bkt r b h) (by simp [results, Try.results21, go_sem, *]) rfl ?_
    exact ⟨by rw [hv.out], by (repeat' (first | (with_reducible exact Below.refl _ _) | (with_reducible assumption) | (with_reducible refine Below.alloc ?_ ?_ _) | (with_reducible refine Below.drew ?_) | (with_reducible refine below_drewN ?_ _) | (with_reducible refine Below.setCell ?_ ?_ _) | (with_reducible refine bvia ?_ (by with_reducible assumption) ?_) | go_size))⟩

/-- What the reference's Brought computes. -/
def brB (n a b : Int) : Int := if b < a ∨ n < a then a else if b < n then b else n
theorem Brought_any (n a b : Int) (w : World) : Calls Try.prog 35 #[.int .i64 n, .int .i64 a, .int .i64 b] w fun e w' => e = .returned (.int .i64 (brB n a b)) ∧ w = w' := by
  go_enter Try.func35, Try.ntmps35
  go_wp2
  all_goals (go_ret; exact ⟨ret_int (by unfold brB; go_light; repeat' split <;> omega), rfl⟩)
theorem fill_great {r b h t : Int} (k : bokB r b h = true) (z : winB t 0 1000000000 = true) (h1 : 100 < t) (h2 : 0 < r) : brB (h + r * 100) 0 b = fillH r b h t := by
  obtain ⟨k1, k2, k3, k4, k5, k6⟩ := bok_bounds k
  rw [fill_yes k z]
  have : r * 100 ≤ r * t := Int.mul_le_mul_of_nonneg_left (by omega) k1
  unfold brB
  rw [Int.min_eq_left (by omega)]
  split
  · omega
  · split <;> omega
theorem fill_small {r b h t : Int} (k : bokB r b h = true) (z : winB t 0 1000000000 = true) : brB (h + r * t) 0 b = fillH r b h t := by
  obtain ⟨k1, k2, k3, k4, k5, k6⟩ := bok_bounds k
  have z' := z
  simp only [winB, Bool.and_eq_true, decide_eq_true_eq] at z'
  obtain ⟨p1, p2⟩ := mul_bd k1 k2 z'.1 z'.2
  rw [fill_yes k z]
  unfold brB
  split
  · omega
  · split
    · rw [Int.min_eq_left (by omega)]
    · rw [Int.min_eq_right (by omega)]
set_option maxHeartbeats 1000000 in
theorem sFilled (r b h t : Int) (w : World) : Calls Try.prog 20 #[bkt r b h, .int .i64 t] w fun e w' => e = .returned (bkt r b (fillH r b h t)) ∧ Below w.heap.size w w' := by
  by_cases k : bokB r b h = true
  · obtain ⟨k1, k2, k3, k4, k5, k6⟩ := bok_bounds k
    by_cases z : winB t 0 1000000000 = true
    · have z' := z
      simp only [winB, Bool.and_eq_true, decide_eq_true_eq] at z'
      obtain ⟨p1, p2⟩ := mul_bd k1 k2 z'.1 z'.2
      by_cases m : 100 < t
      · by_cases m2 : 0 < r
        · have hv := Lib.hid (fill_great k z m m2)
          go_enter Try.func20, Try.ntmps20
          go_wp2_with (first | (go_at_call 10; refine (sBucketOk _ _ _ _).mono ?_; rintro e w' ⟨rfl, hb⟩; obtain ⟨hc, hf⟩ := bcell hb; have hc0 := fun o => hc (w.heap.size) o (by go_size); have hf0 := fun o => hf (w.heap.size) o (by go_size); have hz0 : w.heap.size < w'.heap.size := Nat.lt_of_lt_of_le (by go_size) hb.size; have hc1 := fun o => hc (w.heap.size + 1) o (by go_size); have hf1 := fun o => hf (w.heap.size + 1) o (by go_size); have hz1 : w.heap.size + 1 < w'.heap.size := Nat.lt_of_lt_of_le (by go_size) hb.size; clear hc hf; have hz := hb.size; (try simp at hz)) | (go_at_call 33; refine (l01In_any _ _ _ _).mono ?_; rintro e w' ⟨rfl, rfl⟩) | (go_at_call 35; refine (Brought_any _ _ _ _).mono ?_; rintro e w' ⟨rfl, rfl⟩))
          refine bodyPost_ret (v := bkt r b (brB (h + r * 100) 0 b)) (by simp [results, Try.results20, go_sem, *]) rfl ?_
          exact ⟨by rw [hv.out], by (repeat' (first | (with_reducible exact Below.refl _ _) | (with_reducible assumption) | (with_reducible refine Below.alloc ?_ ?_ _) | (with_reducible refine Below.drew ?_) | (with_reducible refine below_drewN ?_ _) | (with_reducible refine Below.setCell ?_ ?_ _) | (with_reducible refine bvia ?_ (by with_reducible assumption) ?_) | go_size))⟩
        · have hv := Lib.hid (fill_small k z)
          go_enter Try.func20, Try.ntmps20
          go_wp2_with (first | (go_at_call 10; refine (sBucketOk _ _ _ _).mono ?_; rintro e w' ⟨rfl, hb⟩; obtain ⟨hc, hf⟩ := bcell hb; have hc0 := fun o => hc (w.heap.size) o (by go_size); have hf0 := fun o => hf (w.heap.size) o (by go_size); have hz0 : w.heap.size < w'.heap.size := Nat.lt_of_lt_of_le (by go_size) hb.size; have hc1 := fun o => hc (w.heap.size + 1) o (by go_size); have hf1 := fun o => hf (w.heap.size + 1) o (by go_size); have hz1 : w.heap.size + 1 < w'.heap.size := Nat.lt_of_lt_of_le (by go_size) hb.size; clear hc hf; have hz := hb.size; (try simp at hz)) | (go_at_call 33; refine (l01In_any _ _ _ _).mono ?_; rintro e w' ⟨rfl, rfl⟩) | (go_at_call 35; refine (Brought_any _ _ _ _).mono ?_; rintro e w' ⟨rfl, rfl⟩))
          refine bodyPost_ret (v := bkt r b (brB (h + r * t) 0 b)) (by simp [results, Try.results20, go_sem, *]) rfl ?_
          exact ⟨by rw [hv.out], by (repeat' (first | (with_reducible exact Below.refl _ _) | (with_reducible assumption) | (with_reducible refine Below.alloc ?_ ?_ _) | (with_reducible refine Below.drew ?_) | (with_reducible refine below_drewN ?_ _) | (with_reducible refine Below.setCell ?_ ?_ _) | (with_reducible refine bvia ?_ (by with_reducible assumption) ?_) | go_size))⟩
      · have hv := Lib.hid (fill_small k z)
        go_enter Try.func20, Try.ntmps20
        go_wp2_with (first | (go_at_call 10; refine (sBucketOk _ _ _ _).mono ?_; rintro e w' ⟨rfl, hb⟩; obtain ⟨hc, hf⟩ := bcell hb; have hc0 := fun o => hc (w.heap.size) o (by go_size); have hf0 := fun o => hf (w.heap.size) o (by go_size); have hz0 : w.heap.size < w'.heap.size := Nat.lt_of_lt_of_le (by go_size) hb.size; have hc1 := fun o => hc (w.heap.size + 1) o (by go_size); have hf1 := fun o => hf (w.heap.size + 1) o (by go_size); have hz1 : w.heap.size + 1 < w'.heap.size := Nat.lt_of_lt_of_le (by go_size) hb.size; clear hc hf; have hz := hb.size; (try simp at hz)) | (go_at_call 33; refine (l01In_any _ _ _ _).mono ?_; rintro e w' ⟨rfl, rfl⟩) | (go_at_call 35; refine (Brought_any _ _ _ _).mono ?_; rintro e w' ⟨rfl, rfl⟩))
        refine bodyPost_ret (v := bkt r b (brB (h + r * t) 0 b)) (by simp [results, Try.results20, go_sem, *]) rfl ?_
        exact ⟨by rw [hv.out], by (repeat' (first | (with_reducible exact Below.refl _ _) | (with_reducible assumption) | (with_reducible refine Below.alloc ?_ ?_ _) | (with_reducible refine Below.drew ?_) | (with_reducible refine below_drewN ?_ _) | (with_reducible refine Below.setCell ?_ ?_ _) | (with_reducible refine bvia ?_ (by with_reducible assumption) ?_) | go_size))⟩
    · have hv := Lib.hid (fill_no (r := r) (b := b) (h := h) (t := t) (by simp [fillOk, z]))
      go_enter Try.func20, Try.ntmps20
      go_wp2_with (first | (go_at_call 10; refine (sBucketOk _ _ _ _).mono ?_; rintro e w' ⟨rfl, hb⟩; obtain ⟨hc, hf⟩ := bcell hb; have hc0 := fun o => hc (w.heap.size) o (by go_size); have hf0 := fun o => hf (w.heap.size) o (by go_size); have hz0 : w.heap.size < w'.heap.size := Nat.lt_of_lt_of_le (by go_size) hb.size; have hc1 := fun o => hc (w.heap.size + 1) o (by go_size); have hf1 := fun o => hf (w.heap.size + 1) o (by go_size); have hz1 : w.heap.size + 1 < w'.heap.size := Nat.lt_of_lt_of_le (by go_size) hb.size; clear hc hf; have hz := hb.size; (try simp at hz)) | (go_at_call 33; refine (l01In_any _ _ _ _).mono ?_; rintro e w' ⟨rfl, rfl⟩) | (go_at_call 35; refine (Brought_any _ _ _ _).mono ?_; rintro e w' ⟨rfl, rfl⟩))
      refine bodyPost_ret (v := bkt r b h) (by simp [results, Try.results20, go_sem, *]) rfl ?_
      exact ⟨by rw [hv.out], by (repeat' (first | (with_reducible exact Below.refl _ _) | (with_reducible assumption) | (with_reducible refine Below.alloc ?_ ?_ _) | (with_reducible refine Below.drew ?_) | (with_reducible refine below_drewN ?_ _) | (with_reducible refine Below.setCell ?_ ?_ _) | (with_reducible refine bvia ?_ (by with_reducible assumption) ?_) | go_size))⟩
  · have hv := Lib.hid (fill_no (r := r) (b := b) (h := h) (t := t) (by simp [fillOk, k]))
    go_enter Try.func20, Try.ntmps20
    go_wp2_with (first | (go_at_call 10; refine (sBucketOk _ _ _ _).mono ?_; rintro e w' ⟨rfl, hb⟩; obtain ⟨hc, hf⟩ := bcell hb; have hc0 := fun o => hc (w.heap.size) o (by go_size); have hf0 := fun o => hf (w.heap.size) o (by go_size); have hz0 : w.heap.size < w'.heap.size := Nat.lt_of_lt_of_le (by go_size) hb.size; have hc1 := fun o => hc (w.heap.size + 1) o (by go_size); have hf1 := fun o => hf (w.heap.size + 1) o (by go_size); have hz1 : w.heap.size + 1 < w'.heap.size := Nat.lt_of_lt_of_le (by go_size) hb.size; clear hc hf; have hz := hb.size; (try simp at hz)) | (go_at_call 33; refine (l01In_any _ _ _ _).mono ?_; rintro e w' ⟨rfl, rfl⟩) | (go_at_call 35; refine (Brought_any _ _ _ _).mono ?_; rintro e w' ⟨rfl, rfl⟩))
    refine bodyPost_ret (v := bkt r b h) (by simp [results, Try.results20, go_sem, *]) rfl ?_
    exact ⟨by rw [hv.out], by (repeat' (first | (with_reducible exact Below.refl _ _) | (with_reducible assumption) | (with_reducible refine Below.alloc ?_ ?_ _) | (with_reducible refine Below.drew ?_) | (with_reducible refine below_drewN ?_ _) | (with_reducible refine Below.setCell ?_ ?_ _) | (with_reducible refine bvia ?_ (by with_reducible assumption) ?_) | go_size))⟩
theorem walk_FnExactFilled (x : BucketD) (t : Int) (w : World) (_ : x.wf) (_ : -9223372036854775808 ≤ t ∧ t ≤ 9223372036854775807) : Calls Try.prog 7 #[x.val, .int .i64 t] w fun e w' => e = .returned (.bool true) ∧ Below w.heap.size w w' := by
  obtain ⟨r, b, h⟩ := x
  have hs := eqB3_same
  go_enter Try.func7, Try.ntmps7
  go_wp2_with fail
  refine (toBucket_any _ _ _ _).mono ?_
  rintro e w1 ⟨rfl, hb1⟩
  obtain ⟨hc, hf⟩ := bcell hb1
  have hc1_0 := fun o => hc (w.heap.size) o (by go_size)
  have hf1_0 := fun o => hf (w.heap.size) o (by go_size)
  have hz1_0 : w.heap.size < w1.heap.size := Nat.lt_of_lt_of_le (by go_size) hb1.size
  clear hc hf
  have hz1 := hb1.size
  try simp at hz1
  go_wp2_with fail
  refine (sFilled _ _ _ _ _).mono ?_
  rintro e w2 ⟨rfl, hb2⟩
  obtain ⟨hc, hf⟩ := bcell hb2
  have hc2_0 := fun o => hc (w.heap.size) o (by go_size)
  have hf2_0 := fun o => hf (w.heap.size) o (by go_size)
  have hz2_0 : w.heap.size < w2.heap.size := Nat.lt_of_lt_of_le (by go_size) hb2.size
  clear hc hf
  have hz2 := hb2.size
  try simp at hz2
  go_wp2_with fail
  refine (toBucket_any _ _ _ _).mono ?_
  rintro e w3 ⟨rfl, hb3⟩
  obtain ⟨hc, hf⟩ := bcell hb3
  have hc3_0 := fun o => hc (w.heap.size) o (by go_size)
  have hf3_0 := fun o => hf (w.heap.size) o (by go_size)
  have hz3_0 : w.heap.size < w3.heap.size := Nat.lt_of_lt_of_le (by go_size) hb3.size
  have hc3_1 := fun o => hc (w2.heap.size) o (by go_size)
  have hf3_1 := fun o => hf (w2.heap.size) o (by go_size)
  have hz3_1 : w2.heap.size < w3.heap.size := Nat.lt_of_lt_of_le (by go_size) hb3.size
  clear hc hf
  have hz3 := hb3.size
  try simp at hz3
  go_wp2_with fail
  refine (iFilled _ _ _ _ _).mono ?_
  rintro e w4 ⟨rfl, hb4⟩
  obtain ⟨hc, hf⟩ := bcell hb4
  have hc4_0 := fun o => hc (w.heap.size) o (by go_size)
  have hf4_0 := fun o => hf (w.heap.size) o (by go_size)
  have hz4_0 : w.heap.size < w4.heap.size := Nat.lt_of_lt_of_le (by go_size) hb4.size
  have hc4_1 := fun o => hc (w2.heap.size) o (by go_size)
  have hf4_1 := fun o => hf (w2.heap.size) o (by go_size)
  have hz4_1 : w2.heap.size < w4.heap.size := Nat.lt_of_lt_of_le (by go_size) hb4.size
  clear hc hf
  have hz4 := hb4.size
  try simp at hz4
  go_wp2_with fail
  refine (eqBucket_any _ _ _ _ _ _ _).mono ?_
  rintro e w5 ⟨rfl, hb5⟩
  have hz5 := hb5.size
  try simp at hz5
  go_wp2
  go_ret
  exact ⟨rfl, by (repeat' (first | (with_reducible exact Below.refl _ _) | (with_reducible assumption) | (with_reducible refine Below.alloc ?_ ?_ _) | (with_reducible refine Below.drew ?_) | (with_reducible refine below_drewN ?_ _) | (with_reducible refine Below.setCell ?_ ?_ _) | (with_reducible refine bvia ?_ (by with_reducible assumption) ?_) | go_size))⟩
end Go.Proofs.Ytkeldhffhiekpaa
