/- The walks of the laws FnExactBucketOk, FnExactMostIn, FnExactBucketNew, FnExactTakeOne: each returns true for every argument. -/
import Derived.Test.YtkeldhffhiekpaaTy
import Derived.Test.YtkeldhffhiekpaaBucket2
namespace Go.Proofs.Ytkeldhffhiekpaa
set_option linter.unusedSimpArgs false
set_option linter.unusedVariables false
open Go.RowKit

theorem walk_FnExactBucketOk (x : BucketD) (w : World) (_ : x.wf) : Calls Try.prog 3 #[x.val] w fun e w' => e = .returned (.bool true) ∧ Below w.heap.size w w' := by
  obtain ⟨r, b, h⟩ := x
  go_enter Try.func3, Try.ntmps3
  go_wp2_with (first | (go_at_call 11; refine (toBucket_any _ _ _ _).mono ?_; rintro e w' ⟨rfl, hb⟩; obtain ⟨hc, hf⟩ := bcell hb; have hc0 := fun o => hc (w.heap.size) o (by go_size); have hf0 := fun o => hf (w.heap.size) o (by go_size); have hz0 : w.heap.size < w'.heap.size := Nat.lt_of_lt_of_le (by go_size) hb.size; clear hc hf; have hz := hb.size; (try simp at hz)) | (go_at_call 12; refine (iBucketOk _ _ _ _).mono ?_; rintro e w' ⟨rfl, hb⟩; obtain ⟨hc, hf⟩ := bcell hb; have hc0 := fun o => hc (w.heap.size) o (by go_size); have hf0 := fun o => hf (w.heap.size) o (by go_size); have hz0 : w.heap.size < w'.heap.size := Nat.lt_of_lt_of_le (by go_size) hb.size; clear hc hf; have hz := hb.size; (try simp at hz)) | (go_at_call 10; refine (sBucketOk _ _ _ _).mono ?_; rintro e w' ⟨rfl, hb⟩; obtain ⟨hc, hf⟩ := bcell hb; have hc0 := fun o => hc (w.heap.size) o (by go_size); have hf0 := fun o => hf (w.heap.size) o (by go_size); have hz0 : w.heap.size < w'.heap.size := Nat.lt_of_lt_of_le (by go_size) hb.size; clear hc hf; have hz := hb.size; (try simp at hz)))
  go_ret
  exact ⟨rfl, by (repeat' (first | (with_reducible exact Below.refl _ _) | (with_reducible assumption) | (with_reducible refine Below.alloc ?_ ?_ _) | (with_reducible refine Below.drew ?_) | (with_reducible refine below_drewN ?_ _) | (with_reducible refine Below.setCell ?_ ?_ _) | (with_reducible refine bvia ?_ (by with_reducible assumption) ?_) | go_size))⟩
theorem walk_FnExactMostIn (x : BucketD) (t : Int) (w : World) (_ : x.wf) (_ : -9223372036854775808 ≤ t ∧ t ≤ 9223372036854775807) : Calls Try.prog 4 #[x.val, .int .i64 t] w fun e w' => e = .returned (.bool true) ∧ Below w.heap.size w w' := by
  obtain ⟨r, b, h⟩ := x
  go_enter Try.func4, Try.ntmps4
  go_wp2_with (first | (go_at_call 11; refine (toBucket_any _ _ _ _).mono ?_; rintro e w' ⟨rfl, hb⟩; obtain ⟨hc, hf⟩ := bcell hb; have hc0 := fun o => hc (w.heap.size) o (by go_size); have hf0 := fun o => hf (w.heap.size) o (by go_size); have hz0 : w.heap.size < w'.heap.size := Nat.lt_of_lt_of_le (by go_size) hb.size; clear hc hf; have hz := hb.size; (try simp at hz)) | (go_at_call 14; refine (iMostIn _ _ _ _ _).mono ?_; rintro e w' ⟨rfl, hb⟩; obtain ⟨hc, hf⟩ := bcell hb; have hc0 := fun o => hc (w.heap.size) o (by go_size); have hf0 := fun o => hf (w.heap.size) o (by go_size); have hz0 : w.heap.size < w'.heap.size := Nat.lt_of_lt_of_le (by go_size) hb.size; clear hc hf; have hz := hb.size; (try simp at hz)) | (go_at_call 13; refine (sMostIn _ _ _ _ _).mono ?_; rintro e w' ⟨rfl, hb⟩; obtain ⟨hc, hf⟩ := bcell hb; have hc0 := fun o => hc (w.heap.size) o (by go_size); have hf0 := fun o => hf (w.heap.size) o (by go_size); have hz0 : w.heap.size < w'.heap.size := Nat.lt_of_lt_of_le (by go_size) hb.size; clear hc hf; have hz := hb.size; (try simp at hz)))
  go_ret
  exact ⟨rfl, by (repeat' (first | (with_reducible exact Below.refl _ _) | (with_reducible assumption) | (with_reducible refine Below.alloc ?_ ?_ _) | (with_reducible refine Below.drew ?_) | (with_reducible refine below_drewN ?_ _) | (with_reducible refine Below.setCell ?_ ?_ _) | (with_reducible refine bvia ?_ (by with_reducible assumption) ?_) | go_size))⟩
theorem eqB3_same (a b c : Int) : eqB3 a b c a b c = true := by simp [eqB3]
theorem walk_FnExactBucketNew (r b : Int) (w : World) (_ : -9223372036854775808 ≤ r ∧ r ≤ 9223372036854775807) (_ : -9223372036854775808 ≤ b ∧ b ≤ 9223372036854775807) : Calls Try.prog 5 #[.int .i64 r, .int .i64 b] w fun e w' => e = .returned (.bool true) ∧ Below w.heap.size w w' := by
  have hs := eqB3_same
  go_enter Try.func5, Try.ntmps5
  go_wp2_with fail
  refine (sBucketNew _ _ _).mono ?_
  rintro e w1 ⟨rfl, hb1⟩
  have hz1 := hb1.size
  try simp at hz1
  go_wp2_with fail
  refine (iBucketNew _ _ _).mono ?_
  rintro e w2 ⟨rfl, hb2⟩
  obtain ⟨hc, hf⟩ := bcell hb2
  have hc2_0 := fun o => hc (w1.heap.size) o (by go_size)
  have hf2_0 := fun o => hf (w1.heap.size) o (by go_size)
  have hz2_0 : w1.heap.size < w2.heap.size := Nat.lt_of_lt_of_le (by go_size) hb2.size
  clear hc hf
  have hz2 := hb2.size
  try simp at hz2
  go_wp2_with fail
  refine (eqBucket_any _ _ _ _ _ _ _).mono ?_
  rintro e w3 ⟨rfl, hb3⟩
  have hz3 := hb3.size
  try simp at hz3
  go_wp2
  go_ret
  exact ⟨rfl, by (repeat' (first | (with_reducible exact Below.refl _ _) | (with_reducible assumption) | (with_reducible refine Below.alloc ?_ ?_ _) | (with_reducible refine Below.drew ?_) | (with_reducible refine below_drewN ?_ _) | (with_reducible refine Below.setCell ?_ ?_ _) | (with_reducible refine bvia ?_ (by with_reducible assumption) ?_) | go_size))⟩
theorem walk_FnExactTakeOne (x : BucketD) (w : World) (_ : x.wf) : Calls Try.prog 6 #[x.val] w fun e w' => e = .returned (.bool true) ∧ Below w.heap.size w w' := by
  obtain ⟨r, b, h⟩ := x
  have hs := eqB3_same
  go_enter Try.func6, Try.ntmps6
  go_wp2_with fail
  refine (toBucket_any _ _ _ _).mono ?_
  rintro e w1 ⟨rfl, hb1⟩
  obtain ⟨hc, hf⟩ := bcell hb1
  have hc1_0 := fun o => hc (w.heap.size) o (by go_size)
  have hf1_0 := fun o => hf (w.heap.size) o (by go_size)
  have hz1_0 : w.heap.size < w1.heap.size := Nat.lt_of_lt_of_le (by go_size) hb1.size
  clear hc hf
  have hz1 := hb1.size
  try simp at hz1
  go_wp2_with fail
  refine (sTakeOne _ _ _ _).mono ?_
  rintro e w2 ⟨rfl, hb2⟩
  obtain ⟨hc, hf⟩ := bcell hb2
  have hc2_0 := fun o => hc (w.heap.size) o (by go_size)
  have hf2_0 := fun o => hf (w.heap.size) o (by go_size)
  have hz2_0 : w.heap.size < w2.heap.size := Nat.lt_of_lt_of_le (by go_size) hb2.size
  clear hc hf
  have hz2 := hb2.size
  try simp at hz2
  go_wp2_with fail
  refine (toBucket_any _ _ _ _).mono ?_
  rintro e w3 ⟨rfl, hb3⟩
  obtain ⟨hc, hf⟩ := bcell hb3
  have hc3_0 := fun o => hc (w.heap.size) o (by go_size)
  have hf3_0 := fun o => hf (w.heap.size) o (by go_size)
  have hz3_0 : w.heap.size < w3.heap.size := Nat.lt_of_lt_of_le (by go_size) hb3.size
  have hc3_1 := fun o => hc (w2.heap.size) o (by go_size)
  have hf3_1 := fun o => hf (w2.heap.size) o (by go_size)
  have hz3_1 : w2.heap.size < w3.heap.size := Nat.lt_of_lt_of_le (by go_size) hb3.size
  clear hc hf
  have hz3 := hb3.size
  try simp at hz3
  go_wp2_with fail
  refine (iTakeOne _ _ _ _).mono ?_
  rintro e w4 ⟨rfl, hb4⟩
  obtain ⟨hc, hf⟩ := bcell hb4
  have hc4_0 := fun o => hc (w.heap.size) o (by go_size)
  have hf4_0 := fun o => hf (w.heap.size) o (by go_size)
  have hz4_0 : w.heap.size < w4.heap.size := Nat.lt_of_lt_of_le (by go_size) hb4.size
  have hc4_1 := fun o => hc (w2.heap.size) o (by go_size)
  have hf4_1 := fun o => hf (w2.heap.size) o (by go_size)
  have hz4_1 : w2.heap.size < w4.heap.size := Nat.lt_of_lt_of_le (by go_size) hb4.size
  clear hc hf
  have hz4 := hb4.size
  try simp at hz4
  go_wp2_with fail
  refine (eqBucket_any _ _ _ _ _ _ _).mono ?_
  rintro e w5 ⟨rfl, hb5⟩
  have hz5 := hb5.size
  try simp at hz5
  go_wp2
  go_ret
  exact ⟨rfl, by (repeat' (first | (with_reducible exact Below.refl _ _) | (with_reducible assumption) | (with_reducible refine Below.alloc ?_ ?_ _) | (with_reducible refine Below.drew ?_) | (with_reducible refine below_drewN ?_ _) | (with_reducible refine Below.setCell ?_ ?_ _) | (with_reducible refine bvia ?_ (by with_reducible assumption) ?_) | go_size))⟩
end Go.Proofs.Ytkeldhffhiekpaa
