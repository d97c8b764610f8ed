/- Contracts of MostIn, BucketNew, TakeOne (program and reference). They hold for every argument. -/
import Derived.Test.YtkeldhffhiekpaaBucket
namespace Go.Proofs.Ytkeldhffhiekpaa
set_option linter.unusedSimpArgs false
set_option linter.unusedVariables false
open Go.RowKit

/-- What MostIn computes. -/
def mostB (r b h t : Int) : Int := if bokB r b h && winB t 0 100000 then wrap64 (b + wrap64 (r * t)) else 0
theorem iMostIn (r b h t : Int) (w : World) : Calls Try.prog 14 #[bkt r b h, .int .i64 t] w fun e w' => e = .returned (.int .i64 (mostB r b h t)) ∧ Below w.heap.size w w' := by
  go_enter Try.func14, Try.ntmps14
  go_wp2_with (first | (go_at_call 34; refine (within_any _ _ _ _).mono ?_; rintro e w' ⟨rfl, rfl⟩) | (go_at_call 12; refine (iBucketOk _ _ _ _).mono ?_; rintro e w' ⟨rfl, hb⟩; obtain ⟨hc, hf⟩ := bcell hb; have hz := hb.size; (try simp at hz)))
  all_goals (go_ret; exact ⟨ret_int (by go_light; simp_all [mostB]), by (repeat' (first | (with_reducible exact Below.refl _ _) | (with_reducible assumption) | (with_reducible refine Below.alloc ?_ ?_ _) | (with_reducible refine Below.drew ?_) | (with_reducible refine below_drewN ?_ _) | (with_reducible refine Below.setCell ?_ ?_ _) | (with_reducible refine bvia ?_ (by with_reducible assumption) ?_) | go_size))⟩)
theorem sMostIn (r b h t : Int) (w : World) : Calls Try.prog 13 #[bkt r b h, .int .i64 t] w fun e w' => e = .returned (.int .i64 (mostB r b h t)) ∧ Below w.heap.size w w' := by
  go_enter Try.func13, Try.ntmps13
  go_wp2_with (first | (go_at_call 33; refine (l01In_any _ _ _ _).mono ?_; rintro e w' ⟨rfl, rfl⟩) | (go_at_call 10; refine (sBucketOk _ _ _ _).mono ?_; rintro e w' ⟨rfl, hb⟩; obtain ⟨hc, hf⟩ := bcell hb; have hz := hb.size; (try simp at hz)))
  all_goals (go_ret; exact ⟨ret_int (by go_light; simp_all [mostB]), by (repeat' (first | (with_reducible exact Below.refl _ _) | (with_reducible assumption) | (with_reducible refine Below.alloc ?_ ?_ _) | (with_reducible refine Below.drew ?_) | (with_reducible refine below_drewN ?_ _) | (with_reducible refine Below.setCell ?_ ?_ _) | (with_reducible refine bvia ?_ (by with_reducible assumption) ?_) | go_size))⟩)

/-- What BucketNew computes: the numbers of the bucket. -/
def newR (r b : Int) : Int := if bokB r b b then r else 0
def newB (r b : Int) : Int := if bokB r b b then b else 0
theorem iBucketNew (r b : Int) (w : World) : Calls Try.prog 16 #[.int .i64 r, .int .i64 b] w fun e w' => e = .returned (.tuple #[bkt (newR r b) (newB r b) (newB r b), .bool (bokB r b b)]) ∧ Below w.heap.size w w' := by
  by_cases h : bokB r b b = true
  all_goals
    go_enter Try.func16, Try.ntmps16
    go_wp2_with (first | (go_at_call 12; refine (iBucketOk _ _ _ _).mono ?_; rintro e w' ⟨rfl, hb⟩; obtain ⟨hc, hf⟩ := bcell hb; have hz := hb.size; (try simp at hz)))
    refine bodyPost_ret (by simp +arith [results, Try.results16, go_sem, *]; try rfl) rfl ?_
    exact ⟨by simp [newR, newB, h], by (repeat' (first | (with_reducible exact Below.refl _ _) | (with_reducible assumption) | (with_reducible refine Below.alloc ?_ ?_ _) | (with_reducible refine Below.drew ?_) | (with_reducible refine below_drewN ?_ _) | (with_reducible refine Below.setCell ?_ ?_ _) | (with_reducible refine bvia ?_ (by with_reducible assumption) ?_) | go_size))⟩
theorem sBucketNew (r b : Int) (w : World) : Calls Try.prog 15 #[.int .i64 r, .int .i64 b] w fun e w' => e = .returned (.tuple #[bkt (newR r b) (newB r b) (newB r b), .bool (bokB r b b)]) ∧ Below w.heap.size w w' := by
  by_cases h : bokB r b b = true
  all_goals
    go_enter Try.func15, Try.ntmps15
    go_wp2_with (first | (go_at_call 10; refine (sBucketOk _ _ _ _).mono ?_; rintro e w' ⟨rfl, hb⟩; obtain ⟨hc, hf⟩ := bcell hb; have hz := hb.size; (try simp at hz)))
    refine bodyPost_ret (by simp +arith [results, Try.results15, go_sem, *]; try rfl) rfl ?_
    exact ⟨by simp [newR, newB, h], by (repeat' (first | (with_reducible exact Below.refl _ _) | (with_reducible assumption) | (with_reducible refine Below.alloc ?_ ?_ _) | (with_reducible refine Below.drew ?_) | (with_reducible refine below_drewN ?_ _) | (with_reducible refine Below.setCell ?_ ?_ _) | (with_reducible refine bvia ?_ (by with_reducible assumption) ?_) | go_size))⟩

theorem bok_bounds {r b h : Int} (k : bokB r b h = true) : 0 ≤ r ∧ r ≤ 100 ∧ 1 ≤ b ∧ b ≤ 100 ∧ 0 ≤ h ∧ h ≤ b := by
  simp [bokB, winB] at k; omega
/-- What TakeOne computes. -/
def takeOk (r b h : Int) : Bool := bokB r b h && h != 0
def takeH (r b h : Int) : Int := if takeOk r b h then h - 1 else h
theorem iTakeOne (r b h : Int) (w : World) : Calls Try.prog 19 #[bkt r b h] w fun e w' => e = .returned (.tuple #[bkt r b (takeH r b h), .bool (takeOk r b h)]) ∧ Below w.heap.size w w' := by
  by_cases k : bokB r b h = true
  · have kb := bok_bounds k
    by_cases z : (h == 0) = true
    · go_enter Try.func19, Try.ntmps19
      go_wp2_with (first | (go_at_call 12; refine (iBucketOk _ _ _ _).mono ?_; rintro e w' ⟨rfl, hb⟩; obtain ⟨hc, hf⟩ := bcell hb; have hc0 := fun o => hc (w.heap.size) o (by go_size); have hf0 := fun o => hf (w.heap.size) o (by go_size); have hz0 : w.heap.size < w'.heap.size := Nat.lt_of_lt_of_le (by go_size) hb.size; have hc1 := fun o => hc (w.heap.size + 1) o (by go_size); have hf1 := fun o => hf (w.heap.size + 1) o (by go_size); have hz1 : w.heap.size + 1 < w'.heap.size := Nat.lt_of_lt_of_le (by go_size) hb.size; clear hc hf; have hz := hb.size; (try simp at hz)))
      refine bodyPost_ret (v := .tuple #[bkt r b h, .bool false]) (by simp [results, Try.results19, go_sem, *]) rfl ?_
      exact ⟨by simp at z; simp [takeH, takeOk, k, z], by (repeat' (first | (with_reducible exact Below.refl _ _) | (with_reducible assumption) | (with_reducible refine Below.alloc ?_ ?_ _) | (with_reducible refine Below.drew ?_) | (with_reducible refine below_drewN ?_ _) | (with_reducible refine Below.setCell ?_ ?_ _) | (with_reducible refine bvia ?_ (by with_reducible assumption) ?_) | go_size))⟩
    · go_enter Try.func19, Try.ntmps19
      go_wp2_with (first | (go_at_call 12; refine (iBucketOk _ _ _ _).mono ?_; rintro e w' ⟨rfl, hb⟩; obtain ⟨hc, hf⟩ := bcell hb; have hc0 := fun o => hc (w.heap.size) o (by go_size); have hf0 := fun o => hf (w.heap.size) o (by go_size); have hz0 : w.heap.size < w'.heap.size := Nat.lt_of_lt_of_le (by go_size) hb.size; have hc1 := fun o => hc (w.heap.size + 1) o (by go_size); have hf1 := fun o => hf (w.heap.size + 1) o (by go_size); have hz1 : w.heap.size + 1 < w'.heap.size := Nat.lt_of_lt_of_le (by go_size) hb.size; clear hc hf; have hz := hb.size; (try simp at hz)))
      refine bodyPost_ret (v := .tuple #[bkt r b (h - 1), .bool true]) (by simp [results, Try.results19, go_sem, *]) rfl ?_
      exact ⟨by simp at z; simp [takeH, takeOk, k, z], by (repeat' (first | (with_reducible exact Below.refl _ _) | (with_reducible assumption) | (with_reducible refine Below.alloc ?_ ?_ _) | (with_reducible refine Below.drew ?_) | (with_reducible refine below_drewN ?_ _) | (with_reducible refine Below.setCell ?_ ?_ _) | (with_reducible refine bvia ?_ (by with_reducible assumption) ?_) | go_size))⟩
  · go_enter Try.func19, Try.ntmps19
    go_wp2_with (first | (go_at_call 12; refine (iBucketOk _ _ _ _).mono ?_; rintro e w' ⟨rfl, hb⟩; obtain ⟨hc, hf⟩ := bcell hb; have hc0 := fun o => hc (w.heap.size) o (by go_size); have hf0 := fun o => hf (w.heap.size) o (by go_size); have hz0 : w.heap.size < w'.heap.size := Nat.lt_of_lt_of_le (by go_size) hb.size; have hc1 := fun o => hc (w.heap.size + 1) o (by go_size); have hf1 := fun o => hf (w.heap.size + 1) o (by go_size); have hz1 : w.heap.size + 1 < w'.heap.size := Nat.lt_of_lt_of_le (by go_size) hb.size; clear hc hf; have hz := hb.size; (try simp at hz)))
    refine bodyPost_ret (v := .tuple #[bkt r b h, .bool false]) (by simp [results, Try.results19, go_sem, *]) rfl ?_
    exact ⟨by simp [takeH, takeOk, k], by (repeat' (first | (with_reducible exact Below.refl _ _) | (with_reducible assumption) | (with_reducible refine Below.alloc ?_ ?_ _) | (with_reducible refine Below.drew ?_) | (with_reducible refine below_drewN ?_ _) | (with_reducible refine Below.setCell ?_ ?_ _) | (with_reducible refine bvia ?_ (by with_reducible assumption) ?_) | go_size))⟩
theorem sTakeOne (r b h : Int) (w : World) : Calls Try.prog 18 #[bkt r b h] w fun e w' => e = .returned (.tuple #[bkt r b (takeH r b h), .bool (takeOk r b h)]) ∧ Below w.heap.size w w' := by
  by_cases k : bokB r b h = true
  · have kb := bok_bounds k
    by_cases z : (h == 0) = true
    · go_enter Try.func18, Try.ntmps18
      go_wp2_with (first | (go_at_call 10; refine (sBucketOk _ _ _ _).mono ?_; rintro e w' ⟨rfl, hb⟩; obtain ⟨hc, hf⟩ := bcell hb; have hc0 := fun o => hc (w.heap.size) o (by go_size); have hf0 := fun o => hf (w.heap.size) o (by go_size); have hz0 : w.heap.size < w'.heap.size := Nat.lt_of_lt_of_le (by go_size) hb.size; have hc1 := fun o => hc (w.heap.size + 1) o (by go_size); have hf1 := fun o => hf (w.heap.size + 1) o (by go_size); have hz1 : w.heap.size + 1 < w'.heap.size := Nat.lt_of_lt_of_le (by go_size) hb.size; clear hc hf; have hz := hb.size; (try simp at hz)))
      refine bodyPost_ret (v := .tuple #[bkt r b h, .bool false]) (by simp [results, Try.results18, go_sem, *]) rfl ?_
      exact ⟨by simp at z; simp [takeH, takeOk, k, z], by (repeat' (first | (with_reducible exact Below.refl _ _) | (with_reducible assumption) | (with_reducible refine Below.alloc ?_ ?_ _) | (with_reducible refine Below.drew ?_) | (with_reducible refine below_drewN ?_ _) | (with_reducible refine Below.setCell ?_ ?_ _) | (with_reducible refine bvia ?_ (by with_reducible assumption) ?_) | go_size))⟩
    · go_enter Try.func18, Try.ntmps18
      go_wp2_with (first | (go_at_call 10; refine (sBucketOk _ _ _ _).mono ?_; rintro e w' ⟨rfl, hb⟩; obtain ⟨hc, hf⟩ := bcell hb; have hc0 := fun o => hc (w.heap.size) o (by go_size); have hf0 := fun o => hf (w.heap.size) o (by go_size); have hz0 : w.heap.size < w'.heap.size := Nat.lt_of_lt_of_le (by go_size) hb.size; have hc1 := fun o => hc (w.heap.size + 1) o (by go_size); have hf1 := fun o => hf (w.heap.size + 1) o (by go_size); have hz1 : w.heap.size + 1 < w'.heap.size := Nat.lt_of_lt_of_le (by go_size) hb.size; clear hc hf; have hz := hb.size; (try simp at hz)))
      refine bodyPost_ret (v := .tuple #[bkt r b (h - 1), .bool true]) (by simp [results, Try.results18, go_sem, *]) rfl ?_
      exact ⟨by simp at z; simp [takeH, takeOk, k, z], by (repeat' (first | (with_reducible exact Below.refl _ _) | (with_reducible assumption) | (with_reducible refine Below.alloc ?_ ?_ _) | (with_reducible refine Below.drew ?_) | (with_reducible refine below_drewN ?_ _) | (with_reducible refine Below.setCell ?_ ?_ _) | (with_reducible refine bvia ?_ (by with_reducible assumption) ?_) | go_size))⟩
  · go_enter Try.func18, Try.ntmps18
    go_wp2_with (first | (go_at_call 10; refine (sBucketOk _ _ _ _).mono ?_; rintro e w' ⟨rfl, hb⟩; obtain ⟨hc, hf⟩ := bcell hb; have hc0 := fun o => hc (w.heap.size) o (by go_size); have hf0 := fun o => hf (w.heap.size) o (by go_size); have hz0 : w.heap.size < w'.heap.size := Nat.lt_of_lt_of_le (by go_size) hb.size; have hc1 := fun o => hc (w.heap.size + 1) o (by go_size); have hf1 := fun o => hf (w.heap.size + 1) o (by go_size); have hz1 : w.heap.size + 1 < w'.heap.size := Nat.lt_of_lt_of_le (by go_size) hb.size; clear hc hf; have hz := hb.size; (try simp at hz)))
    refine bodyPost_ret (v := .tuple #[bkt r b h, .bool false]) (by simp [results, Try.results18, go_sem, *]) rfl ?_
    exact ⟨by simp [takeH, takeOk, k], by (repeat' (first | (with_reducible exact Below.refl _ _) | (with_reducible assumption) | (with_reducible refine Below.alloc ?_ ?_ _) | (with_reducible refine Below.drew ?_) | (with_reducible refine below_drewN ?_ _) | (with_reducible refine Below.setCell ?_ ?_ _) | (with_reducible refine bvia ?_ (by with_reducible assumption) ?_) | go_size))⟩
end Go.Proofs.Ytkeldhffhiekpaa
