/- Accept (program and reference): for every argument. -/
import Derived.Test.YtddpgdgpicamiaaOut3
namespace Go.Proofs.Ytddpgdgpicamiaa
set_option linter.unusedSimpArgs false
set_option linter.unusedVariables false
open Go.RowKit

/-- What Accept computes: how many letters it takes. -/
def accK (s t : ByteArray) (r : Int) : Int := min t.size (r - s.size)
def accOk (s t : ByteArray) (b n r : Int) : Bool := outOk s b n r && decide (b + s.size + accK s t r ≤ 1000000000)
def accN (s t : ByteArray) (b n r : Int) : Int := if accOk s t b n r then accK s t r else 0
def accT (s t : ByteArray) (b n r : Int) : ByteArray := if accOk s t b n r then s ++ t.extract 0 (accK s t r).toNat else s
theorem acc_no {s t : ByteArray} {b n r : Int} (h : accOk s t b n r = false) : accT s t b n r = s ∧ accN s t b n r = 0 := by simp [accT, accN, h]
theorem acc_yes {s t : ByteArray} {b n r : Int} (h : accOk s t b n r = true) : accT s t b n r = s ++ t.extract 0 (accK s t r).toNat ∧ accN s t b n r = accK s t r := by simp [accT, accN, h]
theorem acc_all {s t : ByteArray} {b n r : Int} (h : outOk s b n r = true) (h2 : (t.size : Int) ≤ r - s.size) (h3 : b + s.size + t.size ≤ 1000000000) : accT s t b n r = s ++ t ∧ accN s t b n r = t.size := by
  have hk : accK s t r = t.size := by unfold accK; omega
  have hv := acc_yes (n := n) (show accOk s t b n r = true by simp [accOk, h, hk, h3])
  rw [hk, Int.toNat_natCast, ByteArray.extract_zero_size] at hv
  exact hv
theorem acc_part {s t : ByteArray} {b n r : Int} (h : outOk s b n r = true) (h2 : r - s.size ≤ (t.size : Int)) (h3 : b + r ≤ 1000000000) : accT s t b n r = s ++ t.extract 0 (r - s.size).toNat ∧ accN s t b n r = r - s.size := by
  have hk : accK s t r = r - s.size := by unfold accK; omega
  have hv := acc_yes (n := n) (show accOk s t b n r = true by simp [accOk, h, hk]; omega)
  rw [hk] at hv
  exact hv
theorem acc_out {s t : ByteArray} {b n r : Int} (h3 : 1000000000 < b + s.size + accK s t r) : accT s t b n r = s ∧ accN s t b n r = 0 :=
  acc_no (by simp [accOk]; intro _; exact h3)
theorem acc_eq {s t : ByteArray} {b n r : Int} {u : ByteArray} {k : Int} (h : accT s t b n r = u ∧ accN s t b n r = k) : Ending.returned (.tuple #[ou u b n r, .int .i64 k]) = .returned (.tuple #[ou (accT s t b n r) b n r, .int .i64 (accN s t b n r)]) := by rw [h.1, h.2]
set_option maxHeartbeats 2000000 in
theorem iAccept (s t : ByteArray) (b n r : Int) (w : World) (hs : s.size ≤ maxLen) (ht : t.size ≤ 1048576) : Calls Try.prog 23 #[ou s b n r, .string t] w fun e w' => e = .returned (.tuple #[ou (accT s t b n r) b n r, .int .i64 (accN s t b n r)]) ∧ Below w.heap.size w w' := by
  have hs' := hs
  unfold maxLen at hs'
  by_cases h : outOk s b n r = true
  · obtain ⟨k1, k2, k3, k4, k5, k6, k7⟩ := outOk_bounds h
    by_cases h2 : (t.size : Int) ≤ r - s.size
    · by_cases h3 : b + s.size + t.size ≤ 1000000000
      · have HV := Lib.hid (acc_all h (by omega) h3)
        go_enter Try.func23, Try.ntmps23
        go_wp2_with fail
        refine (iOutOk _ _ _ _ _ hs).mono ?_
        rintro e w1 ⟨rfl, hb1⟩
        obtain ⟨hc, hf⟩ := bcell hb1
        have hc1_0 := fun o => hc (w.heap.size) o (by go_size)
        have hf1_0 := fun o => hf (w.heap.size) o (by go_size)
        have hz1_0 : w.heap.size < w1.heap.size := Nat.lt_of_lt_of_le (by go_size) hb1.size
        have hc1_1 := fun o => hc (w.heap.size + 1) o (by go_size)
        have hf1_1 := fun o => hf (w.heap.size + 1) o (by go_size)
        have hz1_1 : w.heap.size + 1 < w1.heap.size := Nat.lt_of_lt_of_le (by go_size) hb1.size
        clear hc hf
        have hz1 := hb1.size
        try simp at hz1
        go_wp2
        go_region
        go_wp2
        refine bodyPost_ret (v := .tuple #[ou (s ++ t) b n r, .int .i64 t.size]) (by simp [results, Try.results23, go_sem, *]) rfl ?_
        exact ⟨acc_eq HV.out, by (repeat' (first | (with_reducible exact Below.refl _ _) | (with_reducible assumption) | (with_reducible refine Below.alloc ?_ ?_ _) | (with_reducible refine Below.drew ?_) | (with_reducible refine below_drewN ?_ _) | (with_reducible refine Below.setCell ?_ ?_ _) | (with_reducible refine bvia ?_ (by with_reducible assumption) ?_) | go_size))⟩
      · have HV := Lib.hid (acc_out (s := s) (t := t) (b := b) (n := n) (r := r) (by unfold accK; omega))
        go_enter Try.func23, Try.ntmps23
        go_wp2_with fail
        refine (iOutOk _ _ _ _ _ hs).mono ?_
        rintro e w1 ⟨rfl, hb1⟩
        obtain ⟨hc, hf⟩ := bcell hb1
        have hc1_0 := fun o => hc (w.heap.size) o (by go_size)
        have hf1_0 := fun o => hf (w.heap.size) o (by go_size)
        have hz1_0 : w.heap.size < w1.heap.size := Nat.lt_of_lt_of_le (by go_size) hb1.size
        have hc1_1 := fun o => hc (w.heap.size + 1) o (by go_size)
        have hf1_1 := fun o => hf (w.heap.size + 1) o (by go_size)
        have hz1_1 : w.heap.size + 1 < w1.heap.size := Nat.lt_of_lt_of_le (by go_size) hb1.size
        clear hc hf
        have hz1 := hb1.size
        try simp at hz1
        go_wp2
        refine bodyPost_ret (v := .tuple #[ou s b n r, .int .i64 0]) (by simp [results, Try.results23, go_sem, *]) rfl ?_
        exact ⟨acc_eq HV.out, by (repeat' (first | (with_reducible exact Below.refl _ _) | (with_reducible assumption) | (with_reducible refine Below.alloc ?_ ?_ _) | (with_reducible refine Below.drew ?_) | (with_reducible refine below_drewN ?_ _) | (with_reducible refine Below.setCell ?_ ?_ _) | (with_reducible refine bvia ?_ (by with_reducible assumption) ?_) | go_size))⟩
    · by_cases h3 : b + r ≤ 1000000000
      · have HV := Lib.hid (acc_part (t := t) h (by omega) h3)
        go_enter Try.func23, Try.ntmps23
        go_wp2_with fail
        refine (iOutOk _ _ _ _ _ hs).mono ?_
        rintro e w1 ⟨rfl, hb1⟩
        obtain ⟨hc, hf⟩ := bcell hb1
        have hc1_0 := fun o => hc (w.heap.size) o (by go_size)
        have hf1_0 := fun o => hf (w.heap.size) o (by go_size)
        have hz1_0 : w.heap.size < w1.heap.size := Nat.lt_of_lt_of_le (by go_size) hb1.size
        have hc1_1 := fun o => hc (w.heap.size + 1) o (by go_size)
        have hf1_1 := fun o => hf (w.heap.size + 1) o (by go_size)
        have hz1_1 : w.heap.size + 1 < w1.heap.size := Nat.lt_of_lt_of_le (by go_size) hb1.size
        clear hc hf
        have hz1 := hb1.size
        try simp at hz1
        go_wp2
        go_region
        go_wp2
        refine bodyPost_ret (v := .tuple #[ou (s ++ t.extract 0 (r - s.size).toNat) b n r, .int .i64 (r - s.size)]) (by simp [results, Try.results23, go_sem, *]) rfl ?_
        exact ⟨acc_eq HV.out, by (repeat' (first | (with_reducible exact Below.refl _ _) | (with_reducible assumption) | (with_reducible refine Below.alloc ?_ ?_ _) | (with_reducible refine Below.drew ?_) | (with_reducible refine below_drewN ?_ _) | (with_reducible refine Below.setCell ?_ ?_ _) | (with_reducible refine bvia ?_ (by with_reducible assumption) ?_) | go_size))⟩
      · have HV := Lib.hid (acc_out (s := s) (t := t) (b := b) (n := n) (r := r) (by unfold accK; omega))
        go_enter Try.func23, Try.ntmps23
        go_wp2_with fail
        refine (iOutOk _ _ _ _ _ hs).mono ?_
        rintro e w1 ⟨rfl, hb1⟩
        obtain ⟨hc, hf⟩ := bcell hb1
        have hc1_0 := fun o => hc (w.heap.size) o (by go_size)
        have hf1_0 := fun o => hf (w.heap.size) o (by go_size)
        have hz1_0 : w.heap.size < w1.heap.size := Nat.lt_of_lt_of_le (by go_size) hb1.size
        have hc1_1 := fun o => hc (w.heap.size + 1) o (by go_size)
        have hf1_1 := fun o => hf (w.heap.size + 1) o (by go_size)
        have hz1_1 : w.heap.size + 1 < w1.heap.size := Nat.lt_of_lt_of_le (by go_size) hb1.size
        clear hc hf
        have hz1 := hb1.size
        try simp at hz1
        go_wp2
        refine bodyPost_ret (v := .tuple #[ou s b n r, .int .i64 0]) (by simp [results, Try.results23, go_sem, *]) rfl ?_
        exact ⟨acc_eq HV.out, by (repeat' (first | (with_reducible exact Below.refl _ _) | (with_reducible assumption) | (with_reducible refine Below.alloc ?_ ?_ _) | (with_reducible refine Below.drew ?_) | (with_reducible refine below_drewN ?_ _) | (with_reducible refine Below.setCell ?_ ?_ _) | (with_reducible refine bvia ?_ (by with_reducible assumption) ?_) | go_size))⟩
  · have HV := Lib.hid (acc_no (show accOk s t b n r = false by simp [accOk, h]))
    go_enter Try.func23, Try.ntmps23
    go_wp2_with fail
    refine (iOutOk _ _ _ _ _ hs).mono ?_
    rintro e w1 ⟨rfl, hb1⟩
    obtain ⟨hc, hf⟩ := bcell hb1
    have hc1_0 := fun o => hc (w.heap.size) o (by go_size)
    have hf1_0 := fun o => hf (w.heap.size) o (by go_size)
    have hz1_0 : w.heap.size < w1.heap.size := Nat.lt_of_lt_of_le (by go_size) hb1.size
    have hc1_1 := fun o => hc (w.heap.size + 1) o (by go_size)
    have hf1_1 := fun o => hf (w.heap.size + 1) o (by go_size)
    have hz1_1 : w.heap.size + 1 < w1.heap.size := Nat.lt_of_lt_of_le (by go_size) hb1.size
    clear hc hf
    have hz1 := hb1.size
    try simp at hz1
    go_wp2
    refine bodyPost_ret (v := .tuple #[ou s b n r, .int .i64 0]) (by simp [results, Try.results23, go_sem, *]) rfl ?_
    exact ⟨acc_eq HV.out, by (repeat' (first | (with_reducible exact Below.refl _ _) | (with_reducible assumption) | (with_reducible refine Below.alloc ?_ ?_ _) | (with_reducible refine Below.drew ?_) | (with_reducible refine below_drewN ?_ _) | (with_reducible refine Below.setCell ?_ ?_ _) | (with_reducible refine bvia ?_ (by with_reducible assumption) ?_) | go_size))⟩
set_option maxHeartbeats 2000000 in
theorem sAccept (s t : ByteArray) (b n r : Int) (w : World) (hs : s.size ≤ maxLen) (ht : t.size ≤ 1048576) : Calls Try.prog 22 #[ou s b n r, .string t] w fun e w' => e = .returned (.tuple #[ou (accT s t b n r) b n r, .int .i64 (accN s t b n r)]) ∧ Below w.heap.size w w' := by
  have hs' := hs
  unfold maxLen at hs'
  by_cases h : outOk s b n r = true
  · obtain ⟨k1, k2, k3, k4, k5, k6, k7⟩ := outOk_bounds h
    by_cases h2 : (t.size : Int) < r - s.size
    · by_cases h3 : b + s.size + t.size ≤ 1000000000
      · have HV := Lib.hid (acc_all h (by omega) h3)
        go_enter Try.func22, Try.ntmps22
        go_wp2_with fail
        refine (sOutOk _ _ _ _ _ hs).mono ?_
        rintro e w1 ⟨rfl, hb1⟩
        obtain ⟨hc, hf⟩ := bcell hb1
        have hc1_0 := fun o => hc (w.heap.size) o (by go_size)
        have hf1_0 := fun o => hf (w.heap.size) o (by go_size)
        have hz1_0 : w.heap.size < w1.heap.size := Nat.lt_of_lt_of_le (by go_size) hb1.size
        have hc1_1 := fun o => hc (w.heap.size + 1) o (by go_size)
        have hf1_1 := fun o => hf (w.heap.size + 1) o (by go_size)
        have hz1_1 : w.heap.size + 1 < w1.heap.size := Nat.lt_of_lt_of_le (by go_size) hb1.size
        clear hc hf
        have hz1 := hb1.size
        try simp at hz1
        go_wp2
        go_region
        go_wp2
        refine bodyPost_ret (v := .tuple #[ou (s ++ t) b n r, .int .i64 t.size]) (by simp [results, Try.results22, go_sem, *]) rfl ?_
        exact ⟨acc_eq HV.out, by (repeat' (first | (with_reducible exact Below.refl _ _) | (with_reducible assumption) | (with_reducible refine Below.alloc ?_ ?_ _) | (with_reducible refine Below.drew ?_) | (with_reducible refine below_drewN ?_ _) | (with_reducible refine Below.setCell ?_ ?_ _) | (with_reducible refine bvia ?_ (by with_reducible assumption) ?_) | go_size))⟩
      · have HV := Lib.hid (acc_out (s := s) (t := t) (b := b) (n := n) (r := r) (by unfold accK; omega))
        go_enter Try.func22, Try.ntmps22
        go_wp2_with fail
        refine (sOutOk _ _ _ _ _ hs).mono ?_
        rintro e w1 ⟨rfl, hb1⟩
        obtain ⟨hc, hf⟩ := bcell hb1
        have hc1_0 := fun o => hc (w.heap.size) o (by go_size)
        have hf1_0 := fun o => hf (w.heap.size) o (by go_size)
        have hz1_0 : w.heap.size < w1.heap.size := Nat.lt_of_lt_of_le (by go_size) hb1.size
        have hc1_1 := fun o => hc (w.heap.size + 1) o (by go_size)
        have hf1_1 := fun o => hf (w.heap.size + 1) o (by go_size)
        have hz1_1 : w.heap.size + 1 < w1.heap.size := Nat.lt_of_lt_of_le (by go_size) hb1.size
        clear hc hf
        have hz1 := hb1.size
        try simp at hz1
        go_wp2
        refine bodyPost_ret (v := .tuple #[ou s b n r, .int .i64 0]) (by simp [results, Try.results22, go_sem, *]) rfl ?_
        exact ⟨acc_eq HV.out, by (repeat' (first | (with_reducible exact Below.refl _ _) | (with_reducible assumption) | (with_reducible refine Below.alloc ?_ ?_ _) | (with_reducible refine Below.drew ?_) | (with_reducible refine below_drewN ?_ _) | (with_reducible refine Below.setCell ?_ ?_ _) | (with_reducible refine bvia ?_ (by with_reducible assumption) ?_) | go_size))⟩
    · by_cases h3 : b + r ≤ 1000000000
      · have HV := Lib.hid (acc_part (t := t) h (by omega) h3)
        go_enter Try.func22, Try.ntmps22
        go_wp2_with fail
        refine (sOutOk _ _ _ _ _ hs).mono ?_
        rintro e w1 ⟨rfl, hb1⟩
        obtain ⟨hc, hf⟩ := bcell hb1
        have hc1_0 := fun o => hc (w.heap.size) o (by go_size)
        have hf1_0 := fun o => hf (w.heap.size) o (by go_size)
        have hz1_0 : w.heap.size < w1.heap.size := Nat.lt_of_lt_of_le (by go_size) hb1.size
        have hc1_1 := fun o => hc (w.heap.size + 1) o (by go_size)
        have hf1_1 := fun o => hf (w.heap.size + 1) o (by go_size)
        have hz1_1 : w.heap.size + 1 < w1.heap.size := Nat.lt_of_lt_of_le (by go_size) hb1.size
        clear hc hf
        have hz1 := hb1.size
        try simp at hz1
        go_wp2
        go_region
        go_wp2
        refine bodyPost_ret (v := .tuple #[ou (s ++ t.extract 0 (r - s.size).toNat) b n r, .int .i64 (r - s.size)]) (by simp [results, Try.results22, go_sem, *]) rfl ?_
        exact ⟨acc_eq HV.out, by (repeat' (first | (with_reducible exact Below.refl _ _) | (with_reducible assumption) | (with_reducible refine Below.alloc ?_ ?_ _) | (with_reducible refine Below.drew ?_) | (with_reducible refine below_drewN ?_ _) | (with_reducible refine Below.setCell ?_ ?_ _) | (with_reducible refine bvia ?_ (by with_reducible assumption) ?_) | go_size))⟩
      · have HV := Lib.hid (acc_out (s := s) (t := t) (b := b) (n := n) (r := r) (by unfold accK; omega))
        go_enter Try.func22, Try.ntmps22
        go_wp2_with fail
        refine (sOutOk _ _ _ _ _ hs).mono ?_
        rintro e w1 ⟨rfl, hb1⟩
        obtain ⟨hc, hf⟩ := bcell hb1
        have hc1_0 := fun o => hc (w.heap.size) o (by go_size)
        have hf1_0 := fun o => hf (w.heap.size) o (by go_size)
        have hz1_0 : w.heap.size < w1.heap.size := Nat.lt_of_lt_of_le (by go_size) hb1.size
        have hc1_1 := fun o => hc (w.heap.size + 1) o (by go_size)
        have hf1_1 := fun o => hf (w.heap.size + 1) o (by go_size)
        have hz1_1 : w.heap.size + 1 < w1.heap.size := Nat.lt_of_lt_of_le (by go_size) hb1.size
        clear hc hf
        have hz1 := hb1.size
        try simp at hz1
        go_wp2
        refine bodyPost_ret (v := .tuple #[ou s b n r, .int .i64 0]) (by simp [results, Try.results22, go_sem, *]) rfl ?_
        exact ⟨acc_eq HV.out, by (repeat' (first | (with_reducible exact Below.refl _ _) | (with_reducible assumption) | (with_reducible refine Below.alloc ?_ ?_ _) | (with_reducible refine Below.drew ?_) | (with_reducible refine below_drewN ?_ _) | (with_reducible refine Below.setCell ?_ ?_ _) | (with_reducible refine bvia ?_ (by with_reducible assumption) ?_) | go_size))⟩
  · have HV := Lib.hid (acc_no (show accOk s t b n r = false by simp [accOk, h]))
    go_enter Try.func22, Try.ntmps22
    go_wp2_with fail
    refine (sOutOk _ _ _ _ _ hs).mono ?_
    rintro e w1 ⟨rfl, hb1⟩
    obtain ⟨hc, hf⟩ := bcell hb1
    have hc1_0 := fun o => hc (w.heap.size) o (by go_size)
    have hf1_0 := fun o => hf (w.heap.size) o (by go_size)
    have hz1_0 : w.heap.size < w1.heap.size := Nat.lt_of_lt_of_le (by go_size) hb1.size
    have hc1_1 := fun o => hc (w.heap.size + 1) o (by go_size)
    have hf1_1 := fun o => hf (w.heap.size + 1) o (by go_size)
    have hz1_1 : w.heap.size + 1 < w1.heap.size := Nat.lt_of_lt_of_le (by go_size) hb1.size
    clear hc hf
    have hz1 := hb1.size
    try simp at hz1
    go_wp2
    refine bodyPost_ret (v := .tuple #[ou s b n r, .int .i64 0]) (by simp [results, Try.results22, go_sem, *]) rfl ?_
    exact ⟨acc_eq HV.out, by (repeat' (first | (with_reducible exact Below.refl _ _) | (with_reducible assumption) | (with_reducible refine Below.alloc ?_ ?_ _) | (with_reducible refine Below.drew ?_) | (with_reducible refine below_drewN ?_ _) | (with_reducible refine Below.setCell ?_ ?_ _) | (with_reducible refine bvia ?_ (by with_reducible assumption) ?_) | go_size))⟩
end Go.Proofs.Ytddpgdgpicamiaa
