/- NextPiece (program and reference): for every argument. -/
import Derived.Test.YtddpgdgpicamiaaOut1
namespace Go.Proofs.Ytddpgdgpicamiaa
set_option linter.unusedSimpArgs false
set_option linter.unusedVariables false
open Go.RowKit

abbrev pc (a : Int) (s : ByteArray) : Value := .agg #[.int .i64 a, .string s]
/-- What NextPiece computes. -/
def npOk (s : ByteArray) (b n r : Int) : Bool := outOk s b n r && n != b + s.size
def npAt (s : ByteArray) (b n r : Int) : Int := if npOk s b n r then n else 0
def npTx (s : ByteArray) (b n r : Int) : ByteArray := if npOk s b n r then s.extract (n - b).toNat (min s.size ((n - b).toNat + 20)) else ⟨#[]⟩
theorem np_yes {s : ByteArray} {b n r : Int} (h : outOk s b n r = true) (h2 : n < b + s.size) : npOk s b n r = true := by
  simp [npOk, h]; omega
theorem np_no {s : ByteArray} {b n r : Int} (h : outOk s b n r = true) (h2 : ¬ n < b + s.size) : npOk s b n r = false := by
  have := outOk_bounds h
  simp [npOk, h]; omega
theorem np_val {s : ByteArray} {b n r : Int} (h : npOk s b n r = true) : npAt s b n r = n ∧ npTx s b n r = s.extract (n - b).toNat (min s.size ((n - b).toNat + 20)) := by simp [npAt, npTx, h]
theorem np_nov {s : ByteArray} {b n r : Int} (h : npOk s b n r = false) : npAt s b n r = 0 ∧ npTx s b n r = ⟨#[]⟩ := by simp [npAt, npTx, h]
theorem cut_all {s : ByteArray} {k : Nat} (h : s.size ≤ k + 20) (hk : k ≤ s.size) : s.extract k s.size = s.extract k (min s.size (k + 20)) := by rw [Nat.min_eq_left h]
theorem cut_all' {s : ByteArray} {k m : Nat} (h : s.size ≤ k + 20) (hm : m = s.size - k) (hk : k ≤ s.size) : (s.extract k s.size).extract 0 m = s.extract k (min s.size (k + 20)) := by
  rw [ByteArray.extract_extract, Nat.min_eq_left h]; congr 1; omega
theorem cut_twenty {s : ByteArray} {k : Nat} (h : k + 20 ≤ s.size) : (s.extract k s.size).extract 0 20 = s.extract k (min s.size (k + 20)) := by
  rw [ByteArray.extract_extract]; congr 1; omega
theorem tup_np {s : ByteArray} {b n r : Int} {a : Int} {t : ByteArray} {o : Bool} (h1 : npAt s b n r = a) (h2 : npTx s b n r = t) (h3 : npOk s b n r = o) : Ending.returned (.tuple #[pc a t, .bool o]) = .returned (.tuple #[pc (npAt s b n r) (npTx s b n r), .bool (npOk s b n r)]) := by rw [h1, h2, h3]
set_option maxHeartbeats 1000000 in
theorem iNextPiece (s : ByteArray) (b n r : Int) (w : World) (hs : s.size ≤ maxLen) : Calls Try.prog 15 #[ou s b n r] w fun e w' => e = .returned (.tuple #[pc (npAt s b n r) (npTx s b n r), .bool (npOk s b n r)]) ∧ Below w.heap.size w w' := by
  have hs' := hs
  unfold maxLen at hs'
  by_cases h : outOk s b n r = true
  · obtain ⟨k1, k2, k3, k4, k5, k6, k7⟩ := outOk_bounds h
    by_cases h2 : n < b + s.size
    · have h3 : (n == b + s.size) = false := by simp; omega
      have hy := np_yes h h2
      have hv := Lib.hid (np_val hy)
      have HY := Lib.hid hy
      clear hy
      by_cases h4 : ((s.size - (n - b).toNat : Nat) : Int) < 20
      · have hc := Lib.hid (cut_all' (s := s) (k := (n - b).toNat) (m := (((s.size - (n - b).toNat : Nat) : Int)).toNat) (by omega) (by omega) (by omega))
        go_enter Try.func15, Try.ntmps15
        go_wp2_with fail
        refine (iOutOk _ _ _ _ _ hs).mono ?_
        rintro e w1 ⟨rfl, hb1⟩
        obtain ⟨hc, hf⟩ := bcell hb1
        have hc1_0 := fun o => hc (w.heap.size) o (by go_size)
        have hf1_0 := fun o => hf (w.heap.size) o (by go_size)
        have hz1_0 : w.heap.size < w1.heap.size := Nat.lt_of_lt_of_le (by go_size) hb1.size
        have hc1_1 := fun o => hc (w.heap.size + 1) o (by go_size)
        have hf1_1 := fun o => hf (w.heap.size + 1) o (by go_size)
        have hz1_1 : w.heap.size + 1 < w1.heap.size := Nat.lt_of_lt_of_le (by go_size) hb1.size
        clear hc hf
        have hz1 := hb1.size
        try simp at hz1
        go_wp2
        go_region
        go_wp2
        refine bodyPost_ret (v := .tuple #[pc n ((s.extract (n - b).toNat s.size).extract 0 (((s.size - (n - b).toNat : Nat) : Int)).toNat), .bool true]) (by simp [results, Try.results15, go_sem, *]) rfl ?_
        exact ⟨tup_np hv.out.1 (hv.out.2.trans hc.out.symm) HY.out, by (repeat' (first | (with_reducible exact Below.refl _ _) | (with_reducible assumption) | (with_reducible refine Below.alloc ?_ ?_ _) | (with_reducible refine Below.drew ?_) | (with_reducible refine below_drewN ?_ _) | (with_reducible refine Below.setCell ?_ ?_ _) | (with_reducible refine bvia ?_ (by with_reducible assumption) ?_) | go_size))⟩
      · have hc := Lib.hid (cut_twenty (s := s) (k := (n - b).toNat) (by omega))
        go_enter Try.func15, Try.ntmps15
        go_wp2_with fail
        refine (iOutOk _ _ _ _ _ hs).mono ?_
        rintro e w1 ⟨rfl, hb1⟩
        obtain ⟨hc, hf⟩ := bcell hb1
        have hc1_0 := fun o => hc (w.heap.size) o (by go_size)
        have hf1_0 := fun o => hf (w.heap.size) o (by go_size)
        have hz1_0 : w.heap.size < w1.heap.size := Nat.lt_of_lt_of_le (by go_size) hb1.size
        have hc1_1 := fun o => hc (w.heap.size + 1) o (by go_size)
        have hf1_1 := fun o => hf (w.heap.size + 1) o (by go_size)
        have hz1_1 : w.heap.size + 1 < w1.heap.size := Nat.lt_of_lt_of_le (by go_size) hb1.size
        clear hc hf
        have hz1 := hb1.size
        try simp at hz1
        go_wp2
        go_region
        go_wp2
        refine bodyPost_ret (v := .tuple #[pc n ((s.extract (n - b).toNat s.size).extract 0 20), .bool true]) (by simp [results, Try.results15, go_sem, *]) rfl ?_
        exact ⟨tup_np hv.out.1 (hv.out.2.trans hc.out.symm) HY.out, by (repeat' (first | (with_reducible exact Below.refl _ _) | (with_reducible assumption) | (with_reducible refine Below.alloc ?_ ?_ _) | (with_reducible refine Below.drew ?_) | (with_reducible refine below_drewN ?_ _) | (with_reducible refine Below.setCell ?_ ?_ _) | (with_reducible refine bvia ?_ (by with_reducible assumption) ?_) | go_size))⟩
    · have h3 : (n == b + s.size) = true := by simp; omega
      have hn := Lib.hid (np_no h h2)
      have hv := Lib.hid (np_nov hn.out)
      go_enter Try.func15, Try.ntmps15
      go_wp2_with fail
      refine (iOutOk _ _ _ _ _ hs).mono ?_
      rintro e w1 ⟨rfl, hb1⟩
      obtain ⟨hc, hf⟩ := bcell hb1
      have hc1_0 := fun o => hc (w.heap.size) o (by go_size)
      have hf1_0 := fun o => hf (w.heap.size) o (by go_size)
      have hz1_0 : w.heap.size < w1.heap.size := Nat.lt_of_lt_of_le (by go_size) hb1.size
      have hc1_1 := fun o => hc (w.heap.size + 1) o (by go_size)
      have hf1_1 := fun o => hf (w.heap.size + 1) o (by go_size)
      have hz1_1 : w.heap.size + 1 < w1.heap.size := Nat.lt_of_lt_of_le (by go_size) hb1.size
      clear hc hf
      have hz1 := hb1.size
      try simp at hz1
      go_wp2
      refine bodyPost_ret (v := .tuple #[pc 0 ⟨#[]⟩, .bool false]) (by simp [results, Try.results15, go_sem, *]) rfl ?_
      exact ⟨tup_np hv.out.1 hv.out.2 hn.out, by (repeat' (first | (with_reducible exact Below.refl _ _) | (with_reducible assumption) | (with_reducible refine Below.alloc ?_ ?_ _) | (with_reducible refine Below.drew ?_) | (with_reducible refine below_drewN ?_ _) | (with_reducible refine Below.setCell ?_ ?_ _) | (with_reducible refine bvia ?_ (by with_reducible assumption) ?_) | go_size))⟩
  · have hn := Lib.hid (show npOk s b n r = false by simp [npOk, h])
    have hv := Lib.hid (np_nov hn.out)
    go_enter Try.func15, Try.ntmps15
    go_wp2_with fail
    refine (iOutOk _ _ _ _ _ hs).mono ?_
    rintro e w1 ⟨rfl, hb1⟩
    obtain ⟨hc, hf⟩ := bcell hb1
    have hc1_0 := fun o => hc (w.heap.size) o (by go_size)
    have hf1_0 := fun o => hf (w.heap.size) o (by go_size)
    have hz1_0 : w.heap.size < w1.heap.size := Nat.lt_of_lt_of_le (by go_size) hb1.size
    have hc1_1 := fun o => hc (w.heap.size + 1) o (by go_size)
    have hf1_1 := fun o => hf (w.heap.size + 1) o (by go_size)
    have hz1_1 : w.heap.size + 1 < w1.heap.size := Nat.lt_of_lt_of_le (by go_size) hb1.size
    clear hc hf
    have hz1 := hb1.size
    try simp at hz1
    go_wp2
    refine bodyPost_ret (v := .tuple #[pc 0 ⟨#[]⟩, .bool false]) (by simp [results, Try.results15, go_sem, *]) rfl ?_
    exact ⟨tup_np hv.out.1 hv.out.2 hn.out, by (repeat' (first | (with_reducible exact Below.refl _ _) | (with_reducible assumption) | (with_reducible refine Below.alloc ?_ ?_ _) | (with_reducible refine Below.drew ?_) | (with_reducible refine below_drewN ?_ _) | (with_reducible refine Below.setCell ?_ ?_ _) | (with_reducible refine bvia ?_ (by with_reducible assumption) ?_) | go_size))⟩
set_option maxHeartbeats 1000000 in
theorem sNextPiece (s : ByteArray) (b n r : Int) (w : World) (hs : s.size ≤ maxLen) : Calls Try.prog 14 #[ou s b n r] w fun e w' => e = .returned (.tuple #[pc (npAt s b n r) (npTx s b n r), .bool (npOk s b n r)]) ∧ Below w.heap.size w w' := by
  have hs' := hs
  unfold maxLen at hs'
  by_cases h : outOk s b n r = true
  · obtain ⟨k1, k2, k3, k4, k5, k6, k7⟩ := outOk_bounds h
    by_cases h2 : n < b + s.size
    · have h3 : (n == b + s.size) = false := by simp; omega
      have hy := np_yes h h2
      have hv := Lib.hid (np_val hy)
      have HY := Lib.hid hy
      clear hy
      by_cases h4 : ((s.size - (n - b).toNat : Nat) : Int) ≤ 20
      · have hc := Lib.hid (cut_all (s := s) (k := (n - b).toNat) (by omega) (by omega))
        go_enter Try.func14, Try.ntmps14
        go_wp2_with fail
        refine (sOutOk _ _ _ _ _ hs).mono ?_
        rintro e w1 ⟨rfl, hb1⟩
        obtain ⟨hc, hf⟩ := bcell hb1
        have hc1_0 := fun o => hc (w.heap.size) o (by go_size)
        have hf1_0 := fun o => hf (w.heap.size) o (by go_size)
        have hz1_0 : w.heap.size < w1.heap.size := Nat.lt_of_lt_of_le (by go_size) hb1.size
        have hc1_1 := fun o => hc (w.heap.size + 1) o (by go_size)
        have hf1_1 := fun o => hf (w.heap.size + 1) o (by go_size)
        have hz1_1 : w.heap.size + 1 < w1.heap.size := Nat.lt_of_lt_of_le (by go_size) hb1.size
        clear hc hf
        have hz1 := hb1.size
        try simp at hz1
        go_wp2
        refine bodyPost_ret (v := .tuple #[pc n (s.extract (n - b).toNat s.size), .bool true]) (by simp [results, Try.results14, go_sem, *]) rfl ?_
        exact ⟨tup_np hv.out.1 (hv.out.2.trans hc.out.symm) HY.out, by (repeat' (first | (with_reducible exact Below.refl _ _) | (with_reducible assumption) | (with_reducible refine Below.alloc ?_ ?_ _) | (with_reducible refine Below.drew ?_) | (with_reducible refine below_drewN ?_ _) | (with_reducible refine Below.setCell ?_ ?_ _) | (with_reducible refine bvia ?_ (by with_reducible assumption) ?_) | go_size))⟩
      · have hc := Lib.hid (cut_twenty (s := s) (k := (n - b).toNat) (by omega))
        go_enter Try.func14, Try.ntmps14
        go_wp2_with fail
        refine (sOutOk _ _ _ _ _ hs).mono ?_
        rintro e w1 ⟨rfl, hb1⟩
        obtain ⟨hc, hf⟩ := bcell hb1
        have hc1_0 := fun o => hc (w.heap.size) o (by go_size)
        have hf1_0 := fun o => hf (w.heap.size) o (by go_size)
        have hz1_0 : w.heap.size < w1.heap.size := Nat.lt_of_lt_of_le (by go_size) hb1.size
        have hc1_1 := fun o => hc (w.heap.size + 1) o (by go_size)
        have hf1_1 := fun o => hf (w.heap.size + 1) o (by go_size)
        have hz1_1 : w.heap.size + 1 < w1.heap.size := Nat.lt_of_lt_of_le (by go_size) hb1.size
        clear hc hf
        have hz1 := hb1.size
        try simp at hz1
        go_wp2
        refine bodyPost_ret (v := .tuple #[pc n ((s.extract (n - b).toNat s.size).extract 0 20), .bool true]) (by simp [results, Try.results14, go_sem, *]) rfl ?_
        exact ⟨tup_np hv.out.1 (hv.out.2.trans hc.out.symm) HY.out, by (repeat' (first | (with_reducible exact Below.refl _ _) | (with_reducible assumption) | (with_reducible refine Below.alloc ?_ ?_ _) | (with_reducible refine Below.drew ?_) | (with_reducible refine below_drewN ?_ _) | (with_reducible refine Below.setCell ?_ ?_ _) | (with_reducible refine bvia ?_ (by with_reducible assumption) ?_) | go_size))⟩
    · have h3 : (n == b + s.size) = true := by simp; omega
      have hn := Lib.hid (np_no h h2)
      have hv := Lib.hid (np_nov hn.out)
      go_enter Try.func14, Try.ntmps14
      go_wp2_with fail
      refine (sOutOk _ _ _ _ _ hs).mono ?_
      rintro e w1 ⟨rfl, hb1⟩
      obtain ⟨hc, hf⟩ := bcell hb1
      have hc1_0 := fun o => hc (w.heap.size) o (by go_size)
      have hf1_0 := fun o => hf (w.heap.size) o (by go_size)
      have hz1_0 : w.heap.size < w1.heap.size := Nat.lt_of_lt_of_le (by go_size) hb1.size
      have hc1_1 := fun o => hc (w.heap.size + 1) o (by go_size)
      have hf1_1 := fun o => hf (w.heap.size + 1) o (by go_size)
      have hz1_1 : w.heap.size + 1 < w1.heap.size := Nat.lt_of_lt_of_le (by go_size) hb1.size
      clear hc hf
      have hz1 := hb1.size
      try simp at hz1
      go_wp2
      refine bodyPost_ret (v := .tuple #[pc 0 ⟨#[]⟩, .bool false]) (by simp [results, Try.results14, go_sem, *]) rfl ?_
      exact ⟨tup_np hv.out.1 hv.out.2 hn.out, by (repeat' (first | (with_reducible exact Below.refl _ _) | (with_reducible assumption) | (with_reducible refine Below.alloc ?_ ?_ _) | (with_reducible refine Below.drew ?_) | (with_reducible refine below_drewN ?_ _) | (with_reducible refine Below.setCell ?_ ?_ _) | (with_reducible refine bvia ?_ (by with_reducible assumption) ?_) | go_size))⟩
  · have hn := Lib.hid (show npOk s b n r = false by simp [npOk, h])
    have hv := Lib.hid (np_nov hn.out)
    go_enter Try.func14, Try.ntmps14
    go_wp2_with fail
    refine (sOutOk _ _ _ _ _ hs).mono ?_
    rintro e w1 ⟨rfl, hb1⟩
    obtain ⟨hc, hf⟩ := bcell hb1
    have hc1_0 := fun o => hc (w.heap.size) o (by go_size)
    have hf1_0 := fun o => hf (w.heap.size) o (by go_size)
    have hz1_0 : w.heap.size < w1.heap.size := Nat.lt_of_lt_of_le (by go_size) hb1.size
    have hc1_1 := fun o => hc (w.heap.size + 1) o (by go_size)
    have hf1_1 := fun o => hf (w.heap.size + 1) o (by go_size)
    have hz1_1 : w.heap.size + 1 < w1.heap.size := Nat.lt_of_lt_of_le (by go_size) hb1.size
    clear hc hf
    have hz1 := hb1.size
    try simp at hz1
    go_wp2
    refine bodyPost_ret (v := .tuple #[pc 0 ⟨#[]⟩, .bool false]) (by simp [results, Try.results14, go_sem, *]) rfl ?_
    exact ⟨tup_np hv.out.1 hv.out.2 hn.out, by (repeat' (first | (with_reducible exact Below.refl _ _) | (with_reducible assumption) | (with_reducible refine Below.alloc ?_ ?_ _) | (with_reducible refine Below.drew ?_) | (with_reducible refine below_drewN ?_ _) | (with_reducible refine Below.setCell ?_ ?_ _) | (with_reducible refine bvia ?_ (by with_reducible assumption) ?_) | go_size))⟩
end Go.Proofs.Ytddpgdgpicamiaa
