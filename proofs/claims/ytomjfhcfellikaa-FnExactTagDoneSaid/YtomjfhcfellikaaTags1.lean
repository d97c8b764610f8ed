/- TagBack, TagDone, TagAddr (program and reference) and eqTag; the walks of FnExactTagBack, FnExactTagDone, FnExactTagAddr. They hold for every argument. -/
import Derived.Test.YtomjfhcfellikaaBase
namespace Go.Proofs.Ytomjfhcfellikaa
set_option linter.unusedSimpArgs false
set_option linter.unusedVariables false
open Go.RowKit

/-- A tag by value. -/
abbrev tg (k o t a b : Int) : Value := .agg #[.int .i64 k, .int .i64 o, .int .i64 t, .int .i64 a, .int .i64 b]
theorem eqTag_same (k o t a b : Int) (w : World) : Calls Try.prog 11 #[tg k o t a b, tg k o t a b] w fun e w' => e = .returned (.bool true) ∧ Below w.heap.size w w' := by
  go_enter Try.func11, Try.ntmps11
  go_wp2
  go_ret
  exact ⟨rfl, by go_grown⟩
theorem iTagBack (m t a b : Int) (w : World) : Calls Try.prog 13 #[.int .i64 m, .int .i64 t, .int .i64 a, .int .i64 b] w fun e w' => e = .returned (tg 1 m t a b) ∧ Below w.heap.size w w' := by
  go_enter Try.func13, Try.ntmps13
  go_wp2
  go_returns
  exact ⟨rfl, by go_grown⟩
theorem sTagBack (m t a b : Int) (w : World) : Calls Try.prog 12 #[.int .i64 m, .int .i64 t, .int .i64 a, .int .i64 b] w fun e w' => e = .returned (tg 1 m t a b) ∧ Below w.heap.size w w' := by
  go_enter Try.func12, Try.ntmps12
  go_wp2
  go_returns
  exact ⟨rfl, by go_grown⟩
theorem walk_FnExactTagBack (m t a b : Int) (w : World) (_ : -9223372036854775808 ≤ m ∧ m ≤ 9223372036854775807) (_ : -9223372036854775808 ≤ t ∧ t ≤ 9223372036854775807) (_ : -9223372036854775808 ≤ a ∧ a ≤ 9223372036854775807) (_ : -9223372036854775808 ≤ b ∧ b ≤ 9223372036854775807) :
    Calls Try.prog 4 #[.int .i64 m, .int .i64 t, .int .i64 a, .int .i64 b] w fun e w' => e = .returned (.bool true) ∧ Below w.heap.size w w' := by
  go_enter Try.func4, Try.ntmps4
  go_wp2_with fail
  refine (sTagBack _ _ _ _ _).mono ?_
  rintro e w1 ⟨rfl, hb1⟩
  have hz1 := hb1.size
  try simp at hz1
  go_wp2_with fail
  refine (iTagBack _ _ _ _ _).mono ?_
  rintro e w2 ⟨rfl, hb2⟩
  obtain ⟨hc, hf⟩ := bcell hb2
  have hc2_0 := fun o => hc (w1.heap.size) o (by go_size)
  have hf2_0 := fun o => hf (w1.heap.size) o (by go_size)
  have hz2_0 : w1.heap.size < w2.heap.size := Nat.lt_of_lt_of_le (by go_size) hb2.size
  clear hc hf
  have hz2 := hb2.size
  try simp at hz2
  go_wp2_with fail
  refine (eqTag_same _ _ _ _ _ _).mono ?_
  rintro e w3 ⟨rfl, hb3⟩
  have hz3 := hb3.size
  try simp at hz3
  go_wp2
  go_ret
  exact ⟨rfl, by (repeat' (first | (with_reducible exact Below.refl _ _) | (with_reducible assumption) | (with_reducible refine Below.alloc ?_ ?_ _) | (with_reducible refine Below.drew ?_) | (with_reducible refine below_drewN ?_ _) | (with_reducible refine Below.setCell ?_ ?_ _) | (with_reducible refine bvia ?_ (by with_reducible assumption) ?_) | go_size))⟩
theorem iTagDone (m t a b : Int) (w : World) : Calls Try.prog 23 #[.int .i64 m, .int .i64 t, .int .i64 a, .int .i64 b] w fun e w' => e = .returned (tg 2 m t a b) ∧ Below w.heap.size w w' := by
  go_enter Try.func23, Try.ntmps23
  go_wp2
  go_returns
  exact ⟨rfl, by go_grown⟩
theorem sTagDone (m t a b : Int) (w : World) : Calls Try.prog 22 #[.int .i64 m, .int .i64 t, .int .i64 a, .int .i64 b] w fun e w' => e = .returned (tg 2 m t a b) ∧ Below w.heap.size w w' := by
  go_enter Try.func22, Try.ntmps22
  go_wp2
  go_returns
  exact ⟨rfl, by go_grown⟩
theorem walk_FnExactTagDone (m t a b : Int) (w : World) (_ : -9223372036854775808 ≤ m ∧ m ≤ 9223372036854775807) (_ : -9223372036854775808 ≤ t ∧ t ≤ 9223372036854775807) (_ : -9223372036854775808 ≤ a ∧ a ≤ 9223372036854775807) (_ : -9223372036854775808 ≤ b ∧ b ≤ 9223372036854775807) :
    Calls Try.prog 6 #[.int .i64 m, .int .i64 t, .int .i64 a, .int .i64 b] w fun e w' => e = .returned (.bool true) ∧ Below w.heap.size w w' := by
  go_enter Try.func6, Try.ntmps6
  go_wp2_with fail
  refine (sTagDone _ _ _ _ _).mono ?_
  rintro e w1 ⟨rfl, hb1⟩
  have hz1 := hb1.size
  try simp at hz1
  go_wp2_with fail
  refine (iTagDone _ _ _ _ _).mono ?_
  rintro e w2 ⟨rfl, hb2⟩
  obtain ⟨hc, hf⟩ := bcell hb2
  have hc2_0 := fun o => hc (w1.heap.size) o (by go_size)
  have hf2_0 := fun o => hf (w1.heap.size) o (by go_size)
  have hz2_0 : w1.heap.size < w2.heap.size := Nat.lt_of_lt_of_le (by go_size) hb2.size
  clear hc hf
  have hz2 := hb2.size
  try simp at hz2
  go_wp2_with fail
  refine (eqTag_same _ _ _ _ _ _).mono ?_
  rintro e w3 ⟨rfl, hb3⟩
  have hz3 := hb3.size
  try simp at hz3
  go_wp2
  go_ret
  exact ⟨rfl, by (repeat' (first | (with_reducible exact Below.refl _ _) | (with_reducible assumption) | (with_reducible refine Below.alloc ?_ ?_ _) | (with_reducible refine Below.drew ?_) | (with_reducible refine below_drewN ?_ _) | (with_reducible refine Below.setCell ?_ ?_ _) | (with_reducible refine bvia ?_ (by with_reducible assumption) ?_) | go_size))⟩
theorem iTagAddr (m t a b : Int) (w : World) : Calls Try.prog 10 #[.int .i64 m, .int .i64 t, .int .i64 a, .int .i64 b] w fun e w' => e = .returned (tg 3 m t a b) ∧ Below w.heap.size w w' := by
  go_enter Try.func10, Try.ntmps10
  go_wp2
  go_returns
  exact ⟨rfl, by go_grown⟩
theorem sTagAddr (m t a b : Int) (w : World) : Calls Try.prog 9 #[.int .i64 m, .int .i64 t, .int .i64 a, .int .i64 b] w fun e w' => e = .returned (tg 3 m t a b) ∧ Below w.heap.size w w' := by
  go_enter Try.func9, Try.ntmps9
  go_wp2
  go_returns
  exact ⟨rfl, by go_grown⟩
theorem walk_FnExactTagAddr (m t a b : Int) (w : World) (_ : -9223372036854775808 ≤ m ∧ m ≤ 9223372036854775807) (_ : -9223372036854775808 ≤ t ∧ t ≤ 9223372036854775807) (_ : -9223372036854775808 ≤ a ∧ a ≤ 9223372036854775807) (_ : -9223372036854775808 ≤ b ∧ b ≤ 9223372036854775807) :
    Calls Try.prog 3 #[.int .i64 m, .int .i64 t, .int .i64 a, .int .i64 b] w fun e w' => e = .returned (.bool true) ∧ Below w.heap.size w w' := by
  go_enter Try.func3, Try.ntmps3
  go_wp2_with fail
  refine (sTagAddr _ _ _ _ _).mono ?_
  rintro e w1 ⟨rfl, hb1⟩
  have hz1 := hb1.size
  try simp at hz1
  go_wp2_with fail
  refine (iTagAddr _ _ _ _ _).mono ?_
  rintro e w2 ⟨rfl, hb2⟩
  obtain ⟨hc, hf⟩ := bcell hb2
  have hc2_0 := fun o => hc (w1.heap.size) o (by go_size)
  have hf2_0 := fun o => hf (w1.heap.size) o (by go_size)
  have hz2_0 : w1.heap.size < w2.heap.size := Nat.lt_of_lt_of_le (by go_size) hb2.size
  clear hc hf
  have hz2 := hb2.size
  try simp at hz2
  go_wp2_with fail
  refine (eqTag_same _ _ _ _ _ _).mono ?_
  rintro e w3 ⟨rfl, hb3⟩
  have hz3 := hb3.size
  try simp at hz3
  go_wp2
  go_ret
  exact ⟨rfl, by (repeat' (first | (with_reducible exact Below.refl _ _) | (with_reducible assumption) | (with_reducible refine Below.alloc ?_ ?_ _) | (with_reducible refine Below.drew ?_) | (with_reducible refine below_drewN ?_ _) | (with_reducible refine Below.setCell ?_ ?_ _) | (with_reducible refine bvia ?_ (by with_reducible assumption) ?_) | go_size))⟩
end Go.Proofs.Ytomjfhcfellikaa
