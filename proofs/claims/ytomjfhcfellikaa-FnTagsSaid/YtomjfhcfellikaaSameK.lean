/- sameInts, sameTags, sameKnown of equal values. Written by program (sames.py). -/
import Derived.Test.YtomjfhcfellikaaDrawPl
import Derived.Test.YtomjfhcfellikaaKT
import Derived.Laws.StructEq
import Derived.BigQuiet
namespace Go.Proofs.Ytomjfhcfellikaa
set_option linter.unusedSimpArgs false
set_option linter.unusedVariables false
open Go.RowKit
set_option maxHeartbeats 1000000 in
theorem sameInts_same (A B : Option Addr) (ca cb : Nat) (L : List Int) (w : World) (hr : Rd icell 1 w 0 w.heap.size A L) (hr2 : Rd icell 1 w 0 w.heap.size B L) (hn : L.length ≤ maxLen) :
    Calls Try.prog 46 #[.slice A L.length ca, .slice B L.length cb] w fun e w' => e = .returned (.bool true) ∧ Below w.heap.size w w' := by
  unfold maxLen at hn
  go_enter Try.func46, Try.ntmps46
  go_wp2_with fail
  go_loopw [5] (fun i wr => ∃ k : Nat, k ≤ L.length ∧ i = .int .i64 k ∧ ∃ n, wr = w.drewN n) (fun i _ => L.length - (intOf i).toNat)
  case atStart => exact ⟨0, Nat.zero_le _, rfl, 0, rfl⟩
  case round =>
    obtain ⟨k, hk, rfl, n, rfl⟩ := hrel
    by_cases hlt : k < L.length
    · obtain ⟨g, o, rfl, _, hg, hcell⟩ := hr.at_ (by omega)
      obtain ⟨g2, o2, rfl, _, hg2, hcell2⟩ := hr2.at_ (by omega)
      have a0 := hcell k hlt 0 (by decide)
      have b0 := hcell2 k hlt 0 (by decide)
      simp at a0 b0
      clear hcell hcell2
      have hki : (k : Int) < (L.length : Int) := by omega
      have hk0 : (0 : Int) ≤ (k : Int) := by omega
      go_wp2_with fail
      go_quiet (fail)
      go_wp2
      go_roundw
      case rel => exact ⟨k + 1, by omega, by go_num, _, by first | rfl | exact World.drewN_drewN _ _ _⟩
      case measure => simp [intOf]; omega
    · go_wp2
      go_ret
      exact ⟨rfl, below_drewN (Below.refl _ _) n⟩
set_option maxHeartbeats 1000000 in
theorem sameTags_same (A B : Option Addr) (ca cb : Nat) (L : List TagD) (w : World) (hr : Rd TagD.cells 5 w 0 w.heap.size A L) (hr2 : Rd TagD.cells 5 w 0 w.heap.size B L) (hn : L.length ≤ maxLen) :
    Calls Try.prog 47 #[.slice A L.length ca, .slice B L.length cb] w fun e w' => e = .returned (.bool true) ∧ Below w.heap.size w w' := by
  unfold maxLen at hn
  go_enter Try.func47, Try.ntmps47
  go_wp2_with fail
  go_loopw [5] (fun i wr => ∃ k : Nat, k ≤ L.length ∧ i = .int .i64 k ∧ ∃ n, wr = w.drewN n) (fun i _ => L.length - (intOf i).toNat)
  case atStart => exact ⟨0, Nat.zero_le _, rfl, 0, rfl⟩
  case round =>
    obtain ⟨k, hk, rfl, n, rfl⟩ := hrel
    by_cases hlt : k < L.length
    · obtain ⟨g, o, rfl, _, hg, hcell⟩ := hr.at_ (by omega)
      obtain ⟨g2, o2, rfl, _, hg2, hcell2⟩ := hr2.at_ (by omega)
      have a0 := hcell k hlt 0 (by decide)
      have a1 := hcell k hlt 1 (by decide)
      have a2 := hcell k hlt 2 (by decide)
      have a3 := hcell k hlt 3 (by decide)
      have a4 := hcell k hlt 4 (by decide)
      have b0 := hcell2 k hlt 0 (by decide)
      have b1 := hcell2 k hlt 1 (by decide)
      have b2 := hcell2 k hlt 2 (by decide)
      have b3 := hcell2 k hlt 3 (by decide)
      have b4 := hcell2 k hlt 4 (by decide)
      simp [TagD.cells] at a0 a1 a2 a3 a4 b0 b1 b2 b3 b4
      clear hcell hcell2
      have hki : (k : Int) < (L.length : Int) := by omega
      have hk0 : (0 : Int) ≤ (k : Int) := by omega
      go_wp2_with fail
      go_quiet (fail)
      go_wp2
      go_roundw
      case rel => exact ⟨k + 1, by omega, by go_num, _, by first | rfl | exact World.drewN_drewN _ _ _⟩
      case measure => simp [intOf]; omega
    · go_wp2
      go_ret
      exact ⟨rfl, below_drewN (Below.refl _ _) n⟩
set_option maxHeartbeats 1000000 in
theorem sameKnown_same (Ak At Bk Bt : Option Addr) (ck ct dk dt : Nat) (K : List Int) (T : List TagD) (w : World) (hK : Rd icell 1 w 0 w.heap.size Ak K) (hT : Rd TagD.cells 5 w 0 w.heap.size At T) (hK2 : Rd icell 1 w 0 w.heap.size Bk K) (hT2 : Rd TagD.cells 5 w 0 w.heap.size Bt T) (hmK : K.length ≤ maxLen) (hmT : T.length ≤ maxLen) :
    Calls Try.prog 29 #[knv Ak K.length ck At T.length ct, knv Bk K.length dk Bt T.length dt] w fun e w' => e = .returned (.bool true) ∧ Below w.heap.size w w' := by
  go_enter Try.func29, Try.ntmps29
  go_wp2_with fail
  refine (sameInts_same _ _ _ _ K _ (by exact hK.later (by (repeat' (first | (with_reducible exact Below.refl _ _) | (with_reducible assumption) | (with_reducible refine Below.alloc ?_ ?_ _) | (with_reducible refine Below.drew ?_) | (with_reducible refine below_drewN ?_ _) | (with_reducible refine Below.setCell ?_ ?_ _) | (with_reducible refine bvia ?_ (by with_reducible assumption) ?_) | go_size))) (Nat.le_refl _) (by go_size)) (by exact hK2.later (by (repeat' (first | (with_reducible exact Below.refl _ _) | (with_reducible assumption) | (with_reducible refine Below.alloc ?_ ?_ _) | (with_reducible refine Below.drew ?_) | (with_reducible refine below_drewN ?_ _) | (with_reducible refine Below.setCell ?_ ?_ _) | (with_reducible refine bvia ?_ (by with_reducible assumption) ?_) | go_size))) (Nat.le_refl _) (by go_size)) hmK).mono ?_
  rintro e w1 ⟨rfl, hb1⟩
  obtain ⟨hc, hf⟩ := bcell hb1
  have hc1_0 := fun o => hc (w.heap.size) o (by go_size)
  have hf1_0 := fun o => hf (w.heap.size) o (by go_size)
  have hz1_0 : w.heap.size < w1.heap.size := Nat.lt_of_lt_of_le (by go_size) hb1.size
  have hc1_1 := fun o => hc (w.heap.size + 1) o (by go_size)
  have hf1_1 := fun o => hf (w.heap.size + 1) o (by go_size)
  have hz1_1 : w.heap.size + 1 < w1.heap.size := Nat.lt_of_lt_of_le (by go_size) hb1.size
  clear hc hf
  have hz1 := hb1.size
  try simp at hz1
  go_wp2_with fail
  refine (sameTags_same _ _ _ _ T _ (by exact hT.later (by (repeat' (first | (with_reducible exact Below.refl _ _) | (with_reducible assumption) | (with_reducible refine Below.alloc ?_ ?_ _) | (with_reducible refine Below.drew ?_) | (with_reducible refine below_drewN ?_ _) | (with_reducible refine Below.setCell ?_ ?_ _) | (with_reducible refine bvia ?_ (by with_reducible assumption) ?_) | go_size))) (Nat.le_refl _) (by go_size)) (by exact hT2.later (by (repeat' (first | (with_reducible exact Below.refl _ _) | (with_reducible assumption) | (with_reducible refine Below.alloc ?_ ?_ _) | (with_reducible refine Below.drew ?_) | (with_reducible refine below_drewN ?_ _) | (with_reducible refine Below.setCell ?_ ?_ _) | (with_reducible refine bvia ?_ (by with_reducible assumption) ?_) | go_size))) (Nat.le_refl _) (by go_size)) hmT).mono ?_
  rintro e w2 ⟨rfl, hb2⟩
  obtain ⟨hc, hf⟩ := bcell hb2
  have hc2_0 := fun o => hc (w.heap.size) o (by go_size)
  have hf2_0 := fun o => hf (w.heap.size) o (by go_size)
  have hz2_0 : w.heap.size < w2.heap.size := Nat.lt_of_lt_of_le (by go_size) hb2.size
  have hc2_1 := fun o => hc (w.heap.size + 1) o (by go_size)
  have hf2_1 := fun o => hf (w.heap.size + 1) o (by go_size)
  have hz2_1 : w.heap.size + 1 < w2.heap.size := Nat.lt_of_lt_of_le (by go_size) hb2.size
  clear hc hf
  have hz2 := hb2.size
  try simp at hz2
  go_wp2
  go_ret
  exact ⟨rfl, by (repeat' (first | (with_reducible exact Below.refl _ _) | (with_reducible assumption) | (with_reducible refine Below.alloc ?_ ?_ _) | (with_reducible refine Below.drew ?_) | (with_reducible refine below_drewN ?_ _) | (with_reducible refine Below.setCell ?_ ?_ _) | (with_reducible refine bvia ?_ (by with_reducible assumption) ?_) | go_size))⟩
end Go.Proofs.Ytomjfhcfellikaa
