/- Younger (program and reference): for every slice that can be read. -/
import Derived.Test.YtcnklfddokpbiaaHalfO
namespace Go.Proofs.Ytcnklfddokpbiaa
set_option linter.unusedSimpArgs false
set_option linter.unusedVariables false
open Go.RowKit

/-- What Younger computes. -/
def young (L : List HalfD) (now : Int) : List HalfD := L.filter fun h => decide (now < h.fUntil)
theorem young_no {L : List HalfD} {now : Int} {k : Nat} (h : k < L.length) (ht : ¬ now < L[k].fUntil) : young (L.take (k + 1)) now = young (L.take k) now := by
  unfold young; rw [List.take_succ_eq_append_getElem h, List.filter_append]; simp; omega
theorem young_yes {L : List HalfD} {now : Int} {k : Nat} (h : k < L.length) (ht : now < L[k].fUntil) : young (L.take (k + 1)) now = young (L.take k) now ++ [L[k]] := by
  unfold young; rw [List.take_succ_eq_append_getElem h, List.filter_append]; simp [ht]
theorem young_le (L : List HalfD) (now : Int) : (young L now).length ≤ L.length := List.length_filter_le _ _
theorem young_le' (L : List HalfD) (now : Int) (k : Nat) : (young (L.take k) now).length ≤ L.length := Nat.le_trans (young_le _ _) (by rw [List.length_take]; omega)
set_option maxRecDepth 100000 in
set_option maxHeartbeats 2000000 in
theorem iYounger (A : Option Addr) (cap : Nat) (L : List HalfD) (now : Int) (w : World) (hr : Rd HalfD.cells 8 w 0 w.heap.size A L) (hn : L.length ≤ 4294967296) :
    Calls Try.prog 18 #[.slice A L.length cap, .int .i64 now] w (RetSl w 42 HalfD.cells 8 (young L now) fun v => v) := by
  go_enter Try.func18, Try.ntmps18
  go_wp2_with fail
  go_loopw [5, 10] (fun v i wr => ∃ k : Nat, k ≤ L.length ∧ i = .int .i64 k ∧ Own wr w.heap.size 42 HalfD.cells 8 v (young (L.take k) now) ∧ Below w.heap.size w wr) (fun _ i _ => L.length - (intOf i).toNat)
  case atStart => exact ⟨0, Nat.zero_le _, rfl, Own.nil _ _ _, Below.refl _ _⟩
  case round =>
    obtain ⟨k, hk, rfl, hO, hB⟩ := hrel
    have hBz := hB.size
    by_cases hlt : k < L.length
    · obtain ⟨g, o, rfl, _, hg, hcell⟩ := hr.at_ (by omega)
      have hx : ∀ j v, (L[k].cells)[j]? = some v → wr.cell? ⟨g, o + k * 8 + j, none⟩ = some v := fun j v hv => by
        have hj : j < 8 := (List.getElem?_eq_some_iff.1 hv).1
        rw [hB.cell (p := ⟨g, o + k * 8 + j, none⟩) hg, hcell k hlt j hj, hv]
      have HX := Lib.hid hx
      clear hx hcell
      have hki : (k : Int) < (L.length : Int) := by omega
      have hle := young_le' L now k
      by_cases ht : now < L[k].fUntil
      · have hs := Lib.hid (young_yes hlt ht)
        have HO := Lib.hid hO
        clear hO
        go_wp2_with (first
          | (refine wpList_load_part rfl 42 (.tmp 12) rfl g _ rfl L[k].row _ HX.out Try.underlying42 rfl (by kernel_rfl) ?_)
          | (at_builtin; refine wpList_append_rd _ rfl (.tmp 18) (.tmp 20) rfl slHalf HalfD.cells_length HalfD.one w.heap.size _ (young (L.take k) now) [L[k]] rfl ((HO.out.alloc _).alloc _) (some ⟨wr.heap.size + 1, 0, none⟩) 1 1 0 (wr.heap.size + 2) rfl rfl (rd_one _ _ _ _ HalfD.cells_length rfl _ (by simp) _ (by omega)) (by simp; omega) (by simp; omega) ?_; intro v1 w1 O1 G1 A1))
        have hB1 : Below w.heap.size w w1 := Own.below2 G1 ((HO.out.alloc _).alloc _) (by go_grown) (Nat.le_refl _) (by simp; omega)
        clear G1 A1
        go_roundw
        case rel => exact ⟨k + 1, by omega, by go_num, by rw [hs.out]; exact O1, hB1⟩
        case measure => simp [intOf]; omega
      · have hs := Lib.hid (young_no hlt ht)
        have HO := Lib.hid hO
        clear hO
        go_wp2_with (refine wpList_load_part rfl 42 (.tmp 12) rfl g _ rfl L[k].row _ HX.out Try.underlying42 rfl (by kernel_rfl) ?_)
        go_roundw
        case rel => exact ⟨k + 1, by omega, by go_num, by rw [hs.out]; exact HO.out.alloc _, by (repeat' (first | (with_reducible exact Below.refl _ _) | (with_reducible assumption) | (with_reducible refine Below.alloc ?_ ?_ _) | (with_reducible refine Below.drew ?_) | (with_reducible refine below_drewN ?_ _) | (with_reducible refine Below.setCell ?_ ?_ _) | (with_reducible refine bvia ?_ (by with_reducible assumption) ?_) | go_size))⟩
        case measure => simp [intOf]; omega
    · obtain rfl : k = L.length := by omega
      rw [List.take_length] at hO
      go_wp2
      go_ret
      exact ⟨_, rfl, hO, hB⟩
set_option maxRecDepth 100000 in
set_option maxHeartbeats 2000000 in
theorem sYounger (A : Option Addr) (cap : Nat) (L : List HalfD) (now : Int) (w : World) (hr : Rd HalfD.cells 8 w 0 w.heap.size A L) (hn : L.length ≤ 4294967296) :
    Calls Try.prog 17 #[.slice A L.length cap, .int .i64 now] w (RetSl w 42 HalfD.cells 8 (young L now) fun v => v) := by
  go_enter Try.func17, Try.ntmps17
  go_wp2_with fail
  go_loopw [5, 6] (fun v i wr => ∃ k : Nat, k ≤ L.length ∧ i = .int .i64 k ∧ Own wr w.heap.size 42 HalfD.cells 8 v (young (L.take k) now) ∧ Below w.heap.size w wr) (fun _ i _ => L.length - (intOf i).toNat)
  case atStart => exact ⟨0, Nat.zero_le _, rfl, Own.empty _ _ _ (Nat.le_refl _), by go_grown⟩
  case round =>
    obtain ⟨k, hk, rfl, hO, hB⟩ := hrel
    have hBz := hB.size
    by_cases hlt : k < L.length
    · obtain ⟨g, o, rfl, _, hg, hcell⟩ := hr.at_ (by omega)
      have hx : ∀ j v, (L[k].cells)[j]? = some v → wr.cell? ⟨g, o + k * 8 + j, none⟩ = some v := fun j v hv => by
        have hj : j < 8 := (List.getElem?_eq_some_iff.1 hv).1
        rw [hB.cell (p := ⟨g, o + k * 8 + j, none⟩) hg, hcell k hlt j hj, hv]
      have a7 : wr.cell? ⟨g, o + k * 8 + 7, none⟩ = some (.int .i64 L[k].fUntil) := hx 7 _ rfl
      have HX := Lib.hid hx
      clear hx hcell
      have hki : (k : Int) < (L.length : Int) := by omega
      have hle := young_le' L now k
      by_cases ht : now < L[k].fUntil
      · have hs := Lib.hid (young_yes hlt ht)
        have HO := Lib.hid hO
        clear hO
        go_wp2_with (first
          | (refine wpList_load_part rfl 42 (.tmp 24) rfl g _ rfl L[k].row _ HX.out Try.underlying42 rfl (by kernel_rfl) ?_)
          | (at_builtin; refine wpList_append_rd _ rfl (.tmp 21) (.tmp 26) rfl slHalf HalfD.cells_length HalfD.one w.heap.size _ (young (L.take k) now) [L[k]] rfl (HO.out.alloc _) (some ⟨wr.heap.size, 0, none⟩) 1 1 0 (wr.heap.size + 1) rfl rfl (rd_one _ _ _ _ HalfD.cells_length rfl _ rfl _ (by omega)) (by simp; omega) (by simp; omega) ?_; intro v1 w1 O1 G1 A1))
        have hB1 : Below w.heap.size w w1 := Own.below2 G1 (HO.out.alloc _) (by go_grown) (Nat.le_refl _) (by simp; omega)
        clear G1 A1
        go_roundw
        case rel => exact ⟨k + 1, by omega, by go_num, by rw [hs.out]; exact O1, hB1⟩
        case measure => simp [intOf]; omega
      · have hs := Lib.hid (young_no hlt ht)
        have HO := Lib.hid hO
        clear hO
        go_wp2
        go_roundw
        case rel => exact ⟨k + 1, by omega, by go_num, by rw [hs.out]; exact HO.out, by (repeat' (first | (with_reducible exact Below.refl _ _) | (with_reducible assumption) | (with_reducible refine Below.alloc ?_ ?_ _) | (with_reducible refine Below.drew ?_) | (with_reducible refine below_drewN ?_ _) | (with_reducible refine Below.setCell ?_ ?_ _) | (with_reducible refine bvia ?_ (by with_reducible assumption) ?_) | go_size))⟩
        case measure => simp [intOf]; omega
    · obtain rfl : k = L.length := by omega
      rw [List.take_length] at hO
      go_wp2
      go_ret
      exact ⟨_, rfl, hO, hB⟩
end Go.Proofs.Ytcnklfddokpbiaa
