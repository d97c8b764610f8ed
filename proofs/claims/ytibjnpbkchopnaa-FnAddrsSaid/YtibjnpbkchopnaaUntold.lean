/- UntoldOf (program and reference): for every slice that can be read. -/
import Derived.Test.YtibjnpbkchopnaaAddrO
import Derived.Test.YtibjnpbkchopnaaIntS
namespace Go.Proofs.Ytibjnpbkchopnaa
set_option linter.unusedSimpArgs false
set_option linter.unusedVariables false
open Go.RowKit

/-- What UntoldOf computes. -/
def untold (L : List AddrD) : List Int := (L.filter fun a => !a.fTold).map AddrD.fId
theorem untold_no {L : List AddrD} {k : Nat} (h : k < L.length) (ht : L[k].fTold = true) : untold (L.take (k + 1)) = untold (L.take k) := by
  unfold untold; rw [List.take_succ_eq_append_getElem h, List.filter_append]; simp [ht]
theorem untold_yes {L : List AddrD} {k : Nat} (h : k < L.length) (ht : L[k].fTold = false) : untold (L.take (k + 1)) = untold (L.take k) ++ [L[k].fId] := by
  unfold untold; rw [List.take_succ_eq_append_getElem h, List.filter_append]; simp [ht]
theorem untold_le (L : List AddrD) : (untold L).length ≤ L.length := by
  unfold untold; rw [List.length_map]; exact List.length_filter_le _ _
theorem untold_le' (L : List AddrD) (k : Nat) : (untold (L.take k)).length ≤ L.length := Nat.le_trans (untold_le _) (by rw [List.length_take]; omega)
set_option maxHeartbeats 1000000 in
theorem iUntoldOf (A : Option Addr) (cap : Nat) (L : List AddrD) (w : World) (hr : Rd AddrD.cells 4 w 0 w.heap.size A L) (hn : L.length ≤ 4294967296) :
    Calls Try.prog 17 #[.slice A L.length cap] w (RetSl w 3 icell 1 (untold L) fun v => v) := by
  go_enter Try.func17, Try.ntmps17
  go_wp2_with fail
  go_loopw [3, 8] (fun v i wr => ∃ k : Nat, k ≤ L.length ∧ i = .int .i64 k ∧ Own wr w.heap.size 3 icell 1 v (untold (L.take k)) ∧ Below w.heap.size w wr) (fun _ i _ => L.length - (intOf i).toNat)
  case atStart => exact ⟨0, Nat.zero_le _, rfl, Own.nil _ _ _, Below.refl _ _⟩
  case round =>
    obtain ⟨k, hk, rfl, hO, hB⟩ := hrel
    have hBz := hB.size
    by_cases hlt : k < L.length
    · obtain ⟨g, o, rfl, _, hg, hcell⟩ := hr.at_ (by omega)
      have hx : ∀ j v, (L[k].cells)[j]? = some v → wr.cell? ⟨g, o + k * 4 + j, none⟩ = some v := fun j v hv => by
        have hj : j < 4 := (List.getElem?_eq_some_iff.1 hv).1
        rw [hB.cell (p := ⟨g, o + k * 4 + j, none⟩) hg, hcell k hlt j hj, hv]
      have HX := Lib.hid hx
      clear hx hcell
      have hki : (k : Int) < (L.length : Int) := by omega
      have hle := untold_le' L k
      by_cases ht : L[k].fTold = true
      · have hs := Lib.hid (untold_no hlt ht)
        have HO := Lib.hid hO
        clear hO
        go_wp2_with (refine wpList_load_part rfl 40 (.tmp 10) rfl g _ rfl L[k].row _ HX.out Try.underlying40 rfl (by kernel_rfl) ?_)
        go_roundw
        case rel => exact ⟨k + 1, by omega, by go_num, by rw [hs.out]; exact HO.out.alloc _, by (repeat' (first | (with_reducible exact Below.refl _ _) | (with_reducible assumption) | (with_reducible refine Below.alloc ?_ ?_ _) | (with_reducible refine Below.drew ?_) | (with_reducible refine below_drewN ?_ _) | (with_reducible refine Below.setCell ?_ ?_ _) | (with_reducible refine bvia ?_ (by with_reducible assumption) ?_) | go_size))⟩
        case measure => simp [intOf]; omega
      · have ht : L[k].fTold = false := by simpa using ht
        have hs := Lib.hid (untold_yes hlt ht)
        have HO := Lib.hid hO
        clear hO
        go_wp2_with (first
          | (refine wpList_load_part rfl 40 (.tmp 10) rfl g _ rfl L[k].row _ HX.out Try.underlying40 rfl (by kernel_rfl) ?_)
          | (at_builtin; refine wpList_append_rd _ rfl (.tmp 15) (.tmp 18) rfl slInt icell_length icell_one w.heap.size _ (untold (L.take k)) [L[k].fId] rfl ((HO.out.alloc _).alloc _) (some ⟨wr.heap.size + 1, 0, none⟩) 1 1 0 (wr.heap.size + 2) rfl rfl (rd_one _ _ _ _ icell_length rfl _ (by simp) _ (by omega)) (by simp; omega) (by simp; omega) ?_; intro v1 w1 O1 G1 A1))
        have hB1 : Below w.heap.size w w1 := Own.below ((HO.out.alloc _).alloc _) G1 (by go_grown) (Nat.le_refl _) (by simp; omega)
        clear G1 A1
        go_roundw
        case rel => exact ⟨k + 1, by omega, by go_num, by rw [hs.out]; exact O1, hB1⟩
        case measure => simp [intOf]; omega
    · obtain rfl : k = L.length := by omega
      rw [List.take_length] at hO
      go_wp2
      go_ret
      exact ⟨_, rfl, hO, hB⟩
set_option maxHeartbeats 1000000 in
theorem sUntoldOf (A : Option Addr) (cap : Nat) (L : List AddrD) (w : World) (hr : Rd AddrD.cells 4 w 0 w.heap.size A L) (hn : L.length ≤ 4294967296) :
    Calls Try.prog 16 #[.slice A L.length cap] w (RetSl w 3 icell 1 (untold L) fun v => v) := by
  go_enter Try.func16, Try.ntmps16
  go_wp2_with fail
  go_loopw [3, 4] (fun v i wr => ∃ k : Nat, k ≤ L.length ∧ i = .int .i64 k ∧ Own wr w.heap.size 3 icell 1 v (untold (L.take k)) ∧ Below w.heap.size w wr) (fun _ i _ => L.length - (intOf i).toNat)
  case atStart => exact ⟨0, Nat.zero_le _, rfl, Own.empty _ _ _ (Nat.le_refl _), by go_grown⟩
  case round =>
    obtain ⟨k, hk, rfl, hO, hB⟩ := hrel
    have hBz := hB.size
    by_cases hlt : k < L.length
    · obtain ⟨g, o, rfl, _, hg, hcell⟩ := hr.at_ (by omega)
      have hx : ∀ j v, (L[k].cells)[j]? = some v → wr.cell? ⟨g, o + k * 4 + j, none⟩ = some v := fun j v hv => by
        have hj : j < 4 := (List.getElem?_eq_some_iff.1 hv).1
        rw [hB.cell (p := ⟨g, o + k * 4 + j, none⟩) hg, hcell k hlt j hj, hv]
      have a0 : wr.cell? ⟨g, o + k * 4, none⟩ = some (.int .i64 L[k].fId) := hx 0 _ rfl
      have a3 : wr.cell? ⟨g, o + k * 4 + 3, none⟩ = some (.bool L[k].fTold) := hx 3 _ rfl
      clear hx hcell
      have hki : (k : Int) < (L.length : Int) := by omega
      have hle := untold_le' L k
      by_cases ht : L[k].fTold = true
      · have hs := Lib.hid (untold_no hlt ht)
        have HO := Lib.hid hO
        clear hO
        go_wp2
        go_roundw
        case rel => exact ⟨k + 1, by omega, by go_num, by rw [hs.out]; exact HO.out, by (repeat' (first | (with_reducible exact Below.refl _ _) | (with_reducible assumption) | (with_reducible refine Below.alloc ?_ ?_ _) | (with_reducible refine Below.drew ?_) | (with_reducible refine below_drewN ?_ _) | (with_reducible refine Below.setCell ?_ ?_ _) | (with_reducible refine bvia ?_ (by with_reducible assumption) ?_) | go_size))⟩
        case measure => simp [intOf]; omega
      · have ht : L[k].fTold = false := by simpa using ht
        have hs := Lib.hid (untold_yes hlt ht)
        have HO := Lib.hid hO
        clear hO
        go_wp2_with (at_builtin; refine wpList_append_rd _ rfl (.tmp 18) (.tmp 24) rfl slInt icell_length icell_one w.heap.size _ (untold (L.take k)) [L[k].fId] rfl (HO.out.alloc _) (some ⟨wr.heap.size, 0, none⟩) 1 1 0 (wr.heap.size + 1) rfl rfl (rd_one _ _ _ _ icell_length rfl _ rfl _ (by omega)) (by simp; omega) (by simp; omega) ?_; intro v1 w1 O1 G1 A1)
        have hB1 : Below w.heap.size w w1 := Own.below (HO.out.alloc _) G1 (by go_grown) (Nat.le_refl _) (by simp; omega)
        clear G1 A1
        go_roundw
        case rel => exact ⟨k + 1, by omega, by go_num, by rw [hs.out]; exact O1, hB1⟩
        case measure => simp [intOf]; omega
    · obtain rfl : k = L.length := by omega
      rw [List.take_length] at hO
      go_wp2
      go_ret
      exact ⟨_, rfl, hO, hB⟩
end Go.Proofs.Ytibjnpbkchopnaa
