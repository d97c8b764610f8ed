/- NextOf, HeldOf (program and reference): for every argument (HeldOf: of no more than 2^62 bytes). -/
import Derived.Test.YtpjbnfpadbknpaaPiecesS
namespace Go.Proofs.Ytpjbnfpadbknpaa
set_option linter.unusedSimpArgs false
set_option linter.unusedVariables false
open Go.RowKit

/-- What NextOf computes. -/
def nextV (r : Int) (s : ByteArray) : Int := wrap64 (r + s.size)
theorem iNextOf (r : Int) (s : ByteArray) (A : Option Addr) (n cap : Nat) (w : World) (hs : s.size ≤ maxLen) :
    Calls Try.prog 23 #[pv r s A n cap] w fun e w' => e = .returned (.int .i64 (nextV r s)) ∧ Below w.heap.size w w' := by
  unfold maxLen at hs
  go_enter Try.func23, Try.ntmps23
  go_wp2
  go_ret
  exact ⟨by first | rfl | (congr 2; simp [nextV]), by (repeat' (first | (with_reducible exact Below.refl _ _) | (with_reducible assumption) | (with_reducible refine Below.alloc ?_ ?_ _) | (with_reducible refine Below.drew ?_) | (with_reducible refine below_drewN ?_ _) | (with_reducible refine Below.setCell ?_ ?_ _) | (with_reducible refine bvia ?_ (by with_reducible assumption) ?_) | go_size))⟩
theorem sNextOf (r : Int) (s : ByteArray) (A : Option Addr) (n cap : Nat) (w : World) (hs : s.size ≤ maxLen) :
    Calls Try.prog 22 #[pv r s A n cap] w fun e w' => e = .returned (.int .i64 (nextV r s)) ∧ Below w.heap.size w w' := by
  unfold maxLen at hs
  go_enter Try.func22, Try.ntmps22
  go_wp2
  go_ret
  exact ⟨by first | rfl | (congr 2; simp [nextV]), by (repeat' (first | (with_reducible exact Below.refl _ _) | (with_reducible assumption) | (with_reducible refine Below.alloc ?_ ?_ _) | (with_reducible refine Below.drew ?_) | (with_reducible refine below_drewN ?_ _) | (with_reducible refine Below.setCell ?_ ?_ _) | (with_reducible refine bvia ?_ (by with_reducible assumption) ?_) | go_size))⟩
/-- What HeldOf computes. -/
def heldV (s : ByteArray) (L : List PieceD) : Int := (s.size + sumT L : Nat)
set_option maxHeartbeats 1000000 in
theorem iHeldOf (r : Int) (s : ByteArray) (A : Option Addr) (cap : Nat) (L : List PieceD) (w : World) (hr : Rd PieceD.cells 2 w 0 w.heap.size A L) (hs : s.size + sumT L ≤ 4611686018427387904) (hm : L.length ≤ maxLen) :
    Calls Try.prog 25 #[pv r s A L.length cap] w fun e w' => e = .returned (.int .i64 (heldV s L)) ∧ Below w.heap.size w w' := by
  unfold maxLen at hm
  go_enter Try.func25, Try.ntmps25
  go_wp2_with fail
  go_loopw [3, 12] (fun q i wr => ∃ k : Nat, k ≤ L.length ∧ i = .int .i64 k ∧ q = .int .i64 (heldV s (L.take k)) ∧ Below w.heap.size w wr) (fun _ i _ => L.length - (intOf i).toNat)
  case atStart => exact ⟨0, Nat.zero_le _, rfl, by simp [heldV, sumT], by (repeat' (first | (with_reducible exact Below.refl _ _) | (with_reducible assumption) | (with_reducible refine Below.alloc ?_ ?_ _) | (with_reducible refine Below.drew ?_) | (with_reducible refine below_drewN ?_ _) | (with_reducible refine Below.setCell ?_ ?_ _) | (with_reducible refine bvia ?_ (by with_reducible assumption) ?_) | go_size))⟩
  case round =>
    obtain ⟨k, hk, rfl, rfl, hB⟩ := hrel
    have hBz := hB.size
    by_cases hlt : k < L.length
    · obtain ⟨g, o, rfl, _, hg, hcell⟩ := hr.at_ (by omega)
      have hx : ∀ j v, (L[k].cells)[j]? = some v → wr.cell? ⟨g, o + k * 2 + j, none⟩ = some v := fun j v hv => by
        have hj : j < 2 := (List.getElem?_eq_some_iff.1 hv).1
        rw [hB.cell (p := ⟨g, o + k * 2 + j, none⟩) hg, hcell k hlt j hj, hv]
      have HX := Lib.hid hx
      clear hx hcell
      have hki : (k : Int) < (L.length : Int) := by omega
      have hsu := sumT_succ hlt
      have hle := sumT_take L (k + 1)
      obtain ⟨c, hc⟩ : ∃ c, heldV s (L.take k) = c := ⟨_, rfl⟩
      have hcs : Hid (heldV s (L.take (k + 1)) = c + L[k].fText.size) := by unfold Hid; rw [← hc]; unfold heldV; omega
      have hb : 0 ≤ c ∧ c + L[k].fText.size ≤ 4611686018427387904 := by rw [← hc]; unfold heldV; omega
      rw [hc]
      clear hc hsu
      go_wp2_with (refine wpList_load_part rfl 44 (.tmp 14) rfl g _ rfl L[k].row _ HX.out Try.underlying44 rfl (by kernel_rfl) ?_)
      go_roundw
      case rel => exact ⟨k + 1, by omega, by go_num, by rw [hcs.out], by (repeat' (first | (with_reducible exact Below.refl _ _) | (with_reducible assumption) | (with_reducible refine Below.alloc ?_ ?_ _) | (with_reducible refine Below.drew ?_) | (with_reducible refine below_drewN ?_ _) | (with_reducible refine Below.setCell ?_ ?_ _) | (with_reducible refine bvia ?_ (by with_reducible assumption) ?_) | go_size))⟩
      case measure => simp [intOf]; omega
    · obtain rfl : k = L.length := by omega
      rw [List.take_length]
      go_wp2
      go_ret
      exact ⟨rfl, hB⟩
set_option maxHeartbeats 1000000 in
theorem sHeldOf (r : Int) (s : ByteArray) (A : Option Addr) (cap : Nat) (L : List PieceD) (w : World) (hr : Rd PieceD.cells 2 w 0 w.heap.size A L) (hs : s.size + sumT L ≤ 4611686018427387904) (hm : L.length ≤ maxLen) :
    Calls Try.prog 24 #[pv r s A L.length cap] w fun e w' => e = .returned (.int .i64 (heldV s L)) ∧ Below w.heap.size w w' := by
  unfold maxLen at hm
  have hW : Below w.heap.size w (w.alloc (.cells #[.int .i64 r, .string s, .slice A L.length cap] 26)) := by go_grown
  go_enter Try.func24, Try.ntmps24
  go_wp2_with fail
  go_loop [3, 4] (fun q i => ∃ k : Nat, k ≤ L.length ∧ i = .int .i64 k ∧ q = .int .i64 (heldV s (L.take k))) (fun _ i => L.length - (intOf i).toNat)
  case atStart => exact ⟨0, Nat.zero_le _, rfl, by simp [heldV, sumT]⟩
  case round =>
    obtain ⟨k, hk, rfl, rfl⟩ := hrel
    by_cases hlt : k < L.length
    · obtain ⟨g, o, rfl, _, hg, hcell⟩ := hr.at_ (by omega)
      have a1 : (w.alloc (.cells #[.int .i64 r, .string s, .slice (some ⟨g, o, none⟩) L.length cap] 26)).cell? ⟨g, o + k * 2 + 1, none⟩ = some (.string L[k].fText) := by
        rw [World.cell?_alloc_lt _ _ _ hg, hcell k hlt 1 (by decide)]; rfl
      clear hcell
      have hki : (k : Int) < (L.length : Int) := by omega
      have hsu := sumT_succ hlt
      have hle := sumT_take L (k + 1)
      obtain ⟨c, hc⟩ : ∃ c, heldV s (L.take k) = c := ⟨_, rfl⟩
      have hcs : Hid (heldV s (L.take (k + 1)) = c + L[k].fText.size) := by unfold Hid; rw [← hc]; unfold heldV; omega
      have hb : 0 ≤ c ∧ c + L[k].fText.size ≤ 4611686018427387904 := by rw [← hc]; unfold heldV; omega
      rw [hc]
      clear hc hsu
      go_wp2
      go_round
      case rel => exact ⟨k + 1, by omega, by go_num, by rw [hcs.out]⟩
      case measure => simp [intOf]; omega
    · obtain rfl : k = L.length := by omega
      rw [List.take_length]
      go_wp2
      go_ret
      exact ⟨rfl, hW⟩
end Go.Proofs.Ytpjbnfpadbknpaa
