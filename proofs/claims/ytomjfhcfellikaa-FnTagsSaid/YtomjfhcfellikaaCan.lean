/- hasInt, l15Has, CanMake (program and reference): for every argument. -/
import Derived.Test.YtomjfhcfellikaaTagO
import Derived.Test.YtomjfhcfellikaaIntS
import Derived.Test.YtomjfhcfellikaaFind
import Derived.Laws.StructEq
import Derived.StillTailTactics
namespace Go.Proofs.Ytomjfhcfellikaa
set_option linter.unusedSimpArgs false
set_option linter.unusedVariables false
open Go.RowKit

/-- What hasInt computes. -/
def hasI (L : List Int) (n : Int) : Bool := L.any fun x => x == n
def NoneTo {α : Type} (p : α → Bool) (L : List α) (k : Nat) : Prop := ∀ (i : Nat) (hi : i < L.length), i < k → p L[i] = false
theorem NoneTo.zero {α : Type} (p : α → Bool) (L : List α) : NoneTo p L 0 := fun i hi h => absurd h (by omega)
theorem NoneTo.succ {α : Type} {p : α → Bool} {L : List α} {k : Nat} (h : NoneTo p L k) (hk : k < L.length) (hn : p L[k] = false) : NoneTo p L (k + 1) := fun i hi hik => by
  rcases Nat.lt_or_ge i k with h' | h'
  · exact h i hi h'
  · obtain rfl : i = k := by omega
    exact hn
theorem any_yes {α : Type} {p : α → Bool} {L : List α} {k : Nat} (hk : k < L.length) (h : p L[k] = true) : L.any p = true := List.any_eq_true.2 ⟨_, List.getElem_mem hk, h⟩
theorem any_no {α : Type} {p : α → Bool} {L : List α} (h : NoneTo p L L.length) : L.any p = false := by
  rw [List.any_eq_false]
  intro y hy
  obtain ⟨i, hi, rfl⟩ := List.getElem_of_mem hy
  simp [h i hi hi]
set_option maxHeartbeats 400000 in
theorem hasInt_any (A : Option Addr) (cap : Nat) (L : List Int) (n : Int) (w : World) (hr : Rd icell 1 w 0 w.heap.size A L) (hm : L.length ≤ maxLen) :
    Calls Try.prog 42 #[.slice A L.length cap, .int .i64 n] w fun e w' => e = .returned (.bool (hasI L n)) ∧ w = w' := by
  unfold maxLen at hm
  go_enter Try.func42, Try.ntmps42
  go_wp2_with fail
  go_loop [9] (fun i => ∃ k : Nat, k ≤ L.length ∧ i = .int .i64 k ∧ NoneTo (fun x => x == n) L k) (fun i => L.length - (intOf i).toNat)
  case atStart => exact ⟨0, Nat.zero_le _, rfl, NoneTo.zero _ _⟩
  case round =>
    obtain ⟨k, hk, rfl, hN⟩ := hrel
    by_cases hlt : k < L.length
    · obtain ⟨g, o, rfl, _, hg, hcell⟩ := hr.at_ (by omega)
      have a0 : w.cell? ⟨g, o + k, none⟩ = some (.int .i64 L[k]) := by have := hcell k hlt 0 (by decide); simpa using this
      clear hcell
      have hki : (k : Int) < (L.length : Int) := by omega
      by_cases hx : (L[k] == n) = true
      · have hv : Hid (hasI L n = true) := any_yes hlt hx
        go_wp2
        go_ret
        exact ⟨ret_bool hv.out.symm, rfl⟩
      · have hx : (L[k] == n) = false := by simpa using hx
        have hN' := hN.succ hlt hx
        go_wp2
        go_round
        case rel => exact ⟨k + 1, by omega, by go_num, hN'⟩
        case measure => simp [intOf]; omega
    · obtain rfl : k = L.length := by omega
      have hv : Hid (hasI L n = false) := any_no hN
      go_wp2
      go_ret
      exact ⟨ret_bool hv.out.symm, rfl⟩
set_option maxHeartbeats 400000 in
theorem l15Has_any (A : Option Addr) (cap : Nat) (L : List Int) (n : Int) (w : World) (hr : Rd icell 1 w 0 w.heap.size A L) (hm : L.length ≤ maxLen) :
    Calls Try.prog 41 #[.slice A L.length cap, .int .i64 n] w fun e w' => e = .returned (.bool (hasI L n)) ∧ w = w' := by
  unfold maxLen at hm
  go_enter Try.func41, Try.ntmps41
  go_wp2_with fail
  go_loop [5] (fun i => ∃ k : Nat, k ≤ L.length ∧ i = .int .i64 k ∧ NoneTo (fun x => x == n) L k) (fun i => L.length - (intOf i).toNat)
  case atStart => exact ⟨0, Nat.zero_le _, rfl, NoneTo.zero _ _⟩
  case round =>
    obtain ⟨k, hk, rfl, hN⟩ := hrel
    by_cases hlt : k < L.length
    · obtain ⟨g, o, rfl, _, hg, hcell⟩ := hr.at_ (by omega)
      have a0 : w.cell? ⟨g, o + k, none⟩ = some (.int .i64 L[k]) := by have := hcell k hlt 0 (by decide); simpa using this
      clear hcell
      have hki : (k : Int) < (L.length : Int) := by omega
      by_cases hx : (L[k] == n) = true
      · have hv : Hid (hasI L n = true) := any_yes hlt hx
        go_wp2
        go_ret
        exact ⟨ret_bool hv.out.symm, rfl⟩
      · have hx : (L[k] == n) = false := by simpa using hx
        have hN' := hN.succ hlt hx
        go_wp2
        go_round
        case rel => exact ⟨k + 1, by omega, by go_num, hN'⟩
        case measure => simp [intOf]; omega
    · obtain rfl : k = L.length := by omega
      have hv : Hid (hasI L n = false) := any_no hN
      go_wp2
      go_ret
      exact ⟨ret_bool hv.out.symm, rfl⟩
end Go.Proofs.Ytomjfhcfellikaa
