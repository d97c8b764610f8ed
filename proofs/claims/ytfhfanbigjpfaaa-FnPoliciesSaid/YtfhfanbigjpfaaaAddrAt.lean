/- AddrAt (program and reference), and the walk of FnExactAddrAt: for every argument. -/
import Derived.Test.YtfhfanbigjpfaaaAddrS3
import Derived.Test.YtfhfanbigjpfaaaFind
namespace Go.Proofs.Ytfhfanbigjpfaaa
set_option linter.unusedSimpArgs false
set_option linter.unusedVariables false
open Go.RowKit

/-- What AddrAt computes. -/
def addrAt (L : List AddrD) (id : Int) : Int := findI (fun a => a.fId == id) L
/-- None of the first k has that id. -/
def NoneA (L : List AddrD) (id : Int) (k : Nat) : Prop := ∀ (i : Nat) (hi : i < L.length), i < k → (L[i].fId == id) = false
theorem NoneA.succ {L : List AddrD} {id : Int} {k : Nat} (h : NoneA L id k) (hk : k < L.length) (hn : (L[k].fId == id) = false) : NoneA L id (k + 1) := fun i hi hik => by
  rcases Nat.lt_or_ge i k with h' | h'
  · exact h i hi h'
  · obtain rfl : i = k := by omega
    exact hn
set_option maxHeartbeats 400000 in
theorem sAddrAt (A : Option Addr) (cap : Nat) (L : List AddrD) (id : Int) (w : World) (hr : Rd AddrD.cells 4 w 0 w.heap.size A L) (hn : L.length ≤ maxLen) :
    Calls Try.prog 48 #[.slice A L.length cap, .int .i64 id] w fun e w' => e = .returned (.int .i64 (addrAt L id)) ∧ w = w' := by
  unfold maxLen at hn
  go_enter Try.func48, Try.ntmps48
  go_wp2_with fail
  go_loop [5] (fun i => ∃ k : Nat, k ≤ L.length ∧ i = .int .i64 k ∧ NoneA L id k) (fun i => L.length - (intOf i).toNat)
  case atStart => exact ⟨0, Nat.zero_le _, rfl, fun i hi h => absurd h (by omega)⟩
  case round =>
    obtain ⟨k, hk, rfl, hN⟩ := hrel
    by_cases hlt : k < L.length
    · obtain ⟨g, o, rfl, _, hg, hcell⟩ := hr.at_ (by omega)
      have a0 : w.cell? ⟨g, o + k * 4, none⟩ = some (.int .i64 L[k].fId) := hcell k hlt 0 (by decide)
      clear hcell
      have hki : (k : Int) < (L.length : Int) := by omega
      by_cases hid : (L[k].fId == id) = true
      · have hv := Lib.hid (findI_hit (fun a : AddrD => a.fId == id) L k hlt hN hid)
        go_wp2
        go_ret
        exact ⟨ret_int hv.out.symm, rfl⟩
      · have hid' : (L[k].fId == id) = false := by simpa using hid
        have hN' := hN.succ hlt hid'
        clear hid
        go_wp2
        go_round
        case rel => exact ⟨k + 1, by omega, by go_num, hN'⟩
        case measure => simp [intOf]; omega
    · obtain rfl : k = L.length := by omega
      have hv := Lib.hid (findI_none (fun a : AddrD => a.fId == id) L (fun i hi => hN i hi hi))
      go_wp2
      go_ret
      exact ⟨ret_int hv.out.symm, rfl⟩
end Go.Proofs.Ytfhfanbigjpfaaa
