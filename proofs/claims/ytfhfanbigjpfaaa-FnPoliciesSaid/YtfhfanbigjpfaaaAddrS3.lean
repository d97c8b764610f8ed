/- markAddrS, heldAddrS, szAddrS. -/
import Derived.Test.YtfhfanbigjpfaaaAddrS2
import Derived.Test.YtfhfanbigjpfaaaMark
namespace Go.Proofs.Ytfhfanbigjpfaaa
set_option linter.unusedSimpArgs false
set_option linter.unusedVariables false
open Go.RowKit

/-- What markAddrS writes into element i, from k0 on. -/
def mkAddr (k0 : Int) (i : Nat) : AddrD := ⟨k0 + 4 * (i : Int), k0 + 4 * (i : Int) + 1, (k0 + 4 * (i : Int) + 1 + 1) % 3 == 0, (k0 + 4 * (i : Int) + 1 + 1 + 1) % 3 == 0⟩
set_option maxHeartbeats 1000000 in
theorem markAddrS_any (g n cap base : Nat) (xs : List Value) (k0 : Int) (w : World) (hown : w.ownsRow base 56 4 (.slice (some ⟨g, 0, none⟩) n cap) n xs) (hnc : n ≤ cap) (hm : cap ≤ maxLen) (hb : base ≤ g) (h0 : 0 ≤ k0) (h1 : k0 ≤ 1000000000) (hn : n ≤ 2000000) :
    Calls Try.prog 27 #[.slice (some ⟨g, 0, none⟩) n cap, .int .i64 k0] w fun e w' => e = .returned (.int .i64 (k0 + 4 * (n : Int))) ∧ w'.ownsRow base 56 4 (.slice (some ⟨g, 0, none⟩) n cap) n ((markL (mkAddr k0) n).flatMap AddrD.cells) ∧ w.grownBy w' (some g) := by
  have hP := PM.start (c := AddrD.cells) (mkAddr k0) hown
  clear hown
  go_enter Try.func27, Try.ntmps27
  go_wp2_with fail
  go_loopw [1, 5] (fun q i wr => ∃ k : Nat, k ≤ n ∧ i = .int .i64 k ∧ q = .int .i64 (k0 + 4 * (k : Int)) ∧ PM wr g 56 (cap * 4) (pat AddrD.cells 4 (mkAddr k0)) (k * 4) ∧ w.grownBy wr (some g)) (fun _ i _ => n - (intOf i).toNat)
  case atStart => exact ⟨0, Nat.zero_le _, rfl, by simp, by simpa using hP, World.grownBy.refl w _⟩
  case round =>
    obtain ⟨k, hk, rfl, rfl, hP, hG⟩ := hrel
    by_cases hlt : k < n
    · have hcap : k * 4 + 4 ≤ cap * 4 := by omega
      obtain ⟨u0, c0⟩ := hP.cell (i := k * 4) (by omega)
      obtain ⟨u1, c1⟩ := hP.cell (i := k * 4 + 1) (by omega)
      obtain ⟨u2, c2⟩ := hP.cell (i := k * 4 + 2) (by omega)
      obtain ⟨u3, c3⟩ := hP.cell (i := k * 4 + 3) (by omega)
      have f0 := hP.free (k * 4)
      have f1 := hP.free (k * 4 + 1)
      have f2 := hP.free (k * 4 + 2)
      have f3 := hP.free (k * 4 + 3)
      have HP := Lib.hid ((((hP.step (by omega) (pat_at (mkAddr k0) k 0 (by decide) rfl)).step (by omega) (pat_at (mkAddr k0) k 1 (by decide) rfl)).step (by omega) (pat_at (mkAddr k0) k 2 (by decide) rfl)).step (by omega) (pat_at (mkAddr k0) k 3 (by decide) rfl))
      have HG := Lib.hid (only_set (only_set (only_set (only_set hG (k * 4) (.int .i64 (k0 + 4 * (k : Int)))) (k * 4 + 1) (.int .i64 (k0 + 4 * (k : Int) + 1))) (k * 4 + 2) (.bool ((k0 + 4 * (k : Int) + 1 + 1) % 3 == 0))) (k * 4 + 3) (.bool ((k0 + 4 * (k : Int) + 1 + 1 + 1) % 3 == 0)))
      clear hP hG
      have hki : (k : Int) < (n : Int) := by omega
      go_wp2
      go_roundw
      case rel => exact ⟨k + 1, by omega, by go_num, by go_num, by rw [show (k + 1) * 4 = k * 4 + 1 + 1 + 1 + 1 from by omega]; exact HP.out, HG.out⟩
      case measure => simp [intOf]; omega
    · obtain rfl : k = n := by omega
      go_wp2
      go_ret
      exact ⟨rfl, PM.done AddrD.cells_length hb hnc hm hP, hG⟩
theorem szAddrS_any (A : Option Addr) (n cap : Nat) (l : Int) (w : World) (h0 : 0 ≤ l) (h1 : l ≤ 1048576) (hn : n ≤ maxLen) : Calls Try.prog 22 #[.slice A n cap, .int .i64 l] w fun e w' => e = .returned (.int .i64 (szI l n)) ∧ w = w' := by
  unfold maxLen at hn
  by_cases h : (n : Int) ≤ l
  · have hv : Hid (szI l n = l - n) := if_pos h
    go_enter Try.func22, Try.ntmps22
    go_wp2
    go_ret
    exact ⟨ret_int hv.out.symm, rfl⟩
  · have hv : Hid (szI l n = -1) := if_neg h
    go_enter Try.func22, Try.ntmps22
    go_wp2
    go_ret
    exact ⟨ret_int hv.out.symm, rfl⟩
end Go.Proofs.Ytfhfanbigjpfaaa
