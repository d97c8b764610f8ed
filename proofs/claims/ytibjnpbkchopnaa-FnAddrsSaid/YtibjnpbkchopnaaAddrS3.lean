/- markAddrS, heldAddrS, szAddrS. -/
import Derived.Test.YtibjnpbkchopnaaAddrS2
import Derived.Test.YtibjnpbkchopnaaMark
namespace Go.Proofs.Ytibjnpbkchopnaa
set_option linter.unusedSimpArgs false
set_option linter.unusedVariables false
open Go.RowKit

/-- What markAddrS writes into element i, from k0 on. -/
def mkAddr (k0 : Int) (i : Nat) : AddrD := ⟨k0 + 4 * (i : Int), k0 + 4 * (i : Int) + 1, (k0 + 4 * (i : Int) + 1 + 1) % 3 == 0, (k0 + 4 * (i : Int) + 1 + 1 + 1) % 3 == 0⟩
set_option maxHeartbeats 1000000 in
theorem markAddrS_any (g n cap base : Nat) (xs : List Value) (k0 : Int) (w : World) (hown : w.ownsRow base 40 4 (.slice (some ⟨g, 0, none⟩) n cap) n xs) (hnc : n ≤ cap) (hm : cap ≤ maxLen) (hb : base ≤ g) (h0 : 0 ≤ k0) (h1 : k0 ≤ 1000000000) (hn : n ≤ 2000000) :
    Calls Try.prog 19 #[.slice (some ⟨g, 0, none⟩) n cap, .int .i64 k0] w fun e w' => e = .returned (.int .i64 (k0 + 4 * (n : Int))) ∧ w'.ownsRow base 40 4 (.slice (some ⟨g, 0, none⟩) n cap) n ((markL (mkAddr k0) n).flatMap AddrD.cells) ∧ w.grownBy w' (some g) := by
  have hP := PM.start (c := AddrD.cells) (mkAddr k0) hown
  clear hown
  go_enter Try.func19, Try.ntmps19
  go_wp2_with fail
  go_loopw [1, 5] (fun q i wr => ∃ k : Nat, k ≤ n ∧ i = .int .i64 k ∧ q = .int .i64 (k0 + 4 * (k : Int)) ∧ PM wr g 40 (cap * 4) (pat AddrD.cells 4 (mkAddr k0)) (k * 4) ∧ w.grownBy wr (some g)) (fun _ i _ => n - (intOf i).toNat)
  case atStart => exact ⟨0, Nat.zero_le _, rfl, by simp, by simpa using hP, World.grownBy.refl w _⟩
  case round =>
    obtain ⟨k, hk, rfl, rfl, hP, hG⟩ := hrel
    by_cases hlt : k < n
    · have hcap : k * 4 + 4 ≤ cap * 4 := by omega
      obtain ⟨u0, c0⟩ := hP.cell (i := k * 4) (by omega)
      obtain ⟨u1, c1⟩ := hP.cell (i := k * 4 + 1) (by omega)
      obtain ⟨u2, c2⟩ := hP.cell (i := k * 4 + 2) (by omega)
      obtain ⟨u3, c3⟩ := hP.cell (i := k * 4 + 3) (by omega)
      have f0 := hP.free (k * 4)
      have f1 := hP.free (k * 4 + 1)
      have f2 := hP.free (k * 4 + 2)
      have f3 := hP.free (k * 4 + 3)
      have HP := Lib.hid ((((hP.step (by omega) (pat_at (mkAddr k0) k 0 (by decide) rfl)).step (by omega) (pat_at (mkAddr k0) k 1 (by decide) rfl)).step (by omega) (pat_at (mkAddr k0) k 2 (by decide) rfl)).step (by omega) (pat_at (mkAddr k0) k 3 (by decide) rfl))
      have HG := Lib.hid (only_set (only_set (only_set (only_set hG (k * 4) (.int .i64 (k0 + 4 * (k : Int)))) (k * 4 + 1) (.int .i64 (k0 + 4 * (k : Int) + 1))) (k * 4 + 2) (.bool ((k0 + 4 * (k : Int) + 1 + 1) % 3 == 0))) (k * 4 + 3) (.bool ((k0 + 4 * (k : Int) + 1 + 1 + 1) % 3 == 0)))
      clear hP hG
      have hki : (k : Int) < (n : Int) := by omega
      go_wp2
      go_roundw
      case rel => exact ⟨k + 1, by omega, by go_num, by go_num, by rw [show (k + 1) * 4 = k * 4 + 1 + 1 + 1 + 1 from by omega]; exact HP.out, HG.out⟩
      case measure => simp [intOf]; omega
    · obtain rfl : k = n := by omega
      go_wp2
      go_ret
      exact ⟨rfl, PM.done AddrD.cells_length hb hnc hm hP, hG⟩
set_option maxHeartbeats 1000000 in
theorem heldAddrS_any (A : Option Addr) (n cap : Nat) (k0 : Int) (w : World) (lo hi : Nat) (hr : Rd AddrD.cells 4 w lo hi A (markL (mkAddr k0) n)) (h0 : 0 ≤ k0) (h1 : k0 ≤ 1000000000) (hn : n ≤ 2000000) :
    Calls Try.prog 24 #[.slice A n cap, .int .i64 k0] w fun e w' => e = .returned (.int .i64 (k0 + 4 * (n : Int))) ∧ w = w' := by
  have hl := markL_length (mkAddr k0) n
  have HL := Lib.hid hl
  clear hl
  go_enter Try.func24, Try.ntmps24
  go_wp2_with fail
  go_loop [1, 5] (fun q i => ∃ k : Nat, k ≤ n ∧ i = .int .i64 k ∧ q = .int .i64 (k0 + 4 * (k : Int))) (fun _ i => n - (intOf i).toNat)
  case atStart => exact ⟨0, Nat.zero_le _, rfl, by simp⟩
  case round =>
    obtain ⟨k, hk, rfl, rfl⟩ := hrel
    by_cases hlt : k < n
    · obtain ⟨g, o, rfl, _, _, hcell⟩ := hr.at_ (by rw [HL.out]; omega)
      have hx : ∀ j v, ((mkAddr k0 k).cells)[j]? = some v → w.cell? ⟨g, o + k * 4 + j, none⟩ = some v := fun j v hv => by
        have hj : j < 4 := (List.getElem?_eq_some_iff.1 hv).1
        rw [hcell k (by rw [HL.out]; omega) j hj, markL_get, hv]
      have a0 : w.cell? ⟨g, o + k * 4, none⟩ = some (.int .i64 (k0 + 4 * (k : Int))) := hx 0 _ rfl
      have a1 : w.cell? ⟨g, o + k * 4 + 1, none⟩ = some (.int .i64 (k0 + 4 * (k : Int) + 1)) := hx 1 _ rfl
      have a2 : w.cell? ⟨g, o + k * 4 + 2, none⟩ = some (.bool ((k0 + 4 * (k : Int) + 1 + 1) % 3 == 0)) := hx 2 _ rfl
      have a3 : w.cell? ⟨g, o + k * 4 + 3, none⟩ = some (.bool ((k0 + 4 * (k : Int) + 1 + 1 + 1) % 3 == 0)) := hx 3 _ rfl
      clear hx hcell
      have hki : (k : Int) < (n : Int) := by omega
      go_wp2
      go_round
      case rel => exact ⟨k + 1, by omega, by go_num, by go_num⟩
      case measure => simp [intOf]; omega
    · obtain rfl : k = n := by omega
      go_wp2
      go_ret
      exact ⟨rfl, rfl⟩
theorem szAddrS_any (A : Option Addr) (n cap : Nat) (l : Int) (w : World) (h0 : 0 ≤ l) (h1 : l ≤ 1048576) (hn : n ≤ maxLen) : Calls Try.prog 9 #[.slice A n cap, .int .i64 l] w fun e w' => e = .returned (.int .i64 (szI l n)) ∧ w = w' := by
  unfold maxLen at hn
  by_cases h : (n : Int) ≤ l
  · have hv : Hid (szI l n = l - n) := if_pos h
    go_enter Try.func9, Try.ntmps9
    go_wp2
    go_ret
    exact ⟨ret_int hv.out.symm, rfl⟩
  · have hv : Hid (szI l n = -1) := if_neg h
    go_enter Try.func9, Try.ntmps9
    go_wp2
    go_ret
    exact ⟨ret_int hv.out.symm, rfl⟩
end Go.Proofs.Ytibjnpbkchopnaa
