/- toBoolS, eqBoolS, markBoolS, heldBoolS: for every slice that can be read. -/
import Derived.Test.YtkeldhffhiekpaaNum
import Derived.Test.YtkeldhffhiekpaaMark
import Derived.Test.YtkeldhffhiekpaaOwn
import Derived.StillTailTactics
import Derived.Deep.QuietTactic
import Derived.BigQuiet
namespace Go.Proofs.Ytkeldhffhiekpaa
set_option linter.unusedSimpArgs false
set_option linter.unusedVariables false
open Go.RowKit
abbrev bocell (b : Bool) : List Value := [.bool b]
theorem bocell_length (x : Bool) : (bocell x).length = 1 := rfl
theorem bocell_one (x : Bool) : ∀ u ∈ bocell x, u.oneCell' = true := by intro u hu; simp at hu; subst hu; rfl
theorem infoBool : (Try.prog.info? 4).map (fun i => (i.zero, i.size, i.bytes)) = some (some (.bool false), 1, 1) := by kernel_rfl
theorem slBool : SlTy Try.prog 37 4 1 := SlTy.mk' Try.underlying37 infoBool rfl (by decide) (by decide)
set_option maxHeartbeats 400000 in
theorem eqBoolS_same (A B : Option Addr) (ca cb : Nat) (L : List Bool) (w : World) (hr : Rd bocell 1 w 0 w.heap.size A L) (hr2 : Rd bocell 1 w 0 w.heap.size B L) (hn : L.length ≤ maxLen) :
    Calls Try.prog 25 #[.slice A L.length ca, .slice B L.length cb] w fun e w' => e = .returned (.bool true) ∧ Below w.heap.size w w' := by
  unfold maxLen at hn
  go_enter Try.func25, Try.ntmps25
  go_wp2_with fail
  go_loopw [5] (fun i wr => ∃ k : Nat, k ≤ L.length ∧ i = .int .i64 k ∧ Below w.heap.size w wr) (fun i _ => L.length - (intOf i).toNat)
  case atStart => exact ⟨0, Nat.zero_le _, rfl, Below.refl _ _⟩
  case round =>
    obtain ⟨k, hk, rfl, hB⟩ := hrel
    by_cases hlt : k < L.length
    · obtain ⟨g, o, rfl, _, hg, hcell⟩ := hr.at_ (by omega)
      obtain ⟨g2, o2, rfl, _, hg2, hcell2⟩ := hr2.at_ (by omega)
      have a0 : wr.cell? ⟨g, o + k, none⟩ = some (.bool L[k]) := by
        have := hcell k hlt 0 (by decide)
        rw [hB.cell (p := ⟨g, o + k, none⟩) hg]
        simpa using this
      have b0 : wr.cell? ⟨g2, o2 + k, none⟩ = some (.bool L[k]) := by
        have := hcell2 k hlt 0 (by decide)
        rw [hB.cell (p := ⟨g2, o2 + k, none⟩) hg2]
        simpa using this
      clear hcell hcell2
      have hki : (k : Int) < (L.length : Int) := by omega
      have hk0 : (0 : Int) ≤ (k : Int) := by omega
      go_wp2
      go_quiet (fail)
      go_wp2
      go_roundw
      case rel => exact ⟨k + 1, by omega, by go_num, by (repeat' (first | (with_reducible exact Below.refl _ _) | (with_reducible assumption) | (with_reducible refine Below.alloc ?_ ?_ _) | (with_reducible refine Below.drew ?_) | (with_reducible refine below_drewN ?_ _) | (with_reducible refine Below.setCell ?_ ?_ _) | (with_reducible refine bvia ?_ (by with_reducible assumption) ?_) | go_size))⟩
      case measure => simp [intOf]; omega
    · go_wp2
      go_ret
      exact ⟨rfl, hB⟩
/-- What markBoolS writes into element i, from k0 on. -/
def mkBool (k0 : Int) (i : Nat) : Bool := (k0 + (i : Int)) % 3 == 0
set_option maxHeartbeats 1000000 in
theorem markBoolS_any (g n cap base : Nat) (xs : List Value) (k0 : Int) (w : World) (hown : w.ownsRow base 4 1 (.slice (some ⟨g, 0, none⟩) n cap) n xs) (hnc : n ≤ cap) (hm : cap ≤ maxLen) (hb : base ≤ g) (h0 : 0 ≤ k0) (h1 : k0 ≤ 1000000000) (hn : n ≤ 2000000) :
    Calls Try.prog 28 #[.slice (some ⟨g, 0, none⟩) n cap, .int .i64 k0] w fun e w' => e = .returned (.int .i64 (k0 + 1 * (n : Int))) ∧ w'.ownsRow base 4 1 (.slice (some ⟨g, 0, none⟩) n cap) n ((markL (mkBool k0) n).flatMap bocell) ∧ w.grownBy w' (some g) := by
  have hP := PM.start (c := bocell) (mkBool k0) hown
  clear hown
  go_enter Try.func28, Try.ntmps28
  go_wp2_with fail
  go_loopw [1, 5] (fun q i wr => ∃ k : Nat, k ≤ n ∧ i = .int .i64 k ∧ q = .int .i64 (k0 + (k : Int)) ∧ PM wr g 4 (cap * 1) (pat bocell 1 (mkBool k0)) (k * 1) ∧ w.grownBy wr (some g)) (fun _ i _ => n - (intOf i).toNat)
  case atStart => exact ⟨0, Nat.zero_le _, rfl, by simp, by simpa using hP, World.grownBy.refl w _⟩
  case round =>
    obtain ⟨k, hk, rfl, rfl, hP, hG⟩ := hrel
    by_cases hlt : k < n
    · simp only [Nat.mul_one] at hP
      obtain ⟨u0, c0⟩ := hP.cell (i := k) (by omega)
      have f0 := hP.free k
      have e0 := pat_at (c := bocell) (sz := 1) (mkBool k0) k 0 (by decide) rfl
      rw [Nat.mul_one, Nat.add_zero] at e0
      have HP := Lib.hid (hP.step (by omega) e0)
      have HG := Lib.hid (only_set hG k (.bool ((k0 + (k : Int)) % 3 == 0)))
      clear hP hG e0
      have hki : (k : Int) < (n : Int) := by omega
      go_wp2
      go_roundw
      case rel => exact ⟨k + 1, by omega, by go_num, by go_num, by simp only [Nat.mul_one]; exact HP.out, HG.out⟩
      case measure => simp [intOf]; omega
    · obtain rfl : k = n := by omega
      go_wp2
      go_ret
      exact ⟨ret_int (by omega), PM.done (fun _ => rfl) hb hnc hm hP, hG⟩
theorem markBoolS_nil (k0 : Int) (w : World) : Calls Try.prog 28 #[.slice none 0 0, .int .i64 k0] w fun e w' => e = .returned (.int .i64 k0) ∧ w = w' := by
  go_enter Try.func28, Try.ntmps28
  go_wp2_with fail
  go_rounds 1
  go_ret
  exact ⟨rfl, rfl⟩
theorem markBoolS_own (v : Value) (L : List Bool) (base : Nat) (k0 : Int) (w : World) (h : Own w base 4 bocell 1 v L) (h0 : 0 ≤ k0) (h1 : k0 ≤ 1000000000) (hn : L.length ≤ 2000000) :
    Calls Try.prog 28 #[v, .int .i64 k0] w fun e w' => e = .returned (.int .i64 (k0 + 1 * (L.length : Int))) ∧ Own w' base 4 bocell 1 v (markL (mkBool k0) L.length) ∧ w.grownBy w' v.ownBlock := by
  rcases h.form with ⟨rfl, rfl⟩ | ⟨g, cap, cur, rfl, hb, hg, hnc, hm, hs, ht⟩
  · refine (markBoolS_nil k0 w).mono ?_
    rintro e w' ⟨rfl, rfl⟩
    exact ⟨ret_int (by simp), Own.nil _ _ _, World.grownBy.refl w _⟩
  · refine (markBoolS_any g L.length cap base _ k0 w h hnc hm hb h0 h1 hn).mono ?_
    rintro e w' ⟨rfl, h1, h2⟩
    refine ⟨rfl, ?_, h2⟩
    unfold Own
    rw [markL_length]
    exact h1
set_option maxHeartbeats 1000000 in
theorem heldBoolS_any (A : Option Addr) (n cap : Nat) (k0 : Int) (w : World) (lo hi : Nat) (hr : Rd bocell 1 w lo hi A (markL (mkBool k0) n)) (h0 : 0 ≤ k0) (h1 : k0 ≤ 1000000000) (hn : n ≤ 2000000) :
    Calls Try.prog 29 #[.slice A n cap, .int .i64 k0] w fun e w' => e = .returned (.int .i64 (k0 + 1 * (n : Int))) ∧ w = w' := by
  have hl := markL_length (mkBool k0) n
  have HL := Lib.hid hl
  clear hl
  go_enter Try.func29, Try.ntmps29
  go_wp2_with fail
  go_loop [1, 5] (fun q i => ∃ k : Nat, k ≤ n ∧ i = .int .i64 k ∧ q = .int .i64 (k0 + (k : Int))) (fun _ i => n - (intOf i).toNat)
  case atStart => exact ⟨0, Nat.zero_le _, rfl, by simp⟩
  case round =>
    obtain ⟨k, hk, rfl, rfl⟩ := hrel
    by_cases hlt : k < n
    · obtain ⟨g, o, rfl, _, _, hcell⟩ := hr.at_ (by rw [HL.out]; omega)
      have a0 : w.cell? ⟨g, o + k, none⟩ = some (.bool ((k0 + (k : Int)) % 3 == 0)) := by
        have := hcell k (by rw [HL.out]; omega) 0 (by decide)
        rw [markL_get] at this
        simpa [mkBool] using this
      clear hcell
      have hki : (k : Int) < (n : Int) := by omega
      go_wp2
      go_round
      case rel => exact ⟨k + 1, by omega, by go_num, by go_num⟩
      case measure => simp [intOf]; omega
    · obtain rfl : k = n := by omega
      go_wp2
      go_ret
      exact ⟨ret_int (by omega), rfl⟩
end Go.Proofs.Ytkeldhffhiekpaa
