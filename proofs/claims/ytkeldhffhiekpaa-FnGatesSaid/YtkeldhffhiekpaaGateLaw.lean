/- The plain law of FnGates: in no row of ticks is more taken than what it holds and what is filled in that row. -/
import Derived.Test.YtkeldhffhiekpaaRunB
import Derived.Test.YtkeldhffhiekpaaBucket2
namespace Go.Proofs.Ytkeldhffhiekpaa
set_option linter.unusedSimpArgs false
set_option linter.unusedVariables false
open Go.RowKit

theorem bok_of {r b h : Int} (h1 : 0 ≤ r) (h2 : r ≤ 100) (h3 : 1 ≤ b) (h4 : b ≤ 100) (h5 : 0 ≤ h) (h6 : h ≤ b) : bokB r b h = true := by
  simp [bokB, winB, h1, h2, h3, h4, h5, h6]
theorem tk_inv {r b : Int} (s : Int × List Bool) (h : bokB r b s.1 = true) : bokB r b (tk r b s).1 = true ∧ ((tk r b s).2.count true : Int) + (tk r b s).1 = (s.2.count true : Int) + s.1 := by
  obtain ⟨h1, h2, h3, h4, h5, h6⟩ := bok_bounds h
  unfold tk takeH
  have ht : takeOk r b s.1 = (s.1 != 0) := by simp [takeOk, h]
  rw [ht]
  cases hz : (s.1 != 0) with
  | false =>
    simp only [Bool.false_eq_true, if_false]
    refine ⟨h, ?_⟩
    simp
  | true =>
    simp only [if_true]
    have hn : s.1 ≠ 0 := by simpa using hz
    refine ⟨bok_of h1 h2 h3 h4 (by omega) (by omega), ?_⟩
    simp
    omega
theorem tks_inv {r b : Int} (s : Int × List Bool) (h : bokB r b s.1 = true) : ∀ n, bokB r b (tks r b n s).1 = true ∧ ((tks r b n s).2.count true : Int) + (tks r b n s).1 = (s.2.count true : Int) + s.1
  | 0 => ⟨h, rfl⟩
  | n + 1 => by
    obtain ⟨a1, a2⟩ := tks_inv s h n
    obtain ⟨b1, b2⟩ := tk_inv (tks r b n s) a1
    exact ⟨b1, b2.trans a2⟩
theorem fill1 {r b h : Int} (k : bokB r b h = true) : bokB r b (fillH r b h 1) = true ∧ fillH r b h 1 ≤ h + r := by
  obtain ⟨h1, h2, h3, h4, h5, h6⟩ := bok_bounds k
  rw [fill_yes k (by rfl)]
  have e : h + r * 1 = h + r := by omega
  rw [e]
  exact ⟨bok_of h1 h2 h3 h4 (by omega) (by omega), by omega⟩
theorem run_inv {r b h : Int} (L : List Int) (k0 : bokB r b h = true) : ∀ k, k ≤ L.length → bokB r b (runTo r b h L k).1 = true ∧ ((runTo r b h L k).2.count true : Int) + (runTo r b h L k).1 ≤ h + r * k
  | 0, _ => by simpa [runTo] using k0
  | k + 1, hk => by
    obtain ⟨a1, a2⟩ := run_inv L k0 k (by omega)
    rw [runTo_succ (by omega)]
    unfold rndB
    obtain ⟨f1, f2⟩ := fill1 a1
    obtain ⟨b1, b2⟩ := tks_inv (r := r) (b := b) (fillH r b (runTo r b h L k).1 1, (runTo r b h L k).2) f1 (cntN L[k])
    refine ⟨b1, ?_⟩
    have e : r * ((k + 1 : Nat) : Int) = r * k + r := by rw [Int.natCast_add, Int.mul_add]; simp
    rw [e]
    simp only at b2
    omega
theorem gate_law {r b h : Int} (L : List Int) (k0 : bokB r b h = true) (hl : L.length ≤ 13) :
    ((runB r b h L).count true : Int) ≤ mostB r b h L.length ∧ mostB r b h 0 = b ∧ (r ≠ 0 → fillH r b h 1000 = b) ∧ takeOk r b h = decide (0 < h) ∧ (0 < h → takeH r b h = h - 1) ∧ 0 ≤ h ∧ h ≤ 100 := by
  obtain ⟨h1, h2, h3, h4, h5, h6⟩ := bok_bounds k0
  have ht : takeOk r b h = decide (0 < h) := by
    rw [Bool.eq_iff_iff]; simp [takeOk, k0]; omega
  have hrl : 0 ≤ r * (L.length : Int) ∧ r * (L.length : Int) ≤ 1300 := by
    have a := Int.mul_le_mul h2 (show (L.length : Int) ≤ 13 by omega) (by omega) (by omega)
    exact ⟨Int.mul_nonneg h1 (by omega), by omega⟩
  have hw : winB (L.length : Int) 0 100000 = true := by simp [winB]; omega
  have hm : mostB r b h L.length = b + r * L.length := by
    unfold mostB
    rw [k0, hw]
    simp only [Bool.and_self, if_true]
    rw [IntWalk.wrap64_in (r * (L.length : Int)) (by omega), IntWalk.wrap64_in _ (by omega)]
  refine ⟨?_, ?_, ?_, ht, ?_, h5, by omega⟩
  · rw [hm]
    unfold runB
    split
    · obtain ⟨a1, a2⟩ := run_inv L k0 L.length (Nat.le_refl _)
      obtain ⟨_, _, _, _, a5, _⟩ := bok_bounds a1
      omega
    · simp; omega
  · unfold mostB
    rw [k0, show winB 0 0 100000 = true from rfl]
    simp only [Bool.and_self, if_true]
    rw [Int.mul_zero, IntWalk.wrap64_in 0 (by omega), IntWalk.wrap64_in _ (by omega)]
    omega
  · intro hr
    rw [fill_yes k0 (by rfl)]
    omega
  · intro hp
    unfold takeH
    rw [ht, decide_eq_true hp]
    rfl
theorem runB_no {r b h : Int} (L : List Int) (k0 : bokB r b h = false) : runB r b h L = [] := by
  unfold runB runOk
  rw [k0]
  rfl
end Go.Proofs.Ytkeldhffhiekpaa
