/- toIntS, eqIntS, markIntS, heldIntS: for every slice that can be read. -/
import Derived.Test.YtomjfhcfellikaaNum
import Derived.Test.YtomjfhcfellikaaMark
import Derived.Test.YtomjfhcfellikaaOwn
import Derived.StillTailTactics
import Derived.Deep.QuietTactic
import Derived.BigQuiet
namespace Go.Proofs.Ytomjfhcfellikaa
set_option linter.unusedSimpArgs false
set_option linter.unusedVariables false
open Go.RowKit
theorem icell_length (x : Int) : (icell x).length = 1 := rfl
theorem icell_one (x : Int) : ∀ u ∈ icell x, u.oneCell' = true := by intro u hu; simp at hu; subst hu; rfl
theorem infoInt : (Try.prog.info? 3).map (fun i => (i.zero, i.size, i.bytes)) = some (some (.int .i64 0), 1, 8) := by kernel_rfl
theorem slInt : SlTy Try.prog 27 3 1 := SlTy.mk' Try.underlying27 infoInt rfl (by decide) (by decide)
set_option maxHeartbeats 400000 in
theorem toIntS_any (A : Option Addr) (cap : Nat) (L : List Int) (w : World) (hr : Rd icell 1 w 0 w.heap.size A L) (hn : L.length ≤ 1048576) :
    Calls Try.prog 32 #[.slice A L.length cap] w fun e w' => e = .returned (.slice (some ⟨w.heap.size, 0, none⟩) L.length L.length) ∧ w'.heap[w.heap.size]? = some (.cells (L.flatMap icell).toArray 3 (0, 0)) ∧ Below w.heap.size w w' := by
  obtain ⟨i0, hi0, hz0, hz1, hz2⟩ := info_parts infoInt
  go_enter Try.func32, Try.ntmps32
  go_wp2_with (at_make; refine wpList_make_full _ rfl _ _ _ rfl w.heap.size 3 i0 _ 1 Try.underlying27 hi0 hz0 hz1 _ _ _ _ L.length rfl rfl (by omega) (by omega) (by rw [hz2]; omega) (by simp only [maxLen]; omega) (Nat.le_refl _) ?_; intro w1 hown1 hg1)
  have hF := Fill.start (c := icell) hown1
  have hB : Below w.heap.size w w1 := (Below.refl _ _).grown hg1 (Nat.le_refl _) (by simp)
  have hlt1 : w.heap.size < w1.heap.size := by obtain ⟨rest, _, h⟩ := hF; exact (Array.getElem?_eq_some_iff.1 h).1
  clear hown1 hg1
  go_loopw [4] (fun i wr => ∃ k : Nat, k ≤ L.length ∧ i = .int .i64 k ∧ Fill wr w.heap.size 3 icell 1 L k ∧ Below w.heap.size w wr ∧ w.heap.size < wr.heap.size) (fun i _ => L.length - (intOf i).toNat)
  case atStart => exact ⟨0, Nat.zero_le _, rfl, hF, hB, hlt1⟩
  case round =>
    obtain ⟨k, hk, rfl, hF, hB, hsz⟩ := hrel
    by_cases hlt : k < L.length
    · obtain ⟨g, o, rfl, _, hg, hcell⟩ := hr.at_ (by omega)
      have hx : wr.cell? ⟨g, o + k, none⟩ = some (.int .i64 L[k]) := by
        have := hcell k hlt 0 (by decide)
        rw [hB.cell (p := ⟨g, o + k, none⟩) hg]
        simpa using this
      clear hcell
      obtain ⟨rest, hrest, hG⟩ := hF
      have hfz := Joins.unfrozen_of_block hG k
      have hcl : ∃ u, wr.cell? ⟨w.heap.size, k, none⟩ = some u := by
        have := Fill.size (c := icell) (sz := 1) (fun _ => rfl) hlt hrest
        exact ⟨_, by rw [cell_of_row wr _ k _ _ (0, 0) hG]; exact Array.getElem?_eq_getElem (by omega)⟩
      obtain ⟨u0, hu0⟩ := hcl
      have hS := Lib.hid (Joins.block_setCell (i := k) hG (.int .i64 L[k]))
      have HR := Lib.hid hrest
      clear hrest hG
      have hki : (k : Int) < (L.length : Int) := by omega
      have hk0 : (0 : Int) ≤ (k : Int) := by omega
      go_wp2
      have hB3 : Below w.heap.size w (wr.setCell ⟨w.heap.size, k, none⟩ (.int .i64 L[k])) := hB.setCell (Nat.le_refl _) _
      have hF3 : Fill (wr.setCell ⟨w.heap.size, k, none⟩ (.int .i64 L[k])) w.heap.size 3 icell 1 L (k + 1) := by
        refine Fill.step (c := icell) (fun _ => rfl) hlt HR.out (vs := #[.int .i64 L[k]]) rfl ?_
        rw [hS.out]
        have h1 := flat_length (c := icell) (sz := 1) (fun _ => rfl) (L.take k)
        rw [List.length_take, Nat.min_eq_left (by omega)] at h1
        have hz := HR.out
        congr 2
        apply Array.ext'
        simp only [Array.toList_setIfInBounds, Nat.mul_one]
        rw [List.set_eq_take_append_cons_drop, if_pos (by simp only [List.length_append, h1]; omega)]
        simp
      go_roundw
      case rel => exact ⟨k + 1, by omega, by go_num, hF3, hB3, by simpa using hsz⟩
      case measure => simp [intOf]; omega
    · go_wp2
      go_ret
      obtain rfl : k = L.length := by omega
      exact ⟨rfl, hF.done, hB⟩
set_option maxHeartbeats 400000 in
theorem eqIntS_same (A B : Option Addr) (ca cb : Nat) (L : List Int) (w : World) (hr : Rd icell 1 w 0 w.heap.size A L) (hr2 : Rd icell 1 w 0 w.heap.size B L) (hn : L.length ≤ maxLen) :
    Calls Try.prog 35 #[.slice A L.length ca, .slice B L.length cb] w fun e w' => e = .returned (.bool true) ∧ Below w.heap.size w w' := by
  unfold maxLen at hn
  go_enter Try.func35, Try.ntmps35
  go_wp2_with fail
  go_loopw [5] (fun i wr => ∃ k : Nat, k ≤ L.length ∧ i = .int .i64 k ∧ Below w.heap.size w wr) (fun i _ => L.length - (intOf i).toNat)
  case atStart => exact ⟨0, Nat.zero_le _, rfl, Below.refl _ _⟩
  case round =>
    obtain ⟨k, hk, rfl, hB⟩ := hrel
    by_cases hlt : k < L.length
    · obtain ⟨g, o, rfl, _, hg, hcell⟩ := hr.at_ (by omega)
      obtain ⟨g2, o2, rfl, _, hg2, hcell2⟩ := hr2.at_ (by omega)
      have a0 : wr.cell? ⟨g, o + k, none⟩ = some (.int .i64 L[k]) := by
        have := hcell k hlt 0 (by decide)
        rw [hB.cell (p := ⟨g, o + k, none⟩) hg]
        simpa using this
      have b0 : wr.cell? ⟨g2, o2 + k, none⟩ = some (.int .i64 L[k]) := by
        have := hcell2 k hlt 0 (by decide)
        rw [hB.cell (p := ⟨g2, o2 + k, none⟩) hg2]
        simpa using this
      clear hcell hcell2
      have hki : (k : Int) < (L.length : Int) := by omega
      have hk0 : (0 : Int) ≤ (k : Int) := by omega
      go_wp2
      go_quiet (fail)
      go_wp2
      go_roundw
      case rel => exact ⟨k + 1, by omega, by go_num, by (repeat' (first | (with_reducible exact Below.refl _ _) | (with_reducible assumption) | (with_reducible refine Below.alloc ?_ ?_ _) | (with_reducible refine Below.drew ?_) | (with_reducible refine below_drewN ?_ _) | (with_reducible refine Below.setCell ?_ ?_ _) | (with_reducible refine bvia ?_ (by with_reducible assumption) ?_) | go_size))⟩
      case measure => simp [intOf]; omega
    · go_wp2
      go_ret
      exact ⟨rfl, hB⟩
/-- What markIntS writes into element i, from k0 on. -/
def mkInt (k0 : Int) (i : Nat) : Int := k0 + (i : Int)
set_option maxHeartbeats 1000000 in
theorem markIntS_any (g n cap base : Nat) (xs : List Value) (k0 : Int) (w : World) (hown : w.ownsRow base 3 1 (.slice (some ⟨g, 0, none⟩) n cap) n xs) (hnc : n ≤ cap) (hm : cap ≤ maxLen) (hb : base ≤ g) (h0 : 0 ≤ k0) (h1 : k0 ≤ 1000000000) (hn : n ≤ 2000000) :
    Calls Try.prog 37 #[.slice (some ⟨g, 0, none⟩) n cap, .int .i64 k0] w fun e w' => e = .returned (.int .i64 (k0 + 1 * (n : Int))) ∧ w'.ownsRow base 3 1 (.slice (some ⟨g, 0, none⟩) n cap) n ((markL (mkInt k0) n).flatMap icell) ∧ w.grownBy w' (some g) := by
  have hP := PM.start (c := icell) (mkInt k0) hown
  clear hown
  go_enter Try.func37, Try.ntmps37
  go_wp2_with fail
  go_loopw [1, 5] (fun q i wr => ∃ k : Nat, k ≤ n ∧ i = .int .i64 k ∧ q = .int .i64 (k0 + (k : Int)) ∧ PM wr g 3 (cap * 1) (pat icell 1 (mkInt k0)) (k * 1) ∧ w.grownBy wr (some g)) (fun _ i _ => n - (intOf i).toNat)
  case atStart => exact ⟨0, Nat.zero_le _, rfl, by simp, by simpa using hP, World.grownBy.refl w _⟩
  case round =>
    obtain ⟨k, hk, rfl, rfl, hP, hG⟩ := hrel
    by_cases hlt : k < n
    · simp only [Nat.mul_one] at hP
      obtain ⟨u0, c0⟩ := hP.cell (i := k) (by omega)
      have f0 := hP.free k
      have e0 := pat_at (c := icell) (sz := 1) (mkInt k0) k 0 (by decide) rfl
      rw [Nat.mul_one, Nat.add_zero] at e0
      have HP := Lib.hid (hP.step (by omega) e0)
      have HG := Lib.hid (only_set hG k (.int .i64 (k0 + (k : Int))))
      clear hP hG e0
      have hki : (k : Int) < (n : Int) := by omega
      go_wp2
      go_roundw
      case rel => exact ⟨k + 1, by omega, by go_num, by go_num, by simp only [Nat.mul_one]; exact HP.out, HG.out⟩
      case measure => simp [intOf]; omega
    · obtain rfl : k = n := by omega
      go_wp2
      go_ret
      exact ⟨ret_int (by omega), PM.done (fun _ => rfl) hb hnc hm hP, hG⟩
theorem markIntS_nil (k0 : Int) (w : World) : Calls Try.prog 37 #[.slice none 0 0, .int .i64 k0] w fun e w' => e = .returned (.int .i64 k0) ∧ w = w' := by
  go_enter Try.func37, Try.ntmps37
  go_wp2_with fail
  go_rounds 1
  go_ret
  exact ⟨rfl, rfl⟩
theorem markIntS_own (v : Value) (L : List Int) (base : Nat) (k0 : Int) (w : World) (h : Own w base 3 icell 1 v L) (h0 : 0 ≤ k0) (h1 : k0 ≤ 1000000000) (hn : L.length ≤ 2000000) :
    Calls Try.prog 37 #[v, .int .i64 k0] w fun e w' => e = .returned (.int .i64 (k0 + 1 * (L.length : Int))) ∧ Own w' base 3 icell 1 v (markL (mkInt k0) L.length) ∧ w.grownBy w' v.ownBlock := by
  rcases h.form with ⟨rfl, rfl⟩ | ⟨g, cap, cur, rfl, hb, hg, hnc, hm, hs, ht⟩
  · refine (markIntS_nil k0 w).mono ?_
    rintro e w' ⟨rfl, rfl⟩
    exact ⟨ret_int (by simp), Own.nil _ _ _, World.grownBy.refl w _⟩
  · refine (markIntS_any g L.length cap base _ k0 w h hnc hm hb h0 h1 hn).mono ?_
    rintro e w' ⟨rfl, h1, h2⟩
    refine ⟨rfl, ?_, h2⟩
    unfold Own
    rw [markL_length]
    exact h1
set_option maxHeartbeats 1000000 in
theorem heldIntS_any (A : Option Addr) (n cap : Nat) (k0 : Int) (w : World) (lo hi : Nat) (hr : Rd icell 1 w lo hi A (markL (mkInt k0) n)) (h0 : 0 ≤ k0) (h1 : k0 ≤ 1000000000) (hn : n ≤ 2000000) :
    Calls Try.prog 39 #[.slice A n cap, .int .i64 k0] w fun e w' => e = .returned (.int .i64 (k0 + 1 * (n : Int))) ∧ w = w' := by
  have hl := markL_length (mkInt k0) n
  have HL := Lib.hid hl
  clear hl
  go_enter Try.func39, Try.ntmps39
  go_wp2_with fail
  go_loop [1, 5] (fun q i => ∃ k : Nat, k ≤ n ∧ i = .int .i64 k ∧ q = .int .i64 (k0 + (k : Int))) (fun _ i => n - (intOf i).toNat)
  case atStart => exact ⟨0, Nat.zero_le _, rfl, by simp⟩
  case round =>
    obtain ⟨k, hk, rfl, rfl⟩ := hrel
    by_cases hlt : k < n
    · obtain ⟨g, o, rfl, _, _, hcell⟩ := hr.at_ (by rw [HL.out]; omega)
      have a0 : w.cell? ⟨g, o + k, none⟩ = some (.int .i64 (k0 + (k : Int))) := by
        have := hcell k (by rw [HL.out]; omega) 0 (by decide)
        rw [markL_get] at this
        simpa [mkInt] using this
      clear hcell
      have hki : (k : Int) < (n : Int) := by omega
      go_wp2
      go_round
      case rel => exact ⟨k + 1, by omega, by go_num, by go_num⟩
      case measure => simp [intOf]; omega
    · obtain rfl : k = n := by omega
      go_wp2
      go_ret
      exact ⟨ret_int (by omega), rfl⟩
theorem szIntS_any (A : Option Addr) (n cap : Nat) (l : Int) (w : World) (h0 : 0 ≤ l) (h1 : l ≤ 1048576) (hn : n ≤ maxLen) : Calls Try.prog 30 #[.slice A n cap, .int .i64 l] w fun e w' => e = .returned (.int .i64 (szI l n)) ∧ w = w' := by
  unfold maxLen at hn
  by_cases h : (n : Int) ≤ l
  · have hv : Hid (szI l n = l - n) := if_pos h
    go_enter Try.func30, Try.ntmps30
    go_wp2
    go_ret
    exact ⟨ret_int hv.out.symm, rfl⟩
  · have hv : Hid (szI l n = -1) := if_neg h
    go_enter Try.func30, Try.ntmps30
    go_wp2
    go_ret
    exact ⟨ret_int hv.out.symm, rfl⟩
end Go.Proofs.Ytomjfhcfellikaa
