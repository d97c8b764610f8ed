/- markPieceS, heldPieceS, markPieces, heldPieces: for every slice of the call's own. -/
import Derived.Test.YtpjbnfpadbknpaaMarkT
import Derived.Test.YtpjbnfpadbknpaaMark
import Derived.Test.YtpjbnfpadbknpaaOwn
import Derived.Deep.RegionHeld3
import Derived.Deep.DrawnRows
namespace Go.Proofs.Ytpjbnfpadbknpaa
set_option linter.unusedSimpArgs false
set_option linter.unusedVariables false
open Go.RowKit

theorem PM.keep {w w' : World} {g : Nat} {e : TypeId} {N : Nat} {p : Nat → Value} {m : Nat} (h : PM w g e N p m) (hk : w'.heap[g]? = w.heap[g]?) : PM w' g e N p m := by
  obtain ⟨cur, h1, h2, h3⟩ := h
  exact ⟨cur, hk.trans h1, h2, h3⟩
theorem PM.lt {w : World} {g : Nat} {e : TypeId} {N : Nat} {p : Nat → Value} {m : Nat} (h : PM w g e N p m) : g < w.heap.size := by
  obtain ⟨cur, h1, _⟩ := h
  exact (Array.getElem?_eq_some_iff.1 h1).1
theorem grown_below {w w1 w2 : World} {row : Option Nat} (h : w.grownBy w1 row) (hb : Below w1.heap.size w1 w2) : w.grownBy w2 row :=
  ⟨hb.os.trans h.os, hb.tape.trans h.tape, hb.output.trans h.output, Nat.le_trans h.size hb.size, fun k hk hn => (hb.block k (Nat.lt_of_lt_of_le hk h.size)).trans (h.block k hk hn)⟩
/-- What markPieceS writes into element i, from k0 on. -/
def mkPiece (k0 : Int) (i : Nat) : PieceD := ⟨k0 + 2 * (i : Int), markTextV (k0 + 2 * (i : Int) + 1)⟩
set_option maxRecDepth 100000 in
set_option maxHeartbeats 2000000 in
theorem markPieceS_any (g n cap base : Nat) (xs : List Value) (k0 : Int) (w : World) (hown : w.ownsRow base 44 2 (.slice (some ⟨g, 0, none⟩) n cap) n xs) (hnc : n ≤ cap) (hm : cap ≤ maxLen) (hb : base ≤ g) (h0 : 0 ≤ k0) (h1 : k0 ≤ 100000000) (hn : n ≤ 2000000) :
    Calls Try.prog 45 #[.slice (some ⟨g, 0, none⟩) n cap, .int .i64 k0] w fun e w' => e = .returned (.int .i64 (k0 + 2 * (n : Int))) ∧ w'.ownsRow base 44 2 (.slice (some ⟨g, 0, none⟩) n cap) n ((markL (mkPiece k0) n).flatMap PieceD.cells) ∧ w.grownBy w' (some g) := by
  have hP := PM.start (c := PieceD.cells) (mkPiece k0) hown
  clear hown
  go_enter Try.func45, Try.ntmps45
  go_wp2_with fail
  go_loopw [1, 5] (fun q i wr => ∃ k : Nat, k ≤ n ∧ i = .int .i64 k ∧ q = .int .i64 (k0 + 2 * (k : Int)) ∧ PM wr g 44 (cap * 2) (pat PieceD.cells 2 (mkPiece k0)) (k * 2) ∧ w.grownBy wr (some g)) (fun _ i _ => n - (intOf i).toNat)
  case atStart => exact ⟨0, Nat.zero_le _, rfl, by simp, by simpa using hP, World.grownBy.refl w _⟩
  case round =>
    obtain ⟨k, hk, rfl, rfl, hP, hG⟩ := hrel
    by_cases hlt : k < n
    · have hcap : k * 2 + 2 ≤ cap * 2 := by omega
      obtain ⟨u0, c0⟩ := hP.cell (i := k * 2) (by omega)
      have f0 := hP.free (k * 2)
      have hgl := hP.lt
      have HP1 := Lib.hid (hP.step (by omega) (pat_at (mkPiece k0) k 0 (by decide) rfl))
      have HG1 := Lib.hid (only_set hG (k * 2) (.int .i64 (k0 + 2 * (k : Int))))
      clear hP hG
      have hki : (k : Int) < (n : Int) := by omega
      go_wp2_with fail
      refine (markText_any (k0 + 2 * (k : Int) + 1) _ (by omega) (by omega)).mono ?_
      rintro e w2 ⟨rfl, hb2⟩
      have hP2 := HP1.out.keep (hb2.block g (by simpa using hgl))
      obtain ⟨u1, c1⟩ := hP2.cell (i := k * 2 + 1) (by omega)
      have f1 := hP2.free (k * 2 + 1)
      have HP2 := Lib.hid (hP2.step (by omega) (pat_at (mkPiece k0) k 1 (by decide) rfl))
      have HG2 := Lib.hid (only_set (grown_below HG1.out hb2) (k * 2 + 1) (.string (markTextV (k0 + 2 * (k : Int) + 1))))
      clear hP2 HP1 HG1 hb2 c0 f0
      go_wp2
      go_roundw
      case rel => exact ⟨k + 1, by omega, by go_num, by go_num, by rw [show (k + 1) * 2 = k * 2 + 1 + 1 from by omega]; exact HP2.out, HG2.out⟩
      case measure => simp [intOf]; omega
    · obtain rfl : k = n := by omega
      go_wp2
      go_ret
      exact ⟨rfl, PM.done PieceD.cells_length hb hnc hm hP, hG⟩
theorem markPieceS_nil (k0 : Int) (w : World) : Calls Try.prog 45 #[.slice none 0 0, .int .i64 k0] w fun e w' => e = .returned (.int .i64 k0) ∧ w = w' := by
  go_enter Try.func45, Try.ntmps45
  go_wp2_with fail
  go_rounds 1
  go_ret
  exact ⟨rfl, rfl⟩
theorem markPieceS_own (v : Value) (L : List PieceD) (base : Nat) (k0 : Int) (w : World) (h : Own w base 44 PieceD.cells 2 v L) (h0 : 0 ≤ k0) (h1 : k0 ≤ 100000000) (hn : L.length ≤ 2000000) :
    Calls Try.prog 45 #[v, .int .i64 k0] w fun e w' => e = .returned (.int .i64 (k0 + 2 * (L.length : Int))) ∧ Own w' base 44 PieceD.cells 2 v (markL (mkPiece k0) L.length) ∧ w.grownBy w' v.ownBlock := by
  rcases h.form with ⟨rfl, rfl⟩ | ⟨g, cap, cur, rfl, hb, hg, hnc, hm, hs, ht⟩
  · refine (markPieceS_nil k0 w).mono ?_
    rintro e w' ⟨rfl, rfl⟩
    exact ⟨ret_int (by simp), Own.nil _ _ _, World.grownBy.refl w _⟩
  · refine (markPieceS_any g L.length cap base _ k0 w h hnc hm hb h0 h1 hn).mono ?_
    rintro e w' ⟨rfl, h1, h2⟩
    refine ⟨rfl, ?_, h2⟩
    unfold Own
    rw [markL_length]
    exact h1
set_option maxRecDepth 100000 in
set_option maxHeartbeats 2000000 in
theorem heldPieceS_any (A : Option Addr) (n cap : Nat) (k0 : Int) (w : World) (lo : Nat) (hr : Rd PieceD.cells 2 w lo w.heap.size A (markL (mkPiece k0) n)) (h0 : 0 ≤ k0) (h1 : k0 ≤ 100000000) (hn : n ≤ 2000000) :
    Calls Try.prog 46 #[.slice A n cap, .int .i64 k0] w fun e w' => e = .returned (.int .i64 (k0 + 2 * (n : Int))) ∧ Below w.heap.size w w' := by
  go_enter Try.func46, Try.ntmps46
  go_wp2_with fail
  go_loopw [1, 5] (fun q i wr => ∃ k : Nat, k ≤ n ∧ i = .int .i64 k ∧ q = .int .i64 (k0 + 2 * (k : Int)) ∧ Below w.heap.size w wr) (fun _ i _ => n - (intOf i).toNat)
  case atStart => exact ⟨0, Nat.zero_le _, rfl, by simp, Below.refl _ _⟩
  case round =>
    obtain ⟨k, hk, rfl, rfl, hB⟩ := hrel
    have hBz := hB.size
    by_cases hlt : k < n
    · obtain ⟨g, o, rfl, _, hg, hcell⟩ := hr.at_ (by rw [markL_length]; omega)
      have hkl : k < (markL (mkPiece k0) n).length := by rw [markL_length]; exact hlt
      have a0 : wr.cell? ⟨g, o + k * 2, none⟩ = some (.int .i64 (k0 + 2 * (k : Int))) := by
        rw [hB.cell (p := ⟨g, o + k * 2, none⟩) hg]; have := hcell k hkl 0 (by decide); rw [markL_get] at this; simpa [mkPiece, PieceD.cells] using this
      have a1 : wr.cell? ⟨g, o + k * 2 + 1, none⟩ = some (.string (markTextV (k0 + 2 * (k : Int) + 1))) := by
        rw [hB.cell (p := ⟨g, o + k * 2 + 1, none⟩) hg]; have := hcell k hkl 1 (by decide); rw [markL_get] at this; simpa [mkPiece, PieceD.cells] using this
      clear hcell hkl
      have hki : (k : Int) < (n : Int) := by omega
      have hk0 : (0 : Int) ≤ (k : Int) := by omega
      have hgw : g < wr.heap.size := by omega
      go_wp2_with fail
      go_region_held3 (fun w' => w'.cell? ⟨g, o + k * 2 + 1, none⟩ = some (.string (markTextV (k0 + 2 * (k : Int) + 1)))) (first | assumption | go_keep)
        (first
          | (go_at_call 54; refine (markText_any (k0 + 2 * (k : Int) + 1) _ (by omega) (by omega)).mono ?_; rintro e w2 ⟨rfl, hb2⟩; have hq2 : Below wr.heap.size wr w2 := (by (repeat' (first | (with_reducible exact Below.refl _ _) | (with_reducible assumption) | (with_reducible refine Below.alloc ?_ ?_ _) | (with_reducible refine Below.drew ?_) | (with_reducible refine below_drewN ?_ _) | (with_reducible refine Below.setCell ?_ ?_ _) | (with_reducible refine bvia ?_ (by with_reducible assumption) ?_) | go_size))); have a2 : w2.cell? ⟨g, o + k * 2 + 1, none⟩ = some (.string (markTextV (k0 + 2 * (k : Int) + 1))) := (hq2.cell hgw).trans a1)
          | fail)
      have hB2 := hB.trans (hq2.mono hBz)
      go_wp2
      go_roundw
      case rel => exact ⟨k + 1, by omega, by go_num, by go_num, hB2⟩
      case measure => simp [intOf]; omega
    · obtain rfl : k = n := by omega
      go_wp2
      go_ret
      exact ⟨rfl, hB⟩
theorem markPieces_own (r : Int) (s : ByteArray) (A : Option Addr) (cap : Nat) (L : List PieceD) (base : Nat) (k0 : Int) (w : World) (h : Own w base 44 PieceD.cells 2 (.slice A L.length cap) L) (h0 : 0 ≤ k0) (h1 : k0 ≤ 100000000) (hn : L.length ≤ 2000000) :
    Calls Try.prog 20 #[pv r s A L.length cap, .int .i64 k0] w fun e w' => e = .returned (.int .i64 (k0 + 2 * (L.length : Int))) ∧ Own w' base 44 PieceD.cells 2 (.slice A L.length cap) (markL (mkPiece k0) L.length) ∧ w.grownBy w' (Value.slice A L.length cap).ownBlock := by
  go_enter Try.func20, Try.ntmps20
  go_wp2_with fail
  refine (markPieceS_own _ L base k0 _ (h.alloc _) h0 h1 hn).mono ?_
  rintro e w2 ⟨rfl, O2, G2⟩
  have G : w.grownBy w2 (Value.slice A L.length cap).ownBlock := ⟨G2.os, G2.tape, G2.output, by have := G2.size; simp at this; omega, fun k hk hn' => (G2.block k (by simp; omega) hn').trans (Below.heap_alloc _ _ _ hk)⟩
  have HO := Lib.hid O2
  have HG := Lib.hid G
  clear O2 G G2
  obtain ⟨k1, hk1⟩ : ∃ k1 : Int, k0 + 2 * (L.length : Int) = k1 := ⟨_, rfl⟩
  rw [hk1]
  have HK := Lib.hid hk1
  clear hk1
  go_wp2
  go_ret
  exact ⟨ret_int HK.out.symm, HO.out, HG.out⟩
theorem heldPieces_any (r : Int) (s : ByteArray) (A : Option Addr) (n cap : Nat) (k0 : Int) (w : World) (lo : Nat) (hr : Rd PieceD.cells 2 w lo w.heap.size A (markL (mkPiece k0) n)) (h0 : 0 ≤ k0) (h1 : k0 ≤ 100000000) (hn : n ≤ 2000000) :
    Calls Try.prog 21 #[pv r s A n cap, .int .i64 k0] w fun e w' => e = .returned (.int .i64 (k0 + 2 * (n : Int))) ∧ Below w.heap.size w w' := by
  obtain ⟨k1, hk1⟩ : ∃ k1 : Int, k0 + 2 * (n : Int) = k1 := ⟨_, rfl⟩
  have d1 : decide (k1 < 0) = false := decide_eq_false (by omega)
  rw [hk1]
  have HK := Lib.hid hk1
  clear hk1
  go_enter Try.func21, Try.ntmps21
  go_wp2_with fail
  refine (heldPieceS_any A n cap k0 _ lo (by exact hr.later (by (repeat' (first | (with_reducible exact Below.refl _ _) | (with_reducible assumption) | (with_reducible refine Below.alloc ?_ ?_ _) | (with_reducible refine Below.drew ?_) | (with_reducible refine below_drewN ?_ _) | (with_reducible refine Below.setCell ?_ ?_ _) | (with_reducible refine bvia ?_ (by with_reducible assumption) ?_) | go_size))) (Nat.le_refl _) (by go_size)) h0 h1 hn).mono ?_
  rintro e w2 ⟨rfl, hb2⟩
  rw [HK.out]
  go_wp2
  go_ret
  exact ⟨rfl, by (repeat' (first | (with_reducible exact Below.refl _ _) | (with_reducible assumption) | (with_reducible refine Below.alloc ?_ ?_ _) | (with_reducible refine Below.drew ?_) | (with_reducible refine below_drewN ?_ _) | (with_reducible refine Below.setCell ?_ ?_ _) | (with_reducible refine bvia ?_ (by with_reducible assumption) ?_) | go_size))⟩
theorem rdm {w : World} {base n cap : Nat} {A : Option Addr} {k0 : Int} (h : Own w base 44 PieceD.cells 2 (.slice A n cap) (markL (mkPiece k0) n)) : Rd PieceD.cells 2 w 0 w.heap.size A (markL (mkPiece k0) n) := h.rdv PieceD.cells_length
end Go.Proofs.Ytpjbnfpadbknpaa
