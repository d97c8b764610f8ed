/- The walk of FnExactPiecesOk: for every argument. Written by program (piecelaw.py). -/
import Derived.Test.YtpjbnfpadbknpaaKP
import Derived.Test.YtpjbnfpadbknpaaPiecesOk
import Derived.Deep.RegionHeld3
import Derived.Deep.DrawnRows
namespace Go.Proofs.Ytpjbnfpadbknpaa
set_option linter.unusedSimpArgs false
set_option linter.unusedVariables false
open Go.RowKit
set_option maxRecDepth 100000 in
set_option maxHeartbeats 4000000 in
theorem walk_FnExactPiecesOk (x : PiecesA) (w : World) (hx : x.wf w) :
    Calls Try.prog 7 #[x.val] w fun e w' => e = .returned (.bool true) ∧ Below w.heap.size w w' := by
  obtain ⟨-, hs0, hl1, hl2, hwf, hR⟩ := hx
  have hm : x.fList.length ≤ maxLen := Nat.le_trans hl1 hl2
  have ht : ∀ y ∈ x.fList, y.fText.size ≤ maxLen := fun y hy => (hwf y hy).2
  by_cases h : ((x.fReady.size + x.fList.length + sumT x.fList : Nat) : Int) ≤ 1048576
  · obtain ⟨z, hz⟩ : ∃ z : Int, 1048576 - ((x.fReady.size + x.fList.length + sumT x.fList : Nat) : Int) = z := ⟨_, rfl⟩
    have hv : Hid (szP 1048576 x.fReady x.fList = z) := by rw [← hz]; exact if_pos h
    have hz0 : 0 ≤ z := by omega
    have d0 : decide (z < 0) = false := decide_eq_false (by omega)
    clear hz
    go_enter Try.func7, Try.ntmps7
    go_wp2_with fail
    refine (szPieces_any x.fRead x.fReady x.aList _ x.fList 1048576 _ (by exact hR.later (by (repeat' (first | (with_reducible exact Below.refl _ _) | (with_reducible assumption) | (with_reducible refine Below.alloc ?_ ?_ _) | (with_reducible refine Below.drew ?_) | (with_reducible refine below_drewN ?_ _) | (with_reducible refine Below.setCell ?_ ?_ _) | (with_reducible refine bvia ?_ (by with_reducible assumption) ?_) | go_size))) (Nat.le_refl _) (by go_size)) hs0 hm ht (by omega) (by omega)).mono ?_
    rintro e w1 ⟨rfl, hb1⟩
    obtain ⟨hc, hf⟩ := bcell hb1
    have hc1_0 := fun o => hc (w.heap.size) o (by go_size)
    have hf1_0 := fun o => hf (w.heap.size) o (by go_size)
    have hz1_0 : w.heap.size < w1.heap.size := Nat.lt_of_lt_of_le (by go_size) hb1.size
    clear hc hf
    have hz1 := hb1.size
    try simp at hz1
    rw [hv.out]
    have HL1 := Lib.hid (show KP w x w1 from ⟨by (repeat' (first | (with_reducible exact Below.refl _ _) | (with_reducible assumption) | (with_reducible refine Below.alloc ?_ ?_ _) | (with_reducible refine Below.drew ?_) | (with_reducible refine below_drewN ?_ _) | (with_reducible refine Below.setCell ?_ ?_ _) | (with_reducible refine bvia ?_ (by with_reducible assumption) ?_) | go_size)), by omega, by simp [go_sem, hc1_0], by simp [go_sem, hc1_0], by simp [go_sem, hc1_0]⟩)
    clear hb1
    go_wp2_with fail
    have hB1 := HL1.out.b
    refine (toPieces_any x.fRead x.fReady x.aList x.cList x.fList _ (by exact hR.later hB1 (Nat.le_refl _) (by first | omega | go_size)) (by omega)).mono ?_
    rintro e w2 ⟨A2, j2, rfl, V2, hb2⟩
    have HL2 := Lib.hid (HL1.out.next hb2)
    clear HL1 hc1_0 hf1_0 hB1
    go_wp2_with fail
    refine (sPiecesOk x.fRead x.fReady A2 j2 x.fList _ (V2.rdv PieceD.cells_length) (by omega) hm).mono ?_
    rintro e w3 ⟨rfl, hb3⟩
    have HL3 := Lib.hid (HL2.out.next hb3)
    clear HL2 V2 hb2 hb3
    have hB3 := HL3.out.b
    have hz3 := HL3.out.z
    have k0_3 := HL3.out.k0
    have k1_3 := HL3.out.k1
    have k2_3 := HL3.out.k2
    go_wp2_with fail
    refine (toPieces_any x.fRead x.fReady x.aList x.cList x.fList _ (by exact hR.later hB3 (Nat.le_refl _) (by first | omega | go_size)) (by omega)).mono ?_
    rintro e w4 ⟨A1, k1, rfl, V1, hb4⟩
    have HL4 := Lib.hid (HL3.out.next hb4)
    have hz4 := hb4.size
    clear HL3 k0_3 k1_3 k2_3
    go_wp2_with fail
    have hbW : Below w4.heap.size w4 (w4.alloc (.cells #[.int .i64 x.fRead, .string x.fReady, .slice A1 x.fList.length k1] 26)) := by go_grown
    have HX4 : Hid (KQ w x w4.heap.size A1 k1 (w4.alloc (.cells #[.int .i64 x.fRead, .string x.fReady, .slice A1 x.fList.length k1] 26))) := ⟨HL4.out.next hbW, by omega, by simp, by simp, by simp, by simp, (V1.rdv PieceD.cells_length).below hbW⟩
    refine (iPiecesOk x.fRead x.fReady A1 k1 x.fList _ (by exact (V1.rdv PieceD.cells_length).later hbW (Nat.le_refl _) (by simp)) (by omega) hm).mono ?_
    rintro e w5 ⟨rfl, hb5⟩
    have HX5 := Lib.hid (HX4.out.next hb5)
    clear HX4 HL4 V1 hb4 hb5 hbW
    go_wp2_with fail
    refine wp_world _ (KQ w x w4.heap.size A1 k1) (by first | exact HX5.out | exact HX5.out.next (by (repeat' (first | (with_reducible exact Below.refl _ _) | (with_reducible assumption) | (with_reducible refine Below.alloc ?_ ?_ _) | (with_reducible refine Below.drew ?_) | (with_reducible refine below_drewN ?_ _) | (with_reducible refine Below.setCell ?_ ?_ _) | (with_reducible refine bvia ?_ (by with_reducible assumption) ?_) | go_size)))) ?_
    obtain ⟨g, hg⟩ : ∃ g, w4.heap.size = g := ⟨_, rfl⟩
    rw [hg]
    clear HX5 hz4 hg
    intro W hX
    have hB : Below w.heap.size w W := hX.kp.b
    have hz : w.heap.size + 1 ≤ W.heap.size := hX.kp.z
    have k0_W := hX.kp.k0
    have k1_W := hX.kp.k1
    have k2_W := hX.kp.k2
    have g0_W := hX.g0
    have g1_W := hX.g1
    have g2_W := hX.g2
    have lg := hX.lt
    have hgg := hX.hg
    have rL := hX.rL
    clear hX
    go_region_held3 (fun w' => w'.cell? ⟨w.heap.size, 0, none⟩ = some (.int .i64 x.fRead) ∧ w'.cell? ⟨w.heap.size, 1, none⟩ = some (.string x.fReady) ∧ w'.cell? ⟨w.heap.size, 2, none⟩ = some (.slice x.aList x.fList.length x.cList) ∧ w'.cell? ⟨g, 0, none⟩ = some (.int .i64 x.fRead) ∧ w'.cell? ⟨g, 1, none⟩ = some (.string x.fReady) ∧ w'.cell? ⟨g, 2, none⟩ = some (.slice A1 x.fList.length k1)) (first | (refine ⟨?_, ?_, ?_, ?_, ?_, ?_⟩ <;> assumption) | go_keep)
      (first
        | (go_at_call 18; refine (toPieces_any x.fRead x.fReady x.aList x.cList x.fList _ (by exact hR.later (by (repeat' (first | (with_reducible exact Below.refl _ _) | (with_reducible assumption) | (with_reducible refine Below.alloc ?_ ?_ _) | (with_reducible refine Below.drew ?_) | (with_reducible refine below_drewN ?_ _) | (with_reducible refine Below.setCell ?_ ?_ _) | (with_reducible refine bvia ?_ (by with_reducible assumption) ?_) | go_size))) (Nat.le_refl _) (by first | omega | go_size)) (by omega)).mono ?_; rintro e v1 ⟨B1, j1, rfl, V1, hb1⟩; have hz1 := hb1.size; (try simp at hz1); have hq1 : Below W.heap.size W v1 := (by (repeat' (first | (with_reducible exact Below.refl _ _) | (with_reducible assumption) | (with_reducible refine Below.alloc ?_ ?_ _) | (with_reducible refine Below.drew ?_) | (with_reducible refine below_drewN ?_ _) | (with_reducible refine Below.setCell ?_ ?_ _) | (with_reducible refine bvia ?_ (by with_reducible assumption) ?_) | go_size))); have k0_v1 : v1.cell? ⟨w.heap.size, 0, none⟩ = some (.int .i64 x.fRead) := (hq1.cell (by show w.heap.size < _; go_size)).trans k0_W; have k1_v1 : v1.cell? ⟨w.heap.size, 1, none⟩ = some (.string x.fReady) := (hq1.cell (by show w.heap.size < _; go_size)).trans k1_W; have k2_v1 : v1.cell? ⟨w.heap.size, 2, none⟩ = some (.slice x.aList x.fList.length x.cList) := (hq1.cell (by show w.heap.size < _; go_size)).trans k2_W; have g0_v1 : v1.cell? ⟨g, 0, none⟩ = some (.int .i64 x.fRead) := (hq1.cell (by show g < _; go_size)).trans g0_W; have g1_v1 : v1.cell? ⟨g, 1, none⟩ = some (.string x.fReady) := (hq1.cell (by show g < _; go_size)).trans g1_W; have g2_v1 : v1.cell? ⟨g, 2, none⟩ = some (.slice A1 x.fList.length k1) := (hq1.cell (by show g < _; go_size)).trans g2_W)
        | (go_at_call 19; refine (eqPieces_same _ _ _ _ _ _ x.fList _ (by exact rL.later (by (repeat' (first | (with_reducible exact Below.refl _ _) | (with_reducible assumption) | (with_reducible refine Below.alloc ?_ ?_ _) | (with_reducible refine Below.drew ?_) | (with_reducible refine below_drewN ?_ _) | (with_reducible refine Below.setCell ?_ ?_ _) | (with_reducible refine bvia ?_ (by with_reducible assumption) ?_) | go_size))) (Nat.le_refl _) (by omega)) (by exact V1.rdv PieceD.cells_length) hm).mono ?_; rintro e v2 ⟨rfl, hb2⟩; have hz2 := hb2.size; (try simp at hz2); have hq2 : Below W.heap.size W v2 := (by (repeat' (first | (with_reducible exact Below.refl _ _) | (with_reducible assumption) | (with_reducible refine Below.alloc ?_ ?_ _) | (with_reducible refine Below.drew ?_) | (with_reducible refine below_drewN ?_ _) | (with_reducible refine Below.setCell ?_ ?_ _) | (with_reducible refine bvia ?_ (by with_reducible assumption) ?_) | go_size))); have k0_v2 : v2.cell? ⟨w.heap.size, 0, none⟩ = some (.int .i64 x.fRead) := (hq2.cell (by show w.heap.size < _; go_size)).trans k0_W; have k1_v2 : v2.cell? ⟨w.heap.size, 1, none⟩ = some (.string x.fReady) := (hq2.cell (by show w.heap.size < _; go_size)).trans k1_W; have k2_v2 : v2.cell? ⟨w.heap.size, 2, none⟩ = some (.slice x.aList x.fList.length x.cList) := (hq2.cell (by show w.heap.size < _; go_size)).trans k2_W; have g0_v2 : v2.cell? ⟨g, 0, none⟩ = some (.int .i64 x.fRead) := (hq2.cell (by show g < _; go_size)).trans g0_W; have g1_v2 : v2.cell? ⟨g, 1, none⟩ = some (.string x.fReady) := (hq2.cell (by show g < _; go_size)).trans g1_W; have g2_v2 : v2.cell? ⟨g, 2, none⟩ = some (.slice A1 x.fList.length k1) := (hq2.cell (by show g < _; go_size)).trans g2_W)
        | fail)
    go_wp2
    go_ret
    exact ⟨rfl, hB.trans (hq2.mono (by omega))⟩
  · have hv : Hid (szP 1048576 x.fReady x.fList = -1) := if_neg h
    go_enter Try.func7, Try.ntmps7
    go_wp2_with fail
    refine (szPieces_any x.fRead x.fReady x.aList _ x.fList 1048576 _ (by exact hR.later (by (repeat' (first | (with_reducible exact Below.refl _ _) | (with_reducible assumption) | (with_reducible refine Below.alloc ?_ ?_ _) | (with_reducible refine Below.drew ?_) | (with_reducible refine below_drewN ?_ _) | (with_reducible refine Below.setCell ?_ ?_ _) | (with_reducible refine bvia ?_ (by with_reducible assumption) ?_) | go_size))) (Nat.le_refl _) (by go_size)) hs0 hm ht (by omega) (by omega)).mono ?_
    rintro e w1 ⟨rfl, hb1⟩
    obtain ⟨hc, hf⟩ := bcell hb1
    have hc1_0 := fun o => hc (w.heap.size) o (by go_size)
    have hf1_0 := fun o => hf (w.heap.size) o (by go_size)
    have hz1_0 : w.heap.size < w1.heap.size := Nat.lt_of_lt_of_le (by go_size) hb1.size
    clear hc hf
    have hz1 := hb1.size
    try simp at hz1
    rw [hv.out]
    go_wp2
    go_ret
    exact ⟨rfl, by (repeat' (first | (with_reducible exact Below.refl _ _) | (with_reducible assumption) | (with_reducible refine Below.alloc ?_ ?_ _) | (with_reducible refine Below.drew ?_) | (with_reducible refine below_drewN ?_ _) | (with_reducible refine Below.setCell ?_ ?_ _) | (with_reducible refine bvia ?_ (by with_reducible assumption) ?_) | go_size))⟩
end Go.Proofs.Ytpjbnfpadbknpaa
