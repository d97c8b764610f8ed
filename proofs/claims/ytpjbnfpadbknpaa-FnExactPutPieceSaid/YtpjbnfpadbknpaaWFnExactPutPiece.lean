/- The walk of FnExactPutPiece: for every argument. Written by program (plaw2.py). -/
import Derived.Test.YtpjbnfpadbknpaaMarkP
import Derived.Test.YtpjbnfpadbknpaaPutOwn
import Derived.Deep.RegionHeld3
import Derived.Deep.DrawnRows
namespace Go.Proofs.Ytpjbnfpadbknpaa
set_option linter.unusedSimpArgs false
set_option linter.unusedVariables false
open Go.RowKit
set_option maxRecDepth 100000 in
set_option maxHeartbeats 8000000 in
theorem walk_FnExactPutPiece (x : PiecesA) (a : Int) (t : ByteArray) (w : World) (hx : x.wf w) (_ : -9223372036854775808 ≤ a ∧ a ≤ 9223372036854775807) (htm : t.size ≤ maxLen) :
    Calls Try.prog 4 #[x.val, .int .i64 a, .string t] w fun e w' => e = .returned (.bool true) ∧ Below w.heap.size w w' := by
  obtain ⟨-, hs0, hl1, hl2, hwf, hR⟩ := hx
  have hm : x.fList.length ≤ maxLen := Nat.le_trans hl1 hl2
  have ht : ∀ y ∈ x.fList, y.fText.size ≤ maxLen := fun y hy => (hwf y hy).2
  have htm' := htm
  unfold maxLen at htm'
  by_cases htt : (1048576 : Int) < t.size
  · have dt : decide ((1048576 : Int) < (t.size : Int)) = true := decide_eq_true htt
    go_enter Try.func4, Try.ntmps4
    go_wp2
    go_ret
    exact ⟨rfl, by (repeat' (first | (with_reducible exact Below.refl _ _) | (with_reducible assumption) | (with_reducible refine Below.alloc ?_ ?_ _) | (with_reducible refine Below.drew ?_) | (with_reducible refine below_drewN ?_ _) | (with_reducible refine Below.setCell ?_ ?_ _) | (with_reducible refine bvia ?_ (by with_reducible assumption) ?_) | go_size))⟩
  have dt : decide ((1048576 : Int) < (t.size : Int)) = false := decide_eq_false htt
  by_cases h : ((x.fReady.size + x.fList.length + sumT x.fList : Nat) : Int) ≤ 1048576
  · obtain ⟨z, hz⟩ : ∃ z : Int, 1048576 - ((x.fReady.size + x.fList.length + sumT x.fList : Nat) : Int) = z := ⟨_, rfl⟩
    have hv : Hid (szP 1048576 x.fReady x.fList = z) := by rw [← hz]; exact if_pos h
    have hz0 : 0 ≤ z := by omega
    have d0 : decide (z < 0) = false := decide_eq_false (by omega)
    clear hz
    obtain ⟨R, hRR⟩ : ∃ R, x.fRead = R := ⟨_, rfl⟩
    have hLb := putV_len x.fRead x.fReady x.fList a t
    obtain ⟨S, hSS⟩ : ∃ S, (putV x.fRead x.fReady x.fList a t).1 = S := ⟨_, rfl⟩
    obtain ⟨L, hLL⟩ : ∃ L, (putV x.fRead x.fReady x.fList a t).2 = L := ⟨_, rfl⟩
    have sF := fun A k W rd => sPutPiece x.fRead x.fReady A k x.fList a t W rd (by omega) (by omega) (by omega)
    have iF := fun A k W rd => iPutPiece x.fRead x.fReady A k x.fList a t W rd (by omega) (by omega) (by omega)
    rw [hLL] at hLb
    rw [hSS, hLL] at sF iF
    have hmL : L.length ≤ maxLen := by unfold maxLen; omega
    have SF := Lib.hid sF
    have IF := Lib.hid iF
    clear hRR hSS hLL sF iF R
    go_enter Try.func4, Try.ntmps4
    go_wp2_with fail
    refine (szPieces_any x.fRead x.fReady x.aList _ x.fList 1048576 _ (by exact hR.later (by (repeat' (first | (with_reducible exact Below.refl _ _) | (with_reducible assumption) | (with_reducible refine Below.alloc ?_ ?_ _) | (with_reducible refine Below.drew ?_) | (with_reducible refine below_drewN ?_ _) | (with_reducible refine Below.setCell ?_ ?_ _) | (with_reducible refine bvia ?_ (by with_reducible assumption) ?_) | go_size))) (Nat.le_refl _) (by go_size)) hs0 hm ht (by omega) (by omega)).mono ?_
    rintro e w1 ⟨rfl, hb1⟩
    obtain ⟨hc, hf⟩ := bcell hb1
    have hc1_0 := fun o => hc (w.heap.size) o (by go_size)
    have hf1_0 := fun o => hf (w.heap.size) o (by go_size)
    have hz1_0 : w.heap.size < w1.heap.size := Nat.lt_of_lt_of_le (by go_size) hb1.size
    clear hc hf
    have hz1 := hb1.size
    try simp at hz1
    rw [hv.out]
    have HA_1 : Hid (w1.heap[w.heap.size]? = some (.cells #[.int .i64 x.fRead, .string x.fReady, .slice x.aList x.fList.length x.cList] 34 (0, 0))) := (hb1.block w.heap.size (by simp)).trans (heap_alloc_new w _)
    have hB1 : Below w.heap.size w w1 := by (repeat' (first | (with_reducible exact Below.refl _ _) | (with_reducible assumption) | (with_reducible refine Below.alloc ?_ ?_ _) | (with_reducible refine Below.drew ?_) | (with_reducible refine below_drewN ?_ _) | (with_reducible refine Below.setCell ?_ ?_ _) | (with_reducible refine bvia ?_ (by with_reducible assumption) ?_) | go_size))
    have hlt1 : w.heap.size + 1 ≤ w1.heap.size := by omega
    clear hc1_0 hf1_0 hb1 hz1_0
    have x0 : w1.cell? ⟨w.heap.size, 0, none⟩ = some (.int .i64 x.fRead) := by rw [cell_of_row _ _ _ _ _ (0, 0) HA_1.out]; rfl
    have x1 : w1.cell? ⟨w.heap.size, 1, none⟩ = some (.string x.fReady) := by rw [cell_of_row _ _ _ _ _ (0, 0) HA_1.out]; rfl
    have x2 : w1.cell? ⟨w.heap.size, 2, none⟩ = some (.slice x.aList x.fList.length x.cList) := by rw [cell_of_row _ _ _ _ _ (0, 0) HA_1.out]; rfl
    have lx := (Array.getElem?_eq_some_iff.1 HA_1.out).1
    go_wp2_with fail
    refine (toPieces_any x.fRead x.fReady x.aList x.cList x.fList _ (by exact hR.later (by (repeat' (first | (with_reducible exact Below.refl _ _) | (with_reducible assumption) | (with_reducible refine Below.alloc ?_ ?_ _) | (with_reducible refine Below.drew ?_) | (with_reducible refine below_drewN ?_ _) | (with_reducible refine Below.setCell ?_ ?_ _) | (with_reducible refine bvia ?_ (by with_reducible assumption) ?_) | go_size))) (Nat.le_refl _) (by go_size)) (by omega)).mono ?_
    rintro e w2 ⟨AX0, kX0, rfl, O2, hb2⟩
    clear x0 x1 x2 lx
    have hv_X0 : Hid (∀ k, (Value.slice AX0 _ kX0).ownBlock = some k → w1.heap.size ≤ k ∧ k < w2.heap.size) := fun k hk => by have h9 := O2.lt hk; (try simp at h9); omega
    have X0_2 := Lib.hid O2
    clear O2
    have hq2 : Below w1.heap.size w1 w2 := (by (repeat' (first | (with_reducible exact Below.refl _ _) | (with_reducible assumption) | (with_reducible refine Below.alloc ?_ ?_ _) | (with_reducible refine Below.drew ?_) | (with_reducible refine below_drewN ?_ _) | (with_reducible refine Below.setCell ?_ ?_ _) | (with_reducible refine bvia ?_ (by with_reducible assumption) ?_) | go_size)))
    have hz2 := hq2.size
    have HA_2 : Hid (w2.heap[w.heap.size]? = _) := (hq2.block _ (Array.getElem?_eq_some_iff.1 HA_1.out).1).trans HA_1.out
    have hB2 := hB1.trans (hq2.mono (by omega))
    clear hb2 hq2 hB1 HA_1
    go_wp2_with fail
    refine (SF.out AX0 kX0 _ (by exact (X0_2.out.rdv PieceD.cells_length).later (by (repeat' (first | (with_reducible exact Below.refl _ _) | (with_reducible assumption) | (with_reducible refine Below.alloc ?_ ?_ _) | (with_reducible refine Below.drew ?_) | (with_reducible refine below_drewN ?_ _) | (with_reducible refine Below.setCell ?_ ?_ _) | (with_reducible refine bvia ?_ (by with_reducible assumption) ?_) | go_size))) (Nat.le_refl _) (by go_size))).mono ?_
    rintro e w3 ⟨AX6, kX6, rfl, O3, hb3⟩
    have hv_X6 : Hid (∀ k, (Value.slice AX6 _ kX6).ownBlock = some k → w2.heap.size ≤ k ∧ k < w3.heap.size) := fun k hk => by have h9 := O3.lt hk; (try simp at h9); omega
    have X6_3 := Lib.hid O3
    clear O3
    have hq3 : Below w2.heap.size w2 w3 := (by (repeat' (first | (with_reducible exact Below.refl _ _) | (with_reducible assumption) | (with_reducible refine Below.alloc ?_ ?_ _) | (with_reducible refine Below.drew ?_) | (with_reducible refine below_drewN ?_ _) | (with_reducible refine Below.setCell ?_ ?_ _) | (with_reducible refine bvia ?_ (by with_reducible assumption) ?_) | go_size)))
    have hz3 := hq3.size
    have HA_3 : Hid (w3.heap[w.heap.size]? = _) := (hq3.block _ (Array.getElem?_eq_some_iff.1 HA_2.out).1).trans HA_2.out
    have X0_3 := Lib.hid (X0_2.out.later hq3 (Nat.le_refl _))
    have hB3 := hB2.trans (hq3.mono (by omega))
    clear hb3 hq3 hB2 HA_2 X0_2
    clear X0_3
    have x0 : w3.cell? ⟨w.heap.size, 0, none⟩ = some (.int .i64 x.fRead) := by rw [cell_of_row _ _ _ _ _ (0, 0) HA_3.out]; rfl
    have x1 : w3.cell? ⟨w.heap.size, 1, none⟩ = some (.string x.fReady) := by rw [cell_of_row _ _ _ _ _ (0, 0) HA_3.out]; rfl
    have x2 : w3.cell? ⟨w.heap.size, 2, none⟩ = some (.slice x.aList x.fList.length x.cList) := by rw [cell_of_row _ _ _ _ _ (0, 0) HA_3.out]; rfl
    have lx := (Array.getElem?_eq_some_iff.1 HA_3.out).1
    go_wp2_with fail
    refine (toPieces_any x.fRead x.fReady x.aList x.cList x.fList _ (by exact hR.later (by (repeat' (first | (with_reducible exact Below.refl _ _) | (with_reducible assumption) | (with_reducible refine Below.alloc ?_ ?_ _) | (with_reducible refine Below.drew ?_) | (with_reducible refine below_drewN ?_ _) | (with_reducible refine Below.setCell ?_ ?_ _) | (with_reducible refine bvia ?_ (by with_reducible assumption) ?_) | go_size))) (Nat.le_refl _) (by go_size)) (by omega)).mono ?_
    rintro e w4 ⟨AX8, kX8, rfl, O4, hb4⟩
    clear x0 x1 x2 lx
    have hv_X8 : Hid (∀ k, (Value.slice AX8 _ kX8).ownBlock = some k → w3.heap.size + 1 ≤ k ∧ k < w4.heap.size) := fun k hk => by have h9 := O4.lt hk; (try simp at h9); omega
    have X8_4 := Lib.hid O4
    clear O4
    have H6_4 : Hid (w4.heap[w3.heap.size]? = some (.cells #[.int .i64 x.fRead, .string S, .slice AX6 L.length kX6] 26 (0, 0))) := (hb4.block w3.heap.size (by simp)).trans (heap_alloc_new w3 _)
    have hq4 : Below w3.heap.size w3 w4 := (by (repeat' (first | (with_reducible exact Below.refl _ _) | (with_reducible assumption) | (with_reducible refine Below.alloc ?_ ?_ _) | (with_reducible refine Below.drew ?_) | (with_reducible refine below_drewN ?_ _) | (with_reducible refine Below.setCell ?_ ?_ _) | (with_reducible refine bvia ?_ (by with_reducible assumption) ?_) | go_size)))
    have hz4 := hq4.size
    have hy4 : w3.heap.size + 1 ≤ w4.heap.size := by have := hb4.size; simpa using this
    have HA_4 : Hid (w4.heap[w.heap.size]? = _) := (hq4.block _ (Array.getElem?_eq_some_iff.1 HA_3.out).1).trans HA_3.out
    have X6_4 := Lib.hid (X6_3.out.later hq4 (Nat.le_refl _))
    have hB4 := hB3.trans (hq4.mono (by omega))
    clear hb4 hq4 hB3 HA_3 X6_3
    go_wp2_with fail
    refine (IF.out AX8 kX8 _ (by exact (X8_4.out.rdv PieceD.cells_length).later (by (repeat' (first | (with_reducible exact Below.refl _ _) | (with_reducible assumption) | (with_reducible refine Below.alloc ?_ ?_ _) | (with_reducible refine Below.drew ?_) | (with_reducible refine below_drewN ?_ _) | (with_reducible refine Below.setCell ?_ ?_ _) | (with_reducible refine bvia ?_ (by with_reducible assumption) ?_) | go_size))) (Nat.le_refl _) (by go_size))).mono ?_
    rintro e w5 ⟨AX9, kX9, rfl, O5, hb5⟩
    have hv_X9 : Hid (∀ k, (Value.slice AX9 _ kX9).ownBlock = some k → w4.heap.size + 1 ≤ k ∧ k < w5.heap.size) := fun k hk => by have h9 := O5.lt hk; (try simp at h9); omega
    have X9_5 := Lib.hid O5
    clear O5
    have H8_5 : Hid (w5.heap[w4.heap.size]? = some (.cells #[.int .i64 x.fRead, .string x.fReady, .slice AX8 x.fList.length kX8] 26 (0, 0))) := (hb5.block w4.heap.size (by simp)).trans (heap_alloc_new w4 _)
    have hq5 : Below w4.heap.size w4 w5 := (by (repeat' (first | (with_reducible exact Below.refl _ _) | (with_reducible assumption) | (with_reducible refine Below.alloc ?_ ?_ _) | (with_reducible refine Below.drew ?_) | (with_reducible refine below_drewN ?_ _) | (with_reducible refine Below.setCell ?_ ?_ _) | (with_reducible refine bvia ?_ (by with_reducible assumption) ?_) | go_size)))
    have hz5 := hq5.size
    have hy5 : w4.heap.size + 1 ≤ w5.heap.size := by have := hb5.size; simpa using this
    have HA_5 : Hid (w5.heap[w.heap.size]? = _) := (hq5.block _ (Array.getElem?_eq_some_iff.1 HA_4.out).1).trans HA_4.out
    have H6_5 : Hid (w5.heap[w3.heap.size]? = _) := (hq5.block _ (Array.getElem?_eq_some_iff.1 H6_4.out).1).trans H6_4.out
    have X6_5 := Lib.hid (X6_4.out.later hq5 (Nat.le_refl _))
    have X8_5 := Lib.hid (X8_4.out.later hq5 (Nat.le_refl _))
    have hB5 := hB4.trans (hq5.mono (by omega))
    clear hb5 hq5 hB4 HA_4 H6_4 X6_4 X8_4
    have y0 : w5.cell? ⟨w3.heap.size, 0, none⟩ = some (.int .i64 x.fRead) := by rw [cell_of_row _ _ _ _ _ (0, 0) H6_5.out]; rfl
    have y1 : w5.cell? ⟨w3.heap.size, 1, none⟩ = some (.string S) := by rw [cell_of_row _ _ _ _ _ (0, 0) H6_5.out]; rfl
    have y2 : w5.cell? ⟨w3.heap.size, 2, none⟩ = some (.slice AX6 L.length kX6) := by rw [cell_of_row _ _ _ _ _ (0, 0) H6_5.out]; rfl
    have ly := (Array.getElem?_eq_some_iff.1 H6_5.out).1
    go_wp2_with fail
    refine (eqPieces_same _ _ _ _ _ _ L _ (by exact (X9_5.out.rdv PieceD.cells_length).later (by (repeat' (first | (with_reducible exact Below.refl _ _) | (with_reducible assumption) | (with_reducible refine Below.alloc ?_ ?_ _) | (with_reducible refine Below.drew ?_) | (with_reducible refine below_drewN ?_ _) | (with_reducible refine Below.setCell ?_ ?_ _) | (with_reducible refine bvia ?_ (by with_reducible assumption) ?_) | go_size))) (Nat.le_refl _) (by go_size)) (by exact (X6_5.out.rdv.wide (Nat.zero_le _) (Nat.le_refl _)).later (by (repeat' (first | (with_reducible exact Below.refl _ _) | (with_reducible assumption) | (with_reducible refine Below.alloc ?_ ?_ _) | (with_reducible refine Below.drew ?_) | (with_reducible refine below_drewN ?_ _) | (with_reducible refine Below.setCell ?_ ?_ _) | (with_reducible refine bvia ?_ (by with_reducible assumption) ?_) | go_size))) (Nat.le_refl _) (by go_size)) hmL).mono ?_
    rintro e w6 ⟨rfl, hb6⟩
    clear y0 y1 y2 ly
    have H9_6 : Hid (w6.heap[w5.heap.size]? = some (.cells #[.int .i64 x.fRead, .string S, .slice AX9 L.length kX9] 26 (0, 0))) := (hb6.block w5.heap.size (by simp)).trans (heap_alloc_new w5 _)
    have hq6 : Below w5.heap.size w5 w6 := (by (repeat' (first | (with_reducible exact Below.refl _ _) | (with_reducible assumption) | (with_reducible refine Below.alloc ?_ ?_ _) | (with_reducible refine Below.drew ?_) | (with_reducible refine below_drewN ?_ _) | (with_reducible refine Below.setCell ?_ ?_ _) | (with_reducible refine bvia ?_ (by with_reducible assumption) ?_) | go_size)))
    have hz6 := hq6.size
    have hy6 : w5.heap.size + 1 ≤ w6.heap.size := by have := hb6.size; simpa using this
    have HA_6 : Hid (w6.heap[w.heap.size]? = _) := (hq6.block _ (Array.getElem?_eq_some_iff.1 HA_5.out).1).trans HA_5.out
    have H6_6 : Hid (w6.heap[w3.heap.size]? = _) := (hq6.block _ (Array.getElem?_eq_some_iff.1 H6_5.out).1).trans H6_5.out
    have H8_6 : Hid (w6.heap[w4.heap.size]? = _) := (hq6.block _ (Array.getElem?_eq_some_iff.1 H8_5.out).1).trans H8_5.out
    have X6_6 := Lib.hid (X6_5.out.later hq6 (Nat.le_refl _))
    have X8_6 := Lib.hid (X8_5.out.later hq6 (Nat.le_refl _))
    have X9_6 := Lib.hid (X9_5.out.later hq6 (Nat.le_refl _))
    have hB6 := hB5.trans (hq6.mono (by omega))
    clear hb6 hq6 hB5 HA_5 H6_5 H8_5 X6_5 X8_5 X9_5
    have y0 : w6.cell? ⟨w4.heap.size, 0, none⟩ = some (.int .i64 x.fRead) := by rw [cell_of_row _ _ _ _ _ (0, 0) H8_6.out]; rfl
    have y1 : w6.cell? ⟨w4.heap.size, 1, none⟩ = some (.string x.fReady) := by rw [cell_of_row _ _ _ _ _ (0, 0) H8_6.out]; rfl
    have y2 : w6.cell? ⟨w4.heap.size, 2, none⟩ = some (.slice AX8 x.fList.length kX8) := by rw [cell_of_row _ _ _ _ _ (0, 0) H8_6.out]; rfl
    have ly := (Array.getElem?_eq_some_iff.1 H8_6.out).1
    have x0 : w6.cell? ⟨w.heap.size, 0, none⟩ = some (.int .i64 x.fRead) := by rw [cell_of_row _ _ _ _ _ (0, 0) HA_6.out]; rfl
    have x1 : w6.cell? ⟨w.heap.size, 1, none⟩ = some (.string x.fReady) := by rw [cell_of_row _ _ _ _ _ (0, 0) HA_6.out]; rfl
    have x2 : w6.cell? ⟨w.heap.size, 2, none⟩ = some (.slice x.aList x.fList.length x.cList) := by rw [cell_of_row _ _ _ _ _ (0, 0) HA_6.out]; rfl
    have lx := (Array.getElem?_eq_some_iff.1 HA_6.out).1
    go_wp2_with fail
    go_region_held3 (fun w' => w'.cell? ⟨w.heap.size, 0, none⟩ = some (.int .i64 x.fRead) ∧ w'.cell? ⟨w.heap.size, 1, none⟩ = some (.string x.fReady) ∧ w'.cell? ⟨w.heap.size, 2, none⟩ = some (.slice x.aList x.fList.length x.cList) ∧ w'.cell? ⟨w4.heap.size, 0, none⟩ = some (.int .i64 x.fRead) ∧ w'.cell? ⟨w4.heap.size, 1, none⟩ = some (.string x.fReady) ∧ w'.cell? ⟨w4.heap.size, 2, none⟩ = some (.slice AX8 x.fList.length kX8)) (first | (refine ⟨?_, ?_, ?_, ?_, ?_, ?_⟩ <;> assumption) | go_keep)
      (first
        | (go_at_call 18; refine (toPieces_any x.fRead x.fReady x.aList x.cList x.fList _ (by exact hR.later (by (repeat' (first | (with_reducible exact Below.refl _ _) | (with_reducible assumption) | (with_reducible refine Below.alloc ?_ ?_ _) | (with_reducible refine Below.drew ?_) | (with_reducible refine below_drewN ?_ _) | (with_reducible refine Below.setCell ?_ ?_ _) | (with_reducible refine bvia ?_ (by with_reducible assumption) ?_) | go_size))) (Nat.le_refl _) (by go_size)) (by omega)).mono ?_; rintro e v1 ⟨Av, kv, rfl, Ov, hbv⟩; have hzv := hbv.size; (try simp at hzv); have hqv : Below w6.heap.size w6 v1 := (by (repeat' (first | (with_reducible exact Below.refl _ _) | (with_reducible assumption) | (with_reducible refine Below.alloc ?_ ?_ _) | (with_reducible refine Below.drew ?_) | (with_reducible refine below_drewN ?_ _) | (with_reducible refine Below.setCell ?_ ?_ _) | (with_reducible refine bvia ?_ (by with_reducible assumption) ?_) | go_size))); have x0_v1 : v1.cell? ⟨w.heap.size, 0, none⟩ = some (.int .i64 x.fRead) := (hqv.cell (World.block_lt_of_cell? w6 _ x0)).trans x0; have x1_v1 : v1.cell? ⟨w.heap.size, 1, none⟩ = some (.string x.fReady) := (hqv.cell (World.block_lt_of_cell? w6 _ x1)).trans x1; have x2_v1 : v1.cell? ⟨w.heap.size, 2, none⟩ = some (.slice x.aList x.fList.length x.cList) := (hqv.cell (World.block_lt_of_cell? w6 _ x2)).trans x2; have y0_v1 : v1.cell? ⟨w4.heap.size, 0, none⟩ = some (.int .i64 x.fRead) := (hqv.cell (World.block_lt_of_cell? w6 _ y0)).trans y0; have y1_v1 : v1.cell? ⟨w4.heap.size, 1, none⟩ = some (.string x.fReady) := (hqv.cell (World.block_lt_of_cell? w6 _ y1)).trans y1; have y2_v1 : v1.cell? ⟨w4.heap.size, 2, none⟩ = some (.slice AX8 x.fList.length kX8) := (hqv.cell (World.block_lt_of_cell? w6 _ y2)).trans y2)
        | (go_at_call 19; refine (eqPieces_same _ _ _ _ _ _ x.fList _ (by exact (X8_6.out.rdv PieceD.cells_length).later (by (repeat' (first | (with_reducible exact Below.refl _ _) | (with_reducible assumption) | (with_reducible refine Below.alloc ?_ ?_ _) | (with_reducible refine Below.drew ?_) | (with_reducible refine below_drewN ?_ _) | (with_reducible refine Below.setCell ?_ ?_ _) | (with_reducible refine bvia ?_ (by with_reducible assumption) ?_) | go_size))) (Nat.le_refl _) (by first | omega | go_size)) (by exact Ov.rdv PieceD.cells_length) hm).mono ?_; rintro e w7 ⟨rfl, hb7⟩; have hzu := hb7.size; (try simp at hzu); have hqu : Below w6.heap.size w6 w7 := (by (repeat' (first | (with_reducible exact Below.refl _ _) | (with_reducible assumption) | (with_reducible refine Below.alloc ?_ ?_ _) | (with_reducible refine Below.drew ?_) | (with_reducible refine below_drewN ?_ _) | (with_reducible refine Below.setCell ?_ ?_ _) | (with_reducible refine bvia ?_ (by with_reducible assumption) ?_) | go_size))); have x0_w7 : w7.cell? ⟨w.heap.size, 0, none⟩ = some (.int .i64 x.fRead) := (hqu.cell (World.block_lt_of_cell? w6 _ x0)).trans x0; have x1_w7 : w7.cell? ⟨w.heap.size, 1, none⟩ = some (.string x.fReady) := (hqu.cell (World.block_lt_of_cell? w6 _ x1)).trans x1; have x2_w7 : w7.cell? ⟨w.heap.size, 2, none⟩ = some (.slice x.aList x.fList.length x.cList) := (hqu.cell (World.block_lt_of_cell? w6 _ x2)).trans x2; have y0_w7 : w7.cell? ⟨w4.heap.size, 0, none⟩ = some (.int .i64 x.fRead) := (hqu.cell (World.block_lt_of_cell? w6 _ y0)).trans y0; have y1_w7 : w7.cell? ⟨w4.heap.size, 1, none⟩ = some (.string x.fReady) := (hqu.cell (World.block_lt_of_cell? w6 _ y1)).trans y1; have y2_w7 : w7.cell? ⟨w4.heap.size, 2, none⟩ = some (.slice AX8 x.fList.length kX8) := (hqu.cell (World.block_lt_of_cell? w6 _ y2)).trans y2)
        | fail)
    clear lx ly x0 x0_v1 x0_w7 x1 x1_v1 x1_w7 x2 x2_v1 x2_w7 y0 y0_v1 y0_w7 y1 y1_v1 y1_w7 y2 y2_v1 y2_w7
    clear hb7
    have hb7 := hqu
    clear hqu
    have hq7 : Below w6.heap.size w6 w7 := (by (repeat' (first | (with_reducible exact Below.refl _ _) | (with_reducible assumption) | (with_reducible refine Below.alloc ?_ ?_ _) | (with_reducible refine Below.drew ?_) | (with_reducible refine below_drewN ?_ _) | (with_reducible refine Below.setCell ?_ ?_ _) | (with_reducible refine bvia ?_ (by with_reducible assumption) ?_) | go_size)))
    have hz7 := hq7.size
    have HA_7 : Hid (w7.heap[w.heap.size]? = _) := (hq7.block _ (Array.getElem?_eq_some_iff.1 HA_6.out).1).trans HA_6.out
    have H6_7 : Hid (w7.heap[w3.heap.size]? = _) := (hq7.block _ (Array.getElem?_eq_some_iff.1 H6_6.out).1).trans H6_6.out
    have H8_7 : Hid (w7.heap[w4.heap.size]? = _) := (hq7.block _ (Array.getElem?_eq_some_iff.1 H8_6.out).1).trans H8_6.out
    have H9_7 : Hid (w7.heap[w5.heap.size]? = _) := (hq7.block _ (Array.getElem?_eq_some_iff.1 H9_6.out).1).trans H9_6.out
    have X6_7 := Lib.hid (X6_6.out.later hq7 (Nat.le_refl _))
    have X8_7 := Lib.hid (X8_6.out.later hq7 (Nat.le_refl _))
    have X9_7 := Lib.hid (X9_6.out.later hq7 (Nat.le_refl _))
    have hB7 := hB6.trans (hq7.mono (by omega))
    clear hb7 hq7 hB6 HA_6 H6_6 H8_6 H9_6 X6_6 X8_6 X9_6
    have y0 : w7.cell? ⟨w4.heap.size, 0, none⟩ = some (.int .i64 x.fRead) := by rw [cell_of_row _ _ _ _ _ (0, 0) H8_7.out]; rfl
    have y1 : w7.cell? ⟨w4.heap.size, 1, none⟩ = some (.string x.fReady) := by rw [cell_of_row _ _ _ _ _ (0, 0) H8_7.out]; rfl
    have y2 : w7.cell? ⟨w4.heap.size, 2, none⟩ = some (.slice AX8 x.fList.length kX8) := by rw [cell_of_row _ _ _ _ _ (0, 0) H8_7.out]; rfl
    have ly := (Array.getElem?_eq_some_iff.1 H8_7.out).1
    go_wp2_with fail
    refine (markPieces_own x.fRead x.fReady AX8 kX8 x.fList _ 1 _ (X8_7.out) (by omega) (by omega) (by omega)).mono ?_
    rintro e w8 ⟨rfl, -, hg8⟩
    clear y0 y1 y2 ly
    obtain ⟨K, hK⟩ : ∃ K : Int, K = 1 + 2 * (x.fList.length : Int) := ⟨_, rfl⟩
    rw [← hK]
    have dK : decide (K < 0) = false := decide_eq_false (by omega)
    clear hK
    have hz8 := hg8.size
    have HA_8 : Hid (w8.heap[w.heap.size]? = _) := (hg8.block _ (Array.getElem?_eq_some_iff.1 HA_7.out).1 (fun hk => by have := hv_X8.out _ hk.symm; omega)).trans HA_7.out
    have H6_8 : Hid (w8.heap[w3.heap.size]? = _) := (hg8.block _ (Array.getElem?_eq_some_iff.1 H6_7.out).1 (fun hk => by have := hv_X8.out _ hk.symm; omega)).trans H6_7.out
    have H8_8 : Hid (w8.heap[w4.heap.size]? = _) := (hg8.block _ (Array.getElem?_eq_some_iff.1 H8_7.out).1 (fun hk => by have := hv_X8.out _ hk.symm; omega)).trans H8_7.out
    have H9_8 : Hid (w8.heap[w5.heap.size]? = _) := (hg8.block _ (Array.getElem?_eq_some_iff.1 H9_7.out).1 (fun hk => by have := hv_X8.out _ hk.symm; omega)).trans H9_7.out
    have X6_8 := Lib.hid (X6_7.out.grown hg8 (fun k h1 h2 => by have := hv_X8.out k h1; have := hv_X6.out k h2; omega))
    have X9_8 := Lib.hid (X9_7.out.grown hg8 (fun k h1 h2 => by have := hv_X8.out k h1; have := hv_X9.out k h2; omega))
    have hB8 : Below w.heap.size w w8 := hB7.grown hg8 (by omega) (fun k hk => by have := hv_X8.out k hk; omega)
    clear hg8 hB7 HA_7 H6_7 H8_7 H9_7 X6_7 X8_7 X9_7
    have z0 : w8.cell? ⟨w5.heap.size, 0, none⟩ = some (.int .i64 x.fRead) := by rw [cell_of_row _ _ _ _ _ (0, 0) H9_8.out]; rfl
    have z1 : w8.cell? ⟨w5.heap.size, 1, none⟩ = some (.string S) := by rw [cell_of_row _ _ _ _ _ (0, 0) H9_8.out]; rfl
    have z2 : w8.cell? ⟨w5.heap.size, 2, none⟩ = some (.slice AX9 L.length kX9) := by rw [cell_of_row _ _ _ _ _ (0, 0) H9_8.out]; rfl
    have lz := (Array.getElem?_eq_some_iff.1 H9_8.out).1
    have y0 : w8.cell? ⟨w3.heap.size, 0, none⟩ = some (.int .i64 x.fRead) := by rw [cell_of_row _ _ _ _ _ (0, 0) H6_8.out]; rfl
    have y1 : w8.cell? ⟨w3.heap.size, 1, none⟩ = some (.string S) := by rw [cell_of_row _ _ _ _ _ (0, 0) H6_8.out]; rfl
    have y2 : w8.cell? ⟨w3.heap.size, 2, none⟩ = some (.slice AX6 L.length kX6) := by rw [cell_of_row _ _ _ _ _ (0, 0) H6_8.out]; rfl
    have ly := (Array.getElem?_eq_some_iff.1 H6_8.out).1
    go_wp2_with fail
    refine (eqPieces_same _ _ _ _ _ _ L _ (by exact (X9_8.out.rdv PieceD.cells_length).later (by (repeat' (first | (with_reducible exact Below.refl _ _) | (with_reducible assumption) | (with_reducible refine Below.alloc ?_ ?_ _) | (with_reducible refine Below.drew ?_) | (with_reducible refine below_drewN ?_ _) | (with_reducible refine Below.setCell ?_ ?_ _) | (with_reducible refine bvia ?_ (by with_reducible assumption) ?_) | go_size))) (Nat.le_refl _) (by go_size)) (by exact (X6_8.out.rdv.wide (Nat.zero_le _) (Nat.le_refl _)).later (by (repeat' (first | (with_reducible exact Below.refl _ _) | (with_reducible assumption) | (with_reducible refine Below.alloc ?_ ?_ _) | (with_reducible refine Below.drew ?_) | (with_reducible refine below_drewN ?_ _) | (with_reducible refine Below.setCell ?_ ?_ _) | (with_reducible refine bvia ?_ (by with_reducible assumption) ?_) | go_size))) (Nat.le_refl _) (by go_size)) hmL).mono ?_
    rintro e w9 ⟨rfl, hb9⟩
    clear z0 z1 z2 y0 y1 y2 lz ly
    have hq9 : Below w8.heap.size w8 w9 := (by (repeat' (first | (with_reducible exact Below.refl _ _) | (with_reducible assumption) | (with_reducible refine Below.alloc ?_ ?_ _) | (with_reducible refine Below.drew ?_) | (with_reducible refine below_drewN ?_ _) | (with_reducible refine Below.setCell ?_ ?_ _) | (with_reducible refine bvia ?_ (by with_reducible assumption) ?_) | go_size)))
    have hz9 := hq9.size
    have HA_9 : Hid (w9.heap[w.heap.size]? = _) := (hq9.block _ (Array.getElem?_eq_some_iff.1 HA_8.out).1).trans HA_8.out
    have H6_9 : Hid (w9.heap[w3.heap.size]? = _) := (hq9.block _ (Array.getElem?_eq_some_iff.1 H6_8.out).1).trans H6_8.out
    have H8_9 : Hid (w9.heap[w4.heap.size]? = _) := (hq9.block _ (Array.getElem?_eq_some_iff.1 H8_8.out).1).trans H8_8.out
    have H9_9 : Hid (w9.heap[w5.heap.size]? = _) := (hq9.block _ (Array.getElem?_eq_some_iff.1 H9_8.out).1).trans H9_8.out
    have X6_9 := Lib.hid (X6_8.out.later hq9 (Nat.le_refl _))
    have X9_9 := Lib.hid (X9_8.out.later hq9 (Nat.le_refl _))
    have hB9 := hB8.trans (hq9.mono (by omega))
    clear hb9 hq9 hB8 HA_8 H6_8 H8_8 H9_8 X6_8 X9_8
    have z0 : w9.cell? ⟨w5.heap.size, 0, none⟩ = some (.int .i64 x.fRead) := by rw [cell_of_row _ _ _ _ _ (0, 0) H9_9.out]; rfl
    have z1 : w9.cell? ⟨w5.heap.size, 1, none⟩ = some (.string S) := by rw [cell_of_row _ _ _ _ _ (0, 0) H9_9.out]; rfl
    have z2 : w9.cell? ⟨w5.heap.size, 2, none⟩ = some (.slice AX9 L.length kX9) := by rw [cell_of_row _ _ _ _ _ (0, 0) H9_9.out]; rfl
    have lz := (Array.getElem?_eq_some_iff.1 H9_9.out).1
    go_wp2_with fail
    refine (markPieces_own x.fRead S AX9 kX9 L _ 1 _ (X9_9.out) (by omega) (by omega) (by omega)).mono ?_
    rintro e w10 ⟨rfl, Om, hg10⟩
    clear z0 z1 z2 lz
    obtain ⟨M, hM⟩ : ∃ M : Int, 1 + 2 * (L.length : Int) = M := ⟨_, rfl⟩
    rw [hM]
    have dM : decide (M < 0) = false := decide_eq_false (by omega)
    have HM := Lib.hid hM
    clear hM
    have hz10 := hg10.size
    have HA_10 : Hid (w10.heap[w.heap.size]? = _) := (hg10.block _ (Array.getElem?_eq_some_iff.1 HA_9.out).1 (fun hk => by have := hv_X9.out _ hk.symm; omega)).trans HA_9.out
    have H6_10 : Hid (w10.heap[w3.heap.size]? = _) := (hg10.block _ (Array.getElem?_eq_some_iff.1 H6_9.out).1 (fun hk => by have := hv_X9.out _ hk.symm; omega)).trans H6_9.out
    have H8_10 : Hid (w10.heap[w4.heap.size]? = _) := (hg10.block _ (Array.getElem?_eq_some_iff.1 H8_9.out).1 (fun hk => by have := hv_X9.out _ hk.symm; omega)).trans H8_9.out
    have H9_10 : Hid (w10.heap[w5.heap.size]? = _) := (hg10.block _ (Array.getElem?_eq_some_iff.1 H9_9.out).1 (fun hk => by have := hv_X9.out _ hk.symm; omega)).trans H9_9.out
    have X6_10 := Lib.hid (X6_9.out.grown hg10 (fun k h1 h2 => by have := hv_X9.out k h1; have := hv_X6.out k h2; omega))
    have hB10 : Below w.heap.size w w10 := hB9.grown hg10 (by omega) (fun k hk => by have := hv_X9.out k hk; omega)
    clear hg10 hB9 HA_9 H6_9 H8_9 H9_9 X6_9 X9_9
    have hv_Om : Hid _ := hv_X9
    have Om_10 := Lib.hid Om
    clear Om
    have z0 : w10.cell? ⟨w5.heap.size, 0, none⟩ = some (.int .i64 x.fRead) := by rw [cell_of_row _ _ _ _ _ (0, 0) H9_10.out]; rfl
    have z1 : w10.cell? ⟨w5.heap.size, 1, none⟩ = some (.string S) := by rw [cell_of_row _ _ _ _ _ (0, 0) H9_10.out]; rfl
    have z2 : w10.cell? ⟨w5.heap.size, 2, none⟩ = some (.slice AX9 L.length kX9) := by rw [cell_of_row _ _ _ _ _ (0, 0) H9_10.out]; rfl
    have lz := (Array.getElem?_eq_some_iff.1 H9_10.out).1
    go_wp2_with fail
    refine (heldPieces_any x.fRead S AX9 L.length kX9 1 _ 0 (by exact rdm Om_10.out) (by omega) (by omega) (by omega)).mono ?_
    rintro e w11 ⟨rfl, hb11⟩
    rw [HM.out]
    clear z0 z1 z2 lz
    have hq11 : Below w10.heap.size w10 w11 := (by (repeat' (first | (with_reducible exact Below.refl _ _) | (with_reducible assumption) | (with_reducible refine Below.alloc ?_ ?_ _) | (with_reducible refine Below.drew ?_) | (with_reducible refine below_drewN ?_ _) | (with_reducible refine Below.setCell ?_ ?_ _) | (with_reducible refine bvia ?_ (by with_reducible assumption) ?_) | go_size)))
    have hz11 := hq11.size
    have HA_11 : Hid (w11.heap[w.heap.size]? = _) := (hq11.block _ (Array.getElem?_eq_some_iff.1 HA_10.out).1).trans HA_10.out
    have H6_11 : Hid (w11.heap[w3.heap.size]? = _) := (hq11.block _ (Array.getElem?_eq_some_iff.1 H6_10.out).1).trans H6_10.out
    have H8_11 : Hid (w11.heap[w4.heap.size]? = _) := (hq11.block _ (Array.getElem?_eq_some_iff.1 H8_10.out).1).trans H8_10.out
    have H9_11 : Hid (w11.heap[w5.heap.size]? = _) := (hq11.block _ (Array.getElem?_eq_some_iff.1 H9_10.out).1).trans H9_10.out
    have X6_11 := Lib.hid (X6_10.out.later hq11 (Nat.le_refl _))
    have Om_11 := Lib.hid (Om_10.out.later hq11 (Nat.le_refl _))
    have hB11 := hB10.trans (hq11.mono (by omega))
    clear hb11 hq11 hB10 HA_10 H6_10 H8_10 H9_10 X6_10 Om_10
    have x0 : w11.cell? ⟨w.heap.size, 0, none⟩ = some (.int .i64 x.fRead) := by rw [cell_of_row _ _ _ _ _ (0, 0) HA_11.out]; rfl
    have x1 : w11.cell? ⟨w.heap.size, 1, none⟩ = some (.string x.fReady) := by rw [cell_of_row _ _ _ _ _ (0, 0) HA_11.out]; rfl
    have x2 : w11.cell? ⟨w.heap.size, 2, none⟩ = some (.slice x.aList x.fList.length x.cList) := by rw [cell_of_row _ _ _ _ _ (0, 0) HA_11.out]; rfl
    have lx := (Array.getElem?_eq_some_iff.1 HA_11.out).1
    go_wp2_with fail
    refine (toPieces_any x.fRead x.fReady x.aList x.cList x.fList _ (by exact hR.later (by (repeat' (first | (with_reducible exact Below.refl _ _) | (with_reducible assumption) | (with_reducible refine Below.alloc ?_ ?_ _) | (with_reducible refine Below.drew ?_) | (with_reducible refine below_drewN ?_ _) | (with_reducible refine Below.setCell ?_ ?_ _) | (with_reducible refine bvia ?_ (by with_reducible assumption) ?_) | go_size))) (Nat.le_refl _) (by go_size)) (by omega)).mono ?_
    rintro e w12 ⟨AX1, kX1, rfl, O12, hb12⟩
    clear x0 x1 x2 lx
    have hv_X1 : Hid (∀ k, (Value.slice AX1 _ kX1).ownBlock = some k → w11.heap.size ≤ k ∧ k < w12.heap.size) := fun k hk => by have h9 := O12.lt hk; (try simp at h9); omega
    have X1_12 := Lib.hid O12
    clear O12
    have hq12 : Below w11.heap.size w11 w12 := (by (repeat' (first | (with_reducible exact Below.refl _ _) | (with_reducible assumption) | (with_reducible refine Below.alloc ?_ ?_ _) | (with_reducible refine Below.drew ?_) | (with_reducible refine below_drewN ?_ _) | (with_reducible refine Below.setCell ?_ ?_ _) | (with_reducible refine bvia ?_ (by with_reducible assumption) ?_) | go_size)))
    have hz12 := hq12.size
    have HA_12 : Hid (w12.heap[w.heap.size]? = _) := (hq12.block _ (Array.getElem?_eq_some_iff.1 HA_11.out).1).trans HA_11.out
    have H6_12 : Hid (w12.heap[w3.heap.size]? = _) := (hq12.block _ (Array.getElem?_eq_some_iff.1 H6_11.out).1).trans H6_11.out
    have H8_12 : Hid (w12.heap[w4.heap.size]? = _) := (hq12.block _ (Array.getElem?_eq_some_iff.1 H8_11.out).1).trans H8_11.out
    have H9_12 : Hid (w12.heap[w5.heap.size]? = _) := (hq12.block _ (Array.getElem?_eq_some_iff.1 H9_11.out).1).trans H9_11.out
    have X6_12 := Lib.hid (X6_11.out.later hq12 (Nat.le_refl _))
    have Om_12 := Lib.hid (Om_11.out.later hq12 (Nat.le_refl _))
    have hB12 := hB11.trans (hq12.mono (by omega))
    clear hb12 hq12 hB11 HA_11 H6_11 H8_11 H9_11 X6_11 Om_11
    go_wp2_with fail
    refine (IF.out AX1 kX1 _ (by exact (X1_12.out.rdv PieceD.cells_length).later (by (repeat' (first | (with_reducible exact Below.refl _ _) | (with_reducible assumption) | (with_reducible refine Below.alloc ?_ ?_ _) | (with_reducible refine Below.drew ?_) | (with_reducible refine below_drewN ?_ _) | (with_reducible refine Below.setCell ?_ ?_ _) | (with_reducible refine bvia ?_ (by with_reducible assumption) ?_) | go_size))) (Nat.le_refl _) (by go_size))).mono ?_
    rintro e w13 ⟨AX14, kX14, rfl, O13, hb13⟩
    have hv_X14 : Hid (∀ k, (Value.slice AX14 _ kX14).ownBlock = some k → w12.heap.size ≤ k ∧ k < w13.heap.size) := fun k hk => by have h9 := O13.lt hk; (try simp at h9); omega
    have X14_13 := Lib.hid O13
    clear O13
    have hq13 : Below w12.heap.size w12 w13 := (by (repeat' (first | (with_reducible exact Below.refl _ _) | (with_reducible assumption) | (with_reducible refine Below.alloc ?_ ?_ _) | (with_reducible refine Below.drew ?_) | (with_reducible refine below_drewN ?_ _) | (with_reducible refine Below.setCell ?_ ?_ _) | (with_reducible refine bvia ?_ (by with_reducible assumption) ?_) | go_size)))
    have hz13 := hq13.size
    have HA_13 : Hid (w13.heap[w.heap.size]? = _) := (hq13.block _ (Array.getElem?_eq_some_iff.1 HA_12.out).1).trans HA_12.out
    have H6_13 : Hid (w13.heap[w3.heap.size]? = _) := (hq13.block _ (Array.getElem?_eq_some_iff.1 H6_12.out).1).trans H6_12.out
    have H8_13 : Hid (w13.heap[w4.heap.size]? = _) := (hq13.block _ (Array.getElem?_eq_some_iff.1 H8_12.out).1).trans H8_12.out
    have H9_13 : Hid (w13.heap[w5.heap.size]? = _) := (hq13.block _ (Array.getElem?_eq_some_iff.1 H9_12.out).1).trans H9_12.out
    have X6_13 := Lib.hid (X6_12.out.later hq13 (Nat.le_refl _))
    have Om_13 := Lib.hid (Om_12.out.later hq13 (Nat.le_refl _))
    have X1_13 := Lib.hid (X1_12.out.later hq13 (Nat.le_refl _))
    have hB13 := hB12.trans (hq13.mono (by omega))
    clear hb13 hq13 hB12 HA_12 H6_12 H8_12 H9_12 X6_12 Om_12 X1_12
    clear X1_13
    have y0 : w13.cell? ⟨w3.heap.size, 0, none⟩ = some (.int .i64 x.fRead) := by rw [cell_of_row _ _ _ _ _ (0, 0) H6_13.out]; rfl
    have y1 : w13.cell? ⟨w3.heap.size, 1, none⟩ = some (.string S) := by rw [cell_of_row _ _ _ _ _ (0, 0) H6_13.out]; rfl
    have y2 : w13.cell? ⟨w3.heap.size, 2, none⟩ = some (.slice AX6 L.length kX6) := by rw [cell_of_row _ _ _ _ _ (0, 0) H6_13.out]; rfl
    have ly := (Array.getElem?_eq_some_iff.1 H6_13.out).1
    go_wp2_with fail
    refine (eqPieces_same _ _ _ _ _ _ L _ (by exact (X14_13.out.rdv PieceD.cells_length).later (by (repeat' (first | (with_reducible exact Below.refl _ _) | (with_reducible assumption) | (with_reducible refine Below.alloc ?_ ?_ _) | (with_reducible refine Below.drew ?_) | (with_reducible refine below_drewN ?_ _) | (with_reducible refine Below.setCell ?_ ?_ _) | (with_reducible refine bvia ?_ (by with_reducible assumption) ?_) | go_size))) (Nat.le_refl _) (by go_size)) (by exact (X6_13.out.rdv.wide (Nat.zero_le _) (Nat.le_refl _)).later (by (repeat' (first | (with_reducible exact Below.refl _ _) | (with_reducible assumption) | (with_reducible refine Below.alloc ?_ ?_ _) | (with_reducible refine Below.drew ?_) | (with_reducible refine below_drewN ?_ _) | (with_reducible refine Below.setCell ?_ ?_ _) | (with_reducible refine bvia ?_ (by with_reducible assumption) ?_) | go_size))) (Nat.le_refl _) (by go_size)) hmL).mono ?_
    rintro e w14 ⟨rfl, hb14⟩
    clear y0 y1 y2 ly
    have H14_14 : Hid (w14.heap[w13.heap.size]? = some (.cells #[.int .i64 x.fRead, .string S, .slice AX14 L.length kX14] 26 (0, 0))) := (hb14.block w13.heap.size (by simp)).trans (heap_alloc_new w13 _)
    have hq14 : Below w13.heap.size w13 w14 := (by (repeat' (first | (with_reducible exact Below.refl _ _) | (with_reducible assumption) | (with_reducible refine Below.alloc ?_ ?_ _) | (with_reducible refine Below.drew ?_) | (with_reducible refine below_drewN ?_ _) | (with_reducible refine Below.setCell ?_ ?_ _) | (with_reducible refine bvia ?_ (by with_reducible assumption) ?_) | go_size)))
    have hz14 := hq14.size
    have hy14 : w13.heap.size + 1 ≤ w14.heap.size := by have := hb14.size; simpa using this
    have HA_14 : Hid (w14.heap[w.heap.size]? = _) := (hq14.block _ (Array.getElem?_eq_some_iff.1 HA_13.out).1).trans HA_13.out
    have H6_14 : Hid (w14.heap[w3.heap.size]? = _) := (hq14.block _ (Array.getElem?_eq_some_iff.1 H6_13.out).1).trans H6_13.out
    have H8_14 : Hid (w14.heap[w4.heap.size]? = _) := (hq14.block _ (Array.getElem?_eq_some_iff.1 H8_13.out).1).trans H8_13.out
    have H9_14 : Hid (w14.heap[w5.heap.size]? = _) := (hq14.block _ (Array.getElem?_eq_some_iff.1 H9_13.out).1).trans H9_13.out
    have X6_14 := Lib.hid (X6_13.out.later hq14 (Nat.le_refl _))
    have Om_14 := Lib.hid (Om_13.out.later hq14 (Nat.le_refl _))
    have X14_14 := Lib.hid (X14_13.out.later hq14 (Nat.le_refl _))
    have hB14 := hB13.trans (hq14.mono (by omega))
    clear hb14 hq14 hB13 HA_13 H6_13 H8_13 H9_13 X6_13 Om_13 X14_13
    have z0 : w14.cell? ⟨w5.heap.size, 0, none⟩ = some (.int .i64 x.fRead) := by rw [cell_of_row _ _ _ _ _ (0, 0) H9_14.out]; rfl
    have z1 : w14.cell? ⟨w5.heap.size, 1, none⟩ = some (.string S) := by rw [cell_of_row _ _ _ _ _ (0, 0) H9_14.out]; rfl
    have z2 : w14.cell? ⟨w5.heap.size, 2, none⟩ = some (.slice AX9 L.length kX9) := by rw [cell_of_row _ _ _ _ _ (0, 0) H9_14.out]; rfl
    have lz := (Array.getElem?_eq_some_iff.1 H9_14.out).1
    go_wp2_with fail
    refine (heldPieces_any x.fRead S AX9 L.length kX9 1 _ 0 (by exact rdm Om_14.out) (by omega) (by omega) (by omega)).mono ?_
    rintro e w15 ⟨rfl, hb15⟩
    rw [HM.out]
    clear z0 z1 z2 lz
    have hq15 : Below w14.heap.size w14 w15 := (by (repeat' (first | (with_reducible exact Below.refl _ _) | (with_reducible assumption) | (with_reducible refine Below.alloc ?_ ?_ _) | (with_reducible refine Below.drew ?_) | (with_reducible refine below_drewN ?_ _) | (with_reducible refine Below.setCell ?_ ?_ _) | (with_reducible refine bvia ?_ (by with_reducible assumption) ?_) | go_size)))
    have hz15 := hq15.size
    have HA_15 : Hid (w15.heap[w.heap.size]? = _) := (hq15.block _ (Array.getElem?_eq_some_iff.1 HA_14.out).1).trans HA_14.out
    have H6_15 : Hid (w15.heap[w3.heap.size]? = _) := (hq15.block _ (Array.getElem?_eq_some_iff.1 H6_14.out).1).trans H6_14.out
    have H8_15 : Hid (w15.heap[w4.heap.size]? = _) := (hq15.block _ (Array.getElem?_eq_some_iff.1 H8_14.out).1).trans H8_14.out
    have H9_15 : Hid (w15.heap[w5.heap.size]? = _) := (hq15.block _ (Array.getElem?_eq_some_iff.1 H9_14.out).1).trans H9_14.out
    have H14_15 : Hid (w15.heap[w13.heap.size]? = _) := (hq15.block _ (Array.getElem?_eq_some_iff.1 H14_14.out).1).trans H14_14.out
    have X6_15 := Lib.hid (X6_14.out.later hq15 (Nat.le_refl _))
    have Om_15 := Lib.hid (Om_14.out.later hq15 (Nat.le_refl _))
    have X14_15 := Lib.hid (X14_14.out.later hq15 (Nat.le_refl _))
    have hB15 := hB14.trans (hq15.mono (by omega))
    clear hb15 hq15 hB14 HA_14 H6_14 H8_14 H9_14 H14_14 X6_14 Om_14 X14_14
    go_wp2
    go_ret
    exact ⟨rfl, hB15⟩
  · have hv : Hid (szP 1048576 x.fReady x.fList = -1) := if_neg h
    go_enter Try.func4, Try.ntmps4
    go_wp2_with fail
    refine (szPieces_any x.fRead x.fReady x.aList _ x.fList 1048576 _ (by exact hR.later (by (repeat' (first | (with_reducible exact Below.refl _ _) | (with_reducible assumption) | (with_reducible refine Below.alloc ?_ ?_ _) | (with_reducible refine Below.drew ?_) | (with_reducible refine below_drewN ?_ _) | (with_reducible refine Below.setCell ?_ ?_ _) | (with_reducible refine bvia ?_ (by with_reducible assumption) ?_) | go_size))) (Nat.le_refl _) (by go_size)) hs0 hm ht (by omega) (by omega)).mono ?_
    rintro e w1 ⟨rfl, hb1⟩
    obtain ⟨hc, hf⟩ := bcell hb1
    have hc1_0 := fun o => hc (w.heap.size) o (by go_size)
    have hf1_0 := fun o => hf (w.heap.size) o (by go_size)
    have hz1_0 : w.heap.size < w1.heap.size := Nat.lt_of_lt_of_le (by go_size) hb1.size
    clear hc hf
    have hz1 := hb1.size
    try simp at hz1
    rw [hv.out]
    go_wp2
    go_ret
    exact ⟨rfl, by (repeat' (first | (with_reducible exact Below.refl _ _) | (with_reducible assumption) | (with_reducible refine Below.alloc ?_ ?_ _) | (with_reducible refine Below.drew ?_) | (with_reducible refine below_drewN ?_ _) | (with_reducible refine Below.setCell ?_ ?_ _) | (with_reducible refine bvia ?_ (by with_reducible assumption) ?_) | go_size))⟩
end Go.Proofs.Ytpjbnfpadbknpaa
