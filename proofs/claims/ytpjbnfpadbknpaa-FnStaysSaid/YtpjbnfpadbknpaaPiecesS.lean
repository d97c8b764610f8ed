/- toPieces, szPieces, eqPieces: for every argument. Written by program (pieces1.py). -/
import Derived.Test.YtpjbnfpadbknpaaPieceS
import Derived.Test.YtpjbnfpadbknpaaVal
namespace Go.Proofs.Ytpjbnfpadbknpaa
set_option linter.unusedSimpArgs false
set_option linter.unusedVariables false
open Go.RowKit

/-- A Pieces by value. -/
abbrev pv (r : Int) (s : ByteArray) (A : Option Addr) (n cap : Nat) : Value := .agg #[.int .i64 r, .string s, .slice A n cap]
/-- What szPieces leaves of a budget. -/
def szP (l : Int) (s : ByteArray) (L : List PieceD) : Int := szI l (s.size + L.length + sumT L : Nat)
set_option maxHeartbeats 1000000 in
theorem szPieces_any (r : Int) (s : ByteArray) (A : Option Addr) (cap : Nat) (L : List PieceD) (l : Int) (w : World) (hr : Rd PieceD.cells 2 w 0 w.heap.size A L) (hs : s.size ≤ maxLen) (hm : L.length ≤ maxLen) (ht : ∀ x ∈ L, x.fText.size ≤ maxLen) (h0 : 0 ≤ l) (h1 : l ≤ 1048576) :
    Calls Try.prog 17 #[pv r s A L.length cap, .int .i64 l] w fun e w' => e = .returned (.int .i64 (szP l s L)) ∧ Below w.heap.size w w' := by
  unfold maxLen at hs
  by_cases h : (s.size : Int) ≤ l
  · by_cases h2 : ((L.length + sumT L : Nat) : Int) ≤ l - s.size
    · have e2 : Hid (szI (l - s.size) (L.length + sumT L : Nat) = l - s.size - (L.length + sumT L : Nat)) := if_pos h2
      have ev : Hid (szP l s L = l - s.size - (L.length + sumT L : Nat)) := by unfold Hid szP szI; rw [if_pos (by omega)]; omega
      obtain ⟨z, hz⟩ : ∃ z : Int, l - s.size - (L.length + sumT L : Nat) = z := ⟨_, rfl⟩
      have hz0 : 0 ≤ z := by omega
      rw [hz] at e2 ev
      clear hz
      go_enter Try.func17, Try.ntmps17
      go_wp2_with fail
      refine (szPieceS_any A cap L (l - s.size) _ (by exact hr.later (by (repeat' (first | (with_reducible exact Below.refl _ _) | (with_reducible assumption) | (with_reducible refine Below.alloc ?_ ?_ _) | (with_reducible refine Below.drew ?_) | (with_reducible refine below_drewN ?_ _) | (with_reducible refine Below.setCell ?_ ?_ _) | (with_reducible refine bvia ?_ (by with_reducible assumption) ?_) | go_size))) (Nat.le_refl _) (by go_size)) hm ht (by omega) (by omega)).mono ?_
      rintro e w1 ⟨rfl, hb1⟩
      rw [e2.out]
      go_wp2
      go_ret
      exact ⟨ret_int ev.out.symm, by (repeat' (first | (with_reducible exact Below.refl _ _) | (with_reducible assumption) | (with_reducible refine Below.alloc ?_ ?_ _) | (with_reducible refine Below.drew ?_) | (with_reducible refine below_drewN ?_ _) | (with_reducible refine Below.setCell ?_ ?_ _) | (with_reducible refine bvia ?_ (by with_reducible assumption) ?_) | go_size))⟩
    · have e2 : Hid (szI (l - s.size) (L.length + sumT L : Nat) = -1) := if_neg h2
      have ev : Hid (szP l s L = -1) := by unfold Hid szP szI; rw [if_neg (by omega)]
      go_enter Try.func17, Try.ntmps17
      go_wp2_with fail
      refine (szPieceS_any A cap L (l - s.size) _ (by exact hr.later (by (repeat' (first | (with_reducible exact Below.refl _ _) | (with_reducible assumption) | (with_reducible refine Below.alloc ?_ ?_ _) | (with_reducible refine Below.drew ?_) | (with_reducible refine below_drewN ?_ _) | (with_reducible refine Below.setCell ?_ ?_ _) | (with_reducible refine bvia ?_ (by with_reducible assumption) ?_) | go_size))) (Nat.le_refl _) (by go_size)) hm ht (by omega) (by omega)).mono ?_
      rintro e w1 ⟨rfl, hb1⟩
      rw [e2.out]
      go_wp2
      go_ret
      exact ⟨ret_int ev.out.symm, by (repeat' (first | (with_reducible exact Below.refl _ _) | (with_reducible assumption) | (with_reducible refine Below.alloc ?_ ?_ _) | (with_reducible refine Below.drew ?_) | (with_reducible refine below_drewN ?_ _) | (with_reducible refine Below.setCell ?_ ?_ _) | (with_reducible refine bvia ?_ (by with_reducible assumption) ?_) | go_size))⟩
  · have ev : Hid (szP l s L = -1) := by unfold Hid szP szI; rw [if_neg (by omega)]
    go_enter Try.func17, Try.ntmps17
    go_wp2
    go_ret
    exact ⟨ret_int ev.out.symm, by (repeat' (first | (with_reducible exact Below.refl _ _) | (with_reducible assumption) | (with_reducible refine Below.alloc ?_ ?_ _) | (with_reducible refine Below.drew ?_) | (with_reducible refine below_drewN ?_ _) | (with_reducible refine Below.setCell ?_ ?_ _) | (with_reducible refine bvia ?_ (by with_reducible assumption) ?_) | go_size))⟩
/-- A call handed back a Pieces in new memory that reads so; nothing that was there has changed. -/
def RetPs (w : World) (r : Int) (s : ByteArray) (L : List PieceD) (f : Value → Value) (e : Ending) (w' : World) : Prop :=
  ∃ A cap, e = .returned (f (pv r s A L.length cap)) ∧ Own w' w.heap.size 44 PieceD.cells 2 (.slice A L.length cap) L ∧ Below w.heap.size w w'
set_option maxHeartbeats 1000000 in
theorem toPieces_any (r : Int) (s : ByteArray) (A : Option Addr) (cap : Nat) (L : List PieceD) (w : World) (hr : Rd PieceD.cells 2 w 0 w.heap.size A L) (hn : L.length ≤ 1048576) :
    Calls Try.prog 18 #[pv r s A L.length cap] w (RetPs w r s L fun v => v) := by
  go_enter Try.func18, Try.ntmps18
  go_wp2_with fail
  refine (toPieceS_any A cap L _ (by exact hr.later (by (repeat' (first | (with_reducible exact Below.refl _ _) | (with_reducible assumption) | (with_reducible refine Below.alloc ?_ ?_ _) | (with_reducible refine Below.drew ?_) | (with_reducible refine below_drewN ?_ _) | (with_reducible refine Below.setCell ?_ ?_ _) | (with_reducible refine bvia ?_ (by with_reducible assumption) ?_) | go_size))) (Nat.le_refl _) (by go_size)) hn).mono ?_
  rintro e w1 ⟨rfl, F1, hb1⟩
  obtain ⟨hc, hf⟩ := bcell hb1
  have hc1_0 := fun o => hc (w.heap.size) o (by go_size)
  have hf1_0 := fun o => hf (w.heap.size) o (by go_size)
  have hz1_0 : w.heap.size < w1.heap.size := Nat.lt_of_lt_of_le (by go_size) hb1.size
  have hc1_1 := fun o => hc (w.heap.size + 1) o (by go_size)
  have hf1_1 := fun o => hf (w.heap.size + 1) o (by go_size)
  have hz1_1 : w.heap.size + 1 < w1.heap.size := Nat.lt_of_lt_of_le (by go_size) hb1.size
  have hc1_2 := fun o => hc (w.heap.size + 2) o (by go_size)
  have hf1_2 := fun o => hf (w.heap.size + 2) o (by go_size)
  have hz1_2 : w.heap.size + 2 < w1.heap.size := Nat.lt_of_lt_of_le (by go_size) hb1.size
  clear hc hf
  have hz1 := hb1.size
  try simp at hz1
  have hl := (Array.getElem?_eq_some_iff.1 F1).1
  simp only [World.size_alloc, World.size_setCell] at F1 hl
  have HF := Lib.hid F1
  clear F1
  go_wp2
  refine bodyPost_ret (v := pv r s (some ⟨w.heap.size + 1 + 1 + 1, 0, none⟩) L.length L.length) (by simp [results, Try.results18, go_sem, *]) rfl ?_
  refine ⟨_, _, rfl, ?_, by (repeat' (first | (with_reducible exact Below.refl _ _) | (with_reducible assumption) | (with_reducible refine Below.alloc ?_ ?_ _) | (with_reducible refine Below.drew ?_) | (with_reducible refine below_drewN ?_ _) | (with_reducible refine Below.setCell ?_ ?_ _) | (with_reducible refine bvia ?_ (by with_reducible assumption) ?_) | go_size))⟩
  exact Own.fresh PieceD.cells_length (by omega) (by unfold maxLen; omega) (((show Touch w.heap.size (w.heap.size + 1 + 1 + 1) w1 _ by (repeat' (first | (with_reducible exact Touch.refl _ _ _) | (with_reducible assumption) | (with_reducible refine Touch.alloc ?_ _) | (with_reducible refine Touch.drew ?_) | (with_reducible refine Touch.drewN ?_ _) | (with_reducible refine Touch.setCell ?_ ?_ ?_ _) | (with_reducible refine Touch.via ?_ (by with_reducible assumption)) | go_size))).block _ hl (.inr (by omega))).trans HF.out)
theorem eqPieces_same (r : Int) (s : ByteArray) (A B : Option Addr) (ca cb : Nat) (L : List PieceD) (w : World) (hr : Rd PieceD.cells 2 w 0 w.heap.size A L) (hr2 : Rd PieceD.cells 2 w 0 w.heap.size B L) (hn : L.length ≤ maxLen) :
    Calls Try.prog 19 #[pv r s A L.length ca, pv r s B L.length cb] w fun e w' => e = .returned (.bool true) ∧ Below w.heap.size w w' := by
  go_enter Try.func19, Try.ntmps19
  go_wp2_with fail
  refine (eqPieceS_same _ _ _ _ L _ (by exact hr.later (by (repeat' (first | (with_reducible exact Below.refl _ _) | (with_reducible assumption) | (with_reducible refine Below.alloc ?_ ?_ _) | (with_reducible refine Below.drew ?_) | (with_reducible refine below_drewN ?_ _) | (with_reducible refine Below.setCell ?_ ?_ _) | (with_reducible refine bvia ?_ (by with_reducible assumption) ?_) | go_size))) (Nat.le_refl _) (by go_size)) (by exact hr2.later (by (repeat' (first | (with_reducible exact Below.refl _ _) | (with_reducible assumption) | (with_reducible refine Below.alloc ?_ ?_ _) | (with_reducible refine Below.drew ?_) | (with_reducible refine below_drewN ?_ _) | (with_reducible refine Below.setCell ?_ ?_ _) | (with_reducible refine bvia ?_ (by with_reducible assumption) ?_) | go_size))) (Nat.le_refl _) (by go_size)) hn).mono ?_
  rintro e w1 ⟨rfl, hb1⟩
  go_wp2
  go_ret
  exact ⟨rfl, by (repeat' (first | (with_reducible exact Below.refl _ _) | (with_reducible assumption) | (with_reducible refine Below.alloc ?_ ?_ _) | (with_reducible refine Below.drew ?_) | (with_reducible refine below_drewN ?_ _) | (with_reducible refine Below.setCell ?_ ?_ _) | (with_reducible refine bvia ?_ (by with_reducible assumption) ?_) | go_size))⟩
end Go.Proofs.Ytpjbnfpadbknpaa
