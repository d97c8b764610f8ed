/- The early ways out of the reference's PutPiece. Written by program (sput.py). -/
import Derived.Test.YtpjbnfpadbknpaaSPutBox
namespace Go.Proofs.Ytpjbnfpadbknpaa
set_option linter.unusedSimpArgs false
set_option linter.unusedVariables false
open Go.RowKit
set_option maxRecDepth 100000 in
set_option maxHeartbeats 8000000 in
theorem sPutPiece_no (r : Int) (s : ByteArray) (A : Option Addr) (cap : Nat) (L : List PieceD) (a : Int) (t : ByteArray) (w : World) (hr : Rd PieceD.cells 2 w 0 w.heap.size A L) (hs : s.size + sumT L ≤ 4611686018427387904) (hm : L.length ≤ 4294967296) (ht : t.size ≤ 1048576) (h3 : put3 r s L a t = false) :
    Calls Try.prog 14 #[pv r s A L.length cap, .int .i64 a, .string t] w (RetRd w r (putV r s L a t).1 (putV r s L a t).2 fun v => v) := by
  have hmm : L.length ≤ maxLen := by unfold maxLen; omega
  have hv := Lib.hid (put3_no h3)
  cases q1 : piecesOk r s L with
  | false =>
    go_enter Try.func14, Try.ntmps14
    go_wp2_with fail
    refine (sCopyPieces r s A cap L _ (by exact hr.later (by (repeat' (first | (with_reducible exact Below.refl _ _) | (with_reducible assumption) | (with_reducible refine Below.alloc ?_ ?_ _) | (with_reducible refine Below.drew ?_) | (with_reducible refine below_drewN ?_ _) | (with_reducible refine Below.setCell ?_ ?_ _) | (with_reducible refine bvia ?_ (by with_reducible assumption) ?_) | go_size))) (Nat.le_refl _) (by go_size)) hm).mono ?_
    rintro e w1 ⟨As, ks, rfl, O1, hb1⟩
    obtain ⟨hc, hf⟩ := bcell hb1
    have hc1_0 := fun o => hc (w.heap.size) o (by go_size)
    have hf1_0 := fun o => hf (w.heap.size) o (by go_size)
    have hz1_0 : w.heap.size < w1.heap.size := Nat.lt_of_lt_of_le (by go_size) hb1.size
    have hc1_1 := fun o => hc (w.heap.size + 1) o (by go_size)
    have hf1_1 := fun o => hf (w.heap.size + 1) o (by go_size)
    have hz1_1 : w.heap.size + 1 < w1.heap.size := Nat.lt_of_lt_of_le (by go_size) hb1.size
    clear hc hf
    have hz1 := hb1.size
    try simp at hz1
    go_wp2_with fail
    refine (sPiecesOk r s A cap L _ (by exact hr.later (by (repeat' (first | (with_reducible exact Below.refl _ _) | (with_reducible assumption) | (with_reducible refine Below.alloc ?_ ?_ _) | (with_reducible refine Below.drew ?_) | (with_reducible refine below_drewN ?_ _) | (with_reducible refine Below.setCell ?_ ?_ _) | (with_reducible refine bvia ?_ (by with_reducible assumption) ?_) | go_size))) (Nat.le_refl _) (by go_size)) hs hmm).mono ?_
    rintro e w2 ⟨rfl, hb2⟩
    obtain ⟨hc, hf⟩ := bcell hb2
    have hc2_0 := fun o => hc (w.heap.size) o (by go_size)
    have hf2_0 := fun o => hf (w.heap.size) o (by go_size)
    have hz2_0 : w.heap.size < w2.heap.size := Nat.lt_of_lt_of_le (by go_size) hb2.size
    have hc2_1 := fun o => hc (w.heap.size + 1) o (by go_size)
    have hf2_1 := fun o => hf (w.heap.size + 1) o (by go_size)
    have hz2_1 : w.heap.size + 1 < w2.heap.size := Nat.lt_of_lt_of_le (by go_size) hb2.size
    have hc2_2 := fun o => hc (w1.heap.size) o (by go_size)
    have hf2_2 := fun o => hf (w1.heap.size) o (by go_size)
    have hz2_2 : w1.heap.size < w2.heap.size := Nat.lt_of_lt_of_le (by go_size) hb2.size
    clear hc hf
    have hz2 := hb2.size
    try simp at hz2
    rw [q1]
    dsimp only
    go_step
    refine wpList_world _ (SA w w1.heap.size r s (.slice A L.length cap) As ks L) ⟨by (repeat' (first | (with_reducible exact Below.refl _ _) | (with_reducible assumption) | (with_reducible refine Below.alloc ?_ ?_ _) | (with_reducible refine Below.drew ?_) | (with_reducible refine below_drewN ?_ _) | (with_reducible refine Below.setCell ?_ ?_ _) | (with_reducible refine bvia ?_ (by with_reducible assumption) ?_) | go_size)), by omega, by omega, by simp [go_sem, hc2_0, hc1_0, calP, hz1_0], by simp [go_sem, hc2_0, hc1_0, calP, hz1_0], by simp [go_sem, hc2_0, hc1_0, calP, hz1_0], by simp [go_sem, hc2_1, hc1_1, calP, hz1_1, hz1_0], by simp [go_sem, hc2_1, hc1_1, calP, hz1_1, hz1_0], by simp [go_sem, hc2_1, hc1_1, calP, hz1_1, hz1_0], fun o => by simp [go_sem, hf2_1, hf1_1, falP, hz1_1, hz1_0], by simp [go_sem, hc2_2], by simp [go_sem, hc2_2], by simp [go_sem, hc2_2], ((O1.toO PieceD.cells_length).later (by (repeat' (first | (with_reducible exact Below.refl _ _) | (with_reducible assumption) | (with_reducible refine Below.alloc ?_ ?_ _) | (with_reducible refine Below.drew ?_) | (with_reducible refine below_drewN ?_ _) | (with_reducible refine Below.setCell ?_ ?_ _) | (with_reducible refine bvia ?_ (by with_reducible assumption) ?_) | go_size)) : Below w1.heap.size w1 w2) (Nat.le_refl _)).up (by simp), fun k hk => (O1.lt hk).2⟩ ?_
    clear hc1_0 hc1_1 hf1_0 hf1_1 hc2_0 hc2_1 hc2_2 hf2_0 hf2_1 hf2_2 hb1 hb2
    intro W hW
    obtain ⟨bs, hbs⟩ : ∃ bs, w1.heap.size = bs := ⟨_, rfl⟩
    rw [hbs] at hW
    rw [hbs]
    have HS := Lib.hid hW
    have hWz := hW.hlt
    have hlo := hW.hlo
    clear hbs hW hz1 hz2 hz1_0 hz1_1 hz2_0 hz2_1 hz2_2 O1 w1 w2
    go_upto_if 29 with (fail)
    have s0 := HS.out.s0
    have s1 := HS.out.s1
    have s2 := HS.out.s2
    have z0 := HS.out.q0
    have z1 := HS.out.q1
    have z2 := HS.out.q2
    have zf0 := HS.out.qf 0
    have zf1 := HS.out.qf 1
    have zf2 := HS.out.qf 2
    have hsl := HS.out.hlt
    have hlo9 := HS.out.hlo
    go_wp2
    refine bodyPost_ret (v := pv r s As L.length ks) (by simp [results, Try.results14, go_sem, z0, z1, z2]) rfl ?_
    exact RetRd.of hv.out ⟨As, ks, rfl, (HS.out.ow.touch (HS.out.done _ _ _) (Nat.le_refl _)).up (by omega), by have h0 := HS.out.below; (repeat' (first | (with_reducible exact Below.refl _ _) | (with_reducible assumption) | (with_reducible refine Below.alloc ?_ ?_ _) | (with_reducible refine Below.drew ?_) | (with_reducible refine below_drewN ?_ _) | (with_reducible refine Below.setCell ?_ ?_ _) | (with_reducible refine bvia ?_ (by with_reducible assumption) ?_) | go_size))⟩
  | true =>
    cases q2 : winB a 0 1000000000 with
    | false =>
      go_enter Try.func14, Try.ntmps14
      go_wp2_with fail
      refine (sCopyPieces r s A cap L _ (by exact hr.later (by (repeat' (first | (with_reducible exact Below.refl _ _) | (with_reducible assumption) | (with_reducible refine Below.alloc ?_ ?_ _) | (with_reducible refine Below.drew ?_) | (with_reducible refine below_drewN ?_ _) | (with_reducible refine Below.setCell ?_ ?_ _) | (with_reducible refine bvia ?_ (by with_reducible assumption) ?_) | go_size))) (Nat.le_refl _) (by go_size)) hm).mono ?_
      rintro e w1 ⟨As, ks, rfl, O1, hb1⟩
      obtain ⟨hc, hf⟩ := bcell hb1
      have hc1_0 := fun o => hc (w.heap.size) o (by go_size)
      have hf1_0 := fun o => hf (w.heap.size) o (by go_size)
      have hz1_0 : w.heap.size < w1.heap.size := Nat.lt_of_lt_of_le (by go_size) hb1.size
      have hc1_1 := fun o => hc (w.heap.size + 1) o (by go_size)
      have hf1_1 := fun o => hf (w.heap.size + 1) o (by go_size)
      have hz1_1 : w.heap.size + 1 < w1.heap.size := Nat.lt_of_lt_of_le (by go_size) hb1.size
      clear hc hf
      have hz1 := hb1.size
      try simp at hz1
      go_wp2_with fail
      refine (sPiecesOk r s A cap L _ (by exact hr.later (by (repeat' (first | (with_reducible exact Below.refl _ _) | (with_reducible assumption) | (with_reducible refine Below.alloc ?_ ?_ _) | (with_reducible refine Below.drew ?_) | (with_reducible refine below_drewN ?_ _) | (with_reducible refine Below.setCell ?_ ?_ _) | (with_reducible refine bvia ?_ (by with_reducible assumption) ?_) | go_size))) (Nat.le_refl _) (by go_size)) hs hmm).mono ?_
      rintro e w2 ⟨rfl, hb2⟩
      obtain ⟨hc, hf⟩ := bcell hb2
      have hc2_0 := fun o => hc (w.heap.size) o (by go_size)
      have hf2_0 := fun o => hf (w.heap.size) o (by go_size)
      have hz2_0 : w.heap.size < w2.heap.size := Nat.lt_of_lt_of_le (by go_size) hb2.size
      have hc2_1 := fun o => hc (w.heap.size + 1) o (by go_size)
      have hf2_1 := fun o => hf (w.heap.size + 1) o (by go_size)
      have hz2_1 : w.heap.size + 1 < w2.heap.size := Nat.lt_of_lt_of_le (by go_size) hb2.size
      have hc2_2 := fun o => hc (w1.heap.size) o (by go_size)
      have hf2_2 := fun o => hf (w1.heap.size) o (by go_size)
      have hz2_2 : w1.heap.size < w2.heap.size := Nat.lt_of_lt_of_le (by go_size) hb2.size
      clear hc hf
      have hz2 := hb2.size
      try simp at hz2
      rw [q1]
      dsimp only
      go_step
      refine wpList_world _ (SA w w1.heap.size r s (.slice A L.length cap) As ks L) ⟨by (repeat' (first | (with_reducible exact Below.refl _ _) | (with_reducible assumption) | (with_reducible refine Below.alloc ?_ ?_ _) | (with_reducible refine Below.drew ?_) | (with_reducible refine below_drewN ?_ _) | (with_reducible refine Below.setCell ?_ ?_ _) | (with_reducible refine bvia ?_ (by with_reducible assumption) ?_) | go_size)), by omega, by omega, by simp [go_sem, hc2_0, hc1_0, calP, hz1_0], by simp [go_sem, hc2_0, hc1_0, calP, hz1_0], by simp [go_sem, hc2_0, hc1_0, calP, hz1_0], by simp [go_sem, hc2_1, hc1_1, calP, hz1_1, hz1_0], by simp [go_sem, hc2_1, hc1_1, calP, hz1_1, hz1_0], by simp [go_sem, hc2_1, hc1_1, calP, hz1_1, hz1_0], fun o => by simp [go_sem, hf2_1, hf1_1, falP, hz1_1, hz1_0], by simp [go_sem, hc2_2], by simp [go_sem, hc2_2], by simp [go_sem, hc2_2], ((O1.toO PieceD.cells_length).later (by (repeat' (first | (with_reducible exact Below.refl _ _) | (with_reducible assumption) | (with_reducible refine Below.alloc ?_ ?_ _) | (with_reducible refine Below.drew ?_) | (with_reducible refine below_drewN ?_ _) | (with_reducible refine Below.setCell ?_ ?_ _) | (with_reducible refine bvia ?_ (by with_reducible assumption) ?_) | go_size)) : Below w1.heap.size w1 w2) (Nat.le_refl _)).up (by simp), fun k hk => (O1.lt hk).2⟩ ?_
      clear hc1_0 hc1_1 hf1_0 hf1_1 hc2_0 hc2_1 hc2_2 hf2_0 hf2_1 hf2_2 hb1 hb2
      intro W hW
      obtain ⟨bs, hbs⟩ : ∃ bs, w1.heap.size = bs := ⟨_, rfl⟩
      rw [hbs] at hW
      rw [hbs]
      have HS := Lib.hid hW
      have hWz := hW.hlt
      have hlo := hW.hlo
      clear hbs hW hz1 hz2 hz1_0 hz1_1 hz2_0 hz2_1 hz2_2 O1 w1 w2
      go_wp2_with fail
      refine (l01In_is _ _ _ _ q2 _).mono ?_
      rintro e w3 ⟨rfl, rfl⟩
      go_upto_if 29 with (fail)
      have s0 := HS.out.s0
      have s1 := HS.out.s1
      have s2 := HS.out.s2
      have z0 := HS.out.q0
      have z1 := HS.out.q1
      have z2 := HS.out.q2
      have zf0 := HS.out.qf 0
      have zf1 := HS.out.qf 1
      have zf2 := HS.out.qf 2
      have hsl := HS.out.hlt
      have hlo9 := HS.out.hlo
      go_wp2
      refine bodyPost_ret (v := pv r s As L.length ks) (by simp [results, Try.results14, go_sem, z0, z1, z2]) rfl ?_
      exact RetRd.of hv.out ⟨As, ks, rfl, (HS.out.ow.touch (HS.out.done _ _ _) (Nat.le_refl _)).up (by omega), by have h0 := HS.out.below; (repeat' (first | (with_reducible exact Below.refl _ _) | (with_reducible assumption) | (with_reducible refine Below.alloc ?_ ?_ _) | (with_reducible refine Below.drew ?_) | (with_reducible refine below_drewN ?_ _) | (with_reducible refine Below.setCell ?_ ?_ _) | (with_reducible refine bvia ?_ (by with_reducible assumption) ?_) | go_size))⟩
    | true =>
      have q3 : winB t.size 1 200 = false := by unfold put3 at h3; rw [q1, q2] at h3; simpa using h3
      have hts : (t.size : Int) ≤ 4611686018427387904 := by omega
      go_enter Try.func14, Try.ntmps14
      go_wp2_with fail
      refine (sCopyPieces r s A cap L _ (by exact hr.later (by (repeat' (first | (with_reducible exact Below.refl _ _) | (with_reducible assumption) | (with_reducible refine Below.alloc ?_ ?_ _) | (with_reducible refine Below.drew ?_) | (with_reducible refine below_drewN ?_ _) | (with_reducible refine Below.setCell ?_ ?_ _) | (with_reducible refine bvia ?_ (by with_reducible assumption) ?_) | go_size))) (Nat.le_refl _) (by go_size)) hm).mono ?_
      rintro e w1 ⟨As, ks, rfl, O1, hb1⟩
      obtain ⟨hc, hf⟩ := bcell hb1
      have hc1_0 := fun o => hc (w.heap.size) o (by go_size)
      have hf1_0 := fun o => hf (w.heap.size) o (by go_size)
      have hz1_0 : w.heap.size < w1.heap.size := Nat.lt_of_lt_of_le (by go_size) hb1.size
      have hc1_1 := fun o => hc (w.heap.size + 1) o (by go_size)
      have hf1_1 := fun o => hf (w.heap.size + 1) o (by go_size)
      have hz1_1 : w.heap.size + 1 < w1.heap.size := Nat.lt_of_lt_of_le (by go_size) hb1.size
      clear hc hf
      have hz1 := hb1.size
      try simp at hz1
      go_wp2_with fail
      refine (sPiecesOk r s A cap L _ (by exact hr.later (by (repeat' (first | (with_reducible exact Below.refl _ _) | (with_reducible assumption) | (with_reducible refine Below.alloc ?_ ?_ _) | (with_reducible refine Below.drew ?_) | (with_reducible refine below_drewN ?_ _) | (with_reducible refine Below.setCell ?_ ?_ _) | (with_reducible refine bvia ?_ (by with_reducible assumption) ?_) | go_size))) (Nat.le_refl _) (by go_size)) hs hmm).mono ?_
      rintro e w2 ⟨rfl, hb2⟩
      obtain ⟨hc, hf⟩ := bcell hb2
      have hc2_0 := fun o => hc (w.heap.size) o (by go_size)
      have hf2_0 := fun o => hf (w.heap.size) o (by go_size)
      have hz2_0 : w.heap.size < w2.heap.size := Nat.lt_of_lt_of_le (by go_size) hb2.size
      have hc2_1 := fun o => hc (w.heap.size + 1) o (by go_size)
      have hf2_1 := fun o => hf (w.heap.size + 1) o (by go_size)
      have hz2_1 : w.heap.size + 1 < w2.heap.size := Nat.lt_of_lt_of_le (by go_size) hb2.size
      have hc2_2 := fun o => hc (w1.heap.size) o (by go_size)
      have hf2_2 := fun o => hf (w1.heap.size) o (by go_size)
      have hz2_2 : w1.heap.size < w2.heap.size := Nat.lt_of_lt_of_le (by go_size) hb2.size
      clear hc hf
      have hz2 := hb2.size
      try simp at hz2
      rw [q1]
      dsimp only
      go_step
      refine wpList_world _ (SA w w1.heap.size r s (.slice A L.length cap) As ks L) ⟨by (repeat' (first | (with_reducible exact Below.refl _ _) | (with_reducible assumption) | (with_reducible refine Below.alloc ?_ ?_ _) | (with_reducible refine Below.drew ?_) | (with_reducible refine below_drewN ?_ _) | (with_reducible refine Below.setCell ?_ ?_ _) | (with_reducible refine bvia ?_ (by with_reducible assumption) ?_) | go_size)), by omega, by omega, by simp [go_sem, hc2_0, hc1_0, calP, hz1_0], by simp [go_sem, hc2_0, hc1_0, calP, hz1_0], by simp [go_sem, hc2_0, hc1_0, calP, hz1_0], by simp [go_sem, hc2_1, hc1_1, calP, hz1_1, hz1_0], by simp [go_sem, hc2_1, hc1_1, calP, hz1_1, hz1_0], by simp [go_sem, hc2_1, hc1_1, calP, hz1_1, hz1_0], fun o => by simp [go_sem, hf2_1, hf1_1, falP, hz1_1, hz1_0], by simp [go_sem, hc2_2], by simp [go_sem, hc2_2], by simp [go_sem, hc2_2], ((O1.toO PieceD.cells_length).later (by (repeat' (first | (with_reducible exact Below.refl _ _) | (with_reducible assumption) | (with_reducible refine Below.alloc ?_ ?_ _) | (with_reducible refine Below.drew ?_) | (with_reducible refine below_drewN ?_ _) | (with_reducible refine Below.setCell ?_ ?_ _) | (with_reducible refine bvia ?_ (by with_reducible assumption) ?_) | go_size)) : Below w1.heap.size w1 w2) (Nat.le_refl _)).up (by simp), fun k hk => (O1.lt hk).2⟩ ?_
      clear hc1_0 hc1_1 hf1_0 hf1_1 hc2_0 hc2_1 hc2_2 hf2_0 hf2_1 hf2_2 hb1 hb2
      intro W hW
      obtain ⟨bs, hbs⟩ : ∃ bs, w1.heap.size = bs := ⟨_, rfl⟩
      rw [hbs] at hW
      rw [hbs]
      have HS := Lib.hid hW
      have hWz := hW.hlt
      have hlo := hW.hlo
      clear hbs hW hz1 hz2 hz1_0 hz1_1 hz2_0 hz2_1 hz2_2 O1 w1 w2
      go_wp2_with fail
      refine (l01In_is _ _ _ _ q2 _).mono ?_
      rintro e w3 ⟨rfl, rfl⟩
      go_wp2_with fail
      refine (l01In_is _ _ _ _ q3 _).mono ?_
      rintro e w4 ⟨rfl, rfl⟩
      go_upto_if 29 with (fail)
      have s0 := HS.out.s0
      have s1 := HS.out.s1
      have s2 := HS.out.s2
      have z0 := HS.out.q0
      have z1 := HS.out.q1
      have z2 := HS.out.q2
      have zf0 := HS.out.qf 0
      have zf1 := HS.out.qf 1
      have zf2 := HS.out.qf 2
      have hsl := HS.out.hlt
      have hlo9 := HS.out.hlo
      go_wp2
      refine bodyPost_ret (v := pv r s As L.length ks) (by simp [results, Try.results14, go_sem, z0, z1, z2]) rfl ?_
      exact RetRd.of hv.out ⟨As, ks, rfl, (HS.out.ow.touch (HS.out.done _ _ _) (Nat.le_refl _)).up (by omega), by have h0 := HS.out.below; (repeat' (first | (with_reducible exact Below.refl _ _) | (with_reducible assumption) | (with_reducible refine Below.alloc ?_ ?_ _) | (with_reducible refine Below.drew ?_) | (with_reducible refine below_drewN ?_ _) | (with_reducible refine Below.setCell ?_ ?_ _) | (with_reducible refine bvia ?_ (by with_reducible assumption) ?_) | go_size))⟩
end Go.Proofs.Ytpjbnfpadbknpaa
