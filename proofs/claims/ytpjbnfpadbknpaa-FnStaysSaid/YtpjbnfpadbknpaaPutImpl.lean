/- PutPiece (program): for every argument. Written by program (putpiece.py). -/
import Derived.Test.YtpjbnfpadbknpaaPutBox
import Derived.Deep.RegionHeld3
import Derived.Deep.DeepCutAuto
namespace Go.Proofs.Ytpjbnfpadbknpaa
set_option linter.unusedSimpArgs false
set_option linter.unusedVariables false
open Go.RowKit
theorem RetPs.of {w w' : World} {r : Int} {s s' : ByteArray} {L L' : List PieceD} {f : Value → Value} {e : Ending} (h : (s', L') = (s, L)) (hr : RetPs w r s L f e w') : RetPs w r s' L' f e w' := by cases h; exact hr
theorem put_no {r : Int} {s : ByteArray} {L : List PieceD} {a : Int} {t : ByteArray} (h : putOk r s L a t = false) : putV r s L a t = (s, L) := by unfold putV; rw [h]; rfl
theorem put_yes {r : Int} {s : ByteArray} {L : List PieceD} {a : Int} {t : ByteArray} (h : putOk r s L a t = true) : putV r s L a t = coreV r s L (trimV (r + s.size) a t) := by unfold putV; rw [h]; rfl
/-- The first three questions that PutPiece asks. -/
def put3 (r : Int) (s : ByteArray) (L : List PieceD) (a : Int) (t : ByteArray) : Bool := piecesOk r s L && (winB a 0 1000000000 && winB t.size 1 200)
theorem put3_no {r : Int} {s : ByteArray} {L : List PieceD} {a : Int} {t : ByteArray} (h : put3 r s L a t = false) : putV r s L a t = (s, L) := by
  apply put_no
  unfold put3 at h
  unfold putOk
  cases h1 : piecesOk r s L
  · rfl
  · rw [h1] at h
    cases h2 : winB a 0 1000000000
    · rfl
    · rw [h2] at h
      have h3 : winB t.size 1 200 = false := by simpa using h
      rw [h3]; rfl
set_option maxRecDepth 100000 in
set_option maxHeartbeats 4000000 in
theorem iPutPiece_no (r : Int) (s : ByteArray) (A : Option Addr) (cap : Nat) (L : List PieceD) (a : Int) (t : ByteArray) (w : World) (hr : Rd PieceD.cells 2 w 0 w.heap.size A L) (hs : s.size + sumT L ≤ 4611686018427387904) (hm : L.length ≤ 4294967296) (ht : t.size ≤ 1048576) (h3 : put3 r s L a t = false) :
    Calls Try.prog 12 #[pv r s A L.length cap, .int .i64 a, .string t] w (RetPs w r s L fun v => v) := by
  have hmm : L.length ≤ maxLen := by unfold maxLen; omega
  cases q1 : piecesOk r s L with
  | false => 
    go_enter Try.func12, Try.ntmps12
    go_wp2_with fail
    refine (iPiecesOk r s A cap L _ (by exact hr.later (by (repeat' (first | (with_reducible exact Below.refl _ _) | (with_reducible assumption) | (with_reducible refine Below.alloc ?_ ?_ _) | (with_reducible refine Below.drew ?_) | (with_reducible refine below_drewN ?_ _) | (with_reducible refine Below.setCell ?_ ?_ _) | (with_reducible refine bvia ?_ (by with_reducible assumption) ?_) | go_size))) (Nat.le_refl _) (by go_size)) hs hmm).mono ?_
    rintro e w1 ⟨rfl, hb1⟩
    obtain ⟨hc, hf⟩ := bcell hb1
    have hc1_0 := fun o => hc (w.heap.size) o (by go_size)
    have hf1_0 := fun o => hf (w.heap.size) o (by go_size)
    have hz1_0 : w.heap.size < w1.heap.size := Nat.lt_of_lt_of_le (by go_size) hb1.size
    have hc1_1 := fun o => hc (w.heap.size + 1) o (by go_size)
    have hf1_1 := fun o => hf (w.heap.size + 1) o (by go_size)
    have hz1_1 : w.heap.size + 1 < w1.heap.size := Nat.lt_of_lt_of_le (by go_size) hb1.size
    clear hc hf
    have hz1 := hb1.size
    try simp at hz1
    rw [q1]
    go_wp2_with fail
    refine (iCopyPieces r s A cap L _ (by exact hr.later (by (repeat' (first | (with_reducible exact Below.refl _ _) | (with_reducible assumption) | (with_reducible refine Below.alloc ?_ ?_ _) | (with_reducible refine Below.drew ?_) | (with_reducible refine below_drewN ?_ _) | (with_reducible refine Below.setCell ?_ ?_ _) | (with_reducible refine bvia ?_ (by with_reducible assumption) ?_) | go_size))) (Nat.le_refl _) (by go_size)) hm).mono ?_
    rintro e w3 ⟨A1, k1, rfl, O1, hb3⟩
    obtain ⟨hc, hf⟩ := bcell hb3
    have hc3 := fun o => hc (w.heap.size + 1) o (by go_size)
    have hf3 := fun o => hf (w.heap.size + 1) o (by go_size)
    have hz3 : w.heap.size + 1 < w3.heap.size := Nat.lt_of_lt_of_le (by go_size) hb3.size
    clear hc hf
    have HO := Lib.hid O1
    clear O1
    go_wp2
    refine bodyPost_ret (v := pv r s A1 L.length k1) (by simp [results, Try.results12, go_sem, *]) rfl ?_
    exact ⟨A1, k1, rfl, (HO.out.keep (fun k _ h1 h2 => (show Touch w.heap.size (w.heap.size + 2) w3 _ by (repeat' (first | (with_reducible exact Touch.refl _ _ _) | (with_reducible assumption) | (with_reducible refine Touch.alloc ?_ _) | (with_reducible refine Touch.drew ?_) | (with_reducible refine Touch.drewN ?_ _) | (with_reducible refine Touch.setCell ?_ ?_ ?_ _) | (with_reducible refine Touch.via ?_ (by with_reducible assumption)) | go_size))).block k h2 (.inr (by first | omega | (simp at h1; omega))))).up (by first | omega | (simp; omega)), by (repeat' (first | (with_reducible exact Below.refl _ _) | (with_reducible assumption) | (with_reducible refine Below.alloc ?_ ?_ _) | (with_reducible refine Below.drew ?_) | (with_reducible refine below_drewN ?_ _) | (with_reducible refine Below.setCell ?_ ?_ _) | (with_reducible refine bvia ?_ (by with_reducible assumption) ?_) | go_size))⟩
  | true =>
    cases q2 : winB a 0 1000000000 with
    | false => 
      have hnb : numB [a] = false := by simp [numB, q2]
      go_enter Try.func12, Try.ntmps12
      go_wp2_with fail
      refine (iPiecesOk r s A cap L _ (by exact hr.later (by (repeat' (first | (with_reducible exact Below.refl _ _) | (with_reducible assumption) | (with_reducible refine Below.alloc ?_ ?_ _) | (with_reducible refine Below.drew ?_) | (with_reducible refine below_drewN ?_ _) | (with_reducible refine Below.setCell ?_ ?_ _) | (with_reducible refine bvia ?_ (by with_reducible assumption) ?_) | go_size))) (Nat.le_refl _) (by go_size)) hs hmm).mono ?_
      rintro e w1 ⟨rfl, hb1⟩
      obtain ⟨hc, hf⟩ := bcell hb1
      have hc1_0 := fun o => hc (w.heap.size) o (by go_size)
      have hf1_0 := fun o => hf (w.heap.size) o (by go_size)
      have hz1_0 : w.heap.size < w1.heap.size := Nat.lt_of_lt_of_le (by go_size) hb1.size
      have hc1_1 := fun o => hc (w.heap.size + 1) o (by go_size)
      have hf1_1 := fun o => hf (w.heap.size + 1) o (by go_size)
      have hz1_1 : w.heap.size + 1 < w1.heap.size := Nat.lt_of_lt_of_le (by go_size) hb1.size
      clear hc hf
      have hz1 := hb1.size
      try simp at hz1
      rw [q1]
      go_wp2_with (first | (go_at_call 34; refine (isNumber_is _ _ [a] _ hnb _ (by exact Rd_new _ _ _ _ _ (by simp) rfl) (by simp) (by simp [maxLen])).mono ?_; rintro e w2 ⟨rfl, rfl⟩) | fail)
      refine (iCopyPieces r s A cap L _ (by exact hr.later (by (repeat' (first | (with_reducible exact Below.refl _ _) | (with_reducible assumption) | (with_reducible refine Below.alloc ?_ ?_ _) | (with_reducible refine Below.drew ?_) | (with_reducible refine below_drewN ?_ _) | (with_reducible refine Below.setCell ?_ ?_ _) | (with_reducible refine bvia ?_ (by with_reducible assumption) ?_) | go_size))) (Nat.le_refl _) (by go_size)) hm).mono ?_
      rintro e w3 ⟨A1, k1, rfl, O1, hb3⟩
      obtain ⟨hc, hf⟩ := bcell hb3
      have hc3 := fun o => hc (w.heap.size + 1) o (by go_size)
      have hf3 := fun o => hf (w.heap.size + 1) o (by go_size)
      have hz3 : w.heap.size + 1 < w3.heap.size := Nat.lt_of_lt_of_le (by go_size) hb3.size
      clear hc hf
      have HO := Lib.hid O1
      clear O1
      go_wp2
      refine bodyPost_ret (v := pv r s A1 L.length k1) (by simp [results, Try.results12, go_sem, *]) rfl ?_
      exact ⟨A1, k1, rfl, (HO.out.keep (fun k _ h1 h2 => (show Touch w.heap.size (w.heap.size + 2) w3 _ by (repeat' (first | (with_reducible exact Touch.refl _ _ _) | (with_reducible assumption) | (with_reducible refine Touch.alloc ?_ _) | (with_reducible refine Touch.drew ?_) | (with_reducible refine Touch.drewN ?_ _) | (with_reducible refine Touch.setCell ?_ ?_ ?_ _) | (with_reducible refine Touch.via ?_ (by with_reducible assumption)) | go_size))).block k h2 (.inr (by first | omega | (simp at h1; omega))))).up (by first | omega | (simp; omega)), by (repeat' (first | (with_reducible exact Below.refl _ _) | (with_reducible assumption) | (with_reducible refine Below.alloc ?_ ?_ _) | (with_reducible refine Below.drew ?_) | (with_reducible refine below_drewN ?_ _) | (with_reducible refine Below.setCell ?_ ?_ _) | (with_reducible refine bvia ?_ (by with_reducible assumption) ?_) | go_size))⟩
    | true =>
      have q3 : winB t.size 1 200 = false := by unfold put3 at h3; rw [q1, q2] at h3; simpa using h3
      have hnb : numB [a] = true := by simp [numB, q2]
      have hts : (t.size : Int) ≤ 4611686018427387904 := by omega
      go_enter Try.func12, Try.ntmps12
      go_wp2_with fail
      refine (iPiecesOk r s A cap L _ (by exact hr.later (by (repeat' (first | (with_reducible exact Below.refl _ _) | (with_reducible assumption) | (with_reducible refine Below.alloc ?_ ?_ _) | (with_reducible refine Below.drew ?_) | (with_reducible refine below_drewN ?_ _) | (with_reducible refine Below.setCell ?_ ?_ _) | (with_reducible refine bvia ?_ (by with_reducible assumption) ?_) | go_size))) (Nat.le_refl _) (by go_size)) hs hmm).mono ?_
      rintro e w1 ⟨rfl, hb1⟩
      obtain ⟨hc, hf⟩ := bcell hb1
      have hc1_0 := fun o => hc (w.heap.size) o (by go_size)
      have hf1_0 := fun o => hf (w.heap.size) o (by go_size)
      have hz1_0 : w.heap.size < w1.heap.size := Nat.lt_of_lt_of_le (by go_size) hb1.size
      have hc1_1 := fun o => hc (w.heap.size + 1) o (by go_size)
      have hf1_1 := fun o => hf (w.heap.size + 1) o (by go_size)
      have hz1_1 : w.heap.size + 1 < w1.heap.size := Nat.lt_of_lt_of_le (by go_size) hb1.size
      clear hc hf
      have hz1 := hb1.size
      try simp at hz1
      rw [q1]
      go_wp2_with (first | (go_at_call 34; refine (isNumber_is _ _ [a] _ hnb _ (by exact Rd_new _ _ _ _ _ (by simp) rfl) (by simp) (by simp [maxLen])).mono ?_; rintro e w2 ⟨rfl, rfl⟩) | (go_at_call 35; refine (within_is _ _ _ _ q3 _).mono ?_; rintro e w2 ⟨rfl, rfl⟩) | fail)
      refine (iCopyPieces r s A cap L _ (by exact hr.later (by (repeat' (first | (with_reducible exact Below.refl _ _) | (with_reducible assumption) | (with_reducible refine Below.alloc ?_ ?_ _) | (with_reducible refine Below.drew ?_) | (with_reducible refine below_drewN ?_ _) | (with_reducible refine Below.setCell ?_ ?_ _) | (with_reducible refine bvia ?_ (by with_reducible assumption) ?_) | go_size))) (Nat.le_refl _) (by go_size)) hm).mono ?_
      rintro e w3 ⟨A1, k1, rfl, O1, hb3⟩
      obtain ⟨hc, hf⟩ := bcell hb3
      have hc3 := fun o => hc (w.heap.size + 1) o (by go_size)
      have hf3 := fun o => hf (w.heap.size + 1) o (by go_size)
      have hz3 : w.heap.size + 1 < w3.heap.size := Nat.lt_of_lt_of_le (by go_size) hb3.size
      clear hc hf
      have HO := Lib.hid O1
      clear O1
      go_wp2
      refine bodyPost_ret (v := pv r s A1 L.length k1) (by simp [results, Try.results12, go_sem, *]) rfl ?_
      exact ⟨A1, k1, rfl, (HO.out.keep (fun k _ h1 h2 => (show Touch w.heap.size (w.heap.size + 2) w3 _ by (repeat' (first | (with_reducible exact Touch.refl _ _ _) | (with_reducible assumption) | (with_reducible refine Touch.alloc ?_ _) | (with_reducible refine Touch.drew ?_) | (with_reducible refine Touch.drewN ?_ _) | (with_reducible refine Touch.setCell ?_ ?_ ?_ _) | (with_reducible refine Touch.via ?_ (by with_reducible assumption)) | go_size))).block k h2 (.inr (by first | omega | (simp at h1; omega))))).up (by first | omega | (simp; omega)), by (repeat' (first | (with_reducible exact Below.refl _ _) | (with_reducible assumption) | (with_reducible refine Below.alloc ?_ ?_ _) | (with_reducible refine Below.drew ?_) | (with_reducible refine below_drewN ?_ _) | (with_reducible refine Below.setCell ?_ ?_ _) | (with_reducible refine bvia ?_ (by with_reducible assumption) ?_) | go_size))⟩
set_option maxRecDepth 100000 in
set_option maxHeartbeats 40000000 in
theorem iPutPiece_yes (r : Int) (s : ByteArray) (A : Option Addr) (cap : Nat) (L : List PieceD) (a : Int) (t : ByteArray) (w : World) (hr : Rd PieceD.cells 2 w 0 w.heap.size A L) (hs : s.size + sumT L ≤ 4611686018427387904) (hm : L.length ≤ 4294967296) (ht : t.size ≤ 1048576) (h3 : put3 r s L a t = true) :
    Calls Try.prog 12 #[pv r s A L.length cap, .int .i64 a, .string t] w (RetPs w r (putV r s L a t).1 (putV r s L a t).2 fun v => v) := by
  have hmm : L.length ≤ maxLen := by unfold maxLen; omega
  have h3' := h3
  unfold put3 at h3'
  simp only [Bool.and_eq_true] at h3'
  obtain ⟨q1, q2, q3⟩ := h3'
  obtain ⟨hr0, hr1, hl20, hs200, hch⟩ := pok_parts q1
  have hab : 0 ≤ a ∧ a ≤ 1000000000 := by unfold winB at q2; simpa using q2
  have htb : 1 ≤ t.size ∧ t.size ≤ 200 := by unfold winB at q3; simp at q3; omega
  have hss : s.size ≤ maxLen := by unfold maxLen; omega
  have hnb : numB [a] = true := by simp [numB, q2]
  have hLb : ∀ x ∈ L, 0 ≤ x.fAt ∧ x.fAt ≤ 2000000000 := fun x hx => by have := hch.mem x hx; omega
  obtain ⟨nx, hnx⟩ : ∃ nx : Int, r + s.size = nx := ⟨_, rfl⟩
  have hnb2 : 0 ≤ nx ∧ nx ≤ 1000000200 := by omega
  have e1 : Hid (nextV r s = nx) := by unfold Hid nextV; rw [← hnx]; exact IntWalk.wrap64_in _ (by omega)
  have htc := trim_cases nx a t
  obtain ⟨o, ho⟩ : ∃ o, trimV nx a t = o := ⟨_, rfl⟩
  rw [ho] at htc
  have hob : o.fText.size ≤ 200 ∧ 0 ≤ o.fAt ∧ o.fAt ≤ 2000000000 := by
    rcases htc with ⟨g1, g2, g3⟩ | ⟨g1, g2⟩
    · omega
    · rw [g2]; simp only; omega
  have HNX := Lib.hid hnx
  have HO := Lib.hid ho
  have HQ1 := Lib.hid q1
  have HCH := Lib.hid hch
  clear hnx htc hch
  go_enter Try.func12, Try.ntmps12
  go_wp2_with fail
  refine (iPiecesOk r s A cap L _ (by exact hr.later (by (repeat' (first | (with_reducible exact Below.refl _ _) | (with_reducible assumption) | (with_reducible refine Below.alloc ?_ ?_ _) | (with_reducible refine Below.drew ?_) | (with_reducible refine below_drewN ?_ _) | (with_reducible refine Below.setCell ?_ ?_ _) | (with_reducible refine bvia ?_ (by with_reducible assumption) ?_) | go_size))) (Nat.le_refl _) (by go_size)) hs hmm).mono ?_
  rintro e w1 ⟨rfl, hb1⟩
  obtain ⟨hc, hf⟩ := bcell hb1
  have hc1_0 := fun o => hc (w.heap.size) o (by go_size)
  have hf1_0 := fun o => hf (w.heap.size) o (by go_size)
  have hz1_0 : w.heap.size < w1.heap.size := Nat.lt_of_lt_of_le (by go_size) hb1.size
  have hc1_1 := fun o => hc (w.heap.size + 1) o (by go_size)
  have hf1_1 := fun o => hf (w.heap.size + 1) o (by go_size)
  have hz1_1 : w.heap.size + 1 < w1.heap.size := Nat.lt_of_lt_of_le (by go_size) hb1.size
  clear hc hf
  have hz1 := hb1.size
  try simp at hz1
  rw [HQ1.out]
  go_wp2_with (first
    | (go_at_call 34; refine (isNumber_is _ _ [a] _ hnb _ (by exact Rd_new _ _ _ _ _ (by simp) rfl) (by simp) (by simp [maxLen])).mono ?_; rintro e w2 ⟨rfl, rfl⟩)
    | (go_at_call 35; refine (within_is _ _ _ _ q3 _).mono ?_; rintro e w2 ⟨rfl, rfl⟩)
    | fail)
  go_wp2_with fail
  refine (iNextOf r s A L.length cap _ hss).mono ?_
  rintro e w2 ⟨rfl, hb2⟩
  obtain ⟨hc, hf⟩ := bcell hb2
  have hc2_0 := fun o => hc (w.heap.size) o (by go_size)
  have hf2_0 := fun o => hf (w.heap.size) o (by go_size)
  have hz2_0 : w.heap.size < w2.heap.size := Nat.lt_of_lt_of_le (by go_size) hb2.size
  have hc2_1 := fun o => hc (w.heap.size + 1) o (by go_size)
  have hf2_1 := fun o => hf (w.heap.size + 1) o (by go_size)
  have hz2_1 : w.heap.size + 1 < w2.heap.size := Nat.lt_of_lt_of_le (by go_size) hb2.size
  have hc2_2 := fun o => hc (w1.heap.size + 1) o (by go_size)
  have hf2_2 := fun o => hf (w1.heap.size + 1) o (by go_size)
  have hz2_2 : w1.heap.size + 1 < w2.heap.size := Nat.lt_of_lt_of_le (by go_size) hb2.size
  clear hc hf
  have hz2 := hb2.size
  try simp at hz2
  rw [e1.out]
  have hB2 : Below w.heap.size w w2 := by (repeat' (first | (with_reducible exact Below.refl _ _) | (with_reducible assumption) | (with_reducible refine Below.alloc ?_ ?_ _) | (with_reducible refine Below.drew ?_) | (with_reducible refine below_drewN ?_ _) | (with_reducible refine Below.setCell ?_ ?_ _) | (with_reducible refine bvia ?_ (by with_reducible assumption) ?_) | go_size))
  go_upto_if 39 with (fail)
  refine wp_world _ (PA w (w1.heap.size + 1) r s (.slice A L.length cap) (.slice none 0 0)) ⟨by (repeat' (first | (with_reducible exact Below.refl _ _) | (with_reducible assumption) | (with_reducible refine Below.alloc ?_ ?_ _) | (with_reducible refine Below.drew ?_) | (with_reducible refine below_drewN ?_ _) | (with_reducible refine Below.setCell ?_ ?_ _) | (with_reducible refine bvia ?_ (by with_reducible assumption) ?_) | go_size)), by omega, by omega, by simp [go_sem, hc2_0, hc1_0, calP, hz1_0], by simp [go_sem, hc2_0, hc1_0, calP, hz1_0], by simp [go_sem, hc2_0, hc1_0, calP, hz1_0], by simp [go_sem, hc2_1, hc1_1, calP, hz1_1, hz1_0], by simp [go_sem, hc2_1, hc1_1, calP, hz1_1, hz1_0], by simp [go_sem, hc2_1, hc1_1, calP, hz1_1, hz1_0], fun o => by simp [go_sem, hf2_1, hf1_1, falP, hz1_1, hz1_0], by simp [go_sem, hc2_2], by simp [go_sem, hc2_2], by simp [go_sem, hc2_2], fun o => by simp [go_sem, hf2_2]⟩ ?_
  clear hc1_0 hc1_1 hf1_0 hf1_1 hc2_0 hc2_1 hc2_2 hf2_0 hf2_1 hf2_2 hb1 hb2
  intro W hW
  obtain ⟨bo, hbo⟩ : ∃ bo, w1.heap.size + 1 = bo := ⟨_, rfl⟩
  obtain ⟨bs, hbs⟩ : ∃ bs, w1.heap.size = bs := ⟨_, rfl⟩
  rw [hbo] at hW
  rw [hbo, hbs]
  clear hbo hbs hz1 hz2 hz1_0 hz1_1 hz2_0 hz2_1 hz2_2 hB2 w2 w1
  have HW := Lib.hid hW
  clear hW
  go_cut [1, 2] (fun s1 s2 wx => s1 = .int .i64 o.fAt ∧ s2 = .string o.fText ∧ wx = W)
  case first =>
    by_cases hlt : a < nx
    · by_cases hle : nx - a < t.size
      · have hoe : Hid (o = ⟨nx, t.extract (nx - a).toNat t.size⟩) := by unfold Hid; rw [← HO.out]; unfold trimV; rw [if_pos hlt, Nat.min_eq_left (by omega)]
        go_wp2_with fail
        go_meet
        case rel => exact ⟨by rw [hoe.out], by rw [hoe.out], rfl⟩
      · have hoe : Hid (o = ⟨nx, ByteArray.empty⟩) := by unfold Hid; rw [← HO.out]; unfold trimV; rw [if_pos hlt, ext_none (by omega)]
        go_wp2_with fail
        go_meet
        case rel => exact ⟨by rw [hoe.out], by rw [hoe.out], rfl⟩
    · have hoe : Hid (o = ⟨a, t⟩) := by unfold Hid; rw [← HO.out]; unfold trimV; rw [if_neg hlt]
      go_wp2_with fail
      go_meet
      case rel => exact ⟨by rw [hoe.out], by rw [hoe.out], rfl⟩
  case rest =>
    obtain ⟨rfl, rfl, rfl⟩ := hcut
    have hbo1 := HW.out.hlo
    have hbo2 := HW.out.hlt
    have hWz := HW.out.below.size
    by_cases h0 : o.fText.size = 0
    · have hv : Hid (putV r s L a t = (s, L)) := by
        apply put_no
        unfold putOk
        rw [show r + (s.size : Int) = nx from HNX.out, HO.out, h0]
        simp
      have he := size0 h0
      have p0 := HW.out.p0
      have p1 := HW.out.p1
      have p2 := HW.out.p2
      clear h0
      go_wp2_with fail
      refine (iCopyPieces r s A cap L _ (by exact hr.later HW.out.below (Nat.le_refl _) HW.out.below.size) hm).mono ?_
      rintro e w3 ⟨A1, k1, rfl, O1, hb3⟩
      have hq3 := fun o => hb3.cell (p := ⟨w.heap.size + 1, o, none⟩) (by show w.heap.size + 1 < _; omega)
      have z0 := (hq3 0).trans HW.out.q0
      have z1 := (hq3 1).trans HW.out.q1
      have z2 := (hq3 2).trans HW.out.q2
      have zf := fun o => (hb3.frozen (p := ⟨w.heap.size + 1, o, none⟩) (by show w.heap.size + 1 < _; omega)).trans (HW.out.qf o)
      have zf0 := zf 0
      have zf1 := zf 1
      have zf2 := zf 2
      have hz3 := hb3.size
      have hB3 : Below w.heap.size w w3 := HW.out.below.trans (hb3.mono HW.out.below.size)
      have hW3 : w.heap.size + 2 ≤ wc.heap.size := by omega
      have HO1 := Lib.hid O1
      clear O1 hb3 hq3 zf
      go_wp2
      refine bodyPost_ret (v := pv r s A1 L.length k1) (by simp [results, Try.results12, go_sem, *]) rfl ?_
      exact RetPs.of hv.out ⟨A1, k1, rfl, (HO1.out.keep (fun k _ h1 h2 => (show Touch w.heap.size (w.heap.size + 2) w3 _ by (repeat' (first | (with_reducible exact Touch.refl _ _ _) | (with_reducible assumption) | (with_reducible refine Touch.alloc ?_ _) | (with_reducible refine Touch.drew ?_) | (with_reducible refine Touch.drewN ?_ _) | (with_reducible refine Touch.setCell ?_ ?_ ?_ _) | (with_reducible refine Touch.via ?_ (by with_reducible assumption)) | go_size))).block k h2 (.inr (by omega)))).up (by omega), by (repeat' (first | (with_reducible exact Below.refl _ _) | (with_reducible assumption) | (with_reducible refine Below.alloc ?_ ?_ _) | (with_reducible refine Below.drew ?_) | (with_reducible refine below_drewN ?_ _) | (with_reducible refine Below.setCell ?_ ?_ _) | (with_reducible refine bvia ?_ (by with_reducible assumption) ?_) | go_size))⟩
    · obtain ⟨hl1, hl2, hl3⟩ := toList_ne h0
      have HH0 := Lib.hid h0
      have hne : decide (o.fText = ⟨#[]⟩) = false := decide_eq_false (fun h => h0 (by rw [h]; rfl))
      go_upto_region 12 with (fail)
      refine wp_world _ (fun W0 => PA w bo r s (.slice A L.length cap) (.slice none 0 0) W0 ∧ PB W0 (wc.heap.size + 1) bo wc.heap.size r s (.slice none 0 0) o W0) ⟨HW.out.next (by (repeat' (first | (with_reducible exact Below.refl _ _) | (with_reducible assumption) | (with_reducible refine Below.alloc ?_ ?_ _) | (with_reducible refine Below.drew ?_) | (with_reducible refine below_drewN ?_ _) | (with_reducible refine Below.setCell ?_ ?_ _) | (with_reducible refine bvia ?_ (by with_reducible assumption) ?_) | go_size))), HW.out.start o⟩ ?_
      rintro W0 ⟨hA, hP0⟩
      obtain ⟨bn, hbn⟩ : ∃ bn, wc.heap.size = bn := ⟨_, rfl⟩
      rw [hbn] at hP0 hbo2
      rw [hbn]
      clear hbn HW hWz
      have hBz := hP0.hB
      have p2 := hA.p2
      have HA := Lib.hid hA
      clear hA
      go_wp2_with fail
      clear p2
      go_loopw [10, 59] (fun d i wr => ∃ (k : Nat) (vO : Value), k ≤ L.length ∧ i = .int .i64 k ∧ d = .bool (putTo o L k).2.2 ∧ PB W0 (bn + 1) bo bn r s vO (putTo o L k).2.1 wr ∧ Own wr (bn + 1) 44 PieceD.cells 2 vO (putTo o L k).1) (fun _ i _ => L.length - (intOf i).toNat)
      case atStart => exact ⟨0, _, Nat.zero_le _, rfl, rfl, hP0, Own.nil _ _ _⟩
      case round =>
        obtain ⟨k, vO, hk, rfl, rfl, hP, hO⟩ := hrel
        have hbd := putTo_bd (o := o) (L := L) (B := 0) hob.1 hob.2.1 hob.2.2 hLb (by omega) k hk
        have hBr := hP.hB
        have hBw := (HA.out.args hP hBz hbo2).2.2
        have hBwz := hBw.size
        by_cases hlt : k < L.length
        · have hst := putTo_succ (o := o) hlt
          obtain ⟨⟨O, y, d⟩, hst0⟩ : ∃ st, putTo o L k = st := ⟨_, rfl⟩
          rw [hst0] at hst hP hO hbd
          rw [hst0]
          simp only at hP hO hbd
          have hxs := sumT_get hlt
          have hst1 := sumT_take L k
          have hxb := hLb L[k] (List.getElem_mem hlt)
          obtain ⟨b1, b2, b3, b4, b5⟩ := hbd
          have b4' : O.length ≤ 22 := by split at b4 <;> omega
          clear b4 b5 hst0
          have HST := Lib.hid hst
          clear hst
          obtain ⟨g, ob, rfl, _, hg, hcell⟩ := hr.at_ (by omega)
          have hx : ∀ j v, (L[k].cells)[j]? = some v → wr.cell? ⟨g, ob + k * 2 + j, none⟩ = some v := fun j v hv => by
            have hj : j < 2 := (List.getElem?_eq_some_iff.1 hv).1
            rw [hBw.cell (p := ⟨g, ob + k * 2 + j, none⟩) hg, hcell k hlt j hj, hv]
          have HX := Lib.hid hx
          clear hx hcell
          have hki : (k : Int) < (L.length : Int) := by omega
          have n0 := hP.n0
          have n1 := hP.n1
          have o2 := hP.o2
          have of2 := hP.of 2
          have hbol : bo < wr.heap.size := by omega
          have hbnl : bn < wr.heap.size := by omega
          have HP := Lib.hid hP
          have HO2 := Lib.hid hO
          clear hP hO hBw
          obtain ⟨x, hxx⟩ : ∃ x, L[k] = x := ⟨_, rfl⟩
          rw [hxx] at HX HST hxb hxs
          by_cases c1 : x.fAt + x.fText.size < y.fAt
          · have hn : Hid (putTo o L (k + 1) = (O ++ [x], y, d)) := by rw [HST.out]; unfold putStep; exact if_pos c1
            go_wp2_with (first
              | (refine wpList_load_part rfl 44 (.tmp 61) rfl g _ rfl x.row _ HX.out Try.underlying44 rfl (by kernel_rfl) ?_)
              | (at_builtin; refine wpList_append_rd _ rfl (.tmp 77) (.tmp 79) rfl slPiece PieceD.cells_length PieceD.one (bn + 1) vO O [x] rfl ((HO2.out.alloc _).alloc _) (some ⟨wr.heap.size + 1, 0, none⟩) 1 1 0 (wr.heap.size + 1 + 1) rfl rfl (rd_one _ x _ _ PieceD.cells_length rfl _ (by simp) _ (by omega)) (by simp; omega) (by first | omega | (simp; omega)) ?_; intro v1 w1 O1 G1 X1; have B1 : Below (bn + 1) (wr) w1 := Own.below2 G1 ((HO2.out.alloc _).alloc _) (by (repeat' (first | (with_reducible exact Below.refl _ _) | (with_reducible assumption) | (with_reducible refine Below.alloc ?_ ?_ _) | (with_reducible refine Below.drew ?_) | (with_reducible refine below_drewN ?_ _) | (with_reducible refine Below.setCell ?_ ?_ _) | (with_reducible refine bvia ?_ (by with_reducible assumption) ?_) | go_size))) (Nat.le_refl _) (by first | omega | (simp; omega)); have P1 := Lib.hid ((HP.out).next B1); have m1 := P1.out.o2; have mf1 := P1.out.of 2; have hz1 := G1.size; (try simp at hz1); clear G1 X1; obtain ⟨A1, k1, rfl, -, -, -⟩ := O1.rd0 PieceD.cells_length; simp only [List.length_append, List.length_cons, List.length_nil, Nat.zero_add] at O1))
            go_roundw
            case rel => exact ⟨k + 1, _, by omega, by go_num, by rw [hn.out], by rw [hn.out]; exact P1.out.setO _, by rw [hn.out]; exact O1.setBelow (p := ⟨bo, 2, none⟩) (by show bo < bn + 1; omega) _⟩
            case measure => simp [intOf]; omega
          · by_cases c2 : y.fAt + y.fText.size < x.fAt
            · cases d with
              | true =>
                have hn : Hid (putTo o L (k + 1) = (O ++ [x], y, true)) := by rw [HST.out]; unfold putStep; exact (if_neg c1).trans (if_pos c2)
                go_wp2_with (first
                  | (refine wpList_load_part rfl 44 (.tmp 61) rfl g _ rfl x.row _ HX.out Try.underlying44 rfl (by kernel_rfl) ?_)
                  | (at_builtin; refine wpList_append_rd _ rfl (.tmp 101) (.tmp 103) rfl slPiece PieceD.cells_length PieceD.one (bn + 1) vO O [x] rfl ((HO2.out.alloc _).alloc _) (some ⟨wr.heap.size + 1, 0, none⟩) 1 1 0 (wr.heap.size + 1 + 1) rfl rfl (rd_one _ x _ _ PieceD.cells_length rfl _ (by simp) _ (by omega)) (by simp; omega) (by first | omega | (simp; omega)) ?_; intro v1 w1 O1 G1 X1; have B1 : Below (bn + 1) (wr) w1 := Own.below2 G1 ((HO2.out.alloc _).alloc _) (by (repeat' (first | (with_reducible exact Below.refl _ _) | (with_reducible assumption) | (with_reducible refine Below.alloc ?_ ?_ _) | (with_reducible refine Below.drew ?_) | (with_reducible refine below_drewN ?_ _) | (with_reducible refine Below.setCell ?_ ?_ _) | (with_reducible refine bvia ?_ (by with_reducible assumption) ?_) | go_size))) (Nat.le_refl _) (by first | omega | (simp; omega)); have P1 := Lib.hid ((HP.out).next B1); have m1 := P1.out.o2; have mf1 := P1.out.of 2; have hz1 := G1.size; (try simp at hz1); clear G1 X1; obtain ⟨A1, k1, rfl, -, -, -⟩ := O1.rd0 PieceD.cells_length; simp only [List.length_append, List.length_cons, List.length_nil, Nat.zero_add] at O1))
                go_roundw
                case rel => exact ⟨k + 1, _, by omega, by go_num, by rw [hn.out], by rw [hn.out]; exact P1.out.setO _, by rw [hn.out]; exact O1.setBelow (p := ⟨bo, 2, none⟩) (by show bo < bn + 1; omega) _⟩
                case measure => simp [intOf]; omega
              | false =>
                have hn : Hid (putTo o L (k + 1) = (O ++ [y] ++ [x], y, true)) := by rw [HST.out]; unfold putStep; exact (if_neg c1).trans (if_pos c2)
                go_wp2_with (first
                  | (refine wpList_load_part rfl 44 (.tmp 61) rfl g _ rfl x.row _ HX.out Try.underlying44 rfl (by kernel_rfl) ?_)
                  | (at_builtin; refine wpList_append_rd _ rfl (.tmp 95) (.tmp 97) rfl slPiece PieceD.cells_length PieceD.one (bn + 1) vO O [y] rfl ((HO2.out.alloc _).alloc _) (some ⟨wr.heap.size + 1, 0, none⟩) 1 1 0 (wr.heap.size + 1 + 1) rfl rfl (rd_one _ y _ _ PieceD.cells_length rfl _ (by simp) _ (by omega)) (by simp; omega) (by first | omega | (simp; omega)) ?_; intro v1 w1 O1 G1 X1; have B1 : Below (bn + 1) (wr) w1 := Own.below2 G1 ((HO2.out.alloc _).alloc _) (by (repeat' (first | (with_reducible exact Below.refl _ _) | (with_reducible assumption) | (with_reducible refine Below.alloc ?_ ?_ _) | (with_reducible refine Below.drew ?_) | (with_reducible refine below_drewN ?_ _) | (with_reducible refine Below.setCell ?_ ?_ _) | (with_reducible refine bvia ?_ (by with_reducible assumption) ?_) | go_size))) (Nat.le_refl _) (by first | omega | (simp; omega)); have P1 := Lib.hid ((HP.out).next B1); have m1 := P1.out.o2; have mf1 := P1.out.of 2; have hz1 := G1.size; (try simp at hz1); have xx0 : w1.cell? ⟨wr.heap.size, 0, none⟩ = some (.int .i64 x.fAt) := (G1.cell_far _ (by first | (simp; done) | (simp; omega)) (by intro hh; have h9 := (HO2.out.lt hh.symm).2; first | omega | (simp at h9; done) | (simp at h9; omega))).trans (by simp [go_sem]); have xx1 : w1.cell? ⟨wr.heap.size, 1, none⟩ = some (.string x.fText) := (G1.cell_far _ (by first | (simp; done) | (simp; omega)) (by intro hh; have h9 := (HO2.out.lt hh.symm).2; first | omega | (simp at h9; done) | (simp at h9; omega))).trans (by simp [go_sem]); have hbw1 : bo < w1.heap.size := (by omega); have hxw1 : wr.heap.size < w1.heap.size := (by omega); have hne1 : ¬ bo = wr.heap.size := (by omega); have hne2 : ¬ wr.heap.size = bo := (by omega); clear G1 X1; obtain ⟨A1, k1, rfl, -, -, -⟩ := O1.rd0 PieceD.cells_length; simp only [List.length_append, List.length_cons, List.length_nil, Nat.zero_add] at O1)
                  | (at_builtin; refine wpList_append_rd _ rfl (.tmp 101) (.tmp 103) rfl slPiece PieceD.cells_length PieceD.one (bn + 1) (.slice A1 (O.length + 1) k1) (O ++ [y]) [x] rfl ((O1.setBelow (p := ⟨bo, 2, none⟩) (by show bo < bn + 1; omega) _).alloc _) (some ⟨w1.heap.size, 0, none⟩) 1 1 0 (w1.heap.size + 1) rfl rfl (rd_one _ x _ _ PieceD.cells_length rfl _ (by simp) _ (by omega)) (by simp; omega) (by first | omega | (simp; omega)) ?_; intro v2 w2 O2 G2 X2; have B2 : Below (bn + 1) (w1.setCell ⟨bo, 2, none⟩ (.slice A1 (O.length + 1) k1)) w2 := Own.below2 G2 ((O1.setBelow (p := ⟨bo, 2, none⟩) (by show bo < bn + 1; omega) _).alloc _) (by (repeat' (first | (with_reducible exact Below.refl _ _) | (with_reducible assumption) | (with_reducible refine Below.alloc ?_ ?_ _) | (with_reducible refine Below.drew ?_) | (with_reducible refine below_drewN ?_ _) | (with_reducible refine Below.setCell ?_ ?_ _) | (with_reducible refine bvia ?_ (by with_reducible assumption) ?_) | go_size))) (Nat.le_refl _) (by first | omega | (simp; omega)); have P2 := Lib.hid ((P1.out.setO (.slice A1 (O.length + 1) k1)).next B2); have m2 := P2.out.o2; have mf2 := P2.out.of 2; have hz2 := G2.size; (try simp at hz2); clear G2 X2; obtain ⟨A2, k2, rfl, -, -, -⟩ := O2.rd0 PieceD.cells_length; simp only [List.length_append, List.length_cons, List.length_nil, Nat.zero_add] at O2))
                go_roundw
                case rel => exact ⟨k + 1, _, by omega, by go_num, by rw [hn.out], by rw [hn.out]; exact P2.out.setO _, by rw [hn.out]; exact O2.setBelow (p := ⟨bo, 2, none⟩) (by show bo < bn + 1; omega) _⟩
                case measure => simp [intOf]; omega
            · obtain ⟨z, hz⟩ : ∃ z, joinV ⟨x.fAt, x.fText⟩ ⟨y.fAt, y.fText⟩ = z := ⟨_, rfl⟩
              have hn : Hid (putTo o L (k + 1) = (O, z, d)) := by rw [HST.out, ← hz]; unfold putStep; exact (if_neg c1).trans (if_neg c2)
              go_wp2_with (first
                | (refine wpList_load_part rfl 44 (.tmp 61) rfl g _ rfl x.row _ HX.out Try.underlying44 rfl (by kernel_rfl) ?_)
                | fail)
              refine (iMerged x.fAt y.fAt x.fText y.fText _ hxb.1 hxb.2 b2 b3 (by omega) (by omega) (by omega) (by omega)).mono ?_
              rintro e w1 ⟨rfl, hb1⟩
              rw [hz]
              have B1 : Below wr.heap.size wr w1 := by (repeat' (first | (with_reducible exact Below.refl _ _) | (with_reducible assumption) | (with_reducible refine Below.alloc ?_ ?_ _) | (with_reducible refine Below.drew ?_) | (with_reducible refine below_drewN ?_ _) | (with_reducible refine Below.setCell ?_ ?_ _) | (with_reducible refine bvia ?_ (by with_reducible assumption) ?_) | go_size))
              have P1 := Lib.hid (HP.out.next (B1.mono (by omega)))
              have m0 := P1.out.n0
              have m1 := P1.out.n1
              have mf0 := P1.out.nf 0
              have mf1 := P1.out.nf 1
              have O1 := Lib.hid (HO2.out.later B1 (Nat.le_refl _))
              clear n0 n1 o2 of2 HP HO2 hz
              go_wp2
              go_roundw
              case rel => exact ⟨k + 1, _, by omega, by go_num, by rw [hn.out], by rw [hn.out]; exact P1.out.setN z, by rw [hn.out]; exact (O1.out.setBelow (p := ⟨bn, 0, none⟩) (by show bn < bn + 1; omega) _).setBelow (p := ⟨bn, 1, none⟩) (by show bn < bn + 1; omega) _⟩
              case measure => simp [intOf]; omega
        · obtain rfl : k = L.length := by omega
          have hcov := put_cov o L
          obtain ⟨⟨O, y, d⟩, hst0⟩ : ∃ st, putTo o L L.length = st := ⟨_, rfl⟩
          obtain ⟨F, hF⟩ : ∃ F, putOut (putTo o L L.length) = F := ⟨_, rfl⟩
          rw [hF] at hcov
          have HF := Lib.hid hF
          rw [hst0] at hP hO hbd hF
          rw [hst0]
          simp only at hP hO hbd
          rw [List.take_length] at hbd
          obtain ⟨b1, b2, b3, b4, b5⟩ := hbd
          have hFl : F.length ≤ 22 ∧ sumT F ≤ 1000 := by
            rw [← hF]
            unfold putOut
            simp only
            split at b4
            · rename_i hd
              rw [if_pos hd] at b5
              rw [if_pos hd]; omega
            · rename_i hd
              rw [if_neg hd] at b5
              rw [if_neg hd, sumT_app, sumT_one, List.length_append, List.length_cons, List.length_nil]; omega
          have HFF : Hid (putOut (O, y, d) = F) := hF
          clear b4 b5 hst0 hF
          have hwf := HA.out.args hP hBz hbo2
          have n0 := hP.n0
          have n1 := hP.n1
          have o2 := hP.o2
          have of2 := hP.of 2
          have hbol : bo < wr.heap.size := by omega
          have hbnl : bn < wr.heap.size := by omega
          have HP := Lib.hid hP
          have HO2 := Lib.hid hO
          clear hP hO hwf hBw hBwz
          go_upto_if 108 with (fail)
          go_cut [10] (fun _ wx => ∃ vF, PB W0 (bn + 1) bo bn r s vF y wx ∧ Own wx (bn + 1) 44 PieceD.cells 2 vF F)
          case first =>
            cases d with
            | true =>
              have hf : F = O := HFF.out.symm
              go_wp2_with fail
              go_meet
              case rel => exact ⟨vO, HP.out, by rw [hf]; exact HO2.out⟩
            | false =>
              have hf : F = O ++ [y] := HFF.out.symm
              have hOl : O.length ≤ 22 := by have := hFl.1; rw [hf] at this; simp at this; omega
              clear HFF HF
              go_wp2_with (first
                | (at_builtin; refine wpList_append_rd _ rfl (.tmp 110) (.tmp 112) rfl slPiece PieceD.cells_length PieceD.one (bn + 1) vO O [y] rfl (HO2.out.alloc _) (some ⟨wr.heap.size, 0, none⟩) 1 1 0 (wr.heap.size + 1) rfl rfl (rd_one _ y _ _ PieceD.cells_length rfl _ (by simp) _ (by omega)) (by simp; omega) (by first | omega | (simp; omega)) ?_; intro v1 w1 O1 G1 X1; have B1 : Below (bn + 1) (wr) w1 := Own.below2 G1 (HO2.out.alloc _) (by (repeat' (first | (with_reducible exact Below.refl _ _) | (with_reducible assumption) | (with_reducible refine Below.alloc ?_ ?_ _) | (with_reducible refine Below.drew ?_) | (with_reducible refine below_drewN ?_ _) | (with_reducible refine Below.setCell ?_ ?_ _) | (with_reducible refine bvia ?_ (by with_reducible assumption) ?_) | go_size))) (Nat.le_refl _) (by first | omega | (simp; omega)); have P1 := Lib.hid ((HP.out).next B1); have m1 := P1.out.o2; have mf1 := P1.out.of 2; have hz1 := G1.size; (try simp at hz1); clear G1 X1; obtain ⟨A1, k1, rfl, -, -, -⟩ := O1.rd0 PieceD.cells_length; simp only [List.length_append, List.length_cons, List.length_nil, Nat.zero_add] at O1)
                | fail)
              go_meet
              case rel => exact ⟨_, P1.out.setO _, by rw [hf]; exact O1.setBelow (p := ⟨bo, 2, none⟩) (by show bo < bn + 1; omega) _⟩
          case rest =>
            obtain ⟨vF, hP2, hO3⟩ := hcut
            rcases hO3.form with ⟨-, hF0⟩ | ⟨g, capF, cur, rfl, hgb, -, hnc, hcm, -, -⟩
            · exfalso
              obtain ⟨c, hc, -⟩ := hcov
              rw [hF0] at hc; simp at hc
            · cases hFc : F with
              | nil => exfalso; obtain ⟨c, hc, -⟩ := hcov; rw [hFc] at hc; simp at hc
              | cons f R =>
                have hcore := core_head HNX.out HF.out hFc
                have hlen : F.length = R.length + 1 := by rw [hFc]; rfl
                have hdr := Lib.hid (show F.drop 1 = R by rw [hFc]; rfl)
                have hsum : sumT F = f.fText.size + sumT R := by rw [hFc]; rfl
                have a0 : wc.cell? ⟨g, 0, none⟩ = some (.int .i64 f.fAt) := by have := hO3.cellAt PieceD.cells_length 0 (by omega) 0 (by decide); simp [hFc, PieceD.cells] at this; exact this
                have a1 : wc.cell? ⟨g, 1, none⟩ = some (.string f.fText) := by have := hO3.cellAt PieceD.cells_length 0 (by omega) 1 (by decide); simp [hFc, PieceD.cells] at this; exact this
                obtain ⟨A9, k9, e9, -, -, hrF⟩ := hO3.rd PieceD.cells_length
                cases e9
                have o1' := hP2.o1
                have o2' := hP2.o2
                have of1' := hP2.of 1
                have of2' := hP2.of 2
                have hP2B := hP2.hB
                have hbol2 : bo < wc.heap.size := by omega
                have hne1 : ¬ bo = g := by omega
                have hne2 : ¬ g = bo := by omega
                have HP2 := Lib.hid hP2
                clear hP2 hO3 hcov HF HFF n0 n1 o2 of2 HP HO2 hFc
                by_cases hh : f.fAt = nx
                · have HC := Lib.hid (hcore.1 hh)
                  have d1 : (f.fAt == nx) = true := by simpa using hh
                  obtain ⟨sel, hsel, hrs⟩ := cut_sel hrF capF 1 (by omega)
                  have HRS := Lib.hid hrs
                  have hdl : R.length ≤ 22 ∧ sumT R ≤ 1000 ∧ (s ++ f.fText).size ≤ 2000 := ⟨by omega, by omega, by rw [app_size]; omega⟩
                  rw [hlen] at hnc o2' HP2
                  clear hrs hrF hcore hsum
                  have hcap1 : (1 : Int) ≤ (capF : Int) := by omega
                  have hsf : s.size + f.fText.size ≤ 2000 := by have := hdl.2.2; rw [app_size] at this; omega
                  have hfl : (0 : Int) < ((R.length + 1 : Nat) : Int) := by omega
                  go_wp2_with fail
                  go_region
                  go_upto_region 29 with (fail)
                  refine wp_world _ (fun W => PB W0 (bn + 1) bo bn r (s ++ f.fText) (.slice (sel (some ⟨g, 0, none⟩) (some ⟨g, 2, none⟩)) R.length (capF - 1)) y W ∧ Rd PieceD.cells 2 W 0 W.heap.size (sel (some ⟨g, 0, none⟩) (some ⟨g, 2, none⟩)) R) ⟨((HP2.out.setS (s ++ f.fText)).setO (.slice (sel (some ⟨g, 0, none⟩) (some ⟨g, 2, none⟩)) R.length (capF - 1))).next (Below.drew (Below.refl _ _)), ?_⟩ ?_
                  · rw [← hdr.out]
                    refine (HRS.out.keep (fun p hp _ => ?_)).wide (Nat.zero_le _) (by simp [World.drew])
                    exact (World.cell?_setCell_far _ _ _ _ (by show bo ≠ p.block; omega)).trans (World.cell?_setCell_far _ _ _ _ (by show bo ≠ p.block; omega))
                  · obtain ⟨SS, hSS⟩ : ∃ SS, s ++ f.fText = SS := ⟨_, rfl⟩
                    obtain ⟨AA, hAA⟩ : ∃ AA, sel (some ⟨g, 0, none⟩) (some ⟨g, 2, none⟩) = AA := ⟨_, rfl⟩
                    obtain ⟨KK, hKK⟩ : ∃ KK, capF - 1 = KK := ⟨_, rfl⟩
                    rw [hSS] at hdl HC
                    rw [hSS, hAA, hKK]
                    clear hSS hAA hKK HP2 HRS a0 a1 o1' o2' of1' of2' hsel
                    rintro W ⟨hPW, hRW⟩
                    have hQ := Lib.hid (HA.out.qfs hPW hBz hbo2)
                    obtain ⟨⟨p0, p1, p2⟩, -, -⟩ := HA.out.args hPW hBz hbo2
                    have m0 := hPW.o0
                    have m1 := hPW.o1
                    have m2 := hPW.o2
                    have hbW : bo < W.heap.size := by have := hPW.hB; omega
                    have hwW := hQ.out.hz
                    clear hPW
                    go_wp2_with fail
                    refine (iPiecesOk r SS AA KK R _ hRW (by omega) (by unfold maxLen; omega)).mono ?_
                    rintro e w8 ⟨rfl, hb8⟩
                    have HQ8 := Lib.hid (hQ.out.next hb8)
                    have hdec := put_dec q1 q2 q3 (by rw [HNX.out]; exact HO.out) HH0.out HC.out
                    have hdm : R.length ≤ 22 := by omega
                    try clear hlen
                    try clear hfl
                    try clear hcap1
                    try clear hsf
                    try clear hsum
                    try clear hcore
                    try clear hnc
                    try clear hcm
                    try clear hgb
                    try clear d1
                    try clear hh
                    try clear b1
                    try clear b2
                    try clear b3
                    try clear hk
                    try clear hlt
                    try clear hbol
                    try clear hbnl
                    try clear hbol2
                    try clear hne1
                    try clear hne2
                    try clear hBr
                    try clear hBz
                    try clear hP2B
                    try clear hab
                    try clear htb
                    try clear hnb
                    try clear hnb2
                    try clear hob
                    try clear hLb
                    try clear hl1
                    try clear hl2
                    try clear hl3
                    try clear hne
                    try clear hs200
                    try clear hl20
                    try clear hr0
                    try clear hr1
                    try clear hss
                    try clear hdl
                    try clear hFl
                    try clear h0
                    try clear hdr
                    try clear e1
                    try clear ho
                    try clear q1
                    try clear q2
                    try clear q3
                    try clear h3
                    try clear HQ1
                    try clear HCH
                    try clear HNX
                    try clear HO
                    try clear HH0
                    try clear HC
                    try clear HA
                    try clear hP0
                    try clear hQ
                    try clear hmm
                    try clear ht
                    try clear hbo1
                    try clear hlo
                    try clear hs
                    try clear hdec2
                    cases hpk : piecesOk r SS R with
                    | false =>
                      have hv : Hid (putV r s L a t = (s, L)) := by unfold Hid; rw [hdec, hpk]; rfl
                      have r0 := (hb8.cell (p := ⟨w.heap.size, 0, none⟩) (by show w.heap.size < _; omega)).trans p0
                      have r1 := (hb8.cell (p := ⟨w.heap.size, 1, none⟩) (by show w.heap.size < _; omega)).trans p1
                      have r2 := (hb8.cell (p := ⟨w.heap.size, 2, none⟩) (by show w.heap.size < _; omega)).trans p2
                      clear p0 p1 p2 m0 m1 m2 hdec hb8
                      go_wp2_with fail
                      refine (iCopyPieces r s A cap L _ (by exact hr.later HQ8.out.below (Nat.le_refl _) HQ8.out.below.size) hm).mono ?_
                      rintro e w3 ⟨A1, k1, rfl, O1, hb3⟩
                      have hWz8 := HQ8.out.hz
                      have hq3 := fun o => hb3.cell (p := ⟨w.heap.size + 1, o, none⟩) (by show w.heap.size + 1 < _; omega)
                      have z0 := (hq3 0).trans HQ8.out.q0
                      have z1 := (hq3 1).trans HQ8.out.q1
                      have z2 := (hq3 2).trans HQ8.out.q2
                      have zf := fun o => (hb3.frozen (p := ⟨w.heap.size + 1, o, none⟩) (by show w.heap.size + 1 < _; omega)).trans (HQ8.out.qf o)
                      have zf0 := zf 0
                      have zf1 := zf 1
                      have zf2 := zf 2
                      have hz3 := hb3.size
                      have hB3 : Below w.heap.size w w3 := HQ8.out.below.trans (hb3.mono HQ8.out.below.size)
                      have hW3 : w.heap.size + 2 ≤ w8.heap.size := by omega
                      have HO1 := Lib.hid O1
                      clear O1 hb3 hq3 zf
                      dsimp only
                      go_step
                      iterate 8 (try (first | go_values | go_skip | go_guarded | go_step | go_upon | go_back))
                      refine bodyPost_ret (v := pv r s A1 L.length k1) (by simp [results, Try.results12, go_sem, z0, z1, z2]) rfl ?_
                      exact RetPs.of hv.out ⟨A1, k1, rfl, (HO1.out.keep (fun k _ h1 h2 => (show Touch w.heap.size (w.heap.size + 2) w3 _ by (repeat' (first | (with_reducible exact Touch.refl _ _ _) | (with_reducible assumption) | (with_reducible refine Touch.alloc ?_ _) | (with_reducible refine Touch.drew ?_) | (with_reducible refine Touch.drewN ?_ _) | (with_reducible refine Touch.setCell ?_ ?_ ?_ _) | (with_reducible refine Touch.via ?_ (by with_reducible assumption)) | go_size))).block k h2 (.inr (by omega)))).up (by omega), by (repeat' (first | (with_reducible exact Below.refl _ _) | (with_reducible assumption) | (with_reducible refine Below.alloc ?_ ?_ _) | (with_reducible refine Below.drew ?_) | (with_reducible refine below_drewN ?_ _) | (with_reducible refine Below.setCell ?_ ?_ _) | (with_reducible refine bvia ?_ (by with_reducible assumption) ?_) | go_size))⟩
                    | true =>
                      have hv : Hid (putV r s L a t = (SS, R)) := by unfold Hid; rw [hdec, hpk]; rfl
                      have r0 := (hb8.cell (p := ⟨bo, 0, none⟩) hbW).trans m0
                      have r1 := (hb8.cell (p := ⟨bo, 1, none⟩) hbW).trans m1
                      have r2 := (hb8.cell (p := ⟨bo, 2, none⟩) hbW).trans m2
                      have hR8 := hRW.later hb8 (Nat.le_refl _) hb8.size
                      clear p0 p1 p2 m0 m1 m2 hdec hb8
                      go_wp2_with fail
                      refine (iCopyPieces r SS AA KK R _ (by exact hR8) (by omega)).mono ?_
                      rintro e w3 ⟨A1, k1, rfl, O1, hb3⟩
                      have hWz8 := HQ8.out.hz
                      have hq3 := fun o => hb3.cell (p := ⟨w.heap.size + 1, o, none⟩) (by show w.heap.size + 1 < _; omega)
                      have z0 := (hq3 0).trans HQ8.out.q0
                      have z1 := (hq3 1).trans HQ8.out.q1
                      have z2 := (hq3 2).trans HQ8.out.q2
                      have zf := fun o => (hb3.frozen (p := ⟨w.heap.size + 1, o, none⟩) (by show w.heap.size + 1 < _; omega)).trans (HQ8.out.qf o)
                      have zf0 := zf 0
                      have zf1 := zf 1
                      have zf2 := zf 2
                      have hz3 := hb3.size
                      have hB3 : Below w.heap.size w w3 := HQ8.out.below.trans (hb3.mono HQ8.out.below.size)
                      have hW3 : w.heap.size + 2 ≤ w8.heap.size := by omega
                      have HO1 := Lib.hid O1
                      clear O1 hb3 hq3 zf
                      dsimp only
                      go_step
                      iterate 8 (try (first | go_values | go_skip | go_guarded | go_step | go_upon | go_back))
                      refine bodyPost_ret (v := pv r SS A1 R.length k1) (by simp [results, Try.results12, go_sem, z0, z1, z2]) rfl ?_
                      exact RetPs.of hv.out ⟨A1, k1, rfl, (HO1.out.keep (fun k _ h1 h2 => (show Touch w.heap.size (w.heap.size + 2) w3 _ by (repeat' (first | (with_reducible exact Touch.refl _ _ _) | (with_reducible assumption) | (with_reducible refine Touch.alloc ?_ _) | (with_reducible refine Touch.drew ?_) | (with_reducible refine Touch.drewN ?_ _) | (with_reducible refine Touch.setCell ?_ ?_ ?_ _) | (with_reducible refine Touch.via ?_ (by with_reducible assumption)) | go_size))).block k h2 (.inr (by omega)))).up (by omega), by (repeat' (first | (with_reducible exact Below.refl _ _) | (with_reducible assumption) | (with_reducible refine Below.alloc ?_ ?_ _) | (with_reducible refine Below.drew ?_) | (with_reducible refine below_drewN ?_ _) | (with_reducible refine Below.setCell ?_ ?_ _) | (with_reducible refine bvia ?_ (by with_reducible assumption) ?_) | go_size))⟩
                · have HC := Lib.hid (hcore.2 hh)
                  have d1 : (f.fAt == nx) = false := by simpa using hh
                  have hfl : (0 : Int) < (F.length : Int) := by omega
                  have hdl : F.length ≤ 22 ∧ sumT F ≤ 1000 ∧ s.size ≤ 2000 := ⟨by omega, by omega, by omega⟩
                  clear hlen hsum hcore
                  go_upto_region 29 with (fail)
                  refine wp_world _ (fun W => PB W0 (bn + 1) bo bn r s (.slice (some ⟨g, 0, none⟩) F.length capF) y W ∧ Rd PieceD.cells 2 W 0 W.heap.size (some ⟨g, 0, none⟩) F) ⟨HP2.out, hrF.wide (Nat.zero_le _) (Nat.le_refl _)⟩ ?_
                  clear HP2 a0 a1 o1' o2' of1' of2' hrF
                  rintro W ⟨hPW, hRW⟩
                  have hQ := Lib.hid (HA.out.qfs hPW hBz hbo2)
                  obtain ⟨⟨p0, p1, p2⟩, -, -⟩ := HA.out.args hPW hBz hbo2
                  have m0 := hPW.o0
                  have m1 := hPW.o1
                  have m2 := hPW.o2
                  have hbW : bo < W.heap.size := by have := hPW.hB; omega
                  have hwW := hQ.out.hz
                  clear hPW
                  go_wp2_with fail
                  refine (iPiecesOk r s (some ⟨g, 0, none⟩) capF F _ hRW (by omega) (by unfold maxLen; omega)).mono ?_
                  rintro e w8 ⟨rfl, hb8⟩
                  have HQ8 := Lib.hid (hQ.out.next hb8)
                  have hdec := put_dec q1 q2 q3 (by rw [HNX.out]; exact HO.out) HH0.out HC.out
                  have hdm : F.length ≤ 22 := by omega
                  try clear hlen
                  try clear hfl
                  try clear hcap1
                  try clear hsf
                  try clear hsum
                  try clear hcore
                  try clear hnc
                  try clear hcm
                  try clear hgb
                  try clear d1
                  try clear hh
                  try clear b1
                  try clear b2
                  try clear b3
                  try clear hk
                  try clear hlt
                  try clear hbol
                  try clear hbnl
                  try clear hbol2
                  try clear hne1
                  try clear hne2
                  try clear hBr
                  try clear hBz
                  try clear hP2B
                  try clear hab
                  try clear htb
                  try clear hnb
                  try clear hnb2
                  try clear hob
                  try clear hLb
                  try clear hl1
                  try clear hl2
                  try clear hl3
                  try clear hne
                  try clear hs200
                  try clear hl20
                  try clear hr0
                  try clear hr1
                  try clear hss
                  try clear hdl
                  try clear hFl
                  try clear h0
                  try clear hdr
                  try clear e1
                  try clear ho
                  try clear q1
                  try clear q2
                  try clear q3
                  try clear h3
                  try clear HQ1
                  try clear HCH
                  try clear HNX
                  try clear HO
                  try clear HH0
                  try clear HC
                  try clear HA
                  try clear hP0
                  try clear hQ
                  try clear hmm
                  try clear ht
                  try clear hbo1
                  try clear hlo
                  try clear hs
                  try clear hdec2
                  cases hpk : piecesOk r s F with
                  | false =>
                    have hv : Hid (putV r s L a t = (s, L)) := by unfold Hid; rw [hdec, hpk]; rfl
                    have r0 := (hb8.cell (p := ⟨w.heap.size, 0, none⟩) (by show w.heap.size < _; omega)).trans p0
                    have r1 := (hb8.cell (p := ⟨w.heap.size, 1, none⟩) (by show w.heap.size < _; omega)).trans p1
                    have r2 := (hb8.cell (p := ⟨w.heap.size, 2, none⟩) (by show w.heap.size < _; omega)).trans p2
                    clear p0 p1 p2 m0 m1 m2 hdec hb8
                    go_wp2_with fail
                    refine (iCopyPieces r s A cap L _ (by exact hr.later HQ8.out.below (Nat.le_refl _) HQ8.out.below.size) hm).mono ?_
                    rintro e w3 ⟨A1, k1, rfl, O1, hb3⟩
                    have hWz8 := HQ8.out.hz
                    have hq3 := fun o => hb3.cell (p := ⟨w.heap.size + 1, o, none⟩) (by show w.heap.size + 1 < _; omega)
                    have z0 := (hq3 0).trans HQ8.out.q0
                    have z1 := (hq3 1).trans HQ8.out.q1
                    have z2 := (hq3 2).trans HQ8.out.q2
                    have zf := fun o => (hb3.frozen (p := ⟨w.heap.size + 1, o, none⟩) (by show w.heap.size + 1 < _; omega)).trans (HQ8.out.qf o)
                    have zf0 := zf 0
                    have zf1 := zf 1
                    have zf2 := zf 2
                    have hz3 := hb3.size
                    have hB3 : Below w.heap.size w w3 := HQ8.out.below.trans (hb3.mono HQ8.out.below.size)
                    have hW3 : w.heap.size + 2 ≤ w8.heap.size := by omega
                    have HO1 := Lib.hid O1
                    clear O1 hb3 hq3 zf
                    dsimp only
                    go_step
                    iterate 8 (try (first | go_values | go_skip | go_guarded | go_step | go_upon | go_back))
                    refine bodyPost_ret (v := pv r s A1 L.length k1) (by simp [results, Try.results12, go_sem, z0, z1, z2]) rfl ?_
                    exact RetPs.of hv.out ⟨A1, k1, rfl, (HO1.out.keep (fun k _ h1 h2 => (show Touch w.heap.size (w.heap.size + 2) w3 _ by (repeat' (first | (with_reducible exact Touch.refl _ _ _) | (with_reducible assumption) | (with_reducible refine Touch.alloc ?_ _) | (with_reducible refine Touch.drew ?_) | (with_reducible refine Touch.drewN ?_ _) | (with_reducible refine Touch.setCell ?_ ?_ ?_ _) | (with_reducible refine Touch.via ?_ (by with_reducible assumption)) | go_size))).block k h2 (.inr (by omega)))).up (by omega), by (repeat' (first | (with_reducible exact Below.refl _ _) | (with_reducible assumption) | (with_reducible refine Below.alloc ?_ ?_ _) | (with_reducible refine Below.drew ?_) | (with_reducible refine below_drewN ?_ _) | (with_reducible refine Below.setCell ?_ ?_ _) | (with_reducible refine bvia ?_ (by with_reducible assumption) ?_) | go_size))⟩
                  | true =>
                    have hv : Hid (putV r s L a t = (s, F)) := by unfold Hid; rw [hdec, hpk]; rfl
                    have r0 := (hb8.cell (p := ⟨bo, 0, none⟩) hbW).trans m0
                    have r1 := (hb8.cell (p := ⟨bo, 1, none⟩) hbW).trans m1
                    have r2 := (hb8.cell (p := ⟨bo, 2, none⟩) hbW).trans m2
                    have hR8 := hRW.later hb8 (Nat.le_refl _) hb8.size
                    clear p0 p1 p2 m0 m1 m2 hdec hb8
                    go_wp2_with fail
                    refine (iCopyPieces r s (some ⟨g, 0, none⟩) capF F _ (by exact hR8) (by omega)).mono ?_
                    rintro e w3 ⟨A1, k1, rfl, O1, hb3⟩
                    have hWz8 := HQ8.out.hz
                    have hq3 := fun o => hb3.cell (p := ⟨w.heap.size + 1, o, none⟩) (by show w.heap.size + 1 < _; omega)
                    have z0 := (hq3 0).trans HQ8.out.q0
                    have z1 := (hq3 1).trans HQ8.out.q1
                    have z2 := (hq3 2).trans HQ8.out.q2
                    have zf := fun o => (hb3.frozen (p := ⟨w.heap.size + 1, o, none⟩) (by show w.heap.size + 1 < _; omega)).trans (HQ8.out.qf o)
                    have zf0 := zf 0
                    have zf1 := zf 1
                    have zf2 := zf 2
                    have hz3 := hb3.size
                    have hB3 : Below w.heap.size w w3 := HQ8.out.below.trans (hb3.mono HQ8.out.below.size)
                    have hW3 : w.heap.size + 2 ≤ w8.heap.size := by omega
                    have HO1 := Lib.hid O1
                    clear O1 hb3 hq3 zf
                    dsimp only
                    go_step
                    iterate 8 (try (first | go_values | go_skip | go_guarded | go_step | go_upon | go_back))
                    refine bodyPost_ret (v := pv r s A1 F.length k1) (by simp [results, Try.results12, go_sem, z0, z1, z2]) rfl ?_
                    exact RetPs.of hv.out ⟨A1, k1, rfl, (HO1.out.keep (fun k _ h1 h2 => (show Touch w.heap.size (w.heap.size + 2) w3 _ by (repeat' (first | (with_reducible exact Touch.refl _ _ _) | (with_reducible assumption) | (with_reducible refine Touch.alloc ?_ _) | (with_reducible refine Touch.drew ?_) | (with_reducible refine Touch.drewN ?_ _) | (with_reducible refine Touch.setCell ?_ ?_ ?_ _) | (with_reducible refine Touch.via ?_ (by with_reducible assumption)) | go_size))).block k h2 (.inr (by omega)))).up (by omega), by (repeat' (first | (with_reducible exact Below.refl _ _) | (with_reducible assumption) | (with_reducible refine Below.alloc ?_ ?_ _) | (with_reducible refine Below.drew ?_) | (with_reducible refine below_drewN ?_ _) | (with_reducible refine Below.setCell ?_ ?_ _) | (with_reducible refine bvia ?_ (by with_reducible assumption) ?_) | go_size))⟩
end Go.Proofs.Ytpjbnfpadbknpaa
