/- Plain laws of FnSends: what is sent piece by piece. No program in sight. -/
import Derived.Test.YtddpgdgpicamiaaOut4
namespace Go.Proofs.Ytddpgdgpicamiaa
set_option linter.unusedSimpArgs false
set_option linter.unusedVariables false

/-- How much has been told behind k rounds. -/
def told (T : ByteArray) (k : Nat) : Nat := min (20 * k) T.size
theorem told_zero (T : ByteArray) : told T 0 = 0 := by unfold told; omega
theorem told_le (T : ByteArray) (k : Nat) : told T k ≤ T.size := by unfold told; omega
theorem told_all {T : ByteArray} {k : Nat} (h : T.size ≤ 20 * k) : told T k = T.size := by unfold told; omega
theorem told_succ (T : ByteArray) (k : Nat) : told T (k + 1) = min T.size (told T k + 20) := by unfold told; omega
theorem told_lt {T : ByteArray} {k : Nat} (h : told T k < T.size) : told T k = 20 * k := by unfold told at *; omega
/-- What holds of the buffer that is told. -/
structure Tells (T : ByteArray) (b r : Int) : Prop where
  b0 : 0 ≤ b
  b1 : b ≤ 500
  r0 : 1 ≤ r
  r1 : r ≤ 200
  tr : (T.size : Int) ≤ r
theorem Tells.ok {T : ByteArray} {b r : Int} (h : Tells T b r) {n : Int} (h0 : b ≤ n) (h1 : n ≤ b + T.size) : outOk T b n r = true := by
  have := h.b0; have := h.b1; have := h.r0; have := h.r1; have := h.tr
  simp [outOk, winB]; omega
/-- A round: what NextPiece gives, and what WasSent makes of it. -/
theorem Tells.next {T : ByteArray} {b r : Int} (h : Tells T b r) {k : Nat} (hk : told T k < T.size) :
    npOk T b (b + told T k) r = true ∧ npAt T b (b + told T k) r = b + told T k ∧ 0 < (npTx T b (b + told T k) r).size ∧ (npTx T b (b + told T k) r).size ≤ 20 ∧
    T.extract 0 (told T k) ++ npTx T b (b + told T k) r = T.extract 0 (told T (k + 1)) ∧ sentN T b (b + told T k) r = b + told T (k + 1) := by
  have ho := h.ok (n := b + told T k) (by omega) (by omega)
  have hn := np_yes ho (by omega)
  obtain ⟨h1, h2⟩ := np_val hn
  have e1 : (b + (told T k : Int) - b).toNat = told T k := by omega
  rw [e1, ← told_succ] at h2
  have hs : (npTx T b (b + told T k) r).size = told T (k + 1) - told T k := by
    rw [h2, ByteArray.size_extract]; have := told_le T (k + 1); omega
  have ht := told_succ T k
  refine ⟨hn, h1, by omega, by omega, ?_, ?_⟩
  · rw [h2, ByteArray.extract_append_extract]
    congr 1 <;> omega
  · unfold sentN; rw [hs]; omega
theorem Tells.last {T : ByteArray} {b r : Int} (h : Tells T b r) {k : Nat} (hk : ¬ told T k < T.size) : npOk T b (b + told T k) r = false ∧ told T k = T.size := by
  have := told_le T k
  exact ⟨np_no (h.ok (by omega) (by omega)) (by omega), by omega⟩
theorem Tells.came {T : ByteArray} {b r : Int} (h : Tells T b r) : outOk (cameT T b (b + T.size) r (b + T.size)) (cameB T b (b + T.size) r (b + T.size)) (cameN T b (b + T.size) r (b + T.size)) r = true ∧
    (T.size ≠ 0 → cameT T b (b + T.size) r (b + T.size) = ByteArray.empty ∧ cameB T b (b + T.size) r (b + T.size) = b + T.size) := by
  have ho := h.ok (n := b + T.size) (by omega) (by omega)
  by_cases h0 : T.size = 0
  · have hc : cameOk T b (b + T.size) r (b + T.size) = false := by simp [cameOk, h0]
    obtain ⟨e1, e2, e3⟩ := came_no hc
    rw [e1, e2, e3]
    exact ⟨ho, fun h => absurd h0 h⟩
  · have hc : cameOk T b (b + T.size) r (b + T.size) = true := by simp [cameOk, ho]; omega
    obtain ⟨e1, e2, e3⟩ := came_yes hc
    rw [e1, e2, e3]
    have e4 : (b + (T.size : Int) - b).toNat = T.size := by omega
    have e5 : T.extract T.size T.size = ByteArray.empty := by simp
    rw [e4, e5]
    have := h.b0; have := h.b1; have := h.r0; have := h.r1; have := h.tr
    refine ⟨?_, fun _ => ⟨rfl, rfl⟩⟩
    rw [show max (b + (T.size : Int)) (b + T.size) = b + T.size by omega]
    have he : ByteArray.empty.size = 0 := rfl
    unfold outOk winB
    rw [he]
    simp only [Bool.and_eq_true, decide_eq_true_eq]
    omega
/-- What Accept gives of a buffer that is right and lies low. -/
theorem acc_low {s t : ByteArray} {b n r : Int} (h : outOk s b n r = true) (hn : n ≤ 500) :
    ∃ k : Nat, accN s t b n r = k ∧ k ≤ t.size ∧ accT s t b n r = s ++ t.extract 0 k ∧ Tells (s ++ t.extract 0 k) b r ∧ (k = t.size ∨ ((s ++ t.extract 0 k).size : Int) = r) ∧ (s ++ t.extract 0 k).size = s.size + k := by
  obtain ⟨k1, k2, k3, k4, k5, k6, k7⟩ := outOk_bounds h
  have hk : accK s t r = min (t.size : Int) (r - s.size) := rfl
  have hok : accOk s t b n r = true := by simp [accOk, h]; omega
  obtain ⟨e1, e2⟩ := acc_yes hok
  have hsz : (s ++ t.extract 0 (accK s t r).toNat).size = s.size + (accK s t r).toNat := by
    rw [ByteArray.size_append, ByteArray.size_extract]; omega
  refine ⟨(accK s t r).toNat, by rw [e2]; omega, by omega, e1, ⟨k1, by omega, k3, k4, ?_⟩, ?_, hsz⟩
  · omega
  · omega
theorem acc_bad {s t : ByteArray} {b n r : Int} (h : outOk s b n r = false) : accN s t b n r = 0 ∧ accT s t b n r = s := by
  have := acc_no (s := s) (t := t) (b := b) (n := n) (r := r) (by simp [accOk, h])
  exact ⟨this.2, this.1⟩
/-- The buffers that are drawn. -/
structure OutIn (s : ByteArray) (b n r : Int) (m : Int) : Prop where
  b0 : 0 ≤ b
  b1 : b ≤ m
  r0 : 1 ≤ r
  r1 : r ≤ 200
  tr : (s.size : Int) ≤ r
  n0 : b ≤ n
  n1 : n ≤ b + s.size
theorem OutIn.ok {s : ByteArray} {b n r m : Int} (h : OutIn s b n r m) (hm : m ≤ 300) : outOk s b n r = true := by
  have := h.b0; have := h.b1; have := h.r0; have := h.r1; have := h.tr; have := h.n0; have := h.n1
  simp [outOk, winB]; omega
theorem OutIn.acc {s : ByteArray} {b n r m : Int} (h : OutIn s b n r m) (hm : m ≤ 300) (t : ByteArray) : OutIn (accT s t b n r) b n r m := by
  have := h.b0; have := h.b1; have := h.r0; have := h.r1; have := h.tr; have := h.n0; have := h.n1
  obtain ⟨k, e1, e2, e3, e4, e5, e6⟩ := acc_low (t := t) (h.ok hm) (by omega)
  rw [e3]
  exact ⟨h.b0, h.b1, h.r0, h.r1, e4.tr, h.n0, by omega⟩
theorem OutIn.sent {s : ByteArray} {b n r m : Int} (h : OutIn s b n r m) (hm : m ≤ 300) : OutIn s b (sentN s b n r) r m := by
  have h1 := h.n0; have h2 := h.n1
  have ho := h.ok hm
  by_cases hl : n < b + s.size
  · have hn := np_yes ho hl
    have hv := (np_val hn).2
    have hs : (npTx s b n r).size = min s.size ((n - b).toNat + 20) - (n - b).toNat := by rw [hv, ByteArray.size_extract]; omega
    exact ⟨h.b0, h.b1, h.r0, h.r1, h.tr, by unfold sentN; omega, by unfold sentN; omega⟩
  · rw [npTx_no (np_no ho hl)]; exact h
theorem OutIn.came {s : ByteArray} {b n r m u : Int} (h : OutIn s b n r m) (hm : m ≤ 300) (hu : u ≤ m + 20) : OutIn (cameT s b n r u) (cameB s b n r u) (cameN s b n r u) r (m + 20) := by
  have h0 := h.b0; have h1 := h.b1; have h2 := h.r0; have h3 := h.r1; have h4 := h.tr; have h5 := h.n0; have h6 := h.n1
  cases hc : cameOk s b n r u with
  | false =>
    obtain ⟨e1, e2, e3⟩ := came_no hc
    rw [e1, e2, e3]
    exact ⟨h0, by omega, h2, h3, h4, h5, h6⟩
  | true =>
    obtain ⟨e1, e2, e3⟩ := came_yes hc
    simp [cameOk] at hc
    have hs : (s.extract (u - b).toNat s.size).size = s.size - (u - b).toNat := by rw [ByteArray.size_extract]; omega
    rw [e1, e2, e3]
    exact ⟨by omega, by omega, h2, h3, by omega, by omega, by omega⟩
theorem OutIn.anew {s : ByteArray} {b n r m : Int} (h : OutIn s b n r m) (hm : m ≤ 300) : OutIn s b (anewN s b n r) r m := by
  have h5 := h.n0; have h6 := h.n1
  rw [show anewN s b n r = b from by simp [anewN, h.ok hm]]
  exact ⟨h.b0, h.b1, h.r0, h.r1, h.tr, by omega, by omega⟩
theorem OutIn.more {s : ByteArray} {b n r m m' : Int} (h : OutIn s b n r m) (hm : m ≤ m') : OutIn s b n r m' := ⟨h.b0, by have := h.b1; omega, h.r0, h.r1, h.tr, h.n0, h.n1⟩
end Go.Proofs.Ytddpgdgpicamiaa
