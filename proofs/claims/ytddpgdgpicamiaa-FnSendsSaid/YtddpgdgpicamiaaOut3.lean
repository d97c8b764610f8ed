/- Anew, WasSent, Came (program and reference): for every argument. -/
import Derived.Test.YtddpgdgpicamiaaOut2
import Derived.Test.YtddpgdgpicamiaaAgg
import Derived.Deep.DeepCutAuto
import Derived.Lib.SmallJoins
namespace Go.Proofs.Ytddpgdgpicamiaa
set_option linter.unusedSimpArgs false
set_option linter.unusedVariables false
open Go.RowKit

/-- What Anew computes: Sent. -/
def anewN (s : ByteArray) (b n r : Int) : Int := if outOk s b n r then b else n
theorem iAnew (s : ByteArray) (b n r : Int) (w : World) (hs : s.size ≤ maxLen) : Calls Try.prog 18 #[ou s b n r] w fun e w' => e = .returned (ou s b (anewN s b n r) r) ∧ Below w.heap.size w w' := by
  by_cases h : outOk s b n r = true
  · have hv := Lib.hid (show anewN s b n r = b by simp [anewN, h])
    go_enter Try.func18, Try.ntmps18
    go_wp2_with fail
    refine (iOutOk _ _ _ _ _ hs).mono ?_
    rintro e w1 ⟨rfl, hb1⟩
    obtain ⟨hc, hf⟩ := bcell hb1
    have hc1_0 := fun o => hc (w.heap.size) o (by go_size)
    have hf1_0 := fun o => hf (w.heap.size) o (by go_size)
    have hz1_0 : w.heap.size < w1.heap.size := Nat.lt_of_lt_of_le (by go_size) hb1.size
    have hc1_1 := fun o => hc (w.heap.size + 1) o (by go_size)
    have hf1_1 := fun o => hf (w.heap.size + 1) o (by go_size)
    have hz1_1 : w.heap.size + 1 < w1.heap.size := Nat.lt_of_lt_of_le (by go_size) hb1.size
    clear hc hf
    have hz1 := hb1.size
    try simp at hz1
    go_wp2
    refine bodyPost_ret (v := ou s b b r) (by simp [results, Try.results18, go_sem, *]) rfl ?_
    exact ⟨by rw [hv.out], by (repeat' (first | (with_reducible exact Below.refl _ _) | (with_reducible assumption) | (with_reducible refine Below.alloc ?_ ?_ _) | (with_reducible refine Below.drew ?_) | (with_reducible refine below_drewN ?_ _) | (with_reducible refine Below.setCell ?_ ?_ _) | (with_reducible refine bvia ?_ (by with_reducible assumption) ?_) | go_size))⟩
  · have hv := Lib.hid (show anewN s b n r = n by simp [anewN, h])
    go_enter Try.func18, Try.ntmps18
    go_wp2_with fail
    refine (iOutOk _ _ _ _ _ hs).mono ?_
    rintro e w1 ⟨rfl, hb1⟩
    obtain ⟨hc, hf⟩ := bcell hb1
    have hc1_0 := fun o => hc (w.heap.size) o (by go_size)
    have hf1_0 := fun o => hf (w.heap.size) o (by go_size)
    have hz1_0 : w.heap.size < w1.heap.size := Nat.lt_of_lt_of_le (by go_size) hb1.size
    have hc1_1 := fun o => hc (w.heap.size + 1) o (by go_size)
    have hf1_1 := fun o => hf (w.heap.size + 1) o (by go_size)
    have hz1_1 : w.heap.size + 1 < w1.heap.size := Nat.lt_of_lt_of_le (by go_size) hb1.size
    clear hc hf
    have hz1 := hb1.size
    try simp at hz1
    go_wp2
    refine bodyPost_ret (v := ou s b n r) (by simp [results, Try.results18, go_sem, *]) rfl ?_
    exact ⟨by rw [hv.out], by (repeat' (first | (with_reducible exact Below.refl _ _) | (with_reducible assumption) | (with_reducible refine Below.alloc ?_ ?_ _) | (with_reducible refine Below.drew ?_) | (with_reducible refine below_drewN ?_ _) | (with_reducible refine Below.setCell ?_ ?_ _) | (with_reducible refine bvia ?_ (by with_reducible assumption) ?_) | go_size))⟩
theorem sAnew (s : ByteArray) (b n r : Int) (w : World) (hs : s.size ≤ maxLen) : Calls Try.prog 17 #[ou s b n r] w fun e w' => e = .returned (ou s b (anewN s b n r) r) ∧ Below w.heap.size w w' := by
  by_cases h : outOk s b n r = true
  · have hv := Lib.hid (show anewN s b n r = b by simp [anewN, h])
    go_enter Try.func17, Try.ntmps17
    go_wp2_with fail
    refine (sOutOk _ _ _ _ _ hs).mono ?_
    rintro e w1 ⟨rfl, hb1⟩
    obtain ⟨hc, hf⟩ := bcell hb1
    have hc1_0 := fun o => hc (w.heap.size) o (by go_size)
    have hf1_0 := fun o => hf (w.heap.size) o (by go_size)
    have hz1_0 : w.heap.size < w1.heap.size := Nat.lt_of_lt_of_le (by go_size) hb1.size
    have hc1_1 := fun o => hc (w.heap.size + 1) o (by go_size)
    have hf1_1 := fun o => hf (w.heap.size + 1) o (by go_size)
    have hz1_1 : w.heap.size + 1 < w1.heap.size := Nat.lt_of_lt_of_le (by go_size) hb1.size
    clear hc hf
    have hz1 := hb1.size
    try simp at hz1
    go_wp2
    refine bodyPost_ret (v := ou s b b r) (by simp [results, Try.results17, go_sem, *]) rfl ?_
    exact ⟨by rw [hv.out], by (repeat' (first | (with_reducible exact Below.refl _ _) | (with_reducible assumption) | (with_reducible refine Below.alloc ?_ ?_ _) | (with_reducible refine Below.drew ?_) | (with_reducible refine below_drewN ?_ _) | (with_reducible refine Below.setCell ?_ ?_ _) | (with_reducible refine bvia ?_ (by with_reducible assumption) ?_) | go_size))⟩
  · have hv := Lib.hid (show anewN s b n r = n by simp [anewN, h])
    go_enter Try.func17, Try.ntmps17
    go_wp2_with fail
    refine (sOutOk _ _ _ _ _ hs).mono ?_
    rintro e w1 ⟨rfl, hb1⟩
    obtain ⟨hc, hf⟩ := bcell hb1
    have hc1_0 := fun o => hc (w.heap.size) o (by go_size)
    have hf1_0 := fun o => hf (w.heap.size) o (by go_size)
    have hz1_0 : w.heap.size < w1.heap.size := Nat.lt_of_lt_of_le (by go_size) hb1.size
    have hc1_1 := fun o => hc (w.heap.size + 1) o (by go_size)
    have hf1_1 := fun o => hf (w.heap.size + 1) o (by go_size)
    have hz1_1 : w.heap.size + 1 < w1.heap.size := Nat.lt_of_lt_of_le (by go_size) hb1.size
    clear hc hf
    have hz1 := hb1.size
    try simp at hz1
    go_wp2
    refine bodyPost_ret (v := ou s b n r) (by simp [results, Try.results17, go_sem, *]) rfl ?_
    exact ⟨by rw [hv.out], by (repeat' (first | (with_reducible exact Below.refl _ _) | (with_reducible assumption) | (with_reducible refine Below.alloc ?_ ?_ _) | (with_reducible refine Below.drew ?_) | (with_reducible refine below_drewN ?_ _) | (with_reducible refine Below.setCell ?_ ?_ _) | (with_reducible refine bvia ?_ (by with_reducible assumption) ?_) | go_size))⟩
/-- What WasSent computes: Sent. -/
def sentN (s : ByteArray) (b n r : Int) : Int := n + (npTx s b n r).size
theorem npTx_size {s : ByteArray} {b n r : Int} : (npTx s b n r).size ≤ 20 := by
  unfold npTx
  split
  · rw [ByteArray.size_extract]; omega
  · exact Nat.zero_le _
theorem npTx_no {s : ByteArray} {b n r : Int} (h : npOk s b n r = false) : sentN s b n r = n := by
  unfold sentN
  rw [(np_nov h).2]
  show n + ((0 : Nat) : Int) = n
  omega
theorem np_bounds {s : ByteArray} {b n r : Int} (h : npOk s b n r = true) : 0 ≤ n ∧ n ≤ 1000000200 := by
  have : outOk s b n r = true := by simp [npOk] at h; exact h.1
  have := outOk_bounds this
  omega
set_option maxHeartbeats 400000 in
theorem iWasSent (s : ByteArray) (b n r : Int) (w : World) (hs : s.size ≤ maxLen) (hn : -9223372036854775808 ≤ n ∧ n ≤ 9223372036854775807) : Calls Try.prog 25 #[ou s b n r] w fun e w' => e = .returned (ou s b (sentN s b n r) r) ∧ Below w.heap.size w w' := by
  have hz0 := npTx_size (s := s) (b := b) (n := n) (r := r)
  have C := fun W => iNextPiece s b n r W hs
  have hv : sentN s b n r = n + (npTx s b n r).size := rfl
  have hno := fun h => npTx_no (s := s) (b := b) (n := n) (r := r) h
  have h00 : npOk s b n r = false → (npTx s b n r).size = 0 := fun h => by rw [(np_nov h).2]; rfl
  have hbd := fun h => np_bounds (s := s) (b := b) (n := n) (r := r) h
  generalize sentN s b n r = S at *
  generalize npTx s b n r = T at *
  generalize npAt s b n r = a at *
  generalize npOk s b n r = o at *
  have HC := Lib.hid C
  clear C
  cases o with
  | true =>
    have hbd' := hbd rfl
    clear hno h00 hbd
    subst hv
    go_enter Try.func25, Try.ntmps25
    go_wp2_with fail
    refine (HC.out _).mono ?_
    rintro e w1 ⟨rfl, hb1⟩
    obtain ⟨hc, hf⟩ := bcell hb1
    have hc1_0 := fun o => hc (w.heap.size) o (by go_size)
    have hf1_0 := fun o => hf (w.heap.size) o (by go_size)
    have hz1_0 : w.heap.size < w1.heap.size := Nat.lt_of_lt_of_le (by go_size) hb1.size
    have hc1_1 := fun o => hc (w.heap.size + 1) o (by go_size)
    have hf1_1 := fun o => hf (w.heap.size + 1) o (by go_size)
    have hz1_1 : w.heap.size + 1 < w1.heap.size := Nat.lt_of_lt_of_le (by go_size) hb1.size
    clear hc hf
    have hz1 := hb1.size
    try simp at hz1
    have G1 : w1.heap[w.heap.size]? = some (.cells #[.string s, .int .i64 b, .int .i64 n, .int .i64 r] 26 (0, 0)) := (hb1.block _ (by go_size)).trans (by ((repeat (rw [heap_alloc_at, if_neg (by simp only [World.size_alloc, World.size_setCell]; omega)])); (first | (rw [heap_alloc_at, if_pos (by simp only [World.size_alloc, World.size_setCell])]) | rfl | assumption)))
    have G2 : w1.heap[w.heap.size + 1]? = some (.cells #[.string ⟨#[]⟩, .int .i64 0, .int .i64 0, .int .i64 0] 26 (0, 0)) := (hb1.block _ (by go_size)).trans (by ((repeat (rw [heap_alloc_at, if_neg (by simp only [World.size_alloc, World.size_setCell]; omega)])); (first | (rw [heap_alloc_at, if_pos (by simp only [World.size_alloc, World.size_setCell])]) | rfl | assumption)))
    go_upto_region 3 with (fail)
    refine wp_world _ (fun W => W.heap[w.heap.size]? = some (.cells #[.string s, .int .i64 b, .int .i64 (n + T.size), .int .i64 r] 26 (0, 0)) ∧ W.heap[w.heap.size + 1]? = some (.cells #[.string ⟨#[]⟩, .int .i64 0, .int .i64 0, .int .i64 0] 26 (0, 0)) ∧ Below w.heap.size w W) ⟨?_, ?_, ?_⟩ ?_
    · rw [heap_alloc_at, if_neg (by (try simp only [World.size_setCell]); omega)]
      exact Joins.block_setCell G1 _
    · rw [heap_alloc_at, if_neg (by (try simp only [World.size_setCell]); omega)]
      rw [Below.heap_setCell _ _ _ _ (by simp)]; exact G2
    · (repeat' (first | (with_reducible exact Below.refl _ _) | (with_reducible assumption) | (with_reducible refine Below.alloc ?_ ?_ _) | (with_reducible refine Below.drew ?_) | (with_reducible refine below_drewN ?_ _) | (with_reducible refine Below.setCell ?_ ?_ _) | (with_reducible refine bvia ?_ (by with_reducible assumption) ?_) | go_size))
    · rintro W ⟨g1, g2, hB⟩
      refine wp_region_lit ?_
      refine wpList_load_row rfl 26 (.tmp 1) rfl (w.heap.size) rfl 26 _ (0, 0) _ g1 Try.underlying26 rfl (by kernel_rfl) ?_
      refine wpList_store_row rfl rfl 26 (.tmp 2) (.tmp 17) rfl (w.heap.size + 1) rfl 26 _ _ rfl g2 rfl (by kernel_rfl) (by simp [Value.oneCell']) ?_
      intro wz hgz hgr hsz
      go_wp2
      refine bodyPost_ret (results_cell_row Try.results25 _ _ (w.heap.size + 1) 26 _ (0, 0) _ rfl hgz Try.underlying26 rfl (by kernel_rfl)) rfl ⟨rfl, hB.grown hgr (by have := hB.size; omega) (by rintro k ⟨⟩; omega)⟩
  | false =>
    have h0 := h00 rfl
    have hv' := Lib.hid (hno rfl)
    clear hno h00 hbd hv
    go_enter Try.func25, Try.ntmps25
    go_wp2_with fail
    refine (HC.out _).mono ?_
    rintro e w1 ⟨rfl, hb1⟩
    obtain ⟨hc, hf⟩ := bcell hb1
    have hc1_0 := fun o => hc (w.heap.size) o (by go_size)
    have hf1_0 := fun o => hf (w.heap.size) o (by go_size)
    have hz1_0 : w.heap.size < w1.heap.size := Nat.lt_of_lt_of_le (by go_size) hb1.size
    have hc1_1 := fun o => hc (w.heap.size + 1) o (by go_size)
    have hf1_1 := fun o => hf (w.heap.size + 1) o (by go_size)
    have hz1_1 : w.heap.size + 1 < w1.heap.size := Nat.lt_of_lt_of_le (by go_size) hb1.size
    clear hc hf
    have hz1 := hb1.size
    try simp at hz1
    have G1 : w1.heap[w.heap.size]? = some (.cells #[.string s, .int .i64 b, .int .i64 n, .int .i64 r] 26 (0, 0)) := (hb1.block _ (by go_size)).trans (by ((repeat (rw [heap_alloc_at, if_neg (by simp only [World.size_alloc, World.size_setCell]; omega)])); (first | (rw [heap_alloc_at, if_pos (by simp only [World.size_alloc, World.size_setCell])]) | rfl | assumption)))
    have G2 : w1.heap[w.heap.size + 1]? = some (.cells #[.string ⟨#[]⟩, .int .i64 0, .int .i64 0, .int .i64 0] 26 (0, 0)) := (hb1.block _ (by go_size)).trans (by ((repeat (rw [heap_alloc_at, if_neg (by simp only [World.size_alloc, World.size_setCell]; omega)])); (first | (rw [heap_alloc_at, if_pos (by simp only [World.size_alloc, World.size_setCell])]) | rfl | assumption)))
    go_upto_region 3 with (fail)
    refine wp_world _ (fun W => W.heap[w.heap.size]? = some (.cells #[.string s, .int .i64 b, .int .i64 (n), .int .i64 r] 26 (0, 0)) ∧ W.heap[w.heap.size + 1]? = some (.cells #[.string ⟨#[]⟩, .int .i64 0, .int .i64 0, .int .i64 0] 26 (0, 0)) ∧ Below w.heap.size w W) ⟨?_, ?_, ?_⟩ ?_
    · rw [heap_alloc_at, if_neg (by (try simp only [World.size_setCell]); omega)]
      exact Joins.block_setCell G1 _
    · rw [heap_alloc_at, if_neg (by (try simp only [World.size_setCell]); omega)]
      rw [Below.heap_setCell _ _ _ _ (by simp)]; exact G2
    · (repeat' (first | (with_reducible exact Below.refl _ _) | (with_reducible assumption) | (with_reducible refine Below.alloc ?_ ?_ _) | (with_reducible refine Below.drew ?_) | (with_reducible refine below_drewN ?_ _) | (with_reducible refine Below.setCell ?_ ?_ _) | (with_reducible refine bvia ?_ (by with_reducible assumption) ?_) | go_size))
    · rintro W ⟨g1, g2, hB⟩
      refine wp_region_lit ?_
      refine wpList_load_row rfl 26 (.tmp 1) rfl (w.heap.size) rfl 26 _ (0, 0) _ g1 Try.underlying26 rfl (by kernel_rfl) ?_
      refine wpList_store_row rfl rfl 26 (.tmp 2) (.tmp 17) rfl (w.heap.size + 1) rfl 26 _ _ rfl g2 rfl (by kernel_rfl) (by simp [Value.oneCell']) ?_
      intro wz hgz hgr hsz
      go_wp2
      refine bodyPost_ret (results_cell_row Try.results25 _ _ (w.heap.size + 1) 26 _ (0, 0) _ rfl hgz Try.underlying26 rfl (by kernel_rfl)) rfl ⟨by rw [hv'.out], hB.grown hgr (by have := hB.size; omega) (by rintro k ⟨⟩; omega)⟩
set_option maxHeartbeats 400000 in
theorem sWasSent (s : ByteArray) (b n r : Int) (w : World) (hs : s.size ≤ maxLen) (hn : -9223372036854775808 ≤ n ∧ n ≤ 9223372036854775807) : Calls Try.prog 24 #[ou s b n r] w fun e w' => e = .returned (ou s b (sentN s b n r) r) ∧ Below w.heap.size w w' := by
  have hz0 := npTx_size (s := s) (b := b) (n := n) (r := r)
  have C := fun W => sNextPiece s b n r W hs
  have hv : sentN s b n r = n + (npTx s b n r).size := rfl
  have hno := fun h => npTx_no (s := s) (b := b) (n := n) (r := r) h
  have h00 : npOk s b n r = false → (npTx s b n r).size = 0 := fun h => by rw [(np_nov h).2]; rfl
  have hbd := fun h => np_bounds (s := s) (b := b) (n := n) (r := r) h
  generalize sentN s b n r = S at *
  generalize npTx s b n r = T at *
  generalize npAt s b n r = a at *
  generalize npOk s b n r = o at *
  have HC := Lib.hid C
  clear C
  cases o with
  | true =>
    have hbd' := hbd rfl
    clear hno h00 hbd
    subst hv
    go_enter Try.func24, Try.ntmps24
    go_wp2_with fail
    refine (HC.out _).mono ?_
    rintro e w1 ⟨rfl, hb1⟩
    obtain ⟨hc, hf⟩ := bcell hb1
    have hc1_0 := fun o => hc (w.heap.size) o (by go_size)
    have hf1_0 := fun o => hf (w.heap.size) o (by go_size)
    have hz1_0 : w.heap.size < w1.heap.size := Nat.lt_of_lt_of_le (by go_size) hb1.size
    have hc1_1 := fun o => hc (w.heap.size + 1) o (by go_size)
    have hf1_1 := fun o => hf (w.heap.size + 1) o (by go_size)
    have hz1_1 : w.heap.size + 1 < w1.heap.size := Nat.lt_of_lt_of_le (by go_size) hb1.size
    clear hc hf
    have hz1 := hb1.size
    try simp at hz1
    have G1 : w1.heap[w.heap.size]? = some (.cells #[.string s, .int .i64 b, .int .i64 n, .int .i64 r] 26 (0, 0)) := (hb1.block _ (by go_size)).trans (by ((repeat (rw [heap_alloc_at, if_neg (by simp only [World.size_alloc, World.size_setCell]; omega)])); (first | (rw [heap_alloc_at, if_pos (by simp only [World.size_alloc, World.size_setCell])]) | rfl | assumption)))
    have G2 : w1.heap[w.heap.size + 1]? = some (.cells #[.string ⟨#[]⟩, .int .i64 0, .int .i64 0, .int .i64 0] 26 (0, 0)) := (hb1.block _ (by go_size)).trans (by ((repeat (rw [heap_alloc_at, if_neg (by simp only [World.size_alloc, World.size_setCell]; omega)])); (first | (rw [heap_alloc_at, if_pos (by simp only [World.size_alloc, World.size_setCell])]) | rfl | assumption)))
    go_upto_region 4 with (fail)
    refine wp_world _ (fun W => W.heap[w.heap.size]? = some (.cells #[.string s, .int .i64 b, .int .i64 (n + T.size), .int .i64 r] 26 (0, 0)) ∧ W.heap[w.heap.size + 1]? = some (.cells #[.string ⟨#[]⟩, .int .i64 0, .int .i64 0, .int .i64 0] 26 (0, 0)) ∧ Below w.heap.size w W) ⟨?_, ?_, ?_⟩ ?_
    · rw [heap_alloc_at, if_neg (by (try simp only [World.size_setCell]); omega)]
      exact Joins.block_setCell G1 _
    · rw [heap_alloc_at, if_neg (by (try simp only [World.size_setCell]); omega)]
      rw [Below.heap_setCell _ _ _ _ (by simp)]; exact G2
    · (repeat' (first | (with_reducible exact Below.refl _ _) | (with_reducible assumption) | (with_reducible refine Below.alloc ?_ ?_ _) | (with_reducible refine Below.drew ?_) | (with_reducible refine below_drewN ?_ _) | (with_reducible refine Below.setCell ?_ ?_ _) | (with_reducible refine bvia ?_ (by with_reducible assumption) ?_) | go_size))
    · rintro W ⟨g1, g2, hB⟩
      refine wp_region_lit ?_
      refine wpList_load_row rfl 26 (.tmp 1) rfl (w.heap.size) rfl 26 _ (0, 0) _ g1 Try.underlying26 rfl (by kernel_rfl) ?_
      refine wpList_store_row rfl rfl 26 (.tmp 2) (.tmp 18) rfl (w.heap.size + 1) rfl 26 _ _ rfl g2 rfl (by kernel_rfl) (by simp [Value.oneCell']) ?_
      intro wz hgz hgr hsz
      go_wp2
      refine bodyPost_ret (results_cell_row Try.results24 _ _ (w.heap.size + 1) 26 _ (0, 0) _ rfl hgz Try.underlying26 rfl (by kernel_rfl)) rfl ⟨rfl, hB.grown hgr (by have := hB.size; omega) (by rintro k ⟨⟩; omega)⟩
  | false =>
    have h0 := h00 rfl
    have hv' := Lib.hid (hno rfl)
    clear hno h00 hbd hv
    go_enter Try.func24, Try.ntmps24
    go_wp2_with fail
    refine (HC.out _).mono ?_
    rintro e w1 ⟨rfl, hb1⟩
    obtain ⟨hc, hf⟩ := bcell hb1
    have hc1_0 := fun o => hc (w.heap.size) o (by go_size)
    have hf1_0 := fun o => hf (w.heap.size) o (by go_size)
    have hz1_0 : w.heap.size < w1.heap.size := Nat.lt_of_lt_of_le (by go_size) hb1.size
    have hc1_1 := fun o => hc (w.heap.size + 1) o (by go_size)
    have hf1_1 := fun o => hf (w.heap.size + 1) o (by go_size)
    have hz1_1 : w.heap.size + 1 < w1.heap.size := Nat.lt_of_lt_of_le (by go_size) hb1.size
    clear hc hf
    have hz1 := hb1.size
    try simp at hz1
    have G1 : w1.heap[w.heap.size]? = some (.cells #[.string s, .int .i64 b, .int .i64 n, .int .i64 r] 26 (0, 0)) := (hb1.block _ (by go_size)).trans (by ((repeat (rw [heap_alloc_at, if_neg (by simp only [World.size_alloc, World.size_setCell]; omega)])); (first | (rw [heap_alloc_at, if_pos (by simp only [World.size_alloc, World.size_setCell])]) | rfl | assumption)))
    have G2 : w1.heap[w.heap.size + 1]? = some (.cells #[.string ⟨#[]⟩, .int .i64 0, .int .i64 0, .int .i64 0] 26 (0, 0)) := (hb1.block _ (by go_size)).trans (by ((repeat (rw [heap_alloc_at, if_neg (by simp only [World.size_alloc, World.size_setCell]; omega)])); (first | (rw [heap_alloc_at, if_pos (by simp only [World.size_alloc, World.size_setCell])]) | rfl | assumption)))
    go_upto_region 4 with (fail)
    refine wp_world _ (fun W => W.heap[w.heap.size]? = some (.cells #[.string s, .int .i64 b, .int .i64 (n), .int .i64 r] 26 (0, 0)) ∧ W.heap[w.heap.size + 1]? = some (.cells #[.string ⟨#[]⟩, .int .i64 0, .int .i64 0, .int .i64 0] 26 (0, 0)) ∧ Below w.heap.size w W) ⟨?_, ?_, ?_⟩ ?_
    · rw [heap_alloc_at, if_neg (by (try simp only [World.size_setCell]); omega)]
      exact G1
    · rw [heap_alloc_at, if_neg (by (try simp only [World.size_setCell]); omega)]
      exact G2
    · (repeat' (first | (with_reducible exact Below.refl _ _) | (with_reducible assumption) | (with_reducible refine Below.alloc ?_ ?_ _) | (with_reducible refine Below.drew ?_) | (with_reducible refine below_drewN ?_ _) | (with_reducible refine Below.setCell ?_ ?_ _) | (with_reducible refine bvia ?_ (by with_reducible assumption) ?_) | go_size))
    · rintro W ⟨g1, g2, hB⟩
      refine wp_region_lit ?_
      refine wpList_load_row rfl 26 (.tmp 1) rfl (w.heap.size) rfl 26 _ (0, 0) _ g1 Try.underlying26 rfl (by kernel_rfl) ?_
      refine wpList_store_row rfl rfl 26 (.tmp 2) (.tmp 18) rfl (w.heap.size + 1) rfl 26 _ _ rfl g2 rfl (by kernel_rfl) (by simp [Value.oneCell']) ?_
      intro wz hgz hgr hsz
      go_wp2
      refine bodyPost_ret (results_cell_row Try.results24 _ _ (w.heap.size + 1) 26 _ (0, 0) _ rfl hgz Try.underlying26 rfl (by kernel_rfl)) rfl ⟨by rw [hv'.out], hB.grown hgr (by have := hB.size; omega) (by rintro k ⟨⟩; omega)⟩
/-- What Came computes. -/
def cameOk (s : ByteArray) (b n r u : Int) : Bool := outOk s b n r && decide (b < u) && decide (u ≤ b + s.size)
def cameT (s : ByteArray) (b n r u : Int) : ByteArray := if cameOk s b n r u then s.extract (u - b).toNat s.size else s
def cameB (s : ByteArray) (b n r u : Int) : Int := if cameOk s b n r u then u else b
def cameN (s : ByteArray) (b n r u : Int) : Int := if cameOk s b n r u then max n u else n
theorem came_no {s : ByteArray} {b n r u : Int} (h : cameOk s b n r u = false) : cameT s b n r u = s ∧ cameB s b n r u = b ∧ cameN s b n r u = n := by simp [cameT, cameB, cameN, h]
theorem came_yes {s : ByteArray} {b n r u : Int} (h : cameOk s b n r u = true) : cameT s b n r u = s.extract (u - b).toNat s.size ∧ cameB s b n r u = u ∧ cameN s b n r u = max n u := by simp [cameT, cameB, cameN, h]
theorem ou_eq {s t : ByteArray} {a b c d r : Int} (h1 : s = t) (h2 : a = b) (h3 : c = d) : Ending.returned (ou s a c r) = .returned (ou t b d r) := by rw [h1, h2, h3]
set_option maxHeartbeats 1000000 in
theorem iCame (s : ByteArray) (b n r u : Int) (w : World) (hs : s.size ≤ maxLen) : Calls Try.prog 21 #[ou s b n r, .int .i64 u] w fun e w' => e = .returned (ou (cameT s b n r u) (cameB s b n r u) (cameN s b n r u) r) ∧ Below w.heap.size w w' := by
  have hs' := hs
  unfold maxLen at hs'
  by_cases h : outOk s b n r = true
  · obtain ⟨k1, k2, k3, k4, k5, k6, k7⟩ := outOk_bounds h
    by_cases h2 : b < u
    · by_cases h3 : u ≤ b + s.size
      · have hv := Lib.hid (came_yes (n := n) (r := r) (show cameOk s b n r u = true by simp [cameOk, h, h2, h3]))
        by_cases h4 : n < u
        · go_enter Try.func21, Try.ntmps21
          go_wp2_with fail
          refine (iOutOk _ _ _ _ _ hs).mono ?_
          rintro e w1 ⟨rfl, hb1⟩
          obtain ⟨hc, hf⟩ := bcell hb1
          have hc1_0 := fun o => hc (w.heap.size) o (by go_size)
          have hf1_0 := fun o => hf (w.heap.size) o (by go_size)
          have hz1_0 : w.heap.size < w1.heap.size := Nat.lt_of_lt_of_le (by go_size) hb1.size
          have hc1_1 := fun o => hc (w.heap.size + 1) o (by go_size)
          have hf1_1 := fun o => hf (w.heap.size + 1) o (by go_size)
          have hz1_1 : w.heap.size + 1 < w1.heap.size := Nat.lt_of_lt_of_le (by go_size) hb1.size
          clear hc hf
          have hz1 := hb1.size
          try simp at hz1
          go_wp2
          refine bodyPost_ret (v := ou (s.extract (u - b).toNat s.size) u u r) (by simp [results, Try.results21, go_sem, *]) rfl ?_
          exact ⟨ou_eq hv.out.1.symm hv.out.2.1.symm (by rw [hv.out.2.2]; omega), by (repeat' (first | (with_reducible exact Below.refl _ _) | (with_reducible assumption) | (with_reducible refine Below.alloc ?_ ?_ _) | (with_reducible refine Below.drew ?_) | (with_reducible refine below_drewN ?_ _) | (with_reducible refine Below.setCell ?_ ?_ _) | (with_reducible refine bvia ?_ (by with_reducible assumption) ?_) | go_size))⟩
        · go_enter Try.func21, Try.ntmps21
          go_wp2_with fail
          refine (iOutOk _ _ _ _ _ hs).mono ?_
          rintro e w1 ⟨rfl, hb1⟩
          obtain ⟨hc, hf⟩ := bcell hb1
          have hc1_0 := fun o => hc (w.heap.size) o (by go_size)
          have hf1_0 := fun o => hf (w.heap.size) o (by go_size)
          have hz1_0 : w.heap.size < w1.heap.size := Nat.lt_of_lt_of_le (by go_size) hb1.size
          have hc1_1 := fun o => hc (w.heap.size + 1) o (by go_size)
          have hf1_1 := fun o => hf (w.heap.size + 1) o (by go_size)
          have hz1_1 : w.heap.size + 1 < w1.heap.size := Nat.lt_of_lt_of_le (by go_size) hb1.size
          clear hc hf
          have hz1 := hb1.size
          try simp at hz1
          go_wp2
          refine bodyPost_ret (v := ou (s.extract (u - b).toNat s.size) u n r) (by simp [results, Try.results21, go_sem, *]) rfl ?_
          exact ⟨ou_eq hv.out.1.symm hv.out.2.1.symm (by rw [hv.out.2.2]; omega), by (repeat' (first | (with_reducible exact Below.refl _ _) | (with_reducible assumption) | (with_reducible refine Below.alloc ?_ ?_ _) | (with_reducible refine Below.drew ?_) | (with_reducible refine below_drewN ?_ _) | (with_reducible refine Below.setCell ?_ ?_ _) | (with_reducible refine bvia ?_ (by with_reducible assumption) ?_) | go_size))⟩
      · have hv := Lib.hid (came_no (n := n) (r := r) (show cameOk s b n r u = false by simp [cameOk, h3]))
        go_enter Try.func21, Try.ntmps21
        go_wp2_with fail
        refine (iOutOk _ _ _ _ _ hs).mono ?_
        rintro e w1 ⟨rfl, hb1⟩
        obtain ⟨hc, hf⟩ := bcell hb1
        have hc1_0 := fun o => hc (w.heap.size) o (by go_size)
        have hf1_0 := fun o => hf (w.heap.size) o (by go_size)
        have hz1_0 : w.heap.size < w1.heap.size := Nat.lt_of_lt_of_le (by go_size) hb1.size
        have hc1_1 := fun o => hc (w.heap.size + 1) o (by go_size)
        have hf1_1 := fun o => hf (w.heap.size + 1) o (by go_size)
        have hz1_1 : w.heap.size + 1 < w1.heap.size := Nat.lt_of_lt_of_le (by go_size) hb1.size
        clear hc hf
        have hz1 := hb1.size
        try simp at hz1
        go_wp2
        refine bodyPost_ret (v := ou s b n r) (by simp [results, Try.results21, go_sem, *]) rfl ?_
        exact ⟨ou_eq hv.out.1.symm hv.out.2.1.symm hv.out.2.2.symm, by (repeat' (first | (with_reducible exact Below.refl _ _) | (with_reducible assumption) | (with_reducible refine Below.alloc ?_ ?_ _) | (with_reducible refine Below.drew ?_) | (with_reducible refine below_drewN ?_ _) | (with_reducible refine Below.setCell ?_ ?_ _) | (with_reducible refine bvia ?_ (by with_reducible assumption) ?_) | go_size))⟩
    · have hv := Lib.hid (came_no (n := n) (r := r) (show cameOk s b n r u = false by simp [cameOk, h2]))
      go_enter Try.func21, Try.ntmps21
      go_wp2_with fail
      refine (iOutOk _ _ _ _ _ hs).mono ?_
      rintro e w1 ⟨rfl, hb1⟩
      obtain ⟨hc, hf⟩ := bcell hb1
      have hc1_0 := fun o => hc (w.heap.size) o (by go_size)
      have hf1_0 := fun o => hf (w.heap.size) o (by go_size)
      have hz1_0 : w.heap.size < w1.heap.size := Nat.lt_of_lt_of_le (by go_size) hb1.size
      have hc1_1 := fun o => hc (w.heap.size + 1) o (by go_size)
      have hf1_1 := fun o => hf (w.heap.size + 1) o (by go_size)
      have hz1_1 : w.heap.size + 1 < w1.heap.size := Nat.lt_of_lt_of_le (by go_size) hb1.size
      clear hc hf
      have hz1 := hb1.size
      try simp at hz1
      go_wp2
      refine bodyPost_ret (v := ou s b n r) (by simp [results, Try.results21, go_sem, *]) rfl ?_
      exact ⟨ou_eq hv.out.1.symm hv.out.2.1.symm hv.out.2.2.symm, by (repeat' (first | (with_reducible exact Below.refl _ _) | (with_reducible assumption) | (with_reducible refine Below.alloc ?_ ?_ _) | (with_reducible refine Below.drew ?_) | (with_reducible refine below_drewN ?_ _) | (with_reducible refine Below.setCell ?_ ?_ _) | (with_reducible refine bvia ?_ (by with_reducible assumption) ?_) | go_size))⟩
  · have hv := Lib.hid (came_no (show cameOk s b n r u = false by simp [cameOk, h]))
    go_enter Try.func21, Try.ntmps21
    go_wp2_with fail
    refine (iOutOk _ _ _ _ _ hs).mono ?_
    rintro e w1 ⟨rfl, hb1⟩
    obtain ⟨hc, hf⟩ := bcell hb1
    have hc1_0 := fun o => hc (w.heap.size) o (by go_size)
    have hf1_0 := fun o => hf (w.heap.size) o (by go_size)
    have hz1_0 : w.heap.size < w1.heap.size := Nat.lt_of_lt_of_le (by go_size) hb1.size
    have hc1_1 := fun o => hc (w.heap.size + 1) o (by go_size)
    have hf1_1 := fun o => hf (w.heap.size + 1) o (by go_size)
    have hz1_1 : w.heap.size + 1 < w1.heap.size := Nat.lt_of_lt_of_le (by go_size) hb1.size
    clear hc hf
    have hz1 := hb1.size
    try simp at hz1
    go_wp2
    refine bodyPost_ret (v := ou s b n r) (by simp [results, Try.results21, go_sem, *]) rfl ?_
    exact ⟨ou_eq hv.out.1.symm hv.out.2.1.symm hv.out.2.2.symm, by (repeat' (first | (with_reducible exact Below.refl _ _) | (with_reducible assumption) | (with_reducible refine Below.alloc ?_ ?_ _) | (with_reducible refine Below.drew ?_) | (with_reducible refine below_drewN ?_ _) | (with_reducible refine Below.setCell ?_ ?_ _) | (with_reducible refine bvia ?_ (by with_reducible assumption) ?_) | go_size))⟩
set_option maxHeartbeats 1000000 in
theorem sCame (s : ByteArray) (b n r u : Int) (w : World) (hs : s.size ≤ maxLen) : Calls Try.prog 20 #[ou s b n r, .int .i64 u] w fun e w' => e = .returned (ou (cameT s b n r u) (cameB s b n r u) (cameN s b n r u) r) ∧ Below w.heap.size w w' := by
  have hs' := hs
  unfold maxLen at hs'
  by_cases h : outOk s b n r = true
  · obtain ⟨k1, k2, k3, k4, k5, k6, k7⟩ := outOk_bounds h
    by_cases h2 : b < u
    · by_cases h3 : u ≤ b + s.size
      · have hv := Lib.hid (came_yes (n := n) (r := r) (show cameOk s b n r u = true by simp [cameOk, h, h2, h3]))
        by_cases h4 : n < u
        · go_enter Try.func20, Try.ntmps20
          go_wp2_with fail
          refine (sOutOk _ _ _ _ _ hs).mono ?_
          rintro e w1 ⟨rfl, hb1⟩
          obtain ⟨hc, hf⟩ := bcell hb1
          have hc1_0 := fun o => hc (w.heap.size) o (by go_size)
          have hf1_0 := fun o => hf (w.heap.size) o (by go_size)
          have hz1_0 : w.heap.size < w1.heap.size := Nat.lt_of_lt_of_le (by go_size) hb1.size
          have hc1_1 := fun o => hc (w.heap.size + 1) o (by go_size)
          have hf1_1 := fun o => hf (w.heap.size + 1) o (by go_size)
          have hz1_1 : w.heap.size + 1 < w1.heap.size := Nat.lt_of_lt_of_le (by go_size) hb1.size
          clear hc hf
          have hz1 := hb1.size
          try simp at hz1
          go_wp2
          refine bodyPost_ret (v := ou (s.extract (u - b).toNat s.size) u u r) (by simp [results, Try.results20, go_sem, *]) rfl ?_
          exact ⟨ou_eq hv.out.1.symm hv.out.2.1.symm (by rw [hv.out.2.2]; omega), by (repeat' (first | (with_reducible exact Below.refl _ _) | (with_reducible assumption) | (with_reducible refine Below.alloc ?_ ?_ _) | (with_reducible refine Below.drew ?_) | (with_reducible refine below_drewN ?_ _) | (with_reducible refine Below.setCell ?_ ?_ _) | (with_reducible refine bvia ?_ (by with_reducible assumption) ?_) | go_size))⟩
        · go_enter Try.func20, Try.ntmps20
          go_wp2_with fail
          refine (sOutOk _ _ _ _ _ hs).mono ?_
          rintro e w1 ⟨rfl, hb1⟩
          obtain ⟨hc, hf⟩ := bcell hb1
          have hc1_0 := fun o => hc (w.heap.size) o (by go_size)
          have hf1_0 := fun o => hf (w.heap.size) o (by go_size)
          have hz1_0 : w.heap.size < w1.heap.size := Nat.lt_of_lt_of_le (by go_size) hb1.size
          have hc1_1 := fun o => hc (w.heap.size + 1) o (by go_size)
          have hf1_1 := fun o => hf (w.heap.size + 1) o (by go_size)
          have hz1_1 : w.heap.size + 1 < w1.heap.size := Nat.lt_of_lt_of_le (by go_size) hb1.size
          clear hc hf
          have hz1 := hb1.size
          try simp at hz1
          go_wp2
          refine bodyPost_ret (v := ou (s.extract (u - b).toNat s.size) u n r) (by simp [results, Try.results20, go_sem, *]) rfl ?_
          exact ⟨ou_eq hv.out.1.symm hv.out.2.1.symm (by rw [hv.out.2.2]; omega), by (repeat' (first | (with_reducible exact Below.refl _ _) | (with_reducible assumption) | (with_reducible refine Below.alloc ?_ ?_ _) | (with_reducible refine Below.drew ?_) | (with_reducible refine below_drewN ?_ _) | (with_reducible refine Below.setCell ?_ ?_ _) | (with_reducible refine bvia ?_ (by with_reducible assumption) ?_) | go_size))⟩
      · have hv := Lib.hid (came_no (n := n) (r := r) (show cameOk s b n r u = false by simp [cameOk, h3]))
        go_enter Try.func20, Try.ntmps20
        go_wp2_with fail
        refine (sOutOk _ _ _ _ _ hs).mono ?_
        rintro e w1 ⟨rfl, hb1⟩
        obtain ⟨hc, hf⟩ := bcell hb1
        have hc1_0 := fun o => hc (w.heap.size) o (by go_size)
        have hf1_0 := fun o => hf (w.heap.size) o (by go_size)
        have hz1_0 : w.heap.size < w1.heap.size := Nat.lt_of_lt_of_le (by go_size) hb1.size
        have hc1_1 := fun o => hc (w.heap.size + 1) o (by go_size)
        have hf1_1 := fun o => hf (w.heap.size + 1) o (by go_size)
        have hz1_1 : w.heap.size + 1 < w1.heap.size := Nat.lt_of_lt_of_le (by go_size) hb1.size
        clear hc hf
        have hz1 := hb1.size
        try simp at hz1
        go_wp2
        refine bodyPost_ret (v := ou s b n r) (by simp [results, Try.results20, go_sem, *]) rfl ?_
        exact ⟨ou_eq hv.out.1.symm hv.out.2.1.symm hv.out.2.2.symm, by (repeat' (first | (with_reducible exact Below.refl _ _) | (with_reducible assumption) | (with_reducible refine Below.alloc ?_ ?_ _) | (with_reducible refine Below.drew ?_) | (with_reducible refine below_drewN ?_ _) | (with_reducible refine Below.setCell ?_ ?_ _) | (with_reducible refine bvia ?_ (by with_reducible assumption) ?_) | go_size))⟩
    · have hv := Lib.hid (came_no (n := n) (r := r) (show cameOk s b n r u = false by simp [cameOk, h2]))
      go_enter Try.func20, Try.ntmps20
      go_wp2_with fail
      refine (sOutOk _ _ _ _ _ hs).mono ?_
      rintro e w1 ⟨rfl, hb1⟩
      obtain ⟨hc, hf⟩ := bcell hb1
      have hc1_0 := fun o => hc (w.heap.size) o (by go_size)
      have hf1_0 := fun o => hf (w.heap.size) o (by go_size)
      have hz1_0 : w.heap.size < w1.heap.size := Nat.lt_of_lt_of_le (by go_size) hb1.size
      have hc1_1 := fun o => hc (w.heap.size + 1) o (by go_size)
      have hf1_1 := fun o => hf (w.heap.size + 1) o (by go_size)
      have hz1_1 : w.heap.size + 1 < w1.heap.size := Nat.lt_of_lt_of_le (by go_size) hb1.size
      clear hc hf
      have hz1 := hb1.size
      try simp at hz1
      go_wp2
      refine bodyPost_ret (v := ou s b n r) (by simp [results, Try.results20, go_sem, *]) rfl ?_
      exact ⟨ou_eq hv.out.1.symm hv.out.2.1.symm hv.out.2.2.symm, by (repeat' (first | (with_reducible exact Below.refl _ _) | (with_reducible assumption) | (with_reducible refine Below.alloc ?_ ?_ _) | (with_reducible refine Below.drew ?_) | (with_reducible refine below_drewN ?_ _) | (with_reducible refine Below.setCell ?_ ?_ _) | (with_reducible refine bvia ?_ (by with_reducible assumption) ?_) | go_size))⟩
  · have hv := Lib.hid (came_no (show cameOk s b n r u = false by simp [cameOk, h]))
    go_enter Try.func20, Try.ntmps20
    go_wp2_with fail
    refine (sOutOk _ _ _ _ _ hs).mono ?_
    rintro e w1 ⟨rfl, hb1⟩
    obtain ⟨hc, hf⟩ := bcell hb1
    have hc1_0 := fun o => hc (w.heap.size) o (by go_size)
    have hf1_0 := fun o => hf (w.heap.size) o (by go_size)
    have hz1_0 : w.heap.size < w1.heap.size := Nat.lt_of_lt_of_le (by go_size) hb1.size
    have hc1_1 := fun o => hc (w.heap.size + 1) o (by go_size)
    have hf1_1 := fun o => hf (w.heap.size + 1) o (by go_size)
    have hz1_1 : w.heap.size + 1 < w1.heap.size := Nat.lt_of_lt_of_le (by go_size) hb1.size
    clear hc hf
    have hz1 := hb1.size
    try simp at hz1
    go_wp2
    refine bodyPost_ret (v := ou s b n r) (by simp [results, Try.results20, go_sem, *]) rfl ?_
    exact ⟨ou_eq hv.out.1.symm hv.out.2.1.symm hv.out.2.2.symm, by (repeat' (first | (with_reducible exact Below.refl _ _) | (with_reducible assumption) | (with_reducible refine Below.alloc ?_ ?_ _) | (with_reducible refine Below.drew ?_) | (with_reducible refine below_drewN ?_ _) | (with_reducible refine Below.setCell ?_ ?_ _) | (with_reducible refine bvia ?_ (by with_reducible assumption) ?_) | go_size))⟩
end Go.Proofs.Ytddpgdgpicamiaa
