/- The walk of FnGates: for every input. Written by program (fngates.py). -/
import Derived.Test.YtkeldhffhiekpaaLaw0
import Derived.Test.YtkeldhffhiekpaaDrawBucket
import Derived.Test.YtkeldhffhiekpaaGateLaw
import Derived.Test.YtkeldhffhiekpaaFilled
import Derived.Test.YtkeldhffhiekpaaMid
namespace Go.Proofs.Ytkeldhffhiekpaa
set_option linter.unusedSimpArgs false
set_option linter.unusedVariables false
open Go.RowKit
set_option maxHeartbeats 1000000 in
theorem sameBools_same (A B : Option Addr) (ca cb : Nat) (L : List Bool) (w : World) (hr : Rd bocell 1 w 0 w.heap.size A L) (hr2 : Rd bocell 1 w 0 w.heap.size B L) (hn : L.length ≤ maxLen) :
    Calls Try.prog 32 #[.slice A L.length ca, .slice B L.length cb] w fun e w' => e = .returned (.bool true) ∧ Below w.heap.size w w' := by
  unfold maxLen at hn
  go_enter Try.func32, Try.ntmps32
  go_wp2_with fail
  go_loopw [5] (fun i wr => ∃ k : Nat, k ≤ L.length ∧ i = .int .i64 k ∧ ∃ n, wr = w.drewN n) (fun i _ => L.length - (intOf i).toNat)
  case atStart => exact ⟨0, Nat.zero_le _, rfl, 0, rfl⟩
  case round =>
    obtain ⟨k, hk, rfl, n, rfl⟩ := hrel
    by_cases hlt : k < L.length
    · obtain ⟨g, o, rfl, _, hg, hcell⟩ := hr.at_ (by omega)
      obtain ⟨g2, o2, rfl, _, hg2, hcell2⟩ := hr2.at_ (by omega)
      have a0 := hcell k hlt 0 (by decide)
      have b0 := hcell2 k hlt 0 (by decide)
      simp at a0 b0
      clear hcell hcell2
      have hki : (k : Int) < (L.length : Int) := by omega
      have hk0 : (0 : Int) ≤ (k : Int) := by omega
      go_wp2_with fail
      go_quiet (fail)
      go_wp2
      go_roundw
      case rel => exact ⟨k + 1, by omega, by go_num, _, by first | rfl | exact World.drewN_drewN _ _ _⟩
      case measure => simp [intOf]; omega
    · go_wp2
      go_ret
      exact ⟨rfl, below_drewN (Below.refl _ _) n⟩
set_option maxRecDepth 100000 in
set_option maxHeartbeats 8000000 in
theorem walk_FnGates (A0 : Option Addr) (cap0 : Nat) (L0 : List Int) (w : World) (hle : L0.length ≤ cap0) (hcap : cap0 ≤ maxLen) (_ : ∀ x ∈ L0, (Lit.int .u8 x).wf = true) (hr : Rd bcells 1 w 0 w.heap.size A0 L0) :
    Calls Try.prog 9 #[.slice A0 L0.length cap0] w fun e w' => e = .returned (.bool true) ∧ Below w.heap.size w w' := by
  have hm0 : L0.length ≤ maxLen := Nat.le_trans hle hcap
  by_cases hbig : (1048576 : Int) < L0.length
  · have d0 : decide ((1048576 : Int) < (L0.length : Int)) = true := decide_eq_true hbig
    go_enter Try.func9, Try.ntmps9
    go_wp2_with fail
    refine (big_any _ _ _ _ hm0).mono ?_
    rintro e w1 ⟨rfl, rfl⟩
    go_wp2
    go_ret
    exact ⟨rfl, Below.refl _ _⟩
  have d0 : decide ((1048576 : Int) < (L0.length : Int)) = false := decide_eq_false hbig
  go_enter Try.func9, Try.ntmps9
  go_wp2_with fail
  refine (big_any _ _ _ _ hm0).mono ?_
  rintro e w1 ⟨rfl, rfl⟩
  go_wp2_with fail
  refine (DrawRunBucket_some A0 cap0 L0 _ hr (by omega)).mono ?_
  rintro e w1 ⟨v, L, r, b, h, rfl, O1, hL, hb1⟩
  obtain ⟨A, cap, rfl, hle1, hcm1, -⟩ := O1.rd0 icell_length
  have hml : L.length ≤ maxLen := Nat.le_trans hle1 hcm1
  have hz1 := hb1.size
  obtain ⟨M, hM⟩ : ∃ M, M = runB r b h L := ⟨_, rfl⟩
  have hMl : M.length ≤ 4000 := by rw [hM]; exact runB_le r b h L
  have HM := Lib.hid hM
  clear hM
  go_wp2_with fail
  go_wp2_with fail
  refine (iRunBucket r b h A cap L _ (by exact (O1.rdv icell_length).later (by (repeat' (first | (with_reducible exact Below.refl _ _) | (with_reducible assumption) | (with_reducible refine Below.alloc ?_ ?_ _) | (with_reducible refine Below.drew ?_) | (with_reducible refine below_drewN ?_ _) | (with_reducible refine Below.setCell ?_ ?_ _) | (with_reducible refine bvia ?_ (by with_reducible assumption) ?_) | go_size)) : Below w1.heap.size w1 _) (Nat.le_refl _) (by go_size)) hml).mono ?_
  rintro e w2 ⟨v2, rfl, O2, hb2⟩
  obtain ⟨hc, hf⟩ := bcell hb2
  have hc2_0 := fun o => hc (w1.heap.size) o (by go_size)
  have hf2_0 := fun o => hf (w1.heap.size) o (by go_size)
  have hz2_0 : w1.heap.size < w2.heap.size := Nat.lt_of_lt_of_le (by go_size) hb2.size
  clear hc hf
  have hz2 := hb2.size
  try simp at hz2
  have O1' := O1.later (by (repeat' (first | (with_reducible exact Below.refl _ _) | (with_reducible assumption) | (with_reducible refine Below.alloc ?_ ?_ _) | (with_reducible refine Below.drew ?_) | (with_reducible refine below_drewN ?_ _) | (with_reducible refine Below.setCell ?_ ?_ _) | (with_reducible refine bvia ?_ (by with_reducible assumption) ?_) | go_size)) : Below w1.heap.size w1 w2) (Nat.le_refl _)
  have hB2 : Below w.heap.size w w2 := hb1.trans ((by (repeat' (first | (with_reducible exact Below.refl _ _) | (with_reducible assumption) | (with_reducible refine Below.alloc ?_ ?_ _) | (with_reducible refine Below.drew ?_) | (with_reducible refine below_drewN ?_ _) | (with_reducible refine Below.setCell ?_ ?_ _) | (with_reducible refine bvia ?_ (by with_reducible assumption) ?_) | go_size)) : Below w1.heap.size w1 w2).mono hz1)
  have HX_2 : Hid (w2.heap[w1.heap.size]? = some (.cells #[.int .i64 r, .int .i64 b, .int .i64 h] 25 (0, 0))) := (hb2.block w1.heap.size (by simp)).trans (heap_alloc_new w1 _)
  rw [← HM.out] at O2
  obtain ⟨A2, cap2, rfl, hle2, hcm2, -⟩ := O2.rd0 bocell_length
  have HO_2 := Lib.hid O2
  have HL_2 := Lib.hid O1'
  clear hc2_0 hf2_0 hb2 O1 O1' O2
  have x0 : w2.cell? ⟨w1.heap.size, 0, none⟩ = some (.int .i64 r) := by rw [cell_of_row _ _ _ _ _ (0, 0) HX_2.out]; rfl
  have x1 : w2.cell? ⟨w1.heap.size, 1, none⟩ = some (.int .i64 b) := by rw [cell_of_row _ _ _ _ _ (0, 0) HX_2.out]; rfl
  have x2 : w2.cell? ⟨w1.heap.size, 2, none⟩ = some (.int .i64 h) := by rw [cell_of_row _ _ _ _ _ (0, 0) HX_2.out]; rfl
  go_wp2_with fail
  (with_reducible refine (sRunBucket r b h A cap L _ (by exact HL_2.out.rdv icell_length) hml).mono ?_)
  rintro e w3 ⟨v3, rfl, O3, hb3⟩
  rw [← HM.out] at O3
  obtain ⟨A3, cap3, rfl, hle3, hcm3, -⟩ := O3.rd0 bocell_length
  have HS_3 := Lib.hid O3
  clear O3
  clear x0 x1 x2
  clear HL_2
  have hz3 := hb3.size
  have HX_3 : Hid (w3.heap[_]? = _) := (hb3.block _ (Array.getElem?_eq_some_iff.1 HX_2.out).1).trans HX_2.out
  have HO_3 := Lib.hid (HO_2.out.later hb3 (Nat.le_refl _))
  have hB3 := hB2.trans (hb3.mono (by omega))
  clear hb3 hB2 HX_2 HO_2
  go_wp2_with fail
  (with_reducible refine (sameBools_same A2 A3 _ _ M _ (by exact HO_3.out.rdv bocell_length) (by exact HS_3.out.rdv bocell_length) (by unfold maxLen; omega)).mono ?_)
  rintro e w4 ⟨rfl, hb4⟩
  clear HS_3
  have hz4 := hb4.size
  have HX_4 : Hid (w4.heap[_]? = _) := (hb4.block _ (Array.getElem?_eq_some_iff.1 HX_3.out).1).trans HX_3.out
  have HO_4 := Lib.hid (HO_3.out.later hb4 (Nat.le_refl _))
  have hB4 := hB3.trans (hb4.mono (by omega))
  clear hb4 hB3 HX_3 HO_3
  have x0 : w4.cell? ⟨w1.heap.size, 0, none⟩ = some (.int .i64 r) := by rw [cell_of_row _ _ _ _ _ (0, 0) HX_4.out]; rfl
  have x1 : w4.cell? ⟨w1.heap.size, 1, none⟩ = some (.int .i64 b) := by rw [cell_of_row _ _ _ _ _ (0, 0) HX_4.out]; rfl
  have x2 : w4.cell? ⟨w1.heap.size, 2, none⟩ = some (.int .i64 h) := by rw [cell_of_row _ _ _ _ _ (0, 0) HX_4.out]; rfl
  cases hok : bokB r b h with
  | false =>
    have hM0 : M = [] := by rw [HM.out]; exact runB_no L hok
    have dl : ((M.length : Int) == 0) = true := by rw [hM0]; rfl
    clear hM0
    go_wp2_with fail
    refine (sBucketOk r b h _).mono ?_
    rintro e w5 ⟨rfl, hb5⟩
    have hB5 := hB4.trans (hb5.mono (by omega))
    clear hb5
    go_wp2
    go_ret
    exact ⟨rfl, hB5⟩
  | true =>
    obtain ⟨g1, g2, g3, g4, g5, g6, g7⟩ := gate_law L hok hL
    rw [← HM.out] at g1
    obtain ⟨m1, hm1⟩ : ∃ m1, mostB r b h L.length = m1 := ⟨_, rfl⟩
    rw [hm1] at g1
    have G1 := Lib.hid hm1
    have G2 := Lib.hid g2
    have G3 := Lib.hid g3
    have G4 := Lib.hid g4
    have G5 := Lib.hid g5
    clear hm1 g2 g3 g4 g5
    go_wp2_with fail
    refine (sBucketOk r b h _).mono ?_
    rintro e w5 ⟨rfl, hb5⟩
    rw [hok]
    clear x0 x1 x2
    have hz5 := hb5.size
    have HX_5 : Hid (w5.heap[_]? = _) := (hb5.block _ (Array.getElem?_eq_some_iff.1 HX_4.out).1).trans HX_4.out
    have HO_5 := Lib.hid (HO_4.out.later hb5 (Nat.le_refl _))
    have hB5 := hB4.trans (hb5.mono (by omega))
    clear hb5 hB4 HX_4 HO_4
    go_wp2_with fail
    go_loop [7, 8] (fun t i => ∃ k : Nat, k ≤ M.length ∧ i = .int .i64 k ∧ t = .int .i64 ((M.take k).count true : Nat)) (fun _ i => M.length - (intOf i).toNat)
    case atStart => exact ⟨0, Nat.zero_le _, rfl, rfl⟩
    case round =>
      obtain ⟨k, hk, rfl, rfl⟩ := hrel
      by_cases hlt : k < M.length
      · obtain ⟨g, ob, hgo, _, hg, hcell⟩ := (HO_5.out.rdv bocell_length).at_ (by omega)
        subst hgo
        have a0 : w5.cell? ⟨g, ob + k, none⟩ = some (.bool M[k]) := by have := hcell k hlt 0 (by decide); simpa using this
        clear hcell
        have hki : (k : Int) < (M.length : Int) := by omega
        have hcl : (M.take k).count true ≤ 4000 := Nat.le_trans List.count_le_length (by rw [List.length_take]; omega)
        cases hx : M[k] with
        | true =>
          have hs : Hid ((M.take (k + 1)).count true = (M.take k).count true + 1) := by unfold Hid; rw [List.take_succ_eq_append_getElem hlt, List.count_append, hx]; rfl
          rw [hx] at a0
          clear hx
          go_wp2
          go_round
          case rel => exact ⟨k + 1, by omega, by go_num, by rw [hs.out]; go_num⟩
          case measure => simp [intOf]; omega
        | false =>
          have hs : Hid ((M.take (k + 1)).count true = (M.take k).count true) := by unfold Hid; rw [List.take_succ_eq_append_getElem hlt, List.count_append, hx]; rfl
          rw [hx] at a0
          clear hx
          go_wp2
          go_round
          case rel => exact ⟨k + 1, by omega, by go_num, by rw [hs.out]⟩
          case measure => simp [intOf]; omega
      · obtain rfl : k = M.length := by omega
        rw [List.take_length]
        have hcl : M.count true ≤ 4000 := Nat.le_trans List.count_le_length hMl
        obtain ⟨t, ht⟩ : ∃ t : Nat, M.count true = t := ⟨_, rfl⟩
        rw [ht]
        rw [ht] at g1
        clear ht
        have x0 : w5.cell? ⟨w1.heap.size, 0, none⟩ = some (.int .i64 r) := by rw [cell_of_row _ _ _ _ _ (0, 0) HX_5.out]; rfl
        have x1 : w5.cell? ⟨w1.heap.size, 1, none⟩ = some (.int .i64 b) := by rw [cell_of_row _ _ _ _ _ (0, 0) HX_5.out]; rfl
        have x2 : w5.cell? ⟨w1.heap.size, 2, none⟩ = some (.int .i64 h) := by rw [cell_of_row _ _ _ _ _ (0, 0) HX_5.out]; rfl
        go_wp2_with fail
        (with_reducible refine (iFilled r b h 1000 _).mono ?_)
        rintro e w6 ⟨rfl, hb6⟩
        clear x0 x1 x2
        obtain ⟨fh, hfh⟩ : ∃ fh, fillH r b h 1000 = fh := ⟨_, rfl⟩
        rw [hfh]
        have G3' : Hid (r ≠ 0 → fh = b) := by have := G3.out; rw [hfh] at this; exact this
        clear hfh G3
        have hz6 := hb6.size
        have HX_6 : Hid (w6.heap[_]? = _) := (hb6.block _ (Array.getElem?_eq_some_iff.1 HX_5.out).1).trans HX_5.out
        have hB6 := hB5.trans (hb6.mono (by omega))
        clear hb6 hB5 HX_5
        have x0 : w6.cell? ⟨w1.heap.size, 0, none⟩ = some (.int .i64 r) := by rw [cell_of_row _ _ _ _ _ (0, 0) HX_6.out]; rfl
        have x1 : w6.cell? ⟨w1.heap.size, 1, none⟩ = some (.int .i64 b) := by rw [cell_of_row _ _ _ _ _ (0, 0) HX_6.out]; rfl
        have x2 : w6.cell? ⟨w1.heap.size, 2, none⟩ = some (.int .i64 h) := by rw [cell_of_row _ _ _ _ _ (0, 0) HX_6.out]; rfl
        have hl6 : w1.heap.size < w6.heap.size := (Array.getElem?_eq_some_iff.1 HX_6.out).1
        go_wp2_with fail
        go_wp2_with fail
        refine (iTakeOne r b h _).mono ?_
        rintro e w7 ⟨rfl, hb7⟩
        obtain ⟨hc, hf⟩ := bcell hb7
        have hc7_0 := fun o => hc (w1.heap.size) o (by go_size)
        have hf7_0 := fun o => hf (w1.heap.size) o (by go_size)
        have hz7_0 : w1.heap.size < w7.heap.size := Nat.lt_of_lt_of_le (by go_size) hb7.size
        have hc7_1 := fun o => hc (w6.heap.size) o (by go_size)
        have hf7_1 := fun o => hf (w6.heap.size) o (by go_size)
        have hz7_1 : w6.heap.size < w7.heap.size := Nat.lt_of_lt_of_le (by go_size) hb7.size
        clear hc hf
        have hz7 := hb7.size
        try simp at hz7
        clear x0 x1 x2
        have HX_7 : Hid (w7.heap[w1.heap.size]? = _) := (hb7.block _ (by have := (Array.getElem?_eq_some_iff.1 HX_6.out).1; go_size)).trans ((Below.heap_alloc _ _ _ (Array.getElem?_eq_some_iff.1 HX_6.out).1).trans HX_6.out)
        have HF_7 : Hid (w7.heap[w6.heap.size]? = some (.cells #[.int .i64 r, .int .i64 b, .int .i64 fh] 25 (0, 0))) := (hb7.block w6.heap.size (by simp)).trans (heap_alloc_new w6 _)
        have hB7 : Below w.heap.size w w7 := hB6.trans ((by (repeat' (first | (with_reducible exact Below.refl _ _) | (with_reducible assumption) | (with_reducible refine Below.alloc ?_ ?_ _) | (with_reducible refine Below.drew ?_) | (with_reducible refine below_drewN ?_ _) | (with_reducible refine Below.setCell ?_ ?_ _) | (with_reducible refine bvia ?_ (by with_reducible assumption) ?_) | go_size)) : Below w6.heap.size w6 w7).mono (by omega))
        clear HX_6 hB6 hc7_0 hf7_0 hc7_1 hf7_1 hb7
        rw [G4.out]
        obtain ⟨oh, hoh⟩ : ∃ oh, takeH r b h = oh := ⟨_, rfl⟩
        rw [hoh]
        have G5' : Hid (0 < h → oh = h - 1) := by have := G5.out; rw [hoh] at this; exact this
        clear hoh G5
        have dt : decide ((t : Int) ≤ m1) = true := decide_eq_true g1
        go_wp2_with fail
        refine wp_world _ (fun W => (W.cell? ⟨w1.heap.size, 0, none⟩ = some (.int .i64 r) ∧ W.cell? ⟨w1.heap.size, 1, none⟩ = some (.int .i64 b) ∧ W.cell? ⟨w1.heap.size, 2, none⟩ = some (.int .i64 h) ∧ W.cell? ⟨w6.heap.size, 0, none⟩ = some (.int .i64 r) ∧ W.cell? ⟨w6.heap.size, 1, none⟩ = some (.int .i64 b) ∧ W.cell? ⟨w6.heap.size, 2, none⟩ = some (.int .i64 fh) ∧ W.cell? ⟨w7.heap.size, 0, none⟩ = some (.int .i64 r) ∧ W.cell? ⟨w7.heap.size, 1, none⟩ = some (.int .i64 b) ∧ W.cell? ⟨w7.heap.size, 2, none⟩ = some (.int .i64 oh)) ∧ Below w.heap.size w W) ⟨⟨(cal _ _ _ _ (Array.getElem?_eq_some_iff.1 HX_7.out).1).trans (by rw [cell_of_row _ _ _ _ _ (0, 0) HX_7.out]; rfl), (cal _ _ _ _ (Array.getElem?_eq_some_iff.1 HX_7.out).1).trans (by rw [cell_of_row _ _ _ _ _ (0, 0) HX_7.out]; rfl), (cal _ _ _ _ (Array.getElem?_eq_some_iff.1 HX_7.out).1).trans (by rw [cell_of_row _ _ _ _ _ (0, 0) HX_7.out]; rfl), (cal _ _ _ _ (Array.getElem?_eq_some_iff.1 HF_7.out).1).trans (by rw [cell_of_row _ _ _ _ _ (0, 0) HF_7.out]; rfl), (cal _ _ _ _ (Array.getElem?_eq_some_iff.1 HF_7.out).1).trans (by rw [cell_of_row _ _ _ _ _ (0, 0) HF_7.out]; rfl), (cal _ _ _ _ (Array.getElem?_eq_some_iff.1 HF_7.out).1).trans (by rw [cell_of_row _ _ _ _ _ (0, 0) HF_7.out]; rfl), by simp, by simp, by simp⟩, by (repeat' (first | (with_reducible exact Below.refl _ _) | (with_reducible assumption) | (with_reducible refine Below.alloc ?_ ?_ _) | (with_reducible refine Below.drew ?_) | (with_reducible refine below_drewN ?_ _) | (with_reducible refine Below.setCell ?_ ?_ _) | (with_reducible refine bvia ?_ (by with_reducible assumption) ?_) | go_size))⟩ ?_
        rintro W ⟨⟨x0, x1, x2, f0, f1, f2, y0, y1, y2⟩, hBW⟩
        clear HX_7 HF_7 hB7
        have e3 := G3'.out
        have e5 := G5'.out
        clear G3' G5' G4
        by_cases hr0 : r = 0
        · have dr : (r == 0) = true := by simpa using hr0
          clear e3
          by_cases hh0 : 0 < h
          · have dh : decide (0 < h) = true := decide_eq_true hh0
            have do_ : (oh == h - 1) = true := by simpa using e5 hh0
            clear e5 hr0
            refine wp_region_held_drew (S := (fun W' => (W'.cell? ⟨w1.heap.size, 0, none⟩ = some (.int .i64 r) ∧ W'.cell? ⟨w1.heap.size, 1, none⟩ = some (.int .i64 b) ∧ W'.cell? ⟨w1.heap.size, 2, none⟩ = some (.int .i64 h) ∧ W'.cell? ⟨w6.heap.size, 0, none⟩ = some (.int .i64 r) ∧ W'.cell? ⟨w6.heap.size, 1, none⟩ = some (.int .i64 b) ∧ W'.cell? ⟨w6.heap.size, 2, none⟩ = some (.int .i64 fh) ∧ W'.cell? ⟨w7.heap.size, 0, none⟩ = some (.int .i64 r) ∧ W'.cell? ⟨w7.heap.size, 1, none⟩ = some (.int .i64 b) ∧ W'.cell? ⟨w7.heap.size, 2, none⟩ = some (.int .i64 oh)))) (by kernel_rfl) (by exact ⟨x0, x1, x2, f0, f1, f2, y0, y1, y2⟩) (fun hHeld => ?_)
            refine wpAnyH_take (i := 0) (v := ?_) rfl (by kernel_rfl) (by kernel_rfl) (by kernel_rfl) (fun _ _ _ h => h) (Or.inl ⟨by rfl, ?_⟩) (by assumption) ?_
            rotate_left
            · intro w hSw
              (try dsimp only at hSw)
              go_simp
              all_goals (with_reducible rfl)
            change wpAnyH _ _ _ _ _ _ _ (Act.put _ (some 54) _) _
            simp only [Act.put, List.setIfInBounds_toArray, List.set_cons_zero, List.set_cons_succ]
            refine wpAnyH_take (i := 1) (v := ?_) rfl (by kernel_rfl) (by kernel_rfl) (by kernel_rfl) (fun _ _ _ h => h) (Or.inl ⟨by rfl, ?_⟩) (by assumption) ?_
            rotate_left
            · intro w hSw
              (try dsimp only at hSw)
              go_simp
              all_goals (with_reducible rfl)
            change wpAnyH _ _ _ _ _ _ _ (Act.put _ (some 55) _) _
            simp only [Act.put, List.setIfInBounds_toArray, List.set_cons_zero, List.set_cons_succ]
            refine wpAnyH_take (i := 2) (v := ?_) rfl (by kernel_rfl) (by kernel_rfl) (by kernel_rfl) (fun _ _ _ h => h) (Or.inl ⟨by rfl, ?_⟩) (by assumption) ?_
            rotate_left
            · intro w hSw
              (try dsimp only at hSw)
              go_simp
              all_goals (with_reducible rfl)
            change wpAnyH _ _ _ _ _ _ _ (Act.put _ (some 56) _) _
            simp only [Act.put, List.setIfInBounds_toArray, List.set_cons_zero, List.set_cons_succ]
            refine wpAnyH_take (i := 3) (v := ?_) rfl (by kernel_rfl) (by kernel_rfl) (by kernel_rfl) (fun _ _ _ h => h) (Or.inl ⟨by rfl, ?_⟩) (by assumption) ?_
            rotate_left
            · intro w hSw
              (try dsimp only at hSw)
              go_simp
              all_goals (with_reducible rfl)
            change wpAnyH _ _ _ _ _ _ _ (Act.put _ (some 57) _) _
            simp only [Act.put, List.setIfInBounds_toArray, List.set_cons_zero, List.set_cons_succ]
            refine wpAnyH_ready (rs := [4]) (by kernel_rfl) (by simp) (AllReadyH.cons (o := _) rfl (fun K hK => ?_) AllReadyH.nil)
            go_simp
            (go_at_call 14; refine (iMostIn r b h L.length _).mono ?_; rintro e W1 ⟨rfl, hb1⟩; rw [G1.out]; have hq1 : Below W.heap.size W W1 := (by (repeat' (first | (with_reducible exact Below.refl _ _) | (with_reducible assumption) | (with_reducible refine Below.alloc ?_ ?_ _) | (with_reducible refine Below.drew ?_) | (with_reducible refine below_drewN ?_ _) | (with_reducible refine Below.setCell ?_ ?_ _) | (with_reducible refine bvia ?_ (by with_reducible assumption) ?_) | go_size))))
            have x0_1 : W1.cell? ⟨w1.heap.size, 0, none⟩ = some (.int .i64 r) := (hq1.cell (World.block_lt_of_cell? W _ x0)).trans x0
            have x1_1 : W1.cell? ⟨w1.heap.size, 1, none⟩ = some (.int .i64 b) := (hq1.cell (World.block_lt_of_cell? W _ x1)).trans x1
            have x2_1 : W1.cell? ⟨w1.heap.size, 2, none⟩ = some (.int .i64 h) := (hq1.cell (World.block_lt_of_cell? W _ x2)).trans x2
            have f0_1 : W1.cell? ⟨w6.heap.size, 0, none⟩ = some (.int .i64 r) := (hq1.cell (World.block_lt_of_cell? W _ f0)).trans f0
            have f1_1 : W1.cell? ⟨w6.heap.size, 1, none⟩ = some (.int .i64 b) := (hq1.cell (World.block_lt_of_cell? W _ f1)).trans f1
            have f2_1 : W1.cell? ⟨w6.heap.size, 2, none⟩ = some (.int .i64 fh) := (hq1.cell (World.block_lt_of_cell? W _ f2)).trans f2
            have y0_1 : W1.cell? ⟨w7.heap.size, 0, none⟩ = some (.int .i64 r) := (hq1.cell (World.block_lt_of_cell? W _ y0)).trans y0
            have y1_1 : W1.cell? ⟨w7.heap.size, 1, none⟩ = some (.int .i64 b) := (hq1.cell (World.block_lt_of_cell? W _ y1)).trans y1
            have y2_1 : W1.cell? ⟨w7.heap.size, 2, none⟩ = some (.int .i64 oh) := (hq1.cell (World.block_lt_of_cell? W _ y2)).trans y2
            refine hK.out _ _ (by exact ⟨x0_1, x1_1, x2_1, f0_1, f1_1, f2_1, y0_1, y1_1, y2_1⟩) (fun hHeld2 => ?_)
            clear hK K hHeld
            (try simp only [Act.put, List.setIfInBounds_toArray, List.set_cons_zero, List.set_cons_succ])
            refine wpAnyH_take (i := 5) (v := ?_) rfl (by kernel_rfl) (by kernel_rfl) (by kernel_rfl) (fun _ _ _ h => h) (Or.inl ⟨by rfl, ?_⟩) (by assumption) ?_
            rotate_left
            · intro w hSw
              (try dsimp only at hSw)
              go_simp
              all_goals (with_reducible rfl)
            change wpAnyH _ _ _ _ _ _ _ (Act.put _ (some 59) _) _
            simp only [Act.put, List.setIfInBounds_toArray, List.set_cons_zero, List.set_cons_succ]
            refine wpAnyH_take (i := 6) (v := ?_) rfl (by kernel_rfl) (by kernel_rfl) (by kernel_rfl) (fun _ _ _ h => h) (Or.inl ⟨by rfl, ?_⟩) (by assumption) ?_
            rotate_left
            · intro w hSw
              (try dsimp only at hSw)
              go_simp
              all_goals (with_reducible rfl)
            change wpAnyH _ _ _ _ _ _ _ (Act.put _ (some 60) _) _
            simp only [Act.put, List.setIfInBounds_toArray, List.set_cons_zero, List.set_cons_succ]
            refine wpAnyH_take (i := 7) (v := ?_) rfl (by kernel_rfl) (by kernel_rfl) (by kernel_rfl) (fun _ _ _ h => h) (Or.inl ⟨by rfl, ?_⟩) (by assumption) ?_
            rotate_left
            · intro w hSw
              (try dsimp only at hSw)
              go_simp
              all_goals (with_reducible rfl)
            change wpAnyH _ _ _ _ _ _ _ (Act.put _ (some 61) _) _
            simp only [Act.put, List.setIfInBounds_toArray, List.set_cons_zero, List.set_cons_succ]
            refine wpAnyH_take (i := 9) (v := ?_) rfl (by kernel_rfl) (by kernel_rfl) (by kernel_rfl) (fun _ _ _ h => h) (Or.inl ⟨by rfl, ?_⟩) (by assumption) ?_
            rotate_left
            · intro w hSw
              (try dsimp only at hSw)
              go_simp
              all_goals (with_reducible rfl)
            change wpAnyH _ _ _ _ _ _ _ (Act.put _ (some 63) _) _
            simp only [Act.put, List.setIfInBounds_toArray, List.set_cons_zero, List.set_cons_succ]
            refine wpAnyH_take (i := 10) (v := ?_) rfl (by kernel_rfl) (by kernel_rfl) (by kernel_rfl) (fun _ _ _ h => h) (Or.inl ⟨by rfl, ?_⟩) (by assumption) ?_
            rotate_left
            · intro w hSw
              (try dsimp only at hSw)
              go_simp
              all_goals (with_reducible rfl)
            change wpAnyH _ _ _ _ _ _ _ (Act.put _ (some 64) _) _
            simp only [Act.put, List.setIfInBounds_toArray, List.set_cons_zero, List.set_cons_succ]
            refine wpAnyH_ready (rs := [8]) (by kernel_rfl) (by simp) (AllReadyH.cons (o := _) rfl (fun K hK => ?_) AllReadyH.nil)
            go_simp
            (go_at_call 14; refine (iMostIn r b h 0 _).mono ?_; rintro e W2 ⟨rfl, hb2⟩; rw [G2.out]; have hq2 : Below W1.heap.size W1 W2 := (by (repeat' (first | (with_reducible exact Below.refl _ _) | (with_reducible assumption) | (with_reducible refine Below.alloc ?_ ?_ _) | (with_reducible refine Below.drew ?_) | (with_reducible refine below_drewN ?_ _) | (with_reducible refine Below.setCell ?_ ?_ _) | (with_reducible refine bvia ?_ (by with_reducible assumption) ?_) | go_size))))
            have x0_2 : W2.cell? ⟨w1.heap.size, 0, none⟩ = some (.int .i64 r) := (hq2.cell (World.block_lt_of_cell? W1 _ x0_1)).trans x0_1
            have x1_2 : W2.cell? ⟨w1.heap.size, 1, none⟩ = some (.int .i64 b) := (hq2.cell (World.block_lt_of_cell? W1 _ x1_1)).trans x1_1
            have x2_2 : W2.cell? ⟨w1.heap.size, 2, none⟩ = some (.int .i64 h) := (hq2.cell (World.block_lt_of_cell? W1 _ x2_1)).trans x2_1
            have f0_2 : W2.cell? ⟨w6.heap.size, 0, none⟩ = some (.int .i64 r) := (hq2.cell (World.block_lt_of_cell? W1 _ f0_1)).trans f0_1
            have f1_2 : W2.cell? ⟨w6.heap.size, 1, none⟩ = some (.int .i64 b) := (hq2.cell (World.block_lt_of_cell? W1 _ f1_1)).trans f1_1
            have f2_2 : W2.cell? ⟨w6.heap.size, 2, none⟩ = some (.int .i64 fh) := (hq2.cell (World.block_lt_of_cell? W1 _ f2_1)).trans f2_1
            have y0_2 : W2.cell? ⟨w7.heap.size, 0, none⟩ = some (.int .i64 r) := (hq2.cell (World.block_lt_of_cell? W1 _ y0_1)).trans y0_1
            have y1_2 : W2.cell? ⟨w7.heap.size, 1, none⟩ = some (.int .i64 b) := (hq2.cell (World.block_lt_of_cell? W1 _ y1_1)).trans y1_1
            have y2_2 : W2.cell? ⟨w7.heap.size, 2, none⟩ = some (.int .i64 oh) := (hq2.cell (World.block_lt_of_cell? W1 _ y2_1)).trans y2_1
            refine hK.out _ _ (by exact ⟨x0_2, x1_2, x2_2, f0_2, f1_2, f2_2, y0_2, y1_2, y2_2⟩) (fun hHeld3 => ?_)
            clear hK K hHeld2
            (try simp only [Act.put, List.setIfInBounds_toArray, List.set_cons_zero, List.set_cons_succ])
            clear hHeld3
            have hB9 := (hBW.trans (hq1.mono hBW.size)).trans (hq2.mono (Nat.le_trans hBW.size hq1.size))
            refine wpAnyH_rest (k := 11) (by kernel_rfl) (by kernel_rfl) (by kernel_rfl) (fun n => ⟨x0_2, x1_2, x2_2, f0_2, f1_2, f2_2, y0_2, y1_2, y2_2⟩) rfl ?_
            simp only [List.drop_succ_cons, List.drop_zero]
            repeat (any_goals (first | go_big_quiet_step (fail) | quiet_step (fail) | (refine wpQuiet_step (fun K hK => ?_); go_simp; split <;> (refine hK _ ?_; clear hK K))))
            all_goals (refine wpQuiet_nil ?_; intro _ hw_; obtain ⟨nq, hw__⟩ := hw_; subst hw__)
            go_wp2
            go_ret
            exact ⟨rfl, by (repeat' (first | (with_reducible exact Below.refl _ _) | (with_reducible assumption) | (with_reducible refine Below.alloc ?_ ?_ _) | (with_reducible refine Below.drew ?_) | (with_reducible refine below_drewN ?_ _) | (with_reducible refine Below.setCell ?_ ?_ _) | (with_reducible refine bvia ?_ (by with_reducible assumption) ?_) | go_size))⟩
          · have dh : decide (0 < h) = false := decide_eq_false hh0
            clear e5 hr0
            refine wp_region_held_drew (S := (fun W' => (W'.cell? ⟨w1.heap.size, 0, none⟩ = some (.int .i64 r) ∧ W'.cell? ⟨w1.heap.size, 1, none⟩ = some (.int .i64 b) ∧ W'.cell? ⟨w1.heap.size, 2, none⟩ = some (.int .i64 h) ∧ W'.cell? ⟨w6.heap.size, 0, none⟩ = some (.int .i64 r) ∧ W'.cell? ⟨w6.heap.size, 1, none⟩ = some (.int .i64 b) ∧ W'.cell? ⟨w6.heap.size, 2, none⟩ = some (.int .i64 fh) ∧ W'.cell? ⟨w7.heap.size, 0, none⟩ = some (.int .i64 r) ∧ W'.cell? ⟨w7.heap.size, 1, none⟩ = some (.int .i64 b) ∧ W'.cell? ⟨w7.heap.size, 2, none⟩ = some (.int .i64 oh)))) (by kernel_rfl) (by exact ⟨x0, x1, x2, f0, f1, f2, y0, y1, y2⟩) (fun hHeld => ?_)
            refine wpAnyH_take (i := 0) (v := ?_) rfl (by kernel_rfl) (by kernel_rfl) (by kernel_rfl) (fun _ _ _ h => h) (Or.inl ⟨by rfl, ?_⟩) (by assumption) ?_
            rotate_left
            · intro w hSw
              (try dsimp only at hSw)
              go_simp
              all_goals (with_reducible rfl)
            change wpAnyH _ _ _ _ _ _ _ (Act.put _ (some 54) _) _
            simp only [Act.put, List.setIfInBounds_toArray, List.set_cons_zero, List.set_cons_succ]
            refine wpAnyH_take (i := 1) (v := ?_) rfl (by kernel_rfl) (by kernel_rfl) (by kernel_rfl) (fun _ _ _ h => h) (Or.inl ⟨by rfl, ?_⟩) (by assumption) ?_
            rotate_left
            · intro w hSw
              (try dsimp only at hSw)
              go_simp
              all_goals (with_reducible rfl)
            change wpAnyH _ _ _ _ _ _ _ (Act.put _ (some 55) _) _
            simp only [Act.put, List.setIfInBounds_toArray, List.set_cons_zero, List.set_cons_succ]
            refine wpAnyH_take (i := 2) (v := ?_) rfl (by kernel_rfl) (by kernel_rfl) (by kernel_rfl) (fun _ _ _ h => h) (Or.inl ⟨by rfl, ?_⟩) (by assumption) ?_
            rotate_left
            · intro w hSw
              (try dsimp only at hSw)
              go_simp
              all_goals (with_reducible rfl)
            change wpAnyH _ _ _ _ _ _ _ (Act.put _ (some 56) _) _
            simp only [Act.put, List.setIfInBounds_toArray, List.set_cons_zero, List.set_cons_succ]
            refine wpAnyH_take (i := 3) (v := ?_) rfl (by kernel_rfl) (by kernel_rfl) (by kernel_rfl) (fun _ _ _ h => h) (Or.inl ⟨by rfl, ?_⟩) (by assumption) ?_
            rotate_left
            · intro w hSw
              (try dsimp only at hSw)
              go_simp
              all_goals (with_reducible rfl)
            change wpAnyH _ _ _ _ _ _ _ (Act.put _ (some 57) _) _
            simp only [Act.put, List.setIfInBounds_toArray, List.set_cons_zero, List.set_cons_succ]
            refine wpAnyH_ready (rs := [4]) (by kernel_rfl) (by simp) (AllReadyH.cons (o := _) rfl (fun K hK => ?_) AllReadyH.nil)
            go_simp
            (go_at_call 14; refine (iMostIn r b h L.length _).mono ?_; rintro e W1 ⟨rfl, hb1⟩; rw [G1.out]; have hq1 : Below W.heap.size W W1 := (by (repeat' (first | (with_reducible exact Below.refl _ _) | (with_reducible assumption) | (with_reducible refine Below.alloc ?_ ?_ _) | (with_reducible refine Below.drew ?_) | (with_reducible refine below_drewN ?_ _) | (with_reducible refine Below.setCell ?_ ?_ _) | (with_reducible refine bvia ?_ (by with_reducible assumption) ?_) | go_size))))
            have x0_1 : W1.cell? ⟨w1.heap.size, 0, none⟩ = some (.int .i64 r) := (hq1.cell (World.block_lt_of_cell? W _ x0)).trans x0
            have x1_1 : W1.cell? ⟨w1.heap.size, 1, none⟩ = some (.int .i64 b) := (hq1.cell (World.block_lt_of_cell? W _ x1)).trans x1
            have x2_1 : W1.cell? ⟨w1.heap.size, 2, none⟩ = some (.int .i64 h) := (hq1.cell (World.block_lt_of_cell? W _ x2)).trans x2
            have f0_1 : W1.cell? ⟨w6.heap.size, 0, none⟩ = some (.int .i64 r) := (hq1.cell (World.block_lt_of_cell? W _ f0)).trans f0
            have f1_1 : W1.cell? ⟨w6.heap.size, 1, none⟩ = some (.int .i64 b) := (hq1.cell (World.block_lt_of_cell? W _ f1)).trans f1
            have f2_1 : W1.cell? ⟨w6.heap.size, 2, none⟩ = some (.int .i64 fh) := (hq1.cell (World.block_lt_of_cell? W _ f2)).trans f2
            have y0_1 : W1.cell? ⟨w7.heap.size, 0, none⟩ = some (.int .i64 r) := (hq1.cell (World.block_lt_of_cell? W _ y0)).trans y0
            have y1_1 : W1.cell? ⟨w7.heap.size, 1, none⟩ = some (.int .i64 b) := (hq1.cell (World.block_lt_of_cell? W _ y1)).trans y1
            have y2_1 : W1.cell? ⟨w7.heap.size, 2, none⟩ = some (.int .i64 oh) := (hq1.cell (World.block_lt_of_cell? W _ y2)).trans y2
            refine hK.out _ _ (by exact ⟨x0_1, x1_1, x2_1, f0_1, f1_1, f2_1, y0_1, y1_1, y2_1⟩) (fun hHeld2 => ?_)
            clear hK K hHeld
            (try simp only [Act.put, List.setIfInBounds_toArray, List.set_cons_zero, List.set_cons_succ])
            refine wpAnyH_take (i := 5) (v := ?_) rfl (by kernel_rfl) (by kernel_rfl) (by kernel_rfl) (fun _ _ _ h => h) (Or.inl ⟨by rfl, ?_⟩) (by assumption) ?_
            rotate_left
            · intro w hSw
              (try dsimp only at hSw)
              go_simp
              all_goals (with_reducible rfl)
            change wpAnyH _ _ _ _ _ _ _ (Act.put _ (some 59) _) _
            simp only [Act.put, List.setIfInBounds_toArray, List.set_cons_zero, List.set_cons_succ]
            refine wpAnyH_take (i := 6) (v := ?_) rfl (by kernel_rfl) (by kernel_rfl) (by kernel_rfl) (fun _ _ _ h => h) (Or.inl ⟨by rfl, ?_⟩) (by assumption) ?_
            rotate_left
            · intro w hSw
              (try dsimp only at hSw)
              go_simp
              all_goals (with_reducible rfl)
            change wpAnyH _ _ _ _ _ _ _ (Act.put _ (some 60) _) _
            simp only [Act.put, List.setIfInBounds_toArray, List.set_cons_zero, List.set_cons_succ]
            refine wpAnyH_take (i := 7) (v := ?_) rfl (by kernel_rfl) (by kernel_rfl) (by kernel_rfl) (fun _ _ _ h => h) (Or.inl ⟨by rfl, ?_⟩) (by assumption) ?_
            rotate_left
            · intro w hSw
              (try dsimp only at hSw)
              go_simp
              all_goals (with_reducible rfl)
            change wpAnyH _ _ _ _ _ _ _ (Act.put _ (some 61) _) _
            simp only [Act.put, List.setIfInBounds_toArray, List.set_cons_zero, List.set_cons_succ]
            refine wpAnyH_take (i := 9) (v := ?_) rfl (by kernel_rfl) (by kernel_rfl) (by kernel_rfl) (fun _ _ _ h => h) (Or.inl ⟨by rfl, ?_⟩) (by assumption) ?_
            rotate_left
            · intro w hSw
              (try dsimp only at hSw)
              go_simp
              all_goals (with_reducible rfl)
            change wpAnyH _ _ _ _ _ _ _ (Act.put _ (some 63) _) _
            simp only [Act.put, List.setIfInBounds_toArray, List.set_cons_zero, List.set_cons_succ]
            refine wpAnyH_take (i := 10) (v := ?_) rfl (by kernel_rfl) (by kernel_rfl) (by kernel_rfl) (fun _ _ _ h => h) (Or.inl ⟨by rfl, ?_⟩) (by assumption) ?_
            rotate_left
            · intro w hSw
              (try dsimp only at hSw)
              go_simp
              all_goals (with_reducible rfl)
            change wpAnyH _ _ _ _ _ _ _ (Act.put _ (some 64) _) _
            simp only [Act.put, List.setIfInBounds_toArray, List.set_cons_zero, List.set_cons_succ]
            refine wpAnyH_ready (rs := [8]) (by kernel_rfl) (by simp) (AllReadyH.cons (o := _) rfl (fun K hK => ?_) AllReadyH.nil)
            go_simp
            (go_at_call 14; refine (iMostIn r b h 0 _).mono ?_; rintro e W2 ⟨rfl, hb2⟩; rw [G2.out]; have hq2 : Below W1.heap.size W1 W2 := (by (repeat' (first | (with_reducible exact Below.refl _ _) | (with_reducible assumption) | (with_reducible refine Below.alloc ?_ ?_ _) | (with_reducible refine Below.drew ?_) | (with_reducible refine below_drewN ?_ _) | (with_reducible refine Below.setCell ?_ ?_ _) | (with_reducible refine bvia ?_ (by with_reducible assumption) ?_) | go_size))))
            have x0_2 : W2.cell? ⟨w1.heap.size, 0, none⟩ = some (.int .i64 r) := (hq2.cell (World.block_lt_of_cell? W1 _ x0_1)).trans x0_1
            have x1_2 : W2.cell? ⟨w1.heap.size, 1, none⟩ = some (.int .i64 b) := (hq2.cell (World.block_lt_of_cell? W1 _ x1_1)).trans x1_1
            have x2_2 : W2.cell? ⟨w1.heap.size, 2, none⟩ = some (.int .i64 h) := (hq2.cell (World.block_lt_of_cell? W1 _ x2_1)).trans x2_1
            have f0_2 : W2.cell? ⟨w6.heap.size, 0, none⟩ = some (.int .i64 r) := (hq2.cell (World.block_lt_of_cell? W1 _ f0_1)).trans f0_1
            have f1_2 : W2.cell? ⟨w6.heap.size, 1, none⟩ = some (.int .i64 b) := (hq2.cell (World.block_lt_of_cell? W1 _ f1_1)).trans f1_1
            have f2_2 : W2.cell? ⟨w6.heap.size, 2, none⟩ = some (.int .i64 fh) := (hq2.cell (World.block_lt_of_cell? W1 _ f2_1)).trans f2_1
            have y0_2 : W2.cell? ⟨w7.heap.size, 0, none⟩ = some (.int .i64 r) := (hq2.cell (World.block_lt_of_cell? W1 _ y0_1)).trans y0_1
            have y1_2 : W2.cell? ⟨w7.heap.size, 1, none⟩ = some (.int .i64 b) := (hq2.cell (World.block_lt_of_cell? W1 _ y1_1)).trans y1_1
            have y2_2 : W2.cell? ⟨w7.heap.size, 2, none⟩ = some (.int .i64 oh) := (hq2.cell (World.block_lt_of_cell? W1 _ y2_1)).trans y2_1
            refine hK.out _ _ (by exact ⟨x0_2, x1_2, x2_2, f0_2, f1_2, f2_2, y0_2, y1_2, y2_2⟩) (fun hHeld3 => ?_)
            clear hK K hHeld2
            (try simp only [Act.put, List.setIfInBounds_toArray, List.set_cons_zero, List.set_cons_succ])
            clear hHeld3
            have hB9 := (hBW.trans (hq1.mono hBW.size)).trans (hq2.mono (Nat.le_trans hBW.size hq1.size))
            refine wpAnyH_rest (k := 11) (by kernel_rfl) (by kernel_rfl) (by kernel_rfl) (fun n => ⟨x0_2, x1_2, x2_2, f0_2, f1_2, f2_2, y0_2, y1_2, y2_2⟩) rfl ?_
            simp only [List.drop_succ_cons, List.drop_zero]
            repeat (any_goals (first | go_big_quiet_step (fail) | quiet_step (fail) | (refine wpQuiet_step (fun K hK => ?_); go_simp; split <;> (refine hK _ ?_; clear hK K))))
            all_goals (refine wpQuiet_nil ?_; intro _ hw_; obtain ⟨nq, hw__⟩ := hw_; subst hw__)
            go_wp2
            go_ret
            exact ⟨rfl, by (repeat' (first | (with_reducible exact Below.refl _ _) | (with_reducible assumption) | (with_reducible refine Below.alloc ?_ ?_ _) | (with_reducible refine Below.drew ?_) | (with_reducible refine below_drewN ?_ _) | (with_reducible refine Below.setCell ?_ ?_ _) | (with_reducible refine bvia ?_ (by with_reducible assumption) ?_) | go_size))⟩
        · have dr : (r == 0) = false := by simpa using hr0
          have df : (fh == b) = true := by simpa using e3 hr0
          clear e3
          by_cases hh0 : 0 < h
          · have dh : decide (0 < h) = true := decide_eq_true hh0
            have do_ : (oh == h - 1) = true := by simpa using e5 hh0
            clear e5 hr0
            refine wp_region_held_drew (S := (fun W' => (W'.cell? ⟨w1.heap.size, 0, none⟩ = some (.int .i64 r) ∧ W'.cell? ⟨w1.heap.size, 1, none⟩ = some (.int .i64 b) ∧ W'.cell? ⟨w1.heap.size, 2, none⟩ = some (.int .i64 h) ∧ W'.cell? ⟨w6.heap.size, 0, none⟩ = some (.int .i64 r) ∧ W'.cell? ⟨w6.heap.size, 1, none⟩ = some (.int .i64 b) ∧ W'.cell? ⟨w6.heap.size, 2, none⟩ = some (.int .i64 fh) ∧ W'.cell? ⟨w7.heap.size, 0, none⟩ = some (.int .i64 r) ∧ W'.cell? ⟨w7.heap.size, 1, none⟩ = some (.int .i64 b) ∧ W'.cell? ⟨w7.heap.size, 2, none⟩ = some (.int .i64 oh)))) (by kernel_rfl) (by exact ⟨x0, x1, x2, f0, f1, f2, y0, y1, y2⟩) (fun hHeld => ?_)
            refine wpAnyH_take (i := 0) (v := ?_) rfl (by kernel_rfl) (by kernel_rfl) (by kernel_rfl) (fun _ _ _ h => h) (Or.inl ⟨by rfl, ?_⟩) (by assumption) ?_
            rotate_left
            · intro w hSw
              (try dsimp only at hSw)
              go_simp
              all_goals (with_reducible rfl)
            change wpAnyH _ _ _ _ _ _ _ (Act.put _ (some 54) _) _
            simp only [Act.put, List.setIfInBounds_toArray, List.set_cons_zero, List.set_cons_succ]
            refine wpAnyH_take (i := 1) (v := ?_) rfl (by kernel_rfl) (by kernel_rfl) (by kernel_rfl) (fun _ _ _ h => h) (Or.inl ⟨by rfl, ?_⟩) (by assumption) ?_
            rotate_left
            · intro w hSw
              (try dsimp only at hSw)
              go_simp
              all_goals (with_reducible rfl)
            change wpAnyH _ _ _ _ _ _ _ (Act.put _ (some 55) _) _
            simp only [Act.put, List.setIfInBounds_toArray, List.set_cons_zero, List.set_cons_succ]
            refine wpAnyH_take (i := 2) (v := ?_) rfl (by kernel_rfl) (by kernel_rfl) (by kernel_rfl) (fun _ _ _ h => h) (Or.inl ⟨by rfl, ?_⟩) (by assumption) ?_
            rotate_left
            · intro w hSw
              (try dsimp only at hSw)
              go_simp
              all_goals (with_reducible rfl)
            change wpAnyH _ _ _ _ _ _ _ (Act.put _ (some 56) _) _
            simp only [Act.put, List.setIfInBounds_toArray, List.set_cons_zero, List.set_cons_succ]
            refine wpAnyH_take (i := 3) (v := ?_) rfl (by kernel_rfl) (by kernel_rfl) (by kernel_rfl) (fun _ _ _ h => h) (Or.inl ⟨by rfl, ?_⟩) (by assumption) ?_
            rotate_left
            · intro w hSw
              (try dsimp only at hSw)
              go_simp
              all_goals (with_reducible rfl)
            change wpAnyH _ _ _ _ _ _ _ (Act.put _ (some 57) _) _
            simp only [Act.put, List.setIfInBounds_toArray, List.set_cons_zero, List.set_cons_succ]
            refine wpAnyH_ready (rs := [4]) (by kernel_rfl) (by simp) (AllReadyH.cons (o := _) rfl (fun K hK => ?_) AllReadyH.nil)
            go_simp
            (go_at_call 14; refine (iMostIn r b h L.length _).mono ?_; rintro e W1 ⟨rfl, hb1⟩; rw [G1.out]; have hq1 : Below W.heap.size W W1 := (by (repeat' (first | (with_reducible exact Below.refl _ _) | (with_reducible assumption) | (with_reducible refine Below.alloc ?_ ?_ _) | (with_reducible refine Below.drew ?_) | (with_reducible refine below_drewN ?_ _) | (with_reducible refine Below.setCell ?_ ?_ _) | (with_reducible refine bvia ?_ (by with_reducible assumption) ?_) | go_size))))
            have x0_1 : W1.cell? ⟨w1.heap.size, 0, none⟩ = some (.int .i64 r) := (hq1.cell (World.block_lt_of_cell? W _ x0)).trans x0
            have x1_1 : W1.cell? ⟨w1.heap.size, 1, none⟩ = some (.int .i64 b) := (hq1.cell (World.block_lt_of_cell? W _ x1)).trans x1
            have x2_1 : W1.cell? ⟨w1.heap.size, 2, none⟩ = some (.int .i64 h) := (hq1.cell (World.block_lt_of_cell? W _ x2)).trans x2
            have f0_1 : W1.cell? ⟨w6.heap.size, 0, none⟩ = some (.int .i64 r) := (hq1.cell (World.block_lt_of_cell? W _ f0)).trans f0
            have f1_1 : W1.cell? ⟨w6.heap.size, 1, none⟩ = some (.int .i64 b) := (hq1.cell (World.block_lt_of_cell? W _ f1)).trans f1
            have f2_1 : W1.cell? ⟨w6.heap.size, 2, none⟩ = some (.int .i64 fh) := (hq1.cell (World.block_lt_of_cell? W _ f2)).trans f2
            have y0_1 : W1.cell? ⟨w7.heap.size, 0, none⟩ = some (.int .i64 r) := (hq1.cell (World.block_lt_of_cell? W _ y0)).trans y0
            have y1_1 : W1.cell? ⟨w7.heap.size, 1, none⟩ = some (.int .i64 b) := (hq1.cell (World.block_lt_of_cell? W _ y1)).trans y1
            have y2_1 : W1.cell? ⟨w7.heap.size, 2, none⟩ = some (.int .i64 oh) := (hq1.cell (World.block_lt_of_cell? W _ y2)).trans y2
            refine hK.out _ _ (by exact ⟨x0_1, x1_1, x2_1, f0_1, f1_1, f2_1, y0_1, y1_1, y2_1⟩) (fun hHeld2 => ?_)
            clear hK K hHeld
            (try simp only [Act.put, List.setIfInBounds_toArray, List.set_cons_zero, List.set_cons_succ])
            refine wpAnyH_take (i := 5) (v := ?_) rfl (by kernel_rfl) (by kernel_rfl) (by kernel_rfl) (fun _ _ _ h => h) (Or.inl ⟨by rfl, ?_⟩) (by assumption) ?_
            rotate_left
            · intro w hSw
              (try dsimp only at hSw)
              go_simp
              all_goals (with_reducible rfl)
            change wpAnyH _ _ _ _ _ _ _ (Act.put _ (some 59) _) _
            simp only [Act.put, List.setIfInBounds_toArray, List.set_cons_zero, List.set_cons_succ]
            refine wpAnyH_take (i := 6) (v := ?_) rfl (by kernel_rfl) (by kernel_rfl) (by kernel_rfl) (fun _ _ _ h => h) (Or.inl ⟨by rfl, ?_⟩) (by assumption) ?_
            rotate_left
            · intro w hSw
              (try dsimp only at hSw)
              go_simp
              all_goals (with_reducible rfl)
            change wpAnyH _ _ _ _ _ _ _ (Act.put _ (some 60) _) _
            simp only [Act.put, List.setIfInBounds_toArray, List.set_cons_zero, List.set_cons_succ]
            refine wpAnyH_take (i := 7) (v := ?_) rfl (by kernel_rfl) (by kernel_rfl) (by kernel_rfl) (fun _ _ _ h => h) (Or.inl ⟨by rfl, ?_⟩) (by assumption) ?_
            rotate_left
            · intro w hSw
              (try dsimp only at hSw)
              go_simp
              all_goals (with_reducible rfl)
            change wpAnyH _ _ _ _ _ _ _ (Act.put _ (some 61) _) _
            simp only [Act.put, List.setIfInBounds_toArray, List.set_cons_zero, List.set_cons_succ]
            refine wpAnyH_take (i := 9) (v := ?_) rfl (by kernel_rfl) (by kernel_rfl) (by kernel_rfl) (fun _ _ _ h => h) (Or.inl ⟨by rfl, ?_⟩) (by assumption) ?_
            rotate_left
            · intro w hSw
              (try dsimp only at hSw)
              go_simp
              all_goals (with_reducible rfl)
            change wpAnyH _ _ _ _ _ _ _ (Act.put _ (some 63) _) _
            simp only [Act.put, List.setIfInBounds_toArray, List.set_cons_zero, List.set_cons_succ]
            refine wpAnyH_take (i := 10) (v := ?_) rfl (by kernel_rfl) (by kernel_rfl) (by kernel_rfl) (fun _ _ _ h => h) (Or.inl ⟨by rfl, ?_⟩) (by assumption) ?_
            rotate_left
            · intro w hSw
              (try dsimp only at hSw)
              go_simp
              all_goals (with_reducible rfl)
            change wpAnyH _ _ _ _ _ _ _ (Act.put _ (some 64) _) _
            simp only [Act.put, List.setIfInBounds_toArray, List.set_cons_zero, List.set_cons_succ]
            refine wpAnyH_ready (rs := [8]) (by kernel_rfl) (by simp) (AllReadyH.cons (o := _) rfl (fun K hK => ?_) AllReadyH.nil)
            go_simp
            (go_at_call 14; refine (iMostIn r b h 0 _).mono ?_; rintro e W2 ⟨rfl, hb2⟩; rw [G2.out]; have hq2 : Below W1.heap.size W1 W2 := (by (repeat' (first | (with_reducible exact Below.refl _ _) | (with_reducible assumption) | (with_reducible refine Below.alloc ?_ ?_ _) | (with_reducible refine Below.drew ?_) | (with_reducible refine below_drewN ?_ _) | (with_reducible refine Below.setCell ?_ ?_ _) | (with_reducible refine bvia ?_ (by with_reducible assumption) ?_) | go_size))))
            have x0_2 : W2.cell? ⟨w1.heap.size, 0, none⟩ = some (.int .i64 r) := (hq2.cell (World.block_lt_of_cell? W1 _ x0_1)).trans x0_1
            have x1_2 : W2.cell? ⟨w1.heap.size, 1, none⟩ = some (.int .i64 b) := (hq2.cell (World.block_lt_of_cell? W1 _ x1_1)).trans x1_1
            have x2_2 : W2.cell? ⟨w1.heap.size, 2, none⟩ = some (.int .i64 h) := (hq2.cell (World.block_lt_of_cell? W1 _ x2_1)).trans x2_1
            have f0_2 : W2.cell? ⟨w6.heap.size, 0, none⟩ = some (.int .i64 r) := (hq2.cell (World.block_lt_of_cell? W1 _ f0_1)).trans f0_1
            have f1_2 : W2.cell? ⟨w6.heap.size, 1, none⟩ = some (.int .i64 b) := (hq2.cell (World.block_lt_of_cell? W1 _ f1_1)).trans f1_1
            have f2_2 : W2.cell? ⟨w6.heap.size, 2, none⟩ = some (.int .i64 fh) := (hq2.cell (World.block_lt_of_cell? W1 _ f2_1)).trans f2_1
            have y0_2 : W2.cell? ⟨w7.heap.size, 0, none⟩ = some (.int .i64 r) := (hq2.cell (World.block_lt_of_cell? W1 _ y0_1)).trans y0_1
            have y1_2 : W2.cell? ⟨w7.heap.size, 1, none⟩ = some (.int .i64 b) := (hq2.cell (World.block_lt_of_cell? W1 _ y1_1)).trans y1_1
            have y2_2 : W2.cell? ⟨w7.heap.size, 2, none⟩ = some (.int .i64 oh) := (hq2.cell (World.block_lt_of_cell? W1 _ y2_1)).trans y2_1
            refine hK.out _ _ (by exact ⟨x0_2, x1_2, x2_2, f0_2, f1_2, f2_2, y0_2, y1_2, y2_2⟩) (fun hHeld3 => ?_)
            clear hK K hHeld2
            (try simp only [Act.put, List.setIfInBounds_toArray, List.set_cons_zero, List.set_cons_succ])
            clear hHeld3
            have hB9 := (hBW.trans (hq1.mono hBW.size)).trans (hq2.mono (Nat.le_trans hBW.size hq1.size))
            refine wpAnyH_rest (k := 11) (by kernel_rfl) (by kernel_rfl) (by kernel_rfl) (fun n => ⟨x0_2, x1_2, x2_2, f0_2, f1_2, f2_2, y0_2, y1_2, y2_2⟩) rfl ?_
            simp only [List.drop_succ_cons, List.drop_zero]
            repeat (any_goals (first | go_big_quiet_step (fail) | quiet_step (fail) | (refine wpQuiet_step (fun K hK => ?_); go_simp; split <;> (refine hK _ ?_; clear hK K))))
            all_goals (refine wpQuiet_nil ?_; intro _ hw_; obtain ⟨nq, hw__⟩ := hw_; subst hw__)
            go_wp2
            go_ret
            exact ⟨rfl, by (repeat' (first | (with_reducible exact Below.refl _ _) | (with_reducible assumption) | (with_reducible refine Below.alloc ?_ ?_ _) | (with_reducible refine Below.drew ?_) | (with_reducible refine below_drewN ?_ _) | (with_reducible refine Below.setCell ?_ ?_ _) | (with_reducible refine bvia ?_ (by with_reducible assumption) ?_) | go_size))⟩
          · have dh : decide (0 < h) = false := decide_eq_false hh0
            clear e5 hr0
            refine wp_region_held_drew (S := (fun W' => (W'.cell? ⟨w1.heap.size, 0, none⟩ = some (.int .i64 r) ∧ W'.cell? ⟨w1.heap.size, 1, none⟩ = some (.int .i64 b) ∧ W'.cell? ⟨w1.heap.size, 2, none⟩ = some (.int .i64 h) ∧ W'.cell? ⟨w6.heap.size, 0, none⟩ = some (.int .i64 r) ∧ W'.cell? ⟨w6.heap.size, 1, none⟩ = some (.int .i64 b) ∧ W'.cell? ⟨w6.heap.size, 2, none⟩ = some (.int .i64 fh) ∧ W'.cell? ⟨w7.heap.size, 0, none⟩ = some (.int .i64 r) ∧ W'.cell? ⟨w7.heap.size, 1, none⟩ = some (.int .i64 b) ∧ W'.cell? ⟨w7.heap.size, 2, none⟩ = some (.int .i64 oh)))) (by kernel_rfl) (by exact ⟨x0, x1, x2, f0, f1, f2, y0, y1, y2⟩) (fun hHeld => ?_)
            refine wpAnyH_take (i := 0) (v := ?_) rfl (by kernel_rfl) (by kernel_rfl) (by kernel_rfl) (fun _ _ _ h => h) (Or.inl ⟨by rfl, ?_⟩) (by assumption) ?_
            rotate_left
            · intro w hSw
              (try dsimp only at hSw)
              go_simp
              all_goals (with_reducible rfl)
            change wpAnyH _ _ _ _ _ _ _ (Act.put _ (some 54) _) _
            simp only [Act.put, List.setIfInBounds_toArray, List.set_cons_zero, List.set_cons_succ]
            refine wpAnyH_take (i := 1) (v := ?_) rfl (by kernel_rfl) (by kernel_rfl) (by kernel_rfl) (fun _ _ _ h => h) (Or.inl ⟨by rfl, ?_⟩) (by assumption) ?_
            rotate_left
            · intro w hSw
              (try dsimp only at hSw)
              go_simp
              all_goals (with_reducible rfl)
            change wpAnyH _ _ _ _ _ _ _ (Act.put _ (some 55) _) _
            simp only [Act.put, List.setIfInBounds_toArray, List.set_cons_zero, List.set_cons_succ]
            refine wpAnyH_take (i := 2) (v := ?_) rfl (by kernel_rfl) (by kernel_rfl) (by kernel_rfl) (fun _ _ _ h => h) (Or.inl ⟨by rfl, ?_⟩) (by assumption) ?_
            rotate_left
            · intro w hSw
              (try dsimp only at hSw)
              go_simp
              all_goals (with_reducible rfl)
            change wpAnyH _ _ _ _ _ _ _ (Act.put _ (some 56) _) _
            simp only [Act.put, List.setIfInBounds_toArray, List.set_cons_zero, List.set_cons_succ]
            refine wpAnyH_take (i := 3) (v := ?_) rfl (by kernel_rfl) (by kernel_rfl) (by kernel_rfl) (fun _ _ _ h => h) (Or.inl ⟨by rfl, ?_⟩) (by assumption) ?_
            rotate_left
            · intro w hSw
              (try dsimp only at hSw)
              go_simp
              all_goals (with_reducible rfl)
            change wpAnyH _ _ _ _ _ _ _ (Act.put _ (some 57) _) _
            simp only [Act.put, List.setIfInBounds_toArray, List.set_cons_zero, List.set_cons_succ]
            refine wpAnyH_ready (rs := [4]) (by kernel_rfl) (by simp) (AllReadyH.cons (o := _) rfl (fun K hK => ?_) AllReadyH.nil)
            go_simp
            (go_at_call 14; refine (iMostIn r b h L.length _).mono ?_; rintro e W1 ⟨rfl, hb1⟩; rw [G1.out]; have hq1 : Below W.heap.size W W1 := (by (repeat' (first | (with_reducible exact Below.refl _ _) | (with_reducible assumption) | (with_reducible refine Below.alloc ?_ ?_ _) | (with_reducible refine Below.drew ?_) | (with_reducible refine below_drewN ?_ _) | (with_reducible refine Below.setCell ?_ ?_ _) | (with_reducible refine bvia ?_ (by with_reducible assumption) ?_) | go_size))))
            have x0_1 : W1.cell? ⟨w1.heap.size, 0, none⟩ = some (.int .i64 r) := (hq1.cell (World.block_lt_of_cell? W _ x0)).trans x0
            have x1_1 : W1.cell? ⟨w1.heap.size, 1, none⟩ = some (.int .i64 b) := (hq1.cell (World.block_lt_of_cell? W _ x1)).trans x1
            have x2_1 : W1.cell? ⟨w1.heap.size, 2, none⟩ = some (.int .i64 h) := (hq1.cell (World.block_lt_of_cell? W _ x2)).trans x2
            have f0_1 : W1.cell? ⟨w6.heap.size, 0, none⟩ = some (.int .i64 r) := (hq1.cell (World.block_lt_of_cell? W _ f0)).trans f0
            have f1_1 : W1.cell? ⟨w6.heap.size, 1, none⟩ = some (.int .i64 b) := (hq1.cell (World.block_lt_of_cell? W _ f1)).trans f1
            have f2_1 : W1.cell? ⟨w6.heap.size, 2, none⟩ = some (.int .i64 fh) := (hq1.cell (World.block_lt_of_cell? W _ f2)).trans f2
            have y0_1 : W1.cell? ⟨w7.heap.size, 0, none⟩ = some (.int .i64 r) := (hq1.cell (World.block_lt_of_cell? W _ y0)).trans y0
            have y1_1 : W1.cell? ⟨w7.heap.size, 1, none⟩ = some (.int .i64 b) := (hq1.cell (World.block_lt_of_cell? W _ y1)).trans y1
            have y2_1 : W1.cell? ⟨w7.heap.size, 2, none⟩ = some (.int .i64 oh) := (hq1.cell (World.block_lt_of_cell? W _ y2)).trans y2
            refine hK.out _ _ (by exact ⟨x0_1, x1_1, x2_1, f0_1, f1_1, f2_1, y0_1, y1_1, y2_1⟩) (fun hHeld2 => ?_)
            clear hK K hHeld
            (try simp only [Act.put, List.setIfInBounds_toArray, List.set_cons_zero, List.set_cons_succ])
            refine wpAnyH_take (i := 5) (v := ?_) rfl (by kernel_rfl) (by kernel_rfl) (by kernel_rfl) (fun _ _ _ h => h) (Or.inl ⟨by rfl, ?_⟩) (by assumption) ?_
            rotate_left
            · intro w hSw
              (try dsimp only at hSw)
              go_simp
              all_goals (with_reducible rfl)
            change wpAnyH _ _ _ _ _ _ _ (Act.put _ (some 59) _) _
            simp only [Act.put, List.setIfInBounds_toArray, List.set_cons_zero, List.set_cons_succ]
            refine wpAnyH_take (i := 6) (v := ?_) rfl (by kernel_rfl) (by kernel_rfl) (by kernel_rfl) (fun _ _ _ h => h) (Or.inl ⟨by rfl, ?_⟩) (by assumption) ?_
            rotate_left
            · intro w hSw
              (try dsimp only at hSw)
              go_simp
              all_goals (with_reducible rfl)
            change wpAnyH _ _ _ _ _ _ _ (Act.put _ (some 60) _) _
            simp only [Act.put, List.setIfInBounds_toArray, List.set_cons_zero, List.set_cons_succ]
            refine wpAnyH_take (i := 7) (v := ?_) rfl (by kernel_rfl) (by kernel_rfl) (by kernel_rfl) (fun _ _ _ h => h) (Or.inl ⟨by rfl, ?_⟩) (by assumption) ?_
            rotate_left
            · intro w hSw
              (try dsimp only at hSw)
              go_simp
              all_goals (with_reducible rfl)
            change wpAnyH _ _ _ _ _ _ _ (Act.put _ (some 61) _) _
            simp only [Act.put, List.setIfInBounds_toArray, List.set_cons_zero, List.set_cons_succ]
            refine wpAnyH_take (i := 9) (v := ?_) rfl (by kernel_rfl) (by kernel_rfl) (by kernel_rfl) (fun _ _ _ h => h) (Or.inl ⟨by rfl, ?_⟩) (by assumption) ?_
            rotate_left
            · intro w hSw
              (try dsimp only at hSw)
              go_simp
              all_goals (with_reducible rfl)
            change wpAnyH _ _ _ _ _ _ _ (Act.put _ (some 63) _) _
            simp only [Act.put, List.setIfInBounds_toArray, List.set_cons_zero, List.set_cons_succ]
            refine wpAnyH_take (i := 10) (v := ?_) rfl (by kernel_rfl) (by kernel_rfl) (by kernel_rfl) (fun _ _ _ h => h) (Or.inl ⟨by rfl, ?_⟩) (by assumption) ?_
            rotate_left
            · intro w hSw
              (try dsimp only at hSw)
              go_simp
              all_goals (with_reducible rfl)
            change wpAnyH _ _ _ _ _ _ _ (Act.put _ (some 64) _) _
            simp only [Act.put, List.setIfInBounds_toArray, List.set_cons_zero, List.set_cons_succ]
            refine wpAnyH_ready (rs := [8]) (by kernel_rfl) (by simp) (AllReadyH.cons (o := _) rfl (fun K hK => ?_) AllReadyH.nil)
            go_simp
            (go_at_call 14; refine (iMostIn r b h 0 _).mono ?_; rintro e W2 ⟨rfl, hb2⟩; rw [G2.out]; have hq2 : Below W1.heap.size W1 W2 := (by (repeat' (first | (with_reducible exact Below.refl _ _) | (with_reducible assumption) | (with_reducible refine Below.alloc ?_ ?_ _) | (with_reducible refine Below.drew ?_) | (with_reducible refine below_drewN ?_ _) | (with_reducible refine Below.setCell ?_ ?_ _) | (with_reducible refine bvia ?_ (by with_reducible assumption) ?_) | go_size))))
            have x0_2 : W2.cell? ⟨w1.heap.size, 0, none⟩ = some (.int .i64 r) := (hq2.cell (World.block_lt_of_cell? W1 _ x0_1)).trans x0_1
            have x1_2 : W2.cell? ⟨w1.heap.size, 1, none⟩ = some (.int .i64 b) := (hq2.cell (World.block_lt_of_cell? W1 _ x1_1)).trans x1_1
            have x2_2 : W2.cell? ⟨w1.heap.size, 2, none⟩ = some (.int .i64 h) := (hq2.cell (World.block_lt_of_cell? W1 _ x2_1)).trans x2_1
            have f0_2 : W2.cell? ⟨w6.heap.size, 0, none⟩ = some (.int .i64 r) := (hq2.cell (World.block_lt_of_cell? W1 _ f0_1)).trans f0_1
            have f1_2 : W2.cell? ⟨w6.heap.size, 1, none⟩ = some (.int .i64 b) := (hq2.cell (World.block_lt_of_cell? W1 _ f1_1)).trans f1_1
            have f2_2 : W2.cell? ⟨w6.heap.size, 2, none⟩ = some (.int .i64 fh) := (hq2.cell (World.block_lt_of_cell? W1 _ f2_1)).trans f2_1
            have y0_2 : W2.cell? ⟨w7.heap.size, 0, none⟩ = some (.int .i64 r) := (hq2.cell (World.block_lt_of_cell? W1 _ y0_1)).trans y0_1
            have y1_2 : W2.cell? ⟨w7.heap.size, 1, none⟩ = some (.int .i64 b) := (hq2.cell (World.block_lt_of_cell? W1 _ y1_1)).trans y1_1
            have y2_2 : W2.cell? ⟨w7.heap.size, 2, none⟩ = some (.int .i64 oh) := (hq2.cell (World.block_lt_of_cell? W1 _ y2_1)).trans y2_1
            refine hK.out _ _ (by exact ⟨x0_2, x1_2, x2_2, f0_2, f1_2, f2_2, y0_2, y1_2, y2_2⟩) (fun hHeld3 => ?_)
            clear hK K hHeld2
            (try simp only [Act.put, List.setIfInBounds_toArray, List.set_cons_zero, List.set_cons_succ])
            clear hHeld3
            have hB9 := (hBW.trans (hq1.mono hBW.size)).trans (hq2.mono (Nat.le_trans hBW.size hq1.size))
            refine wpAnyH_rest (k := 11) (by kernel_rfl) (by kernel_rfl) (by kernel_rfl) (fun n => ⟨x0_2, x1_2, x2_2, f0_2, f1_2, f2_2, y0_2, y1_2, y2_2⟩) rfl ?_
            simp only [List.drop_succ_cons, List.drop_zero]
            repeat (any_goals (first | go_big_quiet_step (fail) | quiet_step (fail) | (refine wpQuiet_step (fun K hK => ?_); go_simp; split <;> (refine hK _ ?_; clear hK K))))
            all_goals (refine wpQuiet_nil ?_; intro _ hw_; obtain ⟨nq, hw__⟩ := hw_; subst hw__)
            go_wp2
            go_ret
            exact ⟨rfl, by (repeat' (first | (with_reducible exact Below.refl _ _) | (with_reducible assumption) | (with_reducible refine Below.alloc ?_ ?_ _) | (with_reducible refine Below.drew ?_) | (with_reducible refine below_drewN ?_ _) | (with_reducible refine Below.setCell ?_ ?_ _) | (with_reducible refine bvia ?_ (by with_reducible assumption) ?_) | go_size))⟩
end Go.Proofs.Ytkeldhffhiekpaa
