/- The walk of FnExactCanMake: for every argument. Written by program (canlaw.py). -/
import Derived.Test.YtomjfhcfellikaaKT
import Derived.Test.YtomjfhcfellikaaCan2
import Derived.Deep.RegionHeld3
import Derived.Deep.DrawnRows
namespace Go.Proofs.Ytomjfhcfellikaa
set_option linter.unusedSimpArgs false
set_option linter.unusedVariables false
open Go.RowKit
set_option maxRecDepth 100000 in
set_option maxHeartbeats 4000000 in
theorem walk_FnExactCanMake (x : KnownA) (t : TagD) (w : World) (hx : x.wf w) (_ : t.wf) :
    Calls Try.prog 7 #[x.val, t.val] w fun e w' => e = .returned (.bool true) ∧ Below w.heap.size w w' := by
  obtain ⟨⟨hk1, hk2, -, hK⟩, ht1, ht2, -, hT⟩ := hx
  have hmK : x.fKeys.length ≤ maxLen := Nat.le_trans hk1 hk2
  have hmT : x.fTags.length ≤ maxLen := Nat.le_trans ht1 ht2
  by_cases h : (x.fKeys.length : Int) + x.fTags.length ≤ 1048576
  · have hv : Hid (szKn 1048576 x.fKeys.length x.fTags.length = 1048576 - x.fKeys.length - x.fTags.length) := if_pos h
    have d0 : decide ((1048576 : Int) - x.fKeys.length - x.fTags.length < 0) = false := decide_eq_false (by omega)
    go_enter Try.func7, Try.ntmps7
    go_wp2_with fail
    refine (szKnown_any x.aKeys x.aTags _ _ _ _ 1048576 _ (by omega) (by omega) hmK hmT).mono ?_
    rintro e w1 ⟨rfl, hb1⟩
    obtain ⟨hc, hf⟩ := bcell hb1
    have hc1_0 := fun o => hc (w.heap.size) o (by go_size)
    have hf1_0 := fun o => hf (w.heap.size) o (by go_size)
    have hz1_0 : w.heap.size < w1.heap.size := Nat.lt_of_lt_of_le (by go_size) hb1.size
    have hc1_1 := fun o => hc (w.heap.size + 1) o (by go_size)
    have hf1_1 := fun o => hf (w.heap.size + 1) o (by go_size)
    have hz1_1 : w.heap.size + 1 < w1.heap.size := Nat.lt_of_lt_of_le (by go_size) hb1.size
    clear hc hf
    have hz1 := hb1.size
    try simp at hz1
    rw [hv.out]
    go_wp2_with fail
    refine wp_world _ (KT w x t) ⟨by (repeat' (first | (with_reducible exact Below.refl _ _) | (with_reducible assumption) | (with_reducible refine Below.alloc ?_ ?_ _) | (with_reducible refine Below.drew ?_) | (with_reducible refine below_drewN ?_ _) | (with_reducible refine Below.setCell ?_ ?_ _) | (with_reducible refine bvia ?_ (by with_reducible assumption) ?_) | go_size)), by omega, by simp [go_sem, hc1_0], by simp [go_sem, hc1_0], by simp [go_sem, hc1_1], by simp [go_sem, hc1_1], by simp [go_sem, hc1_1], by simp [go_sem, hc1_1], by simp [go_sem, hc1_1]⟩ ?_
    clear hc1_0 hc1_1 hf1_0 hf1_1 hz1_0 hz1_1 hz1 hb1 w1
    intro W hL
    have hB : Below w.heap.size w W := hL.b
    have hz : w.heap.size + 2 ≤ W.heap.size := hL.z
    have k0_W := hL.k0
    have k1_W := hL.k1
    have t0_W := hL.t0
    have t1_W := hL.t1
    have t2_W := hL.t2
    have t3_W := hL.t3
    have t4_W := hL.t4
    have HL := Lib.hid hL
    clear hL
    go_region_held3 (fun w' => w'.cell? ⟨w.heap.size, 0, none⟩ = some (.slice x.aKeys x.fKeys.length x.cKeys) ∧ w'.cell? ⟨w.heap.size, 1, none⟩ = some (.slice x.aTags x.fTags.length x.cTags) ∧ w'.cell? ⟨w.heap.size + 1, 0, none⟩ = some (.int .i64 t.fKind) ∧ w'.cell? ⟨w.heap.size + 1, 1, none⟩ = some (.int .i64 t.fOne) ∧ w'.cell? ⟨w.heap.size + 1, 2, none⟩ = some (.int .i64 t.fTwo) ∧ w'.cell? ⟨w.heap.size + 1, 3, none⟩ = some (.int .i64 t.fA) ∧ w'.cell? ⟨w.heap.size + 1, 4, none⟩ = some (.int .i64 t.fB)) (first | (refine ⟨?_, ?_, ?_, ?_, ?_, ?_, ?_⟩ <;> assumption) | go_keep)
      (first
        | (go_at_call 16; refine (toKnown_any x.aKeys x.aTags x.cKeys x.cTags x.fKeys x.fTags _ (by exact hK.later (by (repeat' (first | (with_reducible exact Below.refl _ _) | (with_reducible assumption) | (with_reducible refine Below.alloc ?_ ?_ _) | (with_reducible refine Below.drew ?_) | (with_reducible refine below_drewN ?_ _) | (with_reducible refine Below.setCell ?_ ?_ _) | (with_reducible refine bvia ?_ (by with_reducible assumption) ?_) | go_size))) (Nat.le_refl _) (by go_size)) (by exact hT.later (by (repeat' (first | (with_reducible exact Below.refl _ _) | (with_reducible assumption) | (with_reducible refine Below.alloc ?_ ?_ _) | (with_reducible refine Below.drew ?_) | (with_reducible refine below_drewN ?_ _) | (with_reducible refine Below.setCell ?_ ?_ _) | (with_reducible refine bvia ?_ (by with_reducible assumption) ?_) | go_size))) (Nat.le_refl _) (by go_size)) (by omega) (by omega)).mono ?_; rintro e w1 ⟨B1, j1, B2, j2, rfl, V1, hb1⟩; have hz1 := hb1.size; (try simp at hz1); have hq1 : Below W.heap.size W w1 := (by (repeat' (first | (with_reducible exact Below.refl _ _) | (with_reducible assumption) | (with_reducible refine Below.alloc ?_ ?_ _) | (with_reducible refine Below.drew ?_) | (with_reducible refine below_drewN ?_ _) | (with_reducible refine Below.setCell ?_ ?_ _) | (with_reducible refine bvia ?_ (by with_reducible assumption) ?_) | go_size))); have k0_w1 : w1.cell? ⟨w.heap.size, 0, none⟩ = some (.slice x.aKeys x.fKeys.length x.cKeys) := (hq1.cell (by show w.heap.size < _; go_size)).trans k0_W; have k1_w1 : w1.cell? ⟨w.heap.size, 1, none⟩ = some (.slice x.aTags x.fTags.length x.cTags) := (hq1.cell (by show w.heap.size < _; go_size)).trans k1_W; have t0_w1 : w1.cell? ⟨w.heap.size + 1, 0, none⟩ = some (.int .i64 t.fKind) := (hq1.cell (by show w.heap.size + 1 < _; go_size)).trans t0_W; have t1_w1 : w1.cell? ⟨w.heap.size + 1, 1, none⟩ = some (.int .i64 t.fOne) := (hq1.cell (by show w.heap.size + 1 < _; go_size)).trans t1_W; have t2_w1 : w1.cell? ⟨w.heap.size + 1, 2, none⟩ = some (.int .i64 t.fTwo) := (hq1.cell (by show w.heap.size + 1 < _; go_size)).trans t2_W; have t3_w1 : w1.cell? ⟨w.heap.size + 1, 3, none⟩ = some (.int .i64 t.fA) := (hq1.cell (by show w.heap.size + 1 < _; go_size)).trans t3_W; have t4_w1 : w1.cell? ⟨w.heap.size + 1, 4, none⟩ = some (.int .i64 t.fB) := (hq1.cell (by show w.heap.size + 1 < _; go_size)).trans t4_W)
        | (go_at_call 17; refine (toTag_any t _).mono ?_; rintro e w2 ⟨rfl, hb2⟩; have hz2 := hb2.size; (try simp at hz2); have hq2 : Below W.heap.size W w2 := (by (repeat' (first | (with_reducible exact Below.refl _ _) | (with_reducible assumption) | (with_reducible refine Below.alloc ?_ ?_ _) | (with_reducible refine Below.drew ?_) | (with_reducible refine below_drewN ?_ _) | (with_reducible refine Below.setCell ?_ ?_ _) | (with_reducible refine bvia ?_ (by with_reducible assumption) ?_) | go_size))); have k0_w2 : w2.cell? ⟨w.heap.size, 0, none⟩ = some (.slice x.aKeys x.fKeys.length x.cKeys) := (hq2.cell (by show w.heap.size < _; go_size)).trans k0_W; have k1_w2 : w2.cell? ⟨w.heap.size, 1, none⟩ = some (.slice x.aTags x.fTags.length x.cTags) := (hq2.cell (by show w.heap.size < _; go_size)).trans k1_W; have t0_w2 : w2.cell? ⟨w.heap.size + 1, 0, none⟩ = some (.int .i64 t.fKind) := (hq2.cell (by show w.heap.size + 1 < _; go_size)).trans t0_W; have t1_w2 : w2.cell? ⟨w.heap.size + 1, 1, none⟩ = some (.int .i64 t.fOne) := (hq2.cell (by show w.heap.size + 1 < _; go_size)).trans t1_W; have t2_w2 : w2.cell? ⟨w.heap.size + 1, 2, none⟩ = some (.int .i64 t.fTwo) := (hq2.cell (by show w.heap.size + 1 < _; go_size)).trans t2_W; have t3_w2 : w2.cell? ⟨w.heap.size + 1, 3, none⟩ = some (.int .i64 t.fA) := (hq2.cell (by show w.heap.size + 1 < _; go_size)).trans t3_W; have t4_w2 : w2.cell? ⟨w.heap.size + 1, 4, none⟩ = some (.int .i64 t.fB) := (hq2.cell (by show w.heap.size + 1 < _; go_size)).trans t4_W)
        | (go_at_call 24; refine (sCanMake _ _ _ _ x.fKeys x.fTags t _ (by exact V1.rdK.later hb2 (Nat.le_refl _) hz2) (by exact V1.rdT.later hb2 (Nat.le_refl _) hz2) hmK hmT).mono ?_; rintro e w3 ⟨rfl, hb3⟩; have hz3 := hb3.size; (try simp at hz3); have hq3 : Below W.heap.size W w3 := (by (repeat' (first | (with_reducible exact Below.refl _ _) | (with_reducible assumption) | (with_reducible refine Below.alloc ?_ ?_ _) | (with_reducible refine Below.drew ?_) | (with_reducible refine below_drewN ?_ _) | (with_reducible refine Below.setCell ?_ ?_ _) | (with_reducible refine bvia ?_ (by with_reducible assumption) ?_) | go_size))); have k0_w3 : w3.cell? ⟨w.heap.size, 0, none⟩ = some (.slice x.aKeys x.fKeys.length x.cKeys) := (hq3.cell (by show w.heap.size < _; go_size)).trans k0_W; have k1_w3 : w3.cell? ⟨w.heap.size, 1, none⟩ = some (.slice x.aTags x.fTags.length x.cTags) := (hq3.cell (by show w.heap.size < _; go_size)).trans k1_W; have t0_w3 : w3.cell? ⟨w.heap.size + 1, 0, none⟩ = some (.int .i64 t.fKind) := (hq3.cell (by show w.heap.size + 1 < _; go_size)).trans t0_W; have t1_w3 : w3.cell? ⟨w.heap.size + 1, 1, none⟩ = some (.int .i64 t.fOne) := (hq3.cell (by show w.heap.size + 1 < _; go_size)).trans t1_W; have t2_w3 : w3.cell? ⟨w.heap.size + 1, 2, none⟩ = some (.int .i64 t.fTwo) := (hq3.cell (by show w.heap.size + 1 < _; go_size)).trans t2_W; have t3_w3 : w3.cell? ⟨w.heap.size + 1, 3, none⟩ = some (.int .i64 t.fA) := (hq3.cell (by show w.heap.size + 1 < _; go_size)).trans t3_W; have t4_w3 : w3.cell? ⟨w.heap.size + 1, 4, none⟩ = some (.int .i64 t.fB) := (hq3.cell (by show w.heap.size + 1 < _; go_size)).trans t4_W)
        | fail)
    have HL3 := Lib.hid (HL.out.next hq3)
    clear HL
    clear k0_W k1_W t0_W t1_W t2_W t3_W t4_W k0_w1 k1_w1 t0_w1 t1_w1 t2_w1 t3_w1 t4_w1 k0_w2 k1_w2 t0_w2 t1_w2 t2_w2 t3_w2 t4_w2 k0_w3 k1_w3 t0_w3 t1_w3 t2_w3 t3_w3 t4_w3
    have hB3 := HL3.out.b
    have hz3b := HL3.out.z
    clear hq1 hq2 hq3 hb1 hb2 hb3 hz1 hz2 V1 hB hz
    have k0_3 := HL3.out.k0
    have k1_3 := HL3.out.k1
    go_wp2_with fail
    refine (toKnown_any x.aKeys x.aTags x.cKeys x.cTags x.fKeys x.fTags _ (by exact hK.later hB3 (Nat.le_refl _) (by omega)) (by exact hT.later hB3 (Nat.le_refl _) (by omega)) (by omega) (by omega)).mono ?_
    rintro e w4 ⟨A1, k1, A2, k2, rfl, V1, hb1⟩
    have HL1 := Lib.hid (HL3.out.next hb1)
    clear HL3
    have hz1 := hb1.size
    go_wp2_with fail
    refine wp_world _ (KX w x t w4.heap.size A1 k1 A2 k2) ⟨HL1.out.next (by (repeat' (first | (with_reducible exact Below.refl _ _) | (with_reducible assumption) | (with_reducible refine Below.alloc ?_ ?_ _) | (with_reducible refine Below.drew ?_) | (with_reducible refine below_drewN ?_ _) | (with_reducible refine Below.setCell ?_ ?_ _) | (with_reducible refine bvia ?_ (by with_reducible assumption) ?_) | go_size))), by omega, by simp, by simp [go_sem], by simp [go_sem], V1.rdK.below (by (repeat' (first | (with_reducible exact Below.refl _ _) | (with_reducible assumption) | (with_reducible refine Below.alloc ?_ ?_ _) | (with_reducible refine Below.drew ?_) | (with_reducible refine below_drewN ?_ _) | (with_reducible refine Below.setCell ?_ ?_ _) | (with_reducible refine bvia ?_ (by with_reducible assumption) ?_) | go_size))), V1.rdT.below (by (repeat' (first | (with_reducible exact Below.refl _ _) | (with_reducible assumption) | (with_reducible refine Below.alloc ?_ ?_ _) | (with_reducible refine Below.drew ?_) | (with_reducible refine below_drewN ?_ _) | (with_reducible refine Below.setCell ?_ ?_ _) | (with_reducible refine bvia ?_ (by with_reducible assumption) ?_) | go_size)))⟩ ?_
    obtain ⟨g, hg⟩ : ∃ g, w4.heap.size = g := ⟨_, rfl⟩
    rw [hg]
    clear V1 HL1 hz1 hb1 hg hB3 hz3 hz3b k0_3 k1_3
    clear w4
    intro W hX
    have hB : Below w.heap.size w W := hX.kt.b
    have hz : w.heap.size + 2 ≤ W.heap.size := hX.kt.z
    have k0_W := hX.kt.k0
    have k1_W := hX.kt.k1
    have t0_W := hX.kt.t0
    have t1_W := hX.kt.t1
    have t2_W := hX.kt.t2
    have t3_W := hX.kt.t3
    have t4_W := hX.kt.t4
    have g0_W := hX.g0
    have g1_W := hX.g1
    have lg := hX.lt
    have hgg := hX.hg
    have rK := hX.rK
    have rT := hX.rT
    have HX := Lib.hid hX
    clear hX
    go_region_held3 (fun w' => w'.cell? ⟨w.heap.size, 0, none⟩ = some (.slice x.aKeys x.fKeys.length x.cKeys) ∧ w'.cell? ⟨w.heap.size, 1, none⟩ = some (.slice x.aTags x.fTags.length x.cTags) ∧ w'.cell? ⟨w.heap.size + 1, 0, none⟩ = some (.int .i64 t.fKind) ∧ w'.cell? ⟨w.heap.size + 1, 1, none⟩ = some (.int .i64 t.fOne) ∧ w'.cell? ⟨w.heap.size + 1, 2, none⟩ = some (.int .i64 t.fTwo) ∧ w'.cell? ⟨w.heap.size + 1, 3, none⟩ = some (.int .i64 t.fA) ∧ w'.cell? ⟨w.heap.size + 1, 4, none⟩ = some (.int .i64 t.fB) ∧ w'.cell? ⟨g, 0, none⟩ = some (.slice A1 x.fKeys.length k1) ∧ w'.cell? ⟨g, 1, none⟩ = some (.slice A2 x.fTags.length k2)) (first | (refine ⟨?_, ?_, ?_, ?_, ?_, ?_, ?_, ?_, ?_⟩ <;> assumption) | go_keep)
      (first
        | (go_at_call 17; refine (toTag_any t _).mono ?_; rintro e w1 ⟨rfl, hb1⟩; have hz1 := hb1.size; (try simp at hz1); have hq1 : Below W.heap.size W w1 := (by (repeat' (first | (with_reducible exact Below.refl _ _) | (with_reducible assumption) | (with_reducible refine Below.alloc ?_ ?_ _) | (with_reducible refine Below.drew ?_) | (with_reducible refine below_drewN ?_ _) | (with_reducible refine Below.setCell ?_ ?_ _) | (with_reducible refine bvia ?_ (by with_reducible assumption) ?_) | go_size))); have k0_w1 : w1.cell? ⟨w.heap.size, 0, none⟩ = some (.slice x.aKeys x.fKeys.length x.cKeys) := (hq1.cell (by show w.heap.size < _; go_size)).trans k0_W; have k1_w1 : w1.cell? ⟨w.heap.size, 1, none⟩ = some (.slice x.aTags x.fTags.length x.cTags) := (hq1.cell (by show w.heap.size < _; go_size)).trans k1_W; have t0_w1 : w1.cell? ⟨w.heap.size + 1, 0, none⟩ = some (.int .i64 t.fKind) := (hq1.cell (by show w.heap.size + 1 < _; go_size)).trans t0_W; have t1_w1 : w1.cell? ⟨w.heap.size + 1, 1, none⟩ = some (.int .i64 t.fOne) := (hq1.cell (by show w.heap.size + 1 < _; go_size)).trans t1_W; have t2_w1 : w1.cell? ⟨w.heap.size + 1, 2, none⟩ = some (.int .i64 t.fTwo) := (hq1.cell (by show w.heap.size + 1 < _; go_size)).trans t2_W; have t3_w1 : w1.cell? ⟨w.heap.size + 1, 3, none⟩ = some (.int .i64 t.fA) := (hq1.cell (by show w.heap.size + 1 < _; go_size)).trans t3_W; have t4_w1 : w1.cell? ⟨w.heap.size + 1, 4, none⟩ = some (.int .i64 t.fB) := (hq1.cell (by show w.heap.size + 1 < _; go_size)).trans t4_W; have g0_w1 : w1.cell? ⟨g, 0, none⟩ = some (.slice A1 x.fKeys.length k1) := (hq1.cell (by show g < _; go_size)).trans g0_W; have g1_w1 : w1.cell? ⟨g, 1, none⟩ = some (.slice A2 x.fTags.length k2) := (hq1.cell (by show g < _; go_size)).trans g1_W)
        | (go_at_call 25; refine (iCanMake _ _ _ _ x.fKeys x.fTags t _ (by exact rK.later (by (repeat' (first | (with_reducible exact Below.refl _ _) | (with_reducible assumption) | (with_reducible refine Below.alloc ?_ ?_ _) | (with_reducible refine Below.drew ?_) | (with_reducible refine below_drewN ?_ _) | (with_reducible refine Below.setCell ?_ ?_ _) | (with_reducible refine bvia ?_ (by with_reducible assumption) ?_) | go_size))) (Nat.le_refl _) (by omega)) (by exact rT.later (by (repeat' (first | (with_reducible exact Below.refl _ _) | (with_reducible assumption) | (with_reducible refine Below.alloc ?_ ?_ _) | (with_reducible refine Below.drew ?_) | (with_reducible refine below_drewN ?_ _) | (with_reducible refine Below.setCell ?_ ?_ _) | (with_reducible refine bvia ?_ (by with_reducible assumption) ?_) | go_size))) (Nat.le_refl _) (by omega)) hmK hmT).mono ?_; rintro e w2 ⟨rfl, hb2⟩; have hz2 := hb2.size; (try simp at hz2); have hq2 : Below W.heap.size W w2 := (by (repeat' (first | (with_reducible exact Below.refl _ _) | (with_reducible assumption) | (with_reducible refine Below.alloc ?_ ?_ _) | (with_reducible refine Below.drew ?_) | (with_reducible refine below_drewN ?_ _) | (with_reducible refine Below.setCell ?_ ?_ _) | (with_reducible refine bvia ?_ (by with_reducible assumption) ?_) | go_size))); have k0_w2 : w2.cell? ⟨w.heap.size, 0, none⟩ = some (.slice x.aKeys x.fKeys.length x.cKeys) := (hq2.cell (by show w.heap.size < _; go_size)).trans k0_W; have k1_w2 : w2.cell? ⟨w.heap.size, 1, none⟩ = some (.slice x.aTags x.fTags.length x.cTags) := (hq2.cell (by show w.heap.size < _; go_size)).trans k1_W; have t0_w2 : w2.cell? ⟨w.heap.size + 1, 0, none⟩ = some (.int .i64 t.fKind) := (hq2.cell (by show w.heap.size + 1 < _; go_size)).trans t0_W; have t1_w2 : w2.cell? ⟨w.heap.size + 1, 1, none⟩ = some (.int .i64 t.fOne) := (hq2.cell (by show w.heap.size + 1 < _; go_size)).trans t1_W; have t2_w2 : w2.cell? ⟨w.heap.size + 1, 2, none⟩ = some (.int .i64 t.fTwo) := (hq2.cell (by show w.heap.size + 1 < _; go_size)).trans t2_W; have t3_w2 : w2.cell? ⟨w.heap.size + 1, 3, none⟩ = some (.int .i64 t.fA) := (hq2.cell (by show w.heap.size + 1 < _; go_size)).trans t3_W; have t4_w2 : w2.cell? ⟨w.heap.size + 1, 4, none⟩ = some (.int .i64 t.fB) := (hq2.cell (by show w.heap.size + 1 < _; go_size)).trans t4_W; have g0_w2 : w2.cell? ⟨g, 0, none⟩ = some (.slice A1 x.fKeys.length k1) := (hq2.cell (by show g < _; go_size)).trans g0_W; have g1_w2 : w2.cell? ⟨g, 1, none⟩ = some (.slice A2 x.fTags.length k2) := (hq2.cell (by show g < _; go_size)).trans g1_W)
        | fail)
    have HX2 := Lib.hid (HX.out.next hq2)
    clear HX
    go_wp2_with fail
    refine wp_world _ (KX w x t g A1 k1 A2 k2) (by first | exact HX2.out | exact HX2.out.next (by (repeat' (first | (with_reducible exact Below.refl _ _) | (with_reducible assumption) | (with_reducible refine Below.alloc ?_ ?_ _) | (with_reducible refine Below.drew ?_) | (with_reducible refine below_drewN ?_ _) | (with_reducible refine Below.setCell ?_ ?_ _) | (with_reducible refine bvia ?_ (by with_reducible assumption) ?_) | go_size)))) ?_
    clear k0_W k1_W t0_W t1_W t2_W t3_W t4_W g0_W g1_W k0_w1 k1_w1 t0_w1 t1_w1 t2_w1 t3_w1 t4_w1 g0_w1 g1_w1 k0_w2 k1_w2 t0_w2 t1_w2 t2_w2 t3_w2 t4_w2 g0_w2 g1_w2
    clear hq1 hq2 hb1 hb2 hz1 hz2 HX2 hB hz rK rT lg hgg
    intro W hX
    have hB : Below w.heap.size w W := hX.kt.b
    have hz : w.heap.size + 2 ≤ W.heap.size := hX.kt.z
    have k0_W := hX.kt.k0
    have k1_W := hX.kt.k1
    have t0_W := hX.kt.t0
    have t1_W := hX.kt.t1
    have t2_W := hX.kt.t2
    have t3_W := hX.kt.t3
    have t4_W := hX.kt.t4
    have g0_W := hX.g0
    have g1_W := hX.g1
    have lg := hX.lt
    have hgg := hX.hg
    have rK := hX.rK
    have rT := hX.rT
    have HX := Lib.hid hX
    clear hX
    go_wp2_with fail
    go_region_held3 (fun w' => w'.cell? ⟨w.heap.size, 0, none⟩ = some (.slice x.aKeys x.fKeys.length x.cKeys) ∧ w'.cell? ⟨w.heap.size, 1, none⟩ = some (.slice x.aTags x.fTags.length x.cTags) ∧ w'.cell? ⟨w.heap.size + 1, 0, none⟩ = some (.int .i64 t.fKind) ∧ w'.cell? ⟨w.heap.size + 1, 1, none⟩ = some (.int .i64 t.fOne) ∧ w'.cell? ⟨w.heap.size + 1, 2, none⟩ = some (.int .i64 t.fTwo) ∧ w'.cell? ⟨w.heap.size + 1, 3, none⟩ = some (.int .i64 t.fA) ∧ w'.cell? ⟨w.heap.size + 1, 4, none⟩ = some (.int .i64 t.fB) ∧ w'.cell? ⟨g, 0, none⟩ = some (.slice A1 x.fKeys.length k1) ∧ w'.cell? ⟨g, 1, none⟩ = some (.slice A2 x.fTags.length k2)) (first | (refine ⟨?_, ?_, ?_, ?_, ?_, ?_, ?_, ?_, ?_⟩ <;> assumption) | go_keep)
      (first
        | (go_at_call 16; refine (toKnown_any x.aKeys x.aTags x.cKeys x.cTags x.fKeys x.fTags _ (by exact hK.later (by (repeat' (first | (with_reducible exact Below.refl _ _) | (with_reducible assumption) | (with_reducible refine Below.alloc ?_ ?_ _) | (with_reducible refine Below.drew ?_) | (with_reducible refine below_drewN ?_ _) | (with_reducible refine Below.setCell ?_ ?_ _) | (with_reducible refine bvia ?_ (by with_reducible assumption) ?_) | go_size))) (Nat.le_refl _) (by go_size)) (by exact hT.later (by (repeat' (first | (with_reducible exact Below.refl _ _) | (with_reducible assumption) | (with_reducible refine Below.alloc ?_ ?_ _) | (with_reducible refine Below.drew ?_) | (with_reducible refine below_drewN ?_ _) | (with_reducible refine Below.setCell ?_ ?_ _) | (with_reducible refine bvia ?_ (by with_reducible assumption) ?_) | go_size))) (Nat.le_refl _) (by go_size)) (by omega) (by omega)).mono ?_; rintro e w1 ⟨B1, j1, B2, j2, rfl, V1, hb1⟩; have hz1 := hb1.size; (try simp at hz1); have hq1 : Below W.heap.size W w1 := (by (repeat' (first | (with_reducible exact Below.refl _ _) | (with_reducible assumption) | (with_reducible refine Below.alloc ?_ ?_ _) | (with_reducible refine Below.drew ?_) | (with_reducible refine below_drewN ?_ _) | (with_reducible refine Below.setCell ?_ ?_ _) | (with_reducible refine bvia ?_ (by with_reducible assumption) ?_) | go_size))); have k0_w1 : w1.cell? ⟨w.heap.size, 0, none⟩ = some (.slice x.aKeys x.fKeys.length x.cKeys) := (hq1.cell (by show w.heap.size < _; go_size)).trans k0_W; have k1_w1 : w1.cell? ⟨w.heap.size, 1, none⟩ = some (.slice x.aTags x.fTags.length x.cTags) := (hq1.cell (by show w.heap.size < _; go_size)).trans k1_W; have t0_w1 : w1.cell? ⟨w.heap.size + 1, 0, none⟩ = some (.int .i64 t.fKind) := (hq1.cell (by show w.heap.size + 1 < _; go_size)).trans t0_W; have t1_w1 : w1.cell? ⟨w.heap.size + 1, 1, none⟩ = some (.int .i64 t.fOne) := (hq1.cell (by show w.heap.size + 1 < _; go_size)).trans t1_W; have t2_w1 : w1.cell? ⟨w.heap.size + 1, 2, none⟩ = some (.int .i64 t.fTwo) := (hq1.cell (by show w.heap.size + 1 < _; go_size)).trans t2_W; have t3_w1 : w1.cell? ⟨w.heap.size + 1, 3, none⟩ = some (.int .i64 t.fA) := (hq1.cell (by show w.heap.size + 1 < _; go_size)).trans t3_W; have t4_w1 : w1.cell? ⟨w.heap.size + 1, 4, none⟩ = some (.int .i64 t.fB) := (hq1.cell (by show w.heap.size + 1 < _; go_size)).trans t4_W; have g0_w1 : w1.cell? ⟨g, 0, none⟩ = some (.slice A1 x.fKeys.length k1) := (hq1.cell (by show g < _; go_size)).trans g0_W; have g1_w1 : w1.cell? ⟨g, 1, none⟩ = some (.slice A2 x.fTags.length k2) := (hq1.cell (by show g < _; go_size)).trans g1_W)
        | (go_at_call 19; refine (eqKnown_same _ _ _ _ _ _ _ _ x.fKeys x.fTags _ (by exact rK.later (by (repeat' (first | (with_reducible exact Below.refl _ _) | (with_reducible assumption) | (with_reducible refine Below.alloc ?_ ?_ _) | (with_reducible refine Below.drew ?_) | (with_reducible refine below_drewN ?_ _) | (with_reducible refine Below.setCell ?_ ?_ _) | (with_reducible refine bvia ?_ (by with_reducible assumption) ?_) | go_size))) (Nat.le_refl _) (by omega)) (by exact rT.later (by (repeat' (first | (with_reducible exact Below.refl _ _) | (with_reducible assumption) | (with_reducible refine Below.alloc ?_ ?_ _) | (with_reducible refine Below.drew ?_) | (with_reducible refine below_drewN ?_ _) | (with_reducible refine Below.setCell ?_ ?_ _) | (with_reducible refine bvia ?_ (by with_reducible assumption) ?_) | go_size))) (Nat.le_refl _) (by omega)) (by exact V1.rdK) (by exact V1.rdT) hmK hmT).mono ?_; rintro e w2 ⟨rfl, hb2⟩; have hz2 := hb2.size; (try simp at hz2); have hq2 : Below W.heap.size W w2 := (by (repeat' (first | (with_reducible exact Below.refl _ _) | (with_reducible assumption) | (with_reducible refine Below.alloc ?_ ?_ _) | (with_reducible refine Below.drew ?_) | (with_reducible refine below_drewN ?_ _) | (with_reducible refine Below.setCell ?_ ?_ _) | (with_reducible refine bvia ?_ (by with_reducible assumption) ?_) | go_size))); have k0_w2 : w2.cell? ⟨w.heap.size, 0, none⟩ = some (.slice x.aKeys x.fKeys.length x.cKeys) := (hq2.cell (by show w.heap.size < _; go_size)).trans k0_W; have k1_w2 : w2.cell? ⟨w.heap.size, 1, none⟩ = some (.slice x.aTags x.fTags.length x.cTags) := (hq2.cell (by show w.heap.size < _; go_size)).trans k1_W; have t0_w2 : w2.cell? ⟨w.heap.size + 1, 0, none⟩ = some (.int .i64 t.fKind) := (hq2.cell (by show w.heap.size + 1 < _; go_size)).trans t0_W; have t1_w2 : w2.cell? ⟨w.heap.size + 1, 1, none⟩ = some (.int .i64 t.fOne) := (hq2.cell (by show w.heap.size + 1 < _; go_size)).trans t1_W; have t2_w2 : w2.cell? ⟨w.heap.size + 1, 2, none⟩ = some (.int .i64 t.fTwo) := (hq2.cell (by show w.heap.size + 1 < _; go_size)).trans t2_W; have t3_w2 : w2.cell? ⟨w.heap.size + 1, 3, none⟩ = some (.int .i64 t.fA) := (hq2.cell (by show w.heap.size + 1 < _; go_size)).trans t3_W; have t4_w2 : w2.cell? ⟨w.heap.size + 1, 4, none⟩ = some (.int .i64 t.fB) := (hq2.cell (by show w.heap.size + 1 < _; go_size)).trans t4_W; have g0_w2 : w2.cell? ⟨g, 0, none⟩ = some (.slice A1 x.fKeys.length k1) := (hq2.cell (by show g < _; go_size)).trans g0_W; have g1_w2 : w2.cell? ⟨g, 1, none⟩ = some (.slice A2 x.fTags.length k2) := (hq2.cell (by show g < _; go_size)).trans g1_W)
        | fail)
    go_wp2
    go_ret
    exact ⟨rfl, hB.trans (hq2.mono (by omega))⟩
  · have hv : Hid (szKn 1048576 x.fKeys.length x.fTags.length = -1) := if_neg h
    go_enter Try.func7, Try.ntmps7
    go_wp2_with fail
    refine (szKnown_any x.aKeys x.aTags _ _ _ _ 1048576 _ (by omega) (by omega) hmK hmT).mono ?_
    rintro e w1 ⟨rfl, hb1⟩
    obtain ⟨hc, hf⟩ := bcell hb1
    have hc1_0 := fun o => hc (w.heap.size) o (by go_size)
    have hf1_0 := fun o => hf (w.heap.size) o (by go_size)
    have hz1_0 : w.heap.size < w1.heap.size := Nat.lt_of_lt_of_le (by go_size) hb1.size
    have hc1_1 := fun o => hc (w.heap.size + 1) o (by go_size)
    have hf1_1 := fun o => hf (w.heap.size + 1) o (by go_size)
    have hz1_1 : w.heap.size + 1 < w1.heap.size := Nat.lt_of_lt_of_le (by go_size) hb1.size
    clear hc hf
    have hz1 := hb1.size
    try simp at hz1
    rw [hv.out]
    go_wp2
    go_ret
    exact ⟨rfl, by (repeat' (first | (with_reducible exact Below.refl _ _) | (with_reducible assumption) | (with_reducible refine Below.alloc ?_ ?_ _) | (with_reducible refine Below.drew ?_) | (with_reducible refine below_drewN ?_ _) | (with_reducible refine Below.setCell ?_ ?_ _) | (with_reducible refine bvia ?_ (by with_reducible assumption) ?_) | go_size))⟩
end Go.Proofs.Ytomjfhcfellikaa
