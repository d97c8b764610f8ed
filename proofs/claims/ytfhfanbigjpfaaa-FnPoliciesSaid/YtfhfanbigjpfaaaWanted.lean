/- WantedOf (program and reference): for every argument. -/
import Derived.Test.YtfhfanbigjpfaaaWanted0
import Derived.Deep.RegionHeld3
import Derived.Deep.DrawnRows
namespace Go.Proofs.Ytfhfanbigjpfaaa
set_option linter.unusedSimpArgs false
set_option linter.unusedVariables false
open Go.RowKit
attribute [local go_sem ↓] Go.wp_at_zero Go.wp_at_succ
set_option maxRecDepth 100000 in
set_option maxHeartbeats 4000000 in
theorem iWantedOf (x : PolicyD) (A : Option Addr) (cap : Nat) (O : List AddrD) (A2 : Option Addr) (cap2 : Nat) (F : List AddrD) (w : World) (hr : Rd AddrD.cells 4 w 0 w.heap.size A O) (hr2 : Rd AddrD.cells 4 w 0 w.heap.size A2 F) (hm : O.length ≤ maxLen) (hm2 : F.length ≤ maxLen) :
    Calls Try.prog 25 #[x.val, .slice A O.length cap, .slice A2 F.length cap2] w (RetSl w 30 RoadD.cells 3 (wanted x O F) fun v => v) := by
  unfold maxLen at hm hm2
  have hW : Below w.heap.size w (w.alloc (.cells #[.int .i64 x.fKind, .int .i64 x.fMany] 25)) := by go_grown
  by_cases q0 : polOk x.fKind x.fMany = true
  · by_cases q1 : winB O.length 1 6 = true
    · by_cases q2 : winB F.length 1 6 = true
      · have hok : wantOk x O F = true := by unfold wantOk; rw [q0, q1, q2]; rfl
        have l1 : 1 ≤ O.length ∧ O.length ≤ 6 := by simp [winB] at q1; omega
        have l2 : 1 ≤ F.length ∧ F.length ≤ 6 := by simp [winB] at q2; omega
        obtain ⟨g, o, rfl, _, hg, hcell⟩ := hr.at_ (by omega)
        obtain ⟨g2, o2, rfl, _, hg2, hcell2⟩ := hr2.at_ (by omega)
        have HC := Lib.hid hcell
        have HC2 := Lib.hid hcell2
        clear hcell hcell2
        by_cases q3 : (x.fKind == 1) = true
        · have hv := Lib.hid (want_mesh hok q3)
          clear hok
          go_enter Try.func25, Try.ntmps25
          go_wp2_with fail
          refine (iPolicyOk x _).mono ?_
          rintro e w1 ⟨rfl, hb1⟩
          have hz1 := hb1.size
          simp at hz1
          have hB1 : Below w.heap.size w w1 := hW.trans (hb1.mono hW.size)
          have r0 : w1.cell? ⟨w.heap.size, 0, none⟩ = some (.int .i64 x.fKind) := by rw [hb1.cell (by simp)]; simp
          go_wp2_with (go_at_call 32; refine (within_any _ _ _ _).mono ?_; rintro e w' ⟨rfl, rfl⟩)
          go_loopw [7, 33] (fun v i wr => ∃ k : Nat, k ≤ O.length ∧ i = .int .i64 k ∧ Own wr w.heap.size 30 RoadD.cells 3 v (meshTo O F k) ∧ Below w.heap.size w wr) (fun _ i _ => O.length - (intOf i).toNat)
          case atStart => exact ⟨0, Nat.zero_le _, rfl, Own.nil _ _ _, by (repeat' (first | (with_reducible exact Below.refl _ _) | (with_reducible assumption) | (with_reducible refine Below.alloc ?_ ?_ _) | (with_reducible refine Below.drew ?_) | (with_reducible refine below_drewN ?_ _) | (with_reducible refine Below.setCell ?_ ?_ _) | (with_reducible refine bvia ?_ (by with_reducible assumption) ?_) | go_size))⟩
          case round =>
            obtain ⟨k, hk, rfl, hO, hB⟩ := hrel
            obtain ⟨wo, rfl⟩ : ∃ wo : World, wo = wr := ⟨_, rfl⟩
            have hBz := hB.size
            by_cases hlt : k < O.length
            · have HX : Hid (∀ j v, (O[k].cells)[j]? = some v → wo.cell? ⟨g, o + k * 4 + j, none⟩ = some v) := fun j v hv => by
                have hj : j < 4 := (List.getElem?_eq_some_iff.1 hv).1
                rw [hB.cell (p := ⟨g, o + k * 4 + j, none⟩) hg, HC.out k hlt j hj, hv]
              have hki : (k : Int) < (O.length : Int) := by omega
              have hml := meshTo_le O F k hk
              have hst := Lib.hid (meshTo_succ (F := F) hlt)
              obtain ⟨M0, hM0⟩ : ∃ M0, M0 = meshTo O F k := ⟨_, rfl⟩
              rw [← hM0] at hO hml hst
              clear hM0
              have HO := Lib.hid hO
              clear hO
              go_wp2_with (refine wpList_load_part rfl 56 (.tmp 35) rfl g _ rfl O[k].row _ HX.out Try.underlying56 rfl (by kernel_rfl) ?_)
              refine wp_world _ (fun W => Below wo.heap.size wo W ∧ W.cell? ⟨wo.heap.size, 1, none⟩ = some (.int .i64 O[k].fAddr) ∧ wo.heap.size < W.heap.size) ⟨?_, ?_, ?_⟩ ?_
              · (repeat' (first | (with_reducible exact Below.refl _ _) | (with_reducible assumption) | (with_reducible refine Below.alloc ?_ ?_ _) | (with_reducible refine Below.drew ?_) | (with_reducible refine below_drewN ?_ _) | (with_reducible refine Below.setCell ?_ ?_ _) | (with_reducible refine bvia ?_ (by with_reducible assumption) ?_) | go_size))
              · simp
              · simp
              · rintro W ⟨hWB, hWc, hWz⟩
                go_loopw [7, 39] (fun v i wr => ∃ j : Nat, j ≤ F.length ∧ i = .int .i64 j ∧ Own wr w.heap.size 30 RoadD.cells 3 v (rowTo F O[k] M0 j) ∧ Below w.heap.size w wr ∧ wr.cell? ⟨wo.heap.size, 1, none⟩ = some (.int .i64 O[k].fAddr) ∧ wo.heap.size < wr.heap.size ∧ (∀ q, v.ownBlock = some q → q ≠ wo.heap.size)) (fun _ i _ => F.length - (intOf i).toNat)
                case atStart => exact ⟨0, Nat.zero_le _, rfl, HO.out.later hWB (Nat.le_refl _), hB.trans (hWB.mono hBz), hWc, hWz, fun q hq => by have := (HO.out.lt hq).2; omega⟩
                case round =>
                  obtain ⟨j, hj, rfl, hO2, hB2, hc2, hz2, hne2⟩ := hrel
                  have hBz2 := hB2.size
                  have hrl := rowTo_le (F := F) (a := O[k]) j hml
                  by_cases hjl : j < F.length
                  · have HY : Hid (∀ q v, (F[j].cells)[q]? = some v → wr.cell? ⟨g2, o2 + j * 4 + q, none⟩ = some v) := fun q v hv => by
                      have hq : q < 4 := (List.getElem?_eq_some_iff.1 hv).1
                      rw [hB2.cell (p := ⟨g2, o2 + j * 4 + q, none⟩) hg2, HC2.out j hjl q hq, hv]
                    have hji : (j : Int) < (F.length : Int) := by omega
                    have hs2 := Lib.hid (rowTo_succ (a := O[k]) (o := M0) hjl)
                    obtain ⟨M, hM⟩ : ∃ M, M = rowTo F O[k] M0 j := ⟨_, rfl⟩
                    rw [← hM] at hO2 hrl hs2
                    clear hM
                    have HNE := Lib.hid hne2
                    clear hne2
                    have HO2 := Lib.hid hO2
                    rcases hO2.form with ⟨rfl, hnil⟩ | ⟨g1, c1, cur, rfl, _, _, hc1, _, _, _⟩
                    all_goals
                      clear hO2
                      by_cases h8 : M.length < 8
                    · subst hnil
                      have hs3 : Hid (rowTo F O[k] M0 (j + 1) = [] ++ [mkR O[k] F[j] 0]) := by show _ = _; rw [hs2.out, stepW_yes h8]
                      go_wp2_with (first
                        | (refine wpList_load_part rfl 56 (.tmp 41) rfl g2 _ rfl F[j].row _ HY.out Try.underlying56 rfl (by kernel_rfl) ?_)
                        | (at_builtin; refine wpList_append_rd _ rfl (.tmp 46) (.tmp 52) rfl slRoad RoadD.cells_length RoadD.one w.heap.size _ [] [mkR O[k] F[j] 0] rfl ((HO2.out.alloc _).alloc _) (some ⟨wr.heap.size + 1, 0, none⟩) 1 1 0 (wr.heap.size + 2) rfl rfl (rd_one _ _ _ _ RoadD.cells_length rfl _ (by simp) _ (by omega)) (by first | (simp; done) | (simp; omega)) (by simp; omega) ?_; intro v3 w3 O3 G3 A3))
                      have hB3 : Below w.heap.size w w3 := Own.below2 G3 ((HO2.out.alloc _).alloc _) (by (repeat' (first | (with_reducible exact Below.refl _ _) | (with_reducible assumption) | (with_reducible refine Below.alloc ?_ ?_ _) | (with_reducible refine Below.drew ?_) | (with_reducible refine below_drewN ?_ _) | (with_reducible refine Below.setCell ?_ ?_ _) | (with_reducible refine bvia ?_ (by with_reducible assumption) ?_) | go_size))) (Nat.le_refl _) (by simp; omega)
                      have hc3 : w3.cell? ⟨wo.heap.size, 1, none⟩ = some (.int .i64 O[k].fAddr) := by
                        rw [G3.cell_far _ (by show wo.heap.size < _; simp; omega) (by intro hq; exact HNE.out _ hq.symm rfl), World.cell?_alloc_lt _ _ _ (by show wo.heap.size < _; simp; omega), World.cell?_alloc_lt _ _ _ hz2]; exact hc2
                      have hz3 := G3.size
                      simp at hz3
                      have hne3 : ∀ q, v3.ownBlock = some q → q ≠ wo.heap.size := fun q hq => by
                        rcases A3 with h | h
                        · rw [h] at hq; exact HNE.out q hq
                        · rw [h] at hq
                          have := Option.some.inj hq
                          simp at this
                          omega
                      clear G3 A3
                      go_roundw
                      case rel => exact ⟨j + 1, by omega, by go_num, by rw [hs3.out]; exact O3, hB3, hc3, by omega, hne3⟩
                      case measure => simp [intOf]; omega
                    · subst hnil; simp at h8
                    · have d8 : decide ((M.length : Int) < 8) = true := by simp; omega
                      have hs3 : Hid (rowTo F O[k] M0 (j + 1) = M ++ [mkR O[k] F[j] 0]) := by show _ = _; rw [hs2.out, stepW_yes h8]
                      go_wp2_with (first
                        | (refine wpList_load_part rfl 56 (.tmp 41) rfl g2 _ rfl F[j].row _ HY.out Try.underlying56 rfl (by kernel_rfl) ?_)
                        | (at_builtin; refine wpList_append_rd _ rfl (.tmp 46) (.tmp 52) rfl slRoad RoadD.cells_length RoadD.one w.heap.size _ M [mkR O[k] F[j] 0] rfl ((HO2.out.alloc _).alloc _) (some ⟨wr.heap.size + 1, 0, none⟩) 1 1 0 (wr.heap.size + 2) rfl rfl (rd_one _ _ _ _ RoadD.cells_length rfl _ (by simp) _ (by omega)) (by first | (simp; done) | (simp; omega)) (by simp; omega) ?_; intro v3 w3 O3 G3 A3))
                      have hB3 : Below w.heap.size w w3 := Own.below2 G3 ((HO2.out.alloc _).alloc _) (by (repeat' (first | (with_reducible exact Below.refl _ _) | (with_reducible assumption) | (with_reducible refine Below.alloc ?_ ?_ _) | (with_reducible refine Below.drew ?_) | (with_reducible refine below_drewN ?_ _) | (with_reducible refine Below.setCell ?_ ?_ _) | (with_reducible refine bvia ?_ (by with_reducible assumption) ?_) | go_size))) (Nat.le_refl _) (by simp; omega)
                      have hc3 : w3.cell? ⟨wo.heap.size, 1, none⟩ = some (.int .i64 O[k].fAddr) := by
                        rw [G3.cell_far _ (by show wo.heap.size < _; simp; omega) (by intro hq; exact HNE.out _ hq.symm rfl), World.cell?_alloc_lt _ _ _ (by show wo.heap.size < _; simp; omega), World.cell?_alloc_lt _ _ _ hz2]; exact hc2
                      have hz3 := G3.size
                      simp at hz3
                      have hne3 : ∀ q, v3.ownBlock = some q → q ≠ wo.heap.size := fun q hq => by
                        rcases A3 with h | h
                        · rw [h] at hq; exact HNE.out q hq
                        · rw [h] at hq
                          have := Option.some.inj hq
                          simp at this
                          omega
                      clear G3 A3
                      go_roundw
                      case rel => exact ⟨j + 1, by omega, by go_num, by rw [hs3.out]; exact O3, hB3, hc3, by omega, hne3⟩
                      case measure => simp [intOf]; omega
                    · have d8 : decide ((M.length : Int) < 8) = false := by simp; omega
                      have hs3 : Hid (rowTo F O[k] M0 (j + 1) = M) := by show _ = _; rw [hs2.out, stepW_no h8]
                      go_wp2_with (refine wpList_load_part rfl 56 (.tmp 41) rfl g2 _ rfl F[j].row _ HY.out Try.underlying56 rfl (by kernel_rfl) ?_)
                      go_roundw
                      case rel => exact ⟨j + 1, by omega, by go_num, by rw [hs3.out]; exact HO2.out.alloc _, by (repeat' (first | (with_reducible exact Below.refl _ _) | (with_reducible assumption) | (with_reducible refine Below.alloc ?_ ?_ _) | (with_reducible refine Below.drew ?_) | (with_reducible refine below_drewN ?_ _) | (with_reducible refine Below.setCell ?_ ?_ _) | (with_reducible refine bvia ?_ (by with_reducible assumption) ?_) | go_size)), by rw [World.cell?_alloc_lt _ _ _ (by exact hz2)]; exact hc2, by simp; omega, HNE.out⟩
                      case measure => simp [intOf]; omega
                  · obtain rfl : j = F.length := by omega
                    rw [← hst.out] at hO2
                    go_wp2
                    go_roundw
                    case rel => exact ⟨k + 1, by omega, by go_num, hO2, hB2⟩
                    case measure => simp [intOf]; omega
            · obtain rfl : k = O.length := by omega
              rw [← hv.out] at hO
              go_wp2
              go_ret
              exact ⟨_, rfl, hO, hB⟩
        · have q3 : (x.fKind == 1) = false := by simpa using q3
          have hv := Lib.hid (want_many hok q3)
          rw [nthW_at (show 0 < O.length by omega), nthW_at (show 0 < F.length by omega)] at hv
          have hpm : 1 ≤ manyN x ∧ manyN x ≤ 8 ∧ (if 1 < x.fMany then x.fMany else 1) = ((manyN x : Nat) : Int) := by
            rcases pol_many q0 q3 with ⟨h1, h2, h3, _, h4⟩ | ⟨h1, h2, _⟩
            · exact ⟨h1, h2, by split <;> omega⟩
            · rw [h1, h2]; exact ⟨by omega, by omega, rfl⟩
          obtain ⟨N, hN⟩ : ∃ N, N = manyN x := ⟨_, rfl⟩
          rw [← hN] at hpm hv
          clear hN hok
          obtain ⟨n1, n2, hmax⟩ := hpm
          have z1 : 0 < O.length := by omega
          have z2 : 0 < F.length := by omega
          have z3 : (0 : Int) < (O.length : Int) := by omega
          have z4 : (0 : Int) < (F.length : Int) := by omega
          go_enter Try.func25, Try.ntmps25
          go_wp2_with fail
          refine (iPolicyOk x _).mono ?_
          rintro e w1 ⟨rfl, hb1⟩
          have hz1 := hb1.size
          simp at hz1
          have hB1 : Below w.heap.size w w1 := hW.trans (hb1.mono hW.size)
          have r0 : w1.cell? ⟨w.heap.size, 0, none⟩ = some (.int .i64 x.fKind) := by rw [hb1.cell (by simp)]; simp
          have r1 : w1.cell? ⟨w.heap.size, 1, none⟩ = some (.int .i64 x.fMany) := by rw [hb1.cell (by simp)]; simp
          go_wp2_with (go_at_call 32; refine (within_any _ _ _ _).mono ?_; rintro e w' ⟨rfl, rfl⟩)
          go_loopw [7, 12] (fun v i wr => ∃ k : Nat, k ≤ N ∧ i = .int .i64 k ∧ Own wr w.heap.size 30 RoadD.cells 3 v (manyTo O[0] F[0] k) ∧ Below w.heap.size w wr ∧ wr.cell? ⟨w.heap.size, 1, none⟩ = some (.int .i64 x.fMany) ∧ w.heap.size < wr.heap.size ∧ (∀ q, v.ownBlock = some q → q ≠ w.heap.size)) (fun _ i _ => N - (intOf i).toNat)
          case atStart => exact ⟨0, Nat.zero_le _, rfl, Own.nil _ _ _, hB1, r1, by omega, fun q hq => by cases hq⟩
          case round =>
            obtain ⟨k, hk, rfl, hO, hB, hc1, hz2, hne⟩ := hrel
            have hBz := hB.size
            have HO := Lib.hid hO
            have HNE := Lib.hid hne
            clear hO hne
            by_cases hlt : k < N
            · have hst := Lib.hid (manyTo_succ O[0] F[0] k)
              have hle := manyTo_len O[0] F[0] k
              have HLE := Lib.hid hle
              clear hle
              have a1 : wr.cell? ⟨g, o + 1, none⟩ = some (.int .i64 O[0].fAddr) := by
                have := HC.out 0 z1 1 (by decide)
                rw [Nat.zero_mul, Nat.add_zero] at this
                rw [hB.cell (p := ⟨g, o + 1, none⟩) hg]
                exact this
              have a2 : wr.cell? ⟨g2, o2 + 1, none⟩ = some (.int .i64 F[0].fAddr) := by
                have := HC2.out 0 z2 1 (by decide)
                rw [Nat.zero_mul, Nat.add_zero] at this
                rw [hB.cell (p := ⟨g2, o2 + 1, none⟩) hg2]
                exact this
              have hkN : (k : Int) < (N : Int) := by omega
              go_wp2
              go_region_held3 (fun w' => w'.cell? ⟨g, o + 1, none⟩ = some (.int .i64 O[0].fAddr) ∧ w'.cell? ⟨g2, o2 + 1, none⟩ = some (.int .i64 F[0].fAddr)) (first | (refine ⟨?_, ?_⟩ <;> assumption) | go_keep)
                (first
                  | ((refine step_append_rd _ (by rfl) (.tmp 64) (.tmp 75) (by rfl) slRoad RoadD.cells_length RoadD.one w.heap.size _ (manyTo O[0] F[0] k) [mkR O[0] F[0] (k : Int)] (by rfl) (HO.out.alloc _) (some ⟨wr.heap.size, 0, none⟩) 1 1 0 (wr.heap.size + 1) (by rfl) (by rfl) (by exact rd_one _ _ _ _ RoadD.cells_length rfl _ rfl _ (by omega)) (by rw [HLE.out]; simp; omega) (by simp; omega) ?_; intro v3 w3 O3 G3 A3; have hB3 : Below w.heap.size w w3 := Own.below2 G3 (HO.out.alloc _) (by (repeat' (first | (with_reducible exact Below.refl _ _) | (with_reducible assumption) | (with_reducible refine Below.alloc ?_ ?_ _) | (with_reducible refine Below.drew ?_) | (with_reducible refine below_drewN ?_ _) | (with_reducible refine Below.setCell ?_ ?_ _) | (with_reducible refine bvia ?_ (by with_reducible assumption) ?_) | go_size))) (Nat.le_refl _) (by simp; omega); have b1 : w3.cell? ⟨g, o + 1, none⟩ = some (.int .i64 O[0].fAddr) := (by rw [hB3.cell (p := ⟨g, o + 1, none⟩) hg, ← hB.cell (p := ⟨g, o + 1, none⟩) hg]; exact a1); have b2 : w3.cell? ⟨g2, o2 + 1, none⟩ = some (.int .i64 F[0].fAddr) := (by rw [hB3.cell (p := ⟨g2, o2 + 1, none⟩) hg2, ← hB.cell (p := ⟨g2, o2 + 1, none⟩) hg2]; exact a2)))
                  | fail)
              have hc3 : w3.cell? ⟨w.heap.size, 1, none⟩ = some (.int .i64 x.fMany) := by
                rw [G3.cell_far _ (by show w.heap.size < _; simp; omega) (by intro hq; exact HNE.out _ hq.symm rfl)]
                first | (rw [World.cell?_alloc_lt _ _ _ (by exact hz2)]; exact hc1) | (show (World.alloc _ _).cell? _ = _; rw [World.cell?_alloc_lt _ _ _ (by exact hz2)]; exact hc1)
              have hz3 := G3.size
              simp at hz3
              have hne3 : ∀ q, v3.ownBlock = some q → q ≠ w.heap.size := fun q hq => by
                rcases A3 with h | h
                · rw [h] at hq; exact HNE.out q hq
                · rw [h] at hq
                  have := Option.some.inj hq
                  simp at this
                  omega
              clear G3 A3
              go_wp2
              go_roundw
              case rel => exact ⟨k + 1, by omega, by go_num, by rw [hst.out]; exact O3, hB3, hc3, by omega, hne3⟩
              case measure => simp [intOf]; omega
            · obtain rfl : k = N := by omega
              have hV := HO.out
              rw [← hv.out] at hV
              go_wp2
              go_ret
              exact ⟨_, rfl, hV, hB⟩
      · have q2 : winB F.length 1 6 = false := by simpa using q2
        have hv := Lib.hid (want_no (show wantOk x O F = false by unfold wantOk; rw [q2, Bool.and_false, Bool.and_false]))
        go_enter Try.func25, Try.ntmps25
        go_wp2_with fail
        refine (iPolicyOk x _).mono ?_
        rintro e w1 ⟨rfl, hb1⟩
        go_wp2_with (go_at_call 32; refine (within_any _ _ _ _).mono ?_; rintro e w' ⟨rfl, rfl⟩)
        go_ret
        exact ⟨_, rfl, by rw [hv.out]; exact Own.nil _ _ _, hW.trans (hb1.mono hW.size)⟩
    · have q1 : winB O.length 1 6 = false := by simpa using q1
      have hv := Lib.hid (want_no (show wantOk x O F = false by unfold wantOk; rw [q1, Bool.false_and, Bool.and_false]))
      go_enter Try.func25, Try.ntmps25
      go_wp2_with fail
      refine (iPolicyOk x _).mono ?_
      rintro e w1 ⟨rfl, hb1⟩
      go_wp2_with (go_at_call 32; refine (within_any _ _ _ _).mono ?_; rintro e w' ⟨rfl, rfl⟩)
      go_ret
      exact ⟨_, rfl, by rw [hv.out]; exact Own.nil _ _ _, hW.trans (hb1.mono hW.size)⟩
  · have q0 : polOk x.fKind x.fMany = false := by simpa using q0
    have hv := Lib.hid (want_no (show wantOk x O F = false by unfold wantOk; rw [q0, Bool.false_and]))
    go_enter Try.func25, Try.ntmps25
    go_wp2_with fail
    refine (iPolicyOk x _).mono ?_
    rintro e w1 ⟨rfl, hb1⟩
    go_wp2_with (go_at_call 32; refine (within_any _ _ _ _).mono ?_; rintro e w' ⟨rfl, rfl⟩)
    go_ret
    exact ⟨_, rfl, by rw [hv.out]; exact Own.nil _ _ _, hW.trans (hb1.mono hW.size)⟩
set_option maxRecDepth 100000 in
set_option maxHeartbeats 4000000 in
theorem sWantedOf (x : PolicyD) (A : Option Addr) (cap : Nat) (O : List AddrD) (A2 : Option Addr) (cap2 : Nat) (F : List AddrD) (w : World) (hr : Rd AddrD.cells 4 w 0 w.heap.size A O) (hr2 : Rd AddrD.cells 4 w 0 w.heap.size A2 F) (hm : O.length ≤ maxLen) (hm2 : F.length ≤ maxLen) :
    Calls Try.prog 23 #[x.val, .slice A O.length cap, .slice A2 F.length cap2] w (RetSl w 30 RoadD.cells 3 (wanted x O F) fun v => v) := by
  unfold maxLen at hm hm2
  have hW : Below w.heap.size w ((w.alloc (.cells #[.int .i64 x.fKind, .int .i64 x.fMany] 25)).alloc (.cells #[] 30)) := by go_grown
  have HE := Lib.hid (Own.emptyAt (c := RoadD.cells) (sz := 3) (w.alloc (.cells #[.int .i64 x.fKind, .int .i64 x.fMany] 25)) w.heap.size 30 (w.heap.size + 1) (size1 w _) (by omega))
  by_cases q0 : polOk x.fKind x.fMany = true
  · by_cases q1 : winB O.length 1 6 = true
    · by_cases q2 : winB F.length 1 6 = true
      · have hok : wantOk x O F = true := by unfold wantOk; rw [q0, q1, q2]; rfl
        have l1 : 1 ≤ O.length ∧ O.length ≤ 6 := by simp [winB] at q1; omega
        have l2 : 1 ≤ F.length ∧ F.length ≤ 6 := by simp [winB] at q2; omega
        obtain ⟨g, o, rfl, _, hg, hcell⟩ := hr.at_ (by omega)
        obtain ⟨g2, o2, rfl, _, hg2, hcell2⟩ := hr2.at_ (by omega)
        have HC := Lib.hid hcell
        have HC2 := Lib.hid hcell2
        clear hcell hcell2
        by_cases q3 : (x.fKind == 1) = true
        · have hv := Lib.hid (want_mesh hok q3)
          clear hok
          go_enter Try.func23, Try.ntmps23
          go_wp2_with fail
          refine (sPolicyOk x _).mono ?_
          rintro e w1 ⟨rfl, hb1⟩
          have O1 := Lib.hid (HE.out.later hb1 (Nat.le_refl _))
          have hz1 := hb1.size
          simp at hz1
          have hB1 : Below w.heap.size w w1 := hW.trans (hb1.mono hW.size)
          have r0 : w1.cell? ⟨w.heap.size, 0, none⟩ = some (.int .i64 x.fKind) := by rw [hb1.cell (by show w.heap.size < _; first | (simp; done) | (simp; omega)), World.cell?_alloc_lt _ _ _ (by show w.heap.size < _; simp)]; simp
          go_wp2_with (go_at_call 31; refine (l01In_any _ _ _ _).mono ?_; rintro e w' ⟨rfl, rfl⟩)
          go_loopw [7, 8, 9] (fun v i _ wr => ∃ k : Nat, k ≤ O.length ∧ i = .int .i64 k ∧ Own wr w.heap.size 30 RoadD.cells 3 v (meshTo O F k) ∧ Below w.heap.size w wr) (fun _ i _ _ => O.length - (intOf i).toNat)
          case atStart => exact ⟨0, Nat.zero_le _, rfl, O1.out, hB1⟩
          case round =>
            obtain ⟨k, hk, rfl, hO, hB⟩ := hrel
            obtain ⟨wo, rfl⟩ : ∃ wo : World, wo = wr := ⟨_, rfl⟩
            have hBz := hB.size
            by_cases hlt : k < O.length
            · have HX : Hid (∀ j v, (O[k].cells)[j]? = some v → wo.cell? ⟨g, o + k * 4 + j, none⟩ = some v) := fun j v hv => by
                have hj : j < 4 := (List.getElem?_eq_some_iff.1 hv).1
                rw [hB.cell (p := ⟨g, o + k * 4 + j, none⟩) hg, HC.out k hlt j hj, hv]
              have hki : (k : Int) < (O.length : Int) := by omega
              have hml := meshTo_le O F k hk
              have hst := Lib.hid (meshTo_succ (F := F) hlt)
              obtain ⟨M0, hM0⟩ : ∃ M0, M0 = meshTo O F k := ⟨_, rfl⟩
              rw [← hM0] at hO hml hst
              clear hM0
              have HO := Lib.hid hO
              clear hO
              have c1 : ∀ W : World, Below w.heap.size w W → W.cell? ⟨g, o + k * 4 + 1, none⟩ = some (.int .i64 O[k].fAddr) := fun W hb => by rw [hb.cell (p := ⟨g, o + k * 4 + 1, none⟩) hg]; exact HC.out k hlt 1 (by decide)
              have HC1 := Lib.hid c1
              clear c1
              have hk0 : (0 : Int) ≤ (k : Int) := by omega
              go_wp2_with fail
              go_loopw [7, 9] (fun v i wr => ∃ j : Nat, j ≤ F.length ∧ i = .int .i64 j ∧ Own wr w.heap.size 30 RoadD.cells 3 v (rowTo F O[k] M0 j) ∧ Below w.heap.size w wr) (fun _ i _ => F.length - (intOf i).toNat)
              case atStart => exact ⟨0, Nat.zero_le _, rfl, HO.out, hB⟩
              case round =>
                obtain ⟨j, hj, rfl, hO2, hB2⟩ := hrel
                have hBz2 := hB2.size
                have hrl := rowTo_le (F := F) (a := O[k]) j hml
                by_cases hjl : j < F.length
                · have hs2 := Lib.hid (rowTo_succ (a := O[k]) (o := M0) hjl)
                  have hfull := Lib.hid (fun (h8 : ¬ (rowTo F O[k] M0 j).length < 8) => row_full h8)
                  have f1 : wr.cell? ⟨g2, o2 + j * 4 + 1, none⟩ = some (.int .i64 F[j].fAddr) := by rw [hB2.cell (p := ⟨g2, o2 + j * 4 + 1, none⟩) hg2]; exact HC2.out j hjl 1 (by decide)
                  have c1 := HC1.out wr hB2
                  have hji : (j : Int) < (F.length : Int) := by omega
                  have hj0 : (0 : Int) ≤ (j : Int) := by omega
                  have dj : decide (j < F.length) = true := by simp; omega
                  have dj2 : decide ((j : Int) < (F.length : Int)) = true := by simp; omega
                  obtain ⟨M, hM⟩ : ∃ M, M = rowTo F O[k] M0 j := ⟨_, rfl⟩
                  rw [← hM] at hO2 hrl hs2 hfull
                  clear hM
                  have HO2 := Lib.hid hO2
                  rcases hO2.form with ⟨rfl, hnil⟩ | ⟨g1, c1', cur, rfl, _, _, hc1, _, _, _⟩
                  all_goals
                    clear hO2
                    by_cases h8 : M.length < 8
                  · subst hnil
                    have hs3 : Hid (rowTo F O[k] M0 (j + 1) = [] ++ [mkR O[k] F[j] 0]) := by show _ = _; rw [hs2.out, stepW_yes h8]
                    go_wp2
                    go_region_held3 (fun w' => w'.cell? ⟨g, o + k * 4 + 1, none⟩ = some (.int .i64 O[k].fAddr) ∧ w'.cell? ⟨g2, o2 + j * 4 + 1, none⟩ = some (.int .i64 F[j].fAddr)) (first | (refine ⟨?_, ?_⟩ <;> assumption) | go_keep)
                      (first
                        | ((refine step_append_rd _ (by rfl) (.tmp 49) (.tmp 61) (by rfl) slRoad RoadD.cells_length RoadD.one w.heap.size _ [] [mkR O[k] F[j] 0] (by rfl) (HO2.out.alloc _) (some ⟨wr.heap.size, 0, none⟩) 1 1 0 (wr.heap.size + 1) (by rfl) (by rfl) (by exact rd_one _ _ _ _ RoadD.cells_length rfl _ rfl _ (by omega)) (by first | (simp; done) | (simp; omega)) (by simp; omega) ?_; intro v3 w3 O3 G3 A3; have hB3 : Below w.heap.size w w3 := Own.below2 G3 (HO2.out.alloc _) (by (repeat' (first | (with_reducible exact Below.refl _ _) | (with_reducible assumption) | (with_reducible refine Below.alloc ?_ ?_ _) | (with_reducible refine Below.drew ?_) | (with_reducible refine below_drewN ?_ _) | (with_reducible refine Below.setCell ?_ ?_ _) | (with_reducible refine bvia ?_ (by with_reducible assumption) ?_) | go_size))) (Nat.le_refl _) (by simp; omega); have b1 : w3.cell? ⟨g, o + k * 4 + 1, none⟩ = some (.int .i64 O[k].fAddr) := HC1.out w3 hB3; have b2 : w3.cell? ⟨g2, o2 + j * 4 + 1, none⟩ = some (.int .i64 F[j].fAddr) := (by rw [hB3.cell (p := ⟨g2, o2 + j * 4 + 1, none⟩) hg2]; exact HC2.out j hjl 1 (by decide))))
                        | fail)
                    clear G3 A3
                    go_wp2
                    go_roundw
                    case rel => exact ⟨j + 1, by omega, by go_num, by rw [hs3.out]; exact O3, hB3⟩
                    case measure => simp [intOf]; omega
                  · subst hnil; simp at h8
                  · have d8 : decide ((M.length : Int) < 8) = true := by simp; omega
                    have hs3 : Hid (rowTo F O[k] M0 (j + 1) = M ++ [mkR O[k] F[j] 0]) := by show _ = _; rw [hs2.out, stepW_yes h8]
                    go_wp2
                    go_region_held3 (fun w' => w'.cell? ⟨g, o + k * 4 + 1, none⟩ = some (.int .i64 O[k].fAddr) ∧ w'.cell? ⟨g2, o2 + j * 4 + 1, none⟩ = some (.int .i64 F[j].fAddr)) (first | (refine ⟨?_, ?_⟩ <;> assumption) | go_keep)
                      (first
                        | ((refine step_append_rd _ (by rfl) (.tmp 49) (.tmp 61) (by rfl) slRoad RoadD.cells_length RoadD.one w.heap.size _ M [mkR O[k] F[j] 0] (by rfl) (HO2.out.alloc _) (some ⟨wr.heap.size, 0, none⟩) 1 1 0 (wr.heap.size + 1) (by rfl) (by rfl) (by exact rd_one _ _ _ _ RoadD.cells_length rfl _ rfl _ (by omega)) (by first | (simp; done) | (simp; omega)) (by simp; omega) ?_; intro v3 w3 O3 G3 A3; have hB3 : Below w.heap.size w w3 := Own.below2 G3 (HO2.out.alloc _) (by (repeat' (first | (with_reducible exact Below.refl _ _) | (with_reducible assumption) | (with_reducible refine Below.alloc ?_ ?_ _) | (with_reducible refine Below.drew ?_) | (with_reducible refine below_drewN ?_ _) | (with_reducible refine Below.setCell ?_ ?_ _) | (with_reducible refine bvia ?_ (by with_reducible assumption) ?_) | go_size))) (Nat.le_refl _) (by simp; omega); have b1 : w3.cell? ⟨g, o + k * 4 + 1, none⟩ = some (.int .i64 O[k].fAddr) := HC1.out w3 hB3; have b2 : w3.cell? ⟨g2, o2 + j * 4 + 1, none⟩ = some (.int .i64 F[j].fAddr) := (by rw [hB3.cell (p := ⟨g2, o2 + j * 4 + 1, none⟩) hg2]; exact HC2.out j hjl 1 (by decide))))
                        | fail)
                    clear G3 A3
                    go_wp2
                    go_roundw
                    case rel => exact ⟨j + 1, by omega, by go_num, by rw [hs3.out]; exact O3, hB3⟩
                    case measure => simp [intOf]; omega
                  · have d8 : decide ((M.length : Int) < 8) = false := by simp; omega
                    have hs3 : Hid (meshTo O F (k + 1) = M) := by show _ = _; rw [hst.out, hfull.out h8]
                    go_wp2
                    go_roundw
                    case rel => exact ⟨k + 1, by omega, by go_num, by rw [hs3.out]; exact HO2.out, hB2⟩
                    case measure => simp [intOf]; omega
                · obtain rfl : j = F.length := by omega
                  rw [← hst.out] at hO2
                  have dj : decide (F.length < F.length) = false := by simp
                  go_wp2
                  go_roundw
                  case rel => exact ⟨k + 1, by omega, by go_num, hO2, hB2⟩
                  case measure => simp [intOf]; omega
            · obtain rfl : k = O.length := by omega
              rw [← hv.out] at hO
              go_wp2
              go_ret
              exact ⟨_, rfl, hO, hB⟩
        · have q3 : (x.fKind == 1) = false := by simpa using q3
          have hv := Lib.hid (want_many hok q3)
          rw [nthW_at (show 0 < O.length by omega), nthW_at (show 0 < F.length by omega)] at hv
          have hpm : 1 ≤ manyN x ∧ manyN x ≤ 8 ∧ ((x.fKind == 2) = true ∧ x.fMany = ((manyN x : Nat) : Int) ∨ (x.fKind == 2) = false ∧ manyN x = 1) := by
            rcases pol_many q0 q3 with ⟨h1, h2, h3, h5, h4⟩ | ⟨h1, h2, h3⟩
            · exact ⟨h1, h2, .inl ⟨h5, h4.symm⟩⟩
            · exact ⟨by omega, by omega, .inr ⟨h3, h1⟩⟩
          obtain ⟨N, hN⟩ : ∃ N, N = manyN x := ⟨_, rfl⟩
          rw [← hN] at hpm hv
          clear hN hok
          obtain ⟨n1, n2, hmax⟩ := hpm
          have z1 : 0 < O.length := by omega
          have z2 : 0 < F.length := by omega
          have z3 : (0 : Int) < (O.length : Int) := by omega
          have z4 : (0 : Int) < (F.length : Int) := by omega
          have hspl : ((x.fKind == 2) = true ∧ x.fMany = ((N : Nat) : Int)) ∨ ((x.fKind == 2) = false ∧ N = 1) := hmax
          clear hmax
          go_enter Try.func23, Try.ntmps23
          go_wp2_with fail
          refine (sPolicyOk x _).mono ?_
          rintro e w1 ⟨rfl, hb1⟩
          have O1 := Lib.hid (HE.out.later hb1 (Nat.le_refl _))
          have hz1 := hb1.size
          simp at hz1
          have hB1 : Below w.heap.size w w1 := hW.trans (hb1.mono hW.size)
          have r0 : w1.cell? ⟨w.heap.size, 0, none⟩ = some (.int .i64 x.fKind) := by rw [hb1.cell (by show w.heap.size < _; first | (simp; done) | (simp; omega)), World.cell?_alloc_lt _ _ _ (by show w.heap.size < _; simp)]; simp
          have r1 : w1.cell? ⟨w.heap.size, 1, none⟩ = some (.int .i64 x.fMany) := by rw [hb1.cell (by show w.heap.size < _; first | (simp; done) | (simp; omega)), World.cell?_alloc_lt _ _ _ (by show w.heap.size < _; simp)]; simp
          rcases hspl with ⟨t2, hN2⟩ | ⟨t2, rfl⟩
          · have hNa : x.fMany ≤ (N : Int) := by omega
            have hNb : (N : Int) ≤ x.fMany := by omega
            clear hN2
            go_wp2_with (go_at_call 31; refine (l01In_any _ _ _ _).mono ?_; rintro e w' ⟨rfl, rfl⟩)
            go_loopw [7, 11] (fun v i wr => ∃ k : Nat, k ≤ N ∧ i = .int .i64 k ∧ Own wr w.heap.size 30 RoadD.cells 3 v (manyTo O[0] F[0] k) ∧ Below w.heap.size w wr ∧ wr.cell? ⟨w.heap.size, 1, none⟩ = some (.int .i64 x.fMany) ∧ w.heap.size < wr.heap.size ∧ (∀ q, v.ownBlock = some q → q ≠ w.heap.size)) (fun _ i _ => N - (intOf i).toNat)
            case atStart => exact ⟨0, Nat.zero_le _, rfl, O1.out, hB1, r1, by omega, fun q hq => by have := Option.some.inj hq; simp at this; omega⟩
            case round =>
              obtain ⟨k, hk, rfl, hO, hB, hc1, hz2, hne⟩ := hrel
              have hBz := hB.size
              have HO := Lib.hid hO
              have HNE := Lib.hid hne
              clear hO hne
              by_cases hlt : k < N
              · have hst := Lib.hid (manyTo_succ O[0] F[0] k)
                have hle := manyTo_len O[0] F[0] k
                have HLE := Lib.hid hle
                clear hle
                have a1 : wr.cell? ⟨g, o + 1, none⟩ = some (.int .i64 O[0].fAddr) := by
                  have := HC.out 0 z1 1 (by decide)
                  rw [Nat.zero_mul, Nat.add_zero] at this
                  rw [hB.cell (p := ⟨g, o + 1, none⟩) hg]
                  exact this
                have a2 : wr.cell? ⟨g2, o2 + 1, none⟩ = some (.int .i64 F[0].fAddr) := by
                  have := HC2.out 0 z2 1 (by decide)
                  rw [Nat.zero_mul, Nat.add_zero] at this
                  rw [hB.cell (p := ⟨g2, o2 + 1, none⟩) hg2]
                  exact this
                have hkN : (k : Int) < (N : Int) := by omega
                have hkM : (k : Int) < x.fMany := by omega
                go_wp2
                go_region_held3 (fun w' => w'.cell? ⟨g, o + 1, none⟩ = some (.int .i64 O[0].fAddr) ∧ w'.cell? ⟨g2, o2 + 1, none⟩ = some (.int .i64 F[0].fAddr)) (first | (refine ⟨?_, ?_⟩ <;> assumption) | go_keep)
                  (first
                    | ((refine step_append_rd _ (by rfl) (.tmp 74) (.tmp 85) (by rfl) slRoad RoadD.cells_length RoadD.one w.heap.size _ (manyTo O[0] F[0] k) [mkR O[0] F[0] (k : Int)] (by rfl) (HO.out.alloc _) (some ⟨wr.heap.size, 0, none⟩) 1 1 0 (wr.heap.size + 1) (by rfl) (by rfl) (by exact rd_one _ _ _ _ RoadD.cells_length rfl _ rfl _ (by omega)) (by rw [HLE.out]; simp; omega) (by simp; omega) ?_; intro v3 w3 O3 G3 A3; have hB3 : Below w.heap.size w w3 := Own.below2 G3 (HO.out.alloc _) (by (repeat' (first | (with_reducible exact Below.refl _ _) | (with_reducible assumption) | (with_reducible refine Below.alloc ?_ ?_ _) | (with_reducible refine Below.drew ?_) | (with_reducible refine below_drewN ?_ _) | (with_reducible refine Below.setCell ?_ ?_ _) | (with_reducible refine bvia ?_ (by with_reducible assumption) ?_) | go_size))) (Nat.le_refl _) (by simp; omega); have b1 : w3.cell? ⟨g, o + 1, none⟩ = some (.int .i64 O[0].fAddr) := (by rw [hB3.cell (p := ⟨g, o + 1, none⟩) hg, ← hB.cell (p := ⟨g, o + 1, none⟩) hg]; exact a1); have b2 : w3.cell? ⟨g2, o2 + 1, none⟩ = some (.int .i64 F[0].fAddr) := (by rw [hB3.cell (p := ⟨g2, o2 + 1, none⟩) hg2, ← hB.cell (p := ⟨g2, o2 + 1, none⟩) hg2]; exact a2)))
                    | fail)
                have hc3 : w3.cell? ⟨w.heap.size, 1, none⟩ = some (.int .i64 x.fMany) := by
                  rw [G3.cell_far _ (by show w.heap.size < _; simp; omega) (by intro hq; exact HNE.out _ hq.symm rfl)]
                  first | (rw [World.cell?_alloc_lt _ _ _ (by exact hz2)]; exact hc1) | (show (World.alloc _ _).cell? _ = _; rw [World.cell?_alloc_lt _ _ _ (by exact hz2)]; exact hc1)
                have hz3 := G3.size
                simp at hz3
                have hne3 : ∀ q, v3.ownBlock = some q → q ≠ w.heap.size := fun q hq => by
                  rcases A3 with h | h
                  · rw [h] at hq; exact HNE.out q hq
                  · rw [h] at hq
                    have := Option.some.inj hq
                    simp at this
                    omega
                clear G3 A3
                go_wp2
                go_roundw
                case rel => exact ⟨k + 1, by omega, by go_num, by rw [hst.out]; exact O3, hB3, hc3, by omega, hne3⟩
                case measure => simp [intOf]; omega
              · obtain rfl : k = N := by omega
                have hkM : decide ((k : Int) < x.fMany) = false := by simp; omega
                have hV := HO.out
                rw [← hv.out] at hV
                go_wp2
                go_ret
                exact ⟨_, rfl, hV, hB⟩
          · go_wp2_with (go_at_call 31; refine (l01In_any _ _ _ _).mono ?_; rintro e w' ⟨rfl, rfl⟩)
            go_loopw [7, 11] (fun v i wr => ∃ k : Nat, k ≤ 1 ∧ i = .int .i64 k ∧ Own wr w.heap.size 30 RoadD.cells 3 v (manyTo O[0] F[0] k) ∧ Below w.heap.size w wr ∧ wr.cell? ⟨w.heap.size, 1, none⟩ = some (.int .i64 x.fMany) ∧ w.heap.size < wr.heap.size ∧ (∀ q, v.ownBlock = some q → q ≠ w.heap.size)) (fun _ i _ => 1 - (intOf i).toNat)
            case atStart => exact ⟨0, Nat.zero_le _, rfl, O1.out, hB1, r1, by omega, fun q hq => by have := Option.some.inj hq; simp at this; omega⟩
            case round =>
              obtain ⟨k, hk, rfl, hO, hB, hc1, hz2, hne⟩ := hrel
              have hBz := hB.size
              have HO := Lib.hid hO
              have HNE := Lib.hid hne
              clear hO hne
              by_cases hlt : k < 1
              · have hst := Lib.hid (manyTo_succ O[0] F[0] k)
                have hle := manyTo_len O[0] F[0] k
                have HLE := Lib.hid hle
                clear hle
                have a1 : wr.cell? ⟨g, o + 1, none⟩ = some (.int .i64 O[0].fAddr) := by
                  have := HC.out 0 z1 1 (by decide)
                  rw [Nat.zero_mul, Nat.add_zero] at this
                  rw [hB.cell (p := ⟨g, o + 1, none⟩) hg]
                  exact this
                have a2 : wr.cell? ⟨g2, o2 + 1, none⟩ = some (.int .i64 F[0].fAddr) := by
                  have := HC2.out 0 z2 1 (by decide)
                  rw [Nat.zero_mul, Nat.add_zero] at this
                  rw [hB.cell (p := ⟨g2, o2 + 1, none⟩) hg2]
                  exact this
                have hkN : (k : Int) < (1 : Int) := by omega
                go_wp2
                go_region_held3 (fun w' => w'.cell? ⟨g, o + 1, none⟩ = some (.int .i64 O[0].fAddr) ∧ w'.cell? ⟨g2, o2 + 1, none⟩ = some (.int .i64 F[0].fAddr)) (first | (refine ⟨?_, ?_⟩ <;> assumption) | go_keep)
                  (first
                    | ((refine step_append_rd _ (by rfl) (.tmp 74) (.tmp 85) (by rfl) slRoad RoadD.cells_length RoadD.one w.heap.size _ (manyTo O[0] F[0] k) [mkR O[0] F[0] (k : Int)] (by rfl) (HO.out.alloc _) (some ⟨wr.heap.size, 0, none⟩) 1 1 0 (wr.heap.size + 1) (by rfl) (by rfl) (by exact rd_one _ _ _ _ RoadD.cells_length rfl _ rfl _ (by omega)) (by rw [HLE.out]; simp; omega) (by simp; omega) ?_; intro v3 w3 O3 G3 A3; have hB3 : Below w.heap.size w w3 := Own.below2 G3 (HO.out.alloc _) (by (repeat' (first | (with_reducible exact Below.refl _ _) | (with_reducible assumption) | (with_reducible refine Below.alloc ?_ ?_ _) | (with_reducible refine Below.drew ?_) | (with_reducible refine below_drewN ?_ _) | (with_reducible refine Below.setCell ?_ ?_ _) | (with_reducible refine bvia ?_ (by with_reducible assumption) ?_) | go_size))) (Nat.le_refl _) (by simp; omega); have b1 : w3.cell? ⟨g, o + 1, none⟩ = some (.int .i64 O[0].fAddr) := (by rw [hB3.cell (p := ⟨g, o + 1, none⟩) hg, ← hB.cell (p := ⟨g, o + 1, none⟩) hg]; exact a1); have b2 : w3.cell? ⟨g2, o2 + 1, none⟩ = some (.int .i64 F[0].fAddr) := (by rw [hB3.cell (p := ⟨g2, o2 + 1, none⟩) hg2, ← hB.cell (p := ⟨g2, o2 + 1, none⟩) hg2]; exact a2)))
                    | fail)
                have hc3 : w3.cell? ⟨w.heap.size, 1, none⟩ = some (.int .i64 x.fMany) := by
                  rw [G3.cell_far _ (by show w.heap.size < _; simp; omega) (by intro hq; exact HNE.out _ hq.symm rfl)]
                  first | (rw [World.cell?_alloc_lt _ _ _ (by exact hz2)]; exact hc1) | (show (World.alloc _ _).cell? _ = _; rw [World.cell?_alloc_lt _ _ _ (by exact hz2)]; exact hc1)
                have hz3 := G3.size
                simp at hz3
                have hne3 : ∀ q, v3.ownBlock = some q → q ≠ w.heap.size := fun q hq => by
                  rcases A3 with h | h
                  · rw [h] at hq; exact HNE.out q hq
                  · rw [h] at hq
                    have := Option.some.inj hq
                    simp at this
                    omega
                clear G3 A3
                go_wp2
                go_roundw
                case rel => exact ⟨k + 1, by omega, by go_num, by rw [hst.out]; exact O3, hB3, hc3, by omega, hne3⟩
                case measure => simp [intOf]; omega
              · obtain rfl : k = 1 := by omega
                have hV := HO.out
                rw [← hv.out] at hV
                go_wp2
                go_ret
                exact ⟨_, rfl, hV, hB⟩
      · have q2 : winB F.length 1 6 = false := by simpa using q2
        have hv := Lib.hid (want_no (show wantOk x O F = false by unfold wantOk; rw [q2, Bool.and_false, Bool.and_false]))
        go_enter Try.func23, Try.ntmps23
        go_wp2_with fail
        refine (sPolicyOk x _).mono ?_
        rintro e w1 ⟨rfl, hb1⟩
        go_wp2_with (go_at_call 31; refine (l01In_any _ _ _ _).mono ?_; rintro e w' ⟨rfl, rfl⟩)
        go_ret
        exact ⟨_, rfl, by rw [hv.out]; exact HE.out.later hb1 (Nat.le_refl _), hW.trans (hb1.mono hW.size)⟩
    · have q1 : winB O.length 1 6 = false := by simpa using q1
      have hv := Lib.hid (want_no (show wantOk x O F = false by unfold wantOk; rw [q1, Bool.false_and, Bool.and_false]))
      go_enter Try.func23, Try.ntmps23
      go_wp2_with fail
      refine (sPolicyOk x _).mono ?_
      rintro e w1 ⟨rfl, hb1⟩
      go_wp2_with (go_at_call 31; refine (l01In_any _ _ _ _).mono ?_; rintro e w' ⟨rfl, rfl⟩)
      go_ret
      exact ⟨_, rfl, by rw [hv.out]; exact HE.out.later hb1 (Nat.le_refl _), hW.trans (hb1.mono hW.size)⟩
  · have q0 : polOk x.fKind x.fMany = false := by simpa using q0
    have hv := Lib.hid (want_no (show wantOk x O F = false by unfold wantOk; rw [q0, Bool.false_and]))
    go_enter Try.func23, Try.ntmps23
    go_wp2_with fail
    refine (sPolicyOk x _).mono ?_
    rintro e w1 ⟨rfl, hb1⟩
    go_wp2_with (go_at_call 31; refine (l01In_any _ _ _ _).mono ?_; rintro e w' ⟨rfl, rfl⟩)
    go_ret
    exact ⟨_, rfl, by rw [hv.out]; exact HE.out.later hb1 (Nat.le_refl _), hW.trans (hb1.mono hW.size)⟩
end Go.Proofs.Ytfhfanbigjpfaaa
