/- The walk of FnPolicies: for every input. Written by program (fnpolicies.py). -/
import Derived.Test.YtfhfanbigjpfaaaLaw0
import Derived.Test.YtfhfanbigjpfaaaDrawPol
import Derived.Test.YtfhfanbigjpfaaaWanted
import Derived.Test.YtfhfanbigjpfaaaPolLaw
import Derived.Test.YtfhfanbigjpfaaaMid
import Derived.Deep.RegionHeld3
import Derived.Deep.DrawnRows
namespace Go.Proofs.Ytfhfanbigjpfaaa
set_option linter.unusedSimpArgs false
set_option linter.unusedVariables false
open Go.RowKit
set_option maxHeartbeats 1000000 in
theorem sameRoads_same (A B : Option Addr) (ca cb : Nat) (L : List RoadD) (w : World) (hr : Rd RoadD.cells 3 w 0 w.heap.size A L) (hr2 : Rd RoadD.cells 3 w 0 w.heap.size B L) (hn : L.length ≤ maxLen) :
    Calls Try.prog 30 #[.slice A L.length ca, .slice B L.length cb] w fun e w' => e = .returned (.bool true) ∧ Below w.heap.size w w' := by
  unfold maxLen at hn
  go_enter Try.func30, Try.ntmps30
  go_wp2_with fail
  go_loopw [5] (fun i wr => ∃ k : Nat, k ≤ L.length ∧ i = .int .i64 k ∧ ∃ n, wr = w.drewN n) (fun i _ => L.length - (intOf i).toNat)
  case atStart => exact ⟨0, Nat.zero_le _, rfl, 0, rfl⟩
  case round =>
    obtain ⟨k, hk, rfl, n, rfl⟩ := hrel
    by_cases hlt : k < L.length
    · obtain ⟨g, o, rfl, _, hg, hcell⟩ := hr.at_ (by omega)
      obtain ⟨g2, o2, rfl, _, hg2, hcell2⟩ := hr2.at_ (by omega)
      have a0 := hcell k hlt 0 (by decide)
      have a1 := hcell k hlt 1 (by decide)
      have a2 := hcell k hlt 2 (by decide)
      have b0 := hcell2 k hlt 0 (by decide)
      have b1 := hcell2 k hlt 1 (by decide)
      have b2 := hcell2 k hlt 2 (by decide)
      simp [RoadD.cells] at a0 a1 a2 b0 b1 b2
      clear hcell hcell2
      have hki : (k : Int) < (L.length : Int) := by omega
      have hk0 : (0 : Int) ≤ (k : Int) := by omega
      go_wp2_with fail
      go_quiet (fail)
      go_wp2
      go_roundw
      case rel => exact ⟨k + 1, by omega, by go_num, _, by first | rfl | exact World.drewN_drewN _ _ _⟩
      case measure => simp [intOf]; omega
    · go_wp2
      go_ret
      exact ⟨rfl, below_drewN (Below.refl _ _) n⟩
theorem iRdBack (a b c : Int) (w : World) : Calls Try.prog 13 #[.agg #[.int .i64 a, .int .i64 b, .int .i64 c]] w fun e w' => e = .returned (.agg #[.int .i64 b, .int .i64 a, .int .i64 c]) ∧ Below w.heap.size w w' := by
  go_enter Try.func13, Try.ntmps13
  go_wp2
  go_returns
  exact ⟨rfl, by go_grown⟩
set_option maxRecDepth 100000 in
set_option maxHeartbeats 16000000 in
theorem walk_FnPolicies (A0 : Option Addr) (cap0 : Nat) (L0 : List Int) (w : World) (hle : L0.length ≤ cap0) (hcap : cap0 ≤ maxLen) (_ : ∀ x ∈ L0, (Lit.int .u8 x).wf = true) (hr : Rd bcells 1 w 0 w.heap.size A0 L0) :
    Calls Try.prog 7 #[.slice A0 L0.length cap0] w fun e w' => e = .returned (.bool true) ∧ Below w.heap.size w w' := by
  have hm0 : L0.length ≤ maxLen := Nat.le_trans hle hcap
  by_cases hbig : (1048576 : Int) < L0.length
  · have d0 : decide ((1048576 : Int) < (L0.length : Int)) = true := decide_eq_true hbig
    go_enter Try.func7, Try.ntmps7
    go_wp2_with fail
    refine (big_any _ _ _ _ hm0).mono ?_
    rintro e w1 ⟨rfl, rfl⟩
    go_wp2
    go_ret
    exact ⟨rfl, Below.refl _ _⟩
  have d0 : decide ((1048576 : Int) < (L0.length : Int)) = false := decide_eq_false hbig
  go_enter Try.func7, Try.ntmps7
  go_wp2_with fail
  refine (big_any _ _ _ _ hm0).mono ?_
  rintro e w1 ⟨rfl, rfl⟩
  go_wp2_with fail
  refine (DrawWantedOf_some A0 cap0 L0 _ hr (by omega)).mono ?_
  rintro e w1 ⟨p, vO, O, vF, F, rfl, OO1, hO9, OF1, hF9, hb1⟩
  obtain ⟨AO, kO, rfl, hleO, hcmO, -⟩ := OO1.rd0 AddrD.cells_length
  obtain ⟨AF, kF, rfl, hleF, hcmF, -⟩ := OF1.rd0 AddrD.cells_length
  have hmO : O.length ≤ maxLen := Nat.le_trans hleO hcmO
  have hmF : F.length ≤ maxLen := Nat.le_trans hleF hcmF
  have hz1 := hb1.size
  obtain ⟨M, hM⟩ : ∃ M, M = wanted p O F := ⟨_, rfl⟩
  have hM8 : M.length ≤ 8 := by rw [hM]; exact wanted_le p O F
  have HF := Lib.hid (show FromOf O M by rw [hM]; exact wanted_from p O F)
  have HS := Lib.hid (show M = [] → _ from fun h => wanted_some p O F (hM ▸ h))
  have HM := Lib.hid hM
  have HN := Lib.hid (missing_self hM8)
  have HA := Lib.hid (missing_nil hM8)
  clear hM
  go_wp2_with fail
  go_wp2_with fail
  refine (iWantedOf p AO kO O AF kF F _ (by exact (OO1.rdv AddrD.cells_length).later (by (repeat' (first | (with_reducible exact Below.refl _ _) | (with_reducible assumption) | (with_reducible refine Below.alloc ?_ ?_ _) | (with_reducible refine Below.drew ?_) | (with_reducible refine below_drewN ?_ _) | (with_reducible refine Below.setCell ?_ ?_ _) | (with_reducible refine bvia ?_ (by with_reducible assumption) ?_) | go_size)) : Below w1.heap.size w1 _) (Nat.le_refl _) (by go_size)) (by exact (OF1.rdv AddrD.cells_length).later (by (repeat' (first | (with_reducible exact Below.refl _ _) | (with_reducible assumption) | (with_reducible refine Below.alloc ?_ ?_ _) | (with_reducible refine Below.drew ?_) | (with_reducible refine below_drewN ?_ _) | (with_reducible refine Below.setCell ?_ ?_ _) | (with_reducible refine bvia ?_ (by with_reducible assumption) ?_) | go_size)) : Below w1.heap.size w1 _) (Nat.le_refl _) (by go_size)) hmO hmF).mono ?_
  rintro e w2 ⟨v2, rfl, O2, hb2⟩
  obtain ⟨hc, hf⟩ := bcell hb2
  have hc2_0 := fun o => hc (w1.heap.size) o (by go_size)
  have hf2_0 := fun o => hf (w1.heap.size) o (by go_size)
  have hz2_0 : w1.heap.size < w2.heap.size := Nat.lt_of_lt_of_le (by go_size) hb2.size
  clear hc hf
  have hz2 := hb2.size
  try simp at hz2
  have OO_2 := Lib.hid (OO1.later (by (repeat' (first | (with_reducible exact Below.refl _ _) | (with_reducible assumption) | (with_reducible refine Below.alloc ?_ ?_ _) | (with_reducible refine Below.drew ?_) | (with_reducible refine below_drewN ?_ _) | (with_reducible refine Below.setCell ?_ ?_ _) | (with_reducible refine bvia ?_ (by with_reducible assumption) ?_) | go_size)) : Below w1.heap.size w1 w2) (Nat.le_refl _))
  have OF_2 := Lib.hid (OF1.later (by (repeat' (first | (with_reducible exact Below.refl _ _) | (with_reducible assumption) | (with_reducible refine Below.alloc ?_ ?_ _) | (with_reducible refine Below.drew ?_) | (with_reducible refine below_drewN ?_ _) | (with_reducible refine Below.setCell ?_ ?_ _) | (with_reducible refine bvia ?_ (by with_reducible assumption) ?_) | go_size)) : Below w1.heap.size w1 w2) (Nat.le_refl _))
  have hB2 : Below w.heap.size w w2 := hb1.trans ((by (repeat' (first | (with_reducible exact Below.refl _ _) | (with_reducible assumption) | (with_reducible refine Below.alloc ?_ ?_ _) | (with_reducible refine Below.drew ?_) | (with_reducible refine below_drewN ?_ _) | (with_reducible refine Below.setCell ?_ ?_ _) | (with_reducible refine bvia ?_ (by with_reducible assumption) ?_) | go_size)) : Below w1.heap.size w1 w2).mono hz1)
  have HX_2 : Hid (w2.heap[w1.heap.size]? = some (.cells #[.int .i64 p.fKind, .int .i64 p.fMany] 25 (0, 0))) := (hb2.block w1.heap.size (by simp)).trans (heap_alloc_new w1 _)
  rw [← HM.out] at O2
  obtain ⟨A2, cap2, rfl, hle2, hcm2, -⟩ := O2.rd0 RoadD.cells_length
  have hmM : M.length ≤ maxLen := Nat.le_trans hle2 hcm2
  have OM_2 := Lib.hid O2
  clear hc2_0 hf2_0 hb2 OO1 OF1 O2
  have x0 : w2.cell? ⟨w1.heap.size, 0, none⟩ = some (.int .i64 p.fKind) := by rw [cell_of_row _ _ _ _ _ (0, 0) HX_2.out]; rfl
  have x1 : w2.cell? ⟨w1.heap.size, 1, none⟩ = some (.int .i64 p.fMany) := by rw [cell_of_row _ _ _ _ _ (0, 0) HX_2.out]; rfl
  go_wp2_with fail
  (with_reducible refine (sWantedOf p AO kO O AF kF F _ (by exact OO_2.out.rdv AddrD.cells_length) (by exact OF_2.out.rdv AddrD.cells_length) hmO hmF).mono ?_)
  rintro e w3 ⟨v3, rfl, O3, hb3⟩
  rw [← HM.out] at O3
  obtain ⟨A3, cap3, rfl, hle3, hcm3, -⟩ := O3.rd0 RoadD.cells_length
  have OW_3 := Lib.hid O3
  clear O3 x0 x1
  have hz3 := hb3.size
  have HX_3 : Hid (w3.heap[w1.heap.size]? = _) := (hb3.block _ (Array.getElem?_eq_some_iff.1 HX_2.out).1).trans HX_2.out
  have OO_3 := Lib.hid (OO_2.out.later hb3 (Nat.le_refl _))
  have OF_3 := Lib.hid (OF_2.out.later hb3 (Nat.le_refl _))
  have OM_3 := Lib.hid (OM_2.out.later hb3 (Nat.le_refl _))
  have hB3 := hB2.trans (hb3.mono (by omega))
  clear hb3 hB2 HX_2 OO_2 OF_2 OM_2
  go_wp2_with fail
  go_loopw [8] (fun i wr => ∃ k : Nat, k ≤ M.length ∧ i = .int .i64 k ∧ Below w3.heap.size w3 wr) (fun i _ => M.length - (intOf i).toNat)
  case atStart => exact ⟨0, Nat.zero_le _, rfl, Below.refl _ _⟩
  case round =>
    obtain ⟨i, hi, rfl, hB⟩ := hrel
    have hBz := hB.size
    by_cases hlt : i < M.length
    · obtain ⟨g, ob, hgo, _, hg, hcell⟩ := (OM_3.out.rdv RoadD.cells_length).at_ (by omega)
      subst hgo
      have m0 : wr.cell? ⟨g, ob + i * 3, none⟩ = some (.int .i64 M[i].fOwn) := by rw [hB.cell (p := ⟨g, ob + i * 3, none⟩) hg]; have := hcell i hlt 0 (by decide); simpa [RoadD.cells] using this
      have m1 : wr.cell? ⟨g, ob + i * 3 + 1, none⟩ = some (.int .i64 M[i].fFar) := by rw [hB.cell (p := ⟨g, ob + i * 3 + 1, none⟩) hg]; have := hcell i hlt 1 (by decide); simpa [RoadD.cells] using this
      have m2 : wr.cell? ⟨g, ob + i * 3 + 2, none⟩ = some (.int .i64 M[i].fPort) := by rw [hB.cell (p := ⟨g, ob + i * 3 + 2, none⟩) hg]; have := hcell i hlt 2 (by decide); simpa [RoadD.cells] using this
      have hgw : g < wr.heap.size := by omega
      clear hcell
      have hii : (i : Int) < (M.length : Int) := by omega
      have hi0 : (0 : Int) ≤ (i : Int) := by omega
      have HALL := Lib.hid (hasTo_all HF.out hlt)
      go_wp2_with fail
      go_loopw [9, 10] (fun b k wq => ∃ (j n : Nat), j ≤ O.length ∧ k = .int .i64 j ∧ b = .bool (hasTo O M[i].fOwn j) ∧ wq = wr.drewN n) (fun _ k _ => O.length - (intOf k).toNat)
      case atStart => exact ⟨0, 0, Nat.zero_le _, rfl, rfl, rfl⟩
      case round =>
        obtain ⟨j, n, hj, rfl, rfl, rfl⟩ := hrel
        by_cases hlj : j < O.length
        · have hs := Lib.hid (hasTo_succ (a := M[i].fOwn) hlj)
          have hjj : (j : Int) < (O.length : Int) := by omega
          have hj0 : (0 : Int) ≤ (j : Int) := by omega
          cases hh : hasTo O M[i].fOwn j with
          | true =>
            have hs' : Hid (hasTo O M[i].fOwn (j + 1) = true) := by unfold Hid; rw [hs.out, hh]; rfl
            clear hh
            go_wp2_with fail
            go_quiet (fail)
            go_wp2
            go_roundw
            case rel => exact ⟨j + 1, _, by omega, by go_num, by rw [hs'.out], by first | rfl | exact World.drewN_drewN _ _ _⟩
            case measure => simp [intOf]; omega
          | false =>
            obtain ⟨e, hE⟩ : ∃ e : Bool, (O[j].fAddr == M[i].fOwn) = e := ⟨_, rfl⟩
            have hs' : Hid (hasTo O M[i].fOwn (j + 1) = e) := by unfold Hid; rw [hs.out, hh, hE]; rfl
            clear hh
            obtain ⟨g2, o2, hgo2, _, hg2, hcell2⟩ := (OO_3.out.rdv AddrD.cells_length).at_ (by omega)
            subst hgo2
            have a1 : wr.cell? ⟨g2, o2 + j * 4 + 1, none⟩ = some (.int .i64 O[j].fAddr) := by rw [hB.cell (p := ⟨g2, o2 + j * 4 + 1, none⟩) hg2]; have := hcell2 j hlj 1 (by decide); simpa [AddrD.cells] using this
            clear hcell2
            go_wp2_with fail
            go_quiet (fail)
            go_wp2
            go_roundw
            case rel => exact ⟨j + 1, _, by omega, by go_num, by rw [hs'.out], by first | rfl | exact World.drewN_drewN _ _ _⟩
            case measure => simp [intOf]; omega
        · obtain rfl : j = O.length := by omega
          rw [HALL.out]
          have hBq : Below w3.heap.size w3 (wr.drewN n) := below_drewN hB n
          have hzq : wr.heap.size ≤ (wr.drewN n).heap.size := Nat.le_refl _
          go_wp2_with fail
          have hfd : ∀ W : World, (Instr.field 30 (.agg #[.int .i64 M[i].fFar, .int .i64 M[i].fOwn, .int .i64 M[i].fPort]) 0).run Try.prog W = .ok (.int .i64 M[i].fFar) W := fun _ => by kernel_rfl
          go_region_held3 (fun w' => w'.cell? ⟨g, ob + i * 3, none⟩ = some (.int .i64 M[i].fOwn) ∧ w'.cell? ⟨g, ob + i * 3 + 1, none⟩ = some (.int .i64 M[i].fFar) ∧ w'.cell? ⟨g, ob + i * 3 + 2, none⟩ = some (.int .i64 M[i].fPort)) (first | (refine ⟨?_, ?_, ?_⟩ <;> assumption) | go_keep)
            (first
              | (go_at_call 13; refine (iRdBack _ _ _ _).mono ?_; rintro e w5 ⟨rfl, hb5⟩; have hz5 := hb5.size; (try simp at hz5); have hq5 : Below wr.heap.size wr w5 := (by (repeat' (first | (with_reducible exact Below.refl _ _) | (with_reducible assumption) | (with_reducible refine Below.alloc ?_ ?_ _) | (with_reducible refine Below.drew ?_) | (with_reducible refine below_drewN ?_ _) | (with_reducible refine Below.setCell ?_ ?_ _) | (with_reducible refine bvia ?_ (by with_reducible assumption) ?_) | go_size))); have m0_5 := (hq5.cell (p := ⟨g, ob + i * 3, none⟩) hgw).trans m0; have m1_5 := (hq5.cell (p := ⟨g, ob + i * 3 + 1, none⟩) hgw).trans m1; have m2_5 := (hq5.cell (p := ⟨g, ob + i * 3 + 2, none⟩) hgw).trans m2)
              | fail)
          go_wp2
          go_roundw
          case rel => exact ⟨i + 1, by omega, by go_num, by (repeat' (first | (with_reducible exact Below.refl _ _) | (with_reducible assumption) | (with_reducible refine Below.alloc ?_ ?_ _) | (with_reducible refine Below.drew ?_) | (with_reducible refine below_drewN ?_ _) | (with_reducible refine Below.setCell ?_ ?_ _) | (with_reducible refine bvia ?_ (by with_reducible assumption) ?_) | go_size))⟩
          case measure => simp [intOf]; omega
    · obtain rfl : i = M.length := by omega
      obtain ⟨w4, hw4⟩ : ∃ x, x = wr := ⟨_, rfl⟩
      subst hw4
      have hz4 := hBz
      clear hBz
      rename Below w3.heap.size w3 w4 => hb4
      have HX_4 : Hid (w4.heap[w1.heap.size]? = _) := (hb4.block _ (Array.getElem?_eq_some_iff.1 HX_3.out).1).trans HX_3.out
      have OO_4 := Lib.hid (OO_3.out.later hb4 (Nat.le_refl _))
      have OF_4 := Lib.hid (OF_3.out.later hb4 (Nat.le_refl _))
      have OM_4 := Lib.hid (OM_3.out.later hb4 (Nat.le_refl _))
      have OW_4 := Lib.hid (OW_3.out.later hb4 (Nat.le_refl _))
      have hB4 := hB3.trans (hb4.mono (by omega))
      clear hb4 hB3 HX_3 OO_3 OF_3 OM_3 OW_3
      go_wp2_with fail
      (with_reducible refine (iMissingOf A2 cap2 M A2 cap2 M _ (by exact OM_4.out.rdv RoadD.cells_length) (by exact OM_4.out.rdv RoadD.cells_length) hmM hmM).mono ?_)
      rintro e w5 ⟨v5, rfl, O5, hb5⟩
      rw [HN.out] at O5
      obtain ⟨A5, cap5, rfl, -, -, -⟩ := O5.rd0 RoadD.cells_length
      clear O5
      simp only [List.length_nil]
      have hz5 := hb5.size
      have HX_5 : Hid (w5.heap[w1.heap.size]? = _) := (hb5.block _ (Array.getElem?_eq_some_iff.1 HX_4.out).1).trans HX_4.out
      have OO_5 := Lib.hid (OO_4.out.later hb5 (Nat.le_refl _))
      have OF_5 := Lib.hid (OF_4.out.later hb5 (Nat.le_refl _))
      have OM_5 := Lib.hid (OM_4.out.later hb5 (Nat.le_refl _))
      have OW_5 := Lib.hid (OW_4.out.later hb5 (Nat.le_refl _))
      have hB5 := hB4.trans (hb5.mono (by omega))
      clear hb5 hB4 HX_4 OO_4 OF_4 OM_4 OW_4
      go_wp2_with fail
      (refine (iMissingOf A2 cap2 M (some ⟨w5.heap.size, 0, none⟩) 0 [] (w5.alloc (.cells #[] 30)) (by exact (OM_5.out.rdv RoadD.cells_length).later (by (repeat' (first | (with_reducible exact Below.refl _ _) | (with_reducible assumption) | (with_reducible refine Below.alloc ?_ ?_ _) | (with_reducible refine Below.drew ?_) | (with_reducible refine below_drewN ?_ _) | (with_reducible refine Below.setCell ?_ ?_ _) | (with_reducible refine bvia ?_ (by with_reducible assumption) ?_) | go_size)) : Below w5.heap.size w5 _) (Nat.le_refl _) (by go_size)) Rd.nil hmM (Nat.zero_le _)).mono ?_)
      rintro e w6 ⟨v6, rfl, O6, hb6'⟩
      rw [HA.out] at O6
      obtain ⟨A6, cap6, rfl, -, -, -⟩ := O6.rd0 RoadD.cells_length
      have OL_6 := Lib.hid O6
      clear O6
      have hb6 : Below w5.heap.size w5 w6 := (by (repeat' (first | (with_reducible exact Below.refl _ _) | (with_reducible assumption) | (with_reducible refine Below.alloc ?_ ?_ _) | (with_reducible refine Below.drew ?_) | (with_reducible refine below_drewN ?_ _) | (with_reducible refine Below.setCell ?_ ?_ _) | (with_reducible refine bvia ?_ (by with_reducible assumption) ?_) | go_size)))
      clear hb6'
      have hz6 := hb6.size
      have HX_6 : Hid (w6.heap[w1.heap.size]? = _) := (hb6.block _ (Array.getElem?_eq_some_iff.1 HX_5.out).1).trans HX_5.out
      have OO_6 := Lib.hid (OO_5.out.later hb6 (Nat.le_refl _))
      have OF_6 := Lib.hid (OF_5.out.later hb6 (Nat.le_refl _))
      have OM_6 := Lib.hid (OM_5.out.later hb6 (Nat.le_refl _))
      have OW_6 := Lib.hid (OW_5.out.later hb6 (Nat.le_refl _))
      have hB6 := hB5.trans (hb6.mono (by omega))
      clear hb6 hB5 HX_5 OO_5 OF_5 OM_5 OW_5
      have x0 : w6.cell? ⟨w1.heap.size, 0, none⟩ = some (.int .i64 p.fKind) := by rw [cell_of_row _ _ _ _ _ (0, 0) HX_6.out]; rfl
      have x1 : w6.cell? ⟨w1.heap.size, 1, none⟩ = some (.int .i64 p.fMany) := by rw [cell_of_row _ _ _ _ _ (0, 0) HX_6.out]; rfl
      go_wp2_with fail
      have dM8 : decide ((M.length : Int) ≤ 8) = true := decide_eq_true (by omega)
      obtain ⟨e, hE⟩ : ∃ e, polOk p.fKind p.fMany = e := ⟨_, rfl⟩
      rw [hE] at HS
      have hE := Lib.hid hE
      clear HF HM HN HA OO_6 OF_6 HX_6
      refine wp_region_held_drew (S := (fun W' => (W'.cell? ⟨w1.heap.size, 0, none⟩ = some (.int .i64 p.fKind) ∧ W'.cell? ⟨w1.heap.size, 1, none⟩ = some (.int .i64 p.fMany)))) (by kernel_rfl) (by exact ⟨x0, x1⟩) (fun hHeld => ?_)
      refine wpAnyH_take (i := 0) (v := ?_) rfl (by kernel_rfl) (by kernel_rfl) (by kernel_rfl) (fun _ _ _ h => h) (Or.inl ⟨by rfl, ?_⟩) (by assumption) ?_
      rotate_left
      · intro w hSw
        (try dsimp only at hSw)
        go_simp
        all_goals (with_reducible rfl)
      change wpAnyH _ _ _ _ _ _ _ (Act.put _ (some 90) _) _
      simp only [Act.put, List.setIfInBounds_toArray, List.set_cons_zero, List.set_cons_succ]
      refine wpAnyH_take (i := 1) (v := ?_) rfl (by kernel_rfl) (by kernel_rfl) (by kernel_rfl) (fun _ _ _ h => h) (Or.inl ⟨by rfl, ?_⟩) (by assumption) ?_
      rotate_left
      · intro w hSw
        (try dsimp only at hSw)
        go_simp
        all_goals (with_reducible rfl)
      change wpAnyH _ _ _ _ _ _ _ (Act.put _ (some 91) _) _
      simp only [Act.put, List.setIfInBounds_toArray, List.set_cons_zero, List.set_cons_succ]
      refine wpAnyH_ready (rs := [2]) (by kernel_rfl) (by simp) (AllReadyH.cons (o := _) rfl (fun K hK => ?_) AllReadyH.nil)
      go_simp
      (go_at_call 30; refine (sameRoads_same A2 A3 cap2 cap3 M _ (by exact (OM_6.out.rdv RoadD.cells_length).later (by (repeat' (first | (with_reducible exact Below.refl _ _) | (with_reducible assumption) | (with_reducible refine Below.alloc ?_ ?_ _) | (with_reducible refine Below.drew ?_) | (with_reducible refine below_drewN ?_ _) | (with_reducible refine Below.setCell ?_ ?_ _) | (with_reducible refine bvia ?_ (by with_reducible assumption) ?_) | go_size)) : Below w6.heap.size w6 _) (Nat.le_refl _) (by go_size)) (by exact (OW_6.out.rdv RoadD.cells_length).later (by (repeat' (first | (with_reducible exact Below.refl _ _) | (with_reducible assumption) | (with_reducible refine Below.alloc ?_ ?_ _) | (with_reducible refine Below.drew ?_) | (with_reducible refine below_drewN ?_ _) | (with_reducible refine Below.setCell ?_ ?_ _) | (with_reducible refine bvia ?_ (by with_reducible assumption) ?_) | go_size)) : Below w6.heap.size w6 _) (Nat.le_refl _) (by go_size)) hmM).mono ?_; rintro e_ W1 ⟨rfl, hb1⟩; have hz1_ := hb1.size; (try simp at hz1_); have hq1 : Below w6.heap.size w6 W1 := (by (repeat' (first | (with_reducible exact Below.refl _ _) | (with_reducible assumption) | (with_reducible refine Below.alloc ?_ ?_ _) | (with_reducible refine Below.drew ?_) | (with_reducible refine below_drewN ?_ _) | (with_reducible refine Below.setCell ?_ ?_ _) | (with_reducible refine bvia ?_ (by with_reducible assumption) ?_) | go_size))))
      have x0_1 : W1.cell? ⟨w1.heap.size, 0, none⟩ = some (.int .i64 p.fKind) := (hq1.cell (p := ⟨w1.heap.size, 0, none⟩) (by go_size)).trans x0
      have x1_1 : W1.cell? ⟨w1.heap.size, 1, none⟩ = some (.int .i64 p.fMany) := (hq1.cell (p := ⟨w1.heap.size, 1, none⟩) (by go_size)).trans x1
      refine hK.out _ _ (by exact ⟨x0_1, x1_1⟩) (fun hHeld2 => ?_)
      clear hK K hHeld
      (try simp only [Act.put, List.setIfInBounds_toArray, List.set_cons_zero, List.set_cons_succ])
      refine wpAnyH_take (i := 3) (v := ?_) rfl (by kernel_rfl) (by kernel_rfl) (by kernel_rfl) (fun _ _ _ h => h) (Or.inl ⟨by rfl, ?_⟩) (by assumption) ?_
      rotate_left
      · intro w hSw
        (try dsimp only at hSw)
        go_simp
        all_goals (with_reducible rfl)
      change wpAnyH _ _ _ _ _ _ _ (Act.put _ (some 93) _) _
      simp only [Act.put, List.setIfInBounds_toArray, List.set_cons_zero, List.set_cons_succ]
      refine wpAnyH_take (i := 4) (v := ?_) rfl (by kernel_rfl) (by kernel_rfl) (by kernel_rfl) (fun _ _ _ h => h) (Or.inl ⟨by rfl, ?_⟩) (by assumption) ?_
      rotate_left
      · intro w hSw
        (try dsimp only at hSw)
        go_simp
        all_goals (with_reducible rfl)
      change wpAnyH _ _ _ _ _ _ _ (Act.put _ (some 94) _) _
      simp only [Act.put, List.setIfInBounds_toArray, List.set_cons_zero, List.set_cons_succ]
      refine wpAnyH_take (i := 5) (v := ?_) rfl (by kernel_rfl) (by kernel_rfl) (by kernel_rfl) (fun _ _ _ h => h) (Or.inl ⟨by rfl, ?_⟩) (by assumption) ?_
      rotate_left
      · intro w hSw
        (try dsimp only at hSw)
        go_simp
        all_goals (with_reducible rfl)
      change wpAnyH _ _ _ _ _ _ _ (Act.put _ (some 95) _) _
      simp only [Act.put, List.setIfInBounds_toArray, List.set_cons_zero, List.set_cons_succ]
      refine wpAnyH_take (i := 6) (v := ?_) rfl (by kernel_rfl) (by kernel_rfl) (by kernel_rfl) (fun _ _ _ h => h) (Or.inl ⟨by rfl, ?_⟩) (by assumption) ?_
      rotate_left
      · intro w hSw
        (try dsimp only at hSw)
        go_simp
        all_goals (with_reducible rfl)
      change wpAnyH _ _ _ _ _ _ _ (Act.put _ (some 96) _) _
      simp only [Act.put, List.setIfInBounds_toArray, List.set_cons_zero, List.set_cons_succ]
      refine wpAnyH_take (i := 7) (v := ?_) rfl (by kernel_rfl) (by kernel_rfl) (by kernel_rfl) (fun _ _ _ h => h) (Or.inl ⟨by rfl, ?_⟩) (by assumption) ?_
      rotate_left
      · intro w hSw
        (try dsimp only at hSw)
        go_simp
        all_goals (with_reducible rfl)
      change wpAnyH _ _ _ _ _ _ _ (Act.put _ (some 97) _) _
      simp only [Act.put, List.setIfInBounds_toArray, List.set_cons_zero, List.set_cons_succ]
      refine wpAnyH_take (i := 8) (v := ?_) rfl (by kernel_rfl) (by kernel_rfl) (by kernel_rfl) (fun _ _ _ h => h) (Or.inl ⟨by rfl, ?_⟩) (by assumption) ?_
      rotate_left
      · intro w hSw
        (try dsimp only at hSw)
        go_simp
        all_goals (with_reducible rfl)
      change wpAnyH _ _ _ _ _ _ _ (Act.put _ (some 98) _) _
      simp only [Act.put, List.setIfInBounds_toArray, List.set_cons_zero, List.set_cons_succ]
      refine wpAnyH_take (i := 9) (v := ?_) rfl (by kernel_rfl) (by kernel_rfl) (by kernel_rfl) (fun _ _ _ h => h) (Or.inl ⟨by rfl, ?_⟩) (by assumption) ?_
      rotate_left
      · intro w hSw
        (try dsimp only at hSw)
        go_simp
        all_goals (with_reducible rfl)
      change wpAnyH _ _ _ _ _ _ _ (Act.put _ (some 99) _) _
      simp only [Act.put, List.setIfInBounds_toArray, List.set_cons_zero, List.set_cons_succ]
      refine wpAnyH_take (i := 10) (v := ?_) rfl (by kernel_rfl) (by kernel_rfl) (by kernel_rfl) (fun _ _ _ h => h) (Or.inl ⟨by rfl, ?_⟩) (by assumption) ?_
      rotate_left
      · intro w hSw
        (try dsimp only at hSw)
        go_simp
        all_goals (with_reducible rfl)
      change wpAnyH _ _ _ _ _ _ _ (Act.put _ (some 100) _) _
      simp only [Act.put, List.setIfInBounds_toArray, List.set_cons_zero, List.set_cons_succ]
      refine wpAnyH_take (i := 11) (v := ?_) rfl (by kernel_rfl) (by kernel_rfl) (by kernel_rfl) (fun _ _ _ h => h) (Or.inl ⟨by rfl, ?_⟩) (by assumption) ?_
      rotate_left
      · intro w hSw
        (try dsimp only at hSw)
        go_simp
        all_goals (with_reducible rfl)
      change wpAnyH _ _ _ _ _ _ _ (Act.put _ (some 101) _) _
      simp only [Act.put, List.setIfInBounds_toArray, List.set_cons_zero, List.set_cons_succ]
      refine wpAnyH_take (i := 12) (v := ?_) rfl (by kernel_rfl) (by kernel_rfl) (by kernel_rfl) (fun _ _ _ h => h) (Or.inl ⟨by rfl, ?_⟩) (by assumption) ?_
      rotate_left
      · intro w hSw
        (try dsimp only at hSw)
        go_simp
        all_goals (with_reducible rfl)
      change wpAnyH _ _ _ _ _ _ _ (Act.put _ (some 102) _) _
      simp only [Act.put, List.setIfInBounds_toArray, List.set_cons_zero, List.set_cons_succ]
      refine wpAnyH_take (i := 13) (v := ?_) rfl (by kernel_rfl) (by kernel_rfl) (by kernel_rfl) (fun _ _ _ h => h) (Or.inl ⟨by rfl, ?_⟩) (by assumption) ?_
      rotate_left
      · intro w hSw
        (try dsimp only at hSw)
        go_simp
        all_goals (with_reducible rfl)
      change wpAnyH _ _ _ _ _ _ _ (Act.put _ (some 103) _) _
      simp only [Act.put, List.setIfInBounds_toArray, List.set_cons_zero, List.set_cons_succ]
      refine wpAnyH_take (i := 14) (v := ?_) rfl (by kernel_rfl) (by kernel_rfl) (by kernel_rfl) (fun _ _ _ h => h) (Or.inl ⟨by rfl, ?_⟩) (by assumption) ?_
      rotate_left
      · intro w hSw
        (try dsimp only at hSw)
        go_simp
        all_goals (with_reducible rfl)
      change wpAnyH _ _ _ _ _ _ _ (Act.put _ (some 104) _) _
      simp only [Act.put, List.setIfInBounds_toArray, List.set_cons_zero, List.set_cons_succ]
      refine wpAnyH_take (i := 15) (v := ?_) rfl (by kernel_rfl) (by kernel_rfl) (by kernel_rfl) (fun _ _ _ h => h) (Or.inl ⟨by rfl, ?_⟩) (by assumption) ?_
      rotate_left
      · intro w hSw
        (try dsimp only at hSw)
        go_simp
        all_goals (with_reducible rfl)
      change wpAnyH _ _ _ _ _ _ _ (Act.put _ (some 105) _) _
      simp only [Act.put, List.setIfInBounds_toArray, List.set_cons_zero, List.set_cons_succ]
      refine wpAnyH_ready (rs := [16]) (by kernel_rfl) (by simp) (AllReadyH.cons (o := _) rfl (fun K hK => ?_) AllReadyH.nil)
      go_simp
      (go_at_call 30; refine (sameRoads_same A6 A2 cap6 cap2 M _ (by exact (OL_6.out.rdv RoadD.cells_length).later (by (repeat' (first | (with_reducible exact Below.refl _ _) | (with_reducible assumption) | (with_reducible refine Below.alloc ?_ ?_ _) | (with_reducible refine Below.drew ?_) | (with_reducible refine below_drewN ?_ _) | (with_reducible refine Below.setCell ?_ ?_ _) | (with_reducible refine bvia ?_ (by with_reducible assumption) ?_) | go_size)) : Below w6.heap.size w6 _) (Nat.le_refl _) (by go_size)) (by exact (OM_6.out.rdv RoadD.cells_length).later (by (repeat' (first | (with_reducible exact Below.refl _ _) | (with_reducible assumption) | (with_reducible refine Below.alloc ?_ ?_ _) | (with_reducible refine Below.drew ?_) | (with_reducible refine below_drewN ?_ _) | (with_reducible refine Below.setCell ?_ ?_ _) | (with_reducible refine bvia ?_ (by with_reducible assumption) ?_) | go_size)) : Below w6.heap.size w6 _) (Nat.le_refl _) (by go_size)) hmM).mono ?_; rintro e_ W2 ⟨rfl, hb2⟩; have hz2_ := hb2.size; (try simp at hz2_); have hq2 : Below w6.heap.size w6 W2 := (by (repeat' (first | (with_reducible exact Below.refl _ _) | (with_reducible assumption) | (with_reducible refine Below.alloc ?_ ?_ _) | (with_reducible refine Below.drew ?_) | (with_reducible refine below_drewN ?_ _) | (with_reducible refine Below.setCell ?_ ?_ _) | (with_reducible refine bvia ?_ (by with_reducible assumption) ?_) | go_size))))
      have x0_2 : W2.cell? ⟨w1.heap.size, 0, none⟩ = some (.int .i64 p.fKind) := (hq2.cell (p := ⟨w1.heap.size, 0, none⟩) (by go_size)).trans x0
      have x1_2 : W2.cell? ⟨w1.heap.size, 1, none⟩ = some (.int .i64 p.fMany) := (hq2.cell (p := ⟨w1.heap.size, 1, none⟩) (by go_size)).trans x1
      refine hK.out _ _ (by exact ⟨x0_2, x1_2⟩) (fun hHeld3 => ?_)
      clear hK K hHeld2
      (try simp only [Act.put, List.setIfInBounds_toArray, List.set_cons_zero, List.set_cons_succ])
      refine wpAnyH_take (i := 17) (v := ?_) rfl (by kernel_rfl) (by kernel_rfl) (by kernel_rfl) (fun _ _ _ h => h) (Or.inl ⟨by rfl, ?_⟩) (by assumption) ?_
      rotate_left
      · intro w hSw
        (try dsimp only at hSw)
        go_simp
        all_goals (with_reducible rfl)
      change wpAnyH _ _ _ _ _ _ _ (Act.put _ (some 107) _) _
      simp only [Act.put, List.setIfInBounds_toArray, List.set_cons_zero, List.set_cons_succ]
      refine wpAnyH_take (i := 18) (v := ?_) rfl (by kernel_rfl) (by kernel_rfl) (by kernel_rfl) (fun _ _ _ h => h) (Or.inl ⟨by rfl, ?_⟩) (by assumption) ?_
      rotate_left
      · intro w hSw
        (try dsimp only at hSw)
        go_simp
        all_goals (with_reducible rfl)
      change wpAnyH _ _ _ _ _ _ _ (Act.put _ (some 108) _) _
      simp only [Act.put, List.setIfInBounds_toArray, List.set_cons_zero, List.set_cons_succ]
      refine wpAnyH_take (i := 19) (v := ?_) rfl (by kernel_rfl) (by kernel_rfl) (by kernel_rfl) (fun _ _ _ h => h) (Or.inl ⟨by rfl, ?_⟩) (by assumption) ?_
      rotate_left
      · intro w hSw
        (try dsimp only at hSw)
        go_simp
        all_goals (with_reducible rfl)
      change wpAnyH _ _ _ _ _ _ _ (Act.put _ (some 109) _) _
      simp only [Act.put, List.setIfInBounds_toArray, List.set_cons_zero, List.set_cons_succ]
      refine wpAnyH_take (i := 21) (v := ?_) rfl (by kernel_rfl) (by kernel_rfl) (by kernel_rfl) (fun _ _ _ h => h) (Or.inl ⟨by rfl, ?_⟩) (by assumption) ?_
      rotate_left
      · intro w hSw
        (try dsimp only at hSw)
        go_simp
        all_goals (with_reducible rfl)
      change wpAnyH _ _ _ _ _ _ _ (Act.put _ (some 111) _) _
      simp only [Act.put, List.setIfInBounds_toArray, List.set_cons_zero, List.set_cons_succ]
      refine wpAnyH_ready (rs := [20]) (by kernel_rfl) (by simp) (AllReadyH.cons (o := _) rfl (fun K hK => ?_) AllReadyH.nil)
      go_simp
      (go_at_call 10; refine (iPolicyOk p _).mono ?_; rintro e_ W3 ⟨rfl, hb3⟩; rw [hE.out]; have hz3_ := hb3.size; (try simp at hz3_); have hq3 : Below w6.heap.size w6 W3 := (by (repeat' (first | (with_reducible exact Below.refl _ _) | (with_reducible assumption) | (with_reducible refine Below.alloc ?_ ?_ _) | (with_reducible refine Below.drew ?_) | (with_reducible refine below_drewN ?_ _) | (with_reducible refine Below.setCell ?_ ?_ _) | (with_reducible refine bvia ?_ (by with_reducible assumption) ?_) | go_size))))
      have x0_3 : W3.cell? ⟨w1.heap.size, 0, none⟩ = some (.int .i64 p.fKind) := (hq3.cell (p := ⟨w1.heap.size, 0, none⟩) (by go_size)).trans x0
      have x1_3 : W3.cell? ⟨w1.heap.size, 1, none⟩ = some (.int .i64 p.fMany) := (hq3.cell (p := ⟨w1.heap.size, 1, none⟩) (by go_size)).trans x1
      refine hK.out _ _ (by exact ⟨x0_3, x1_3⟩) (fun hHeld4 => ?_)
      clear hK K hHeld3
      (try simp only [Act.put, List.setIfInBounds_toArray, List.set_cons_zero, List.set_cons_succ])
      refine wpAnyH_ready (rs := [22]) (by kernel_rfl) (by simp) (AllReadyH.cons (o := _) rfl (fun K hK => ?_) AllReadyH.nil)
      go_simp
      (go_at_call 8; refine (sPolicyOk p _).mono ?_; rintro e_ W4 ⟨rfl, hb4⟩; rw [hE.out]; have hz4_ := hb4.size; (try simp at hz4_); have hq4 : Below w6.heap.size w6 W4 := (by (repeat' (first | (with_reducible exact Below.refl _ _) | (with_reducible assumption) | (with_reducible refine Below.alloc ?_ ?_ _) | (with_reducible refine Below.drew ?_) | (with_reducible refine below_drewN ?_ _) | (with_reducible refine Below.setCell ?_ ?_ _) | (with_reducible refine bvia ?_ (by with_reducible assumption) ?_) | go_size))))
      have x0_4 : W4.cell? ⟨w1.heap.size, 0, none⟩ = some (.int .i64 p.fKind) := (hq4.cell (p := ⟨w1.heap.size, 0, none⟩) (by go_size)).trans x0
      have x1_4 : W4.cell? ⟨w1.heap.size, 1, none⟩ = some (.int .i64 p.fMany) := (hq4.cell (p := ⟨w1.heap.size, 1, none⟩) (by go_size)).trans x1
      refine hK.out _ _ (by exact ⟨x0_4, x1_4⟩) (fun hHeld5 => ?_)
      clear hK K hHeld4
      (try simp only [Act.put, List.setIfInBounds_toArray, List.set_cons_zero, List.set_cons_succ])
      have hB9 : Below w.heap.size w W4 := hB6.trans (hq4.mono (by go_size))
      obtain ⟨dl, hdl⟩ : ∃ d, decide ((0 : Int) < (M.length : Int)) = d := ⟨_, rfl⟩
      have HS' := Lib.hid (show dl = false → e = false ∨ O.length = 0 ∨ F.length = 0 ∨ 6 < O.length ∨ 6 < F.length from fun h => HS.out (by have := of_decide_eq_false (hdl.trans h); exact List.length_eq_zero_iff.1 (by omega)))
      clear HS
      cases dl with
      | true =>
        have hdn : decide (0 < M.length) = true := decide_eq_true (by have := of_decide_eq_true hdl; omega)
        clear HS'
        refine wpAnyH_rest (k := 23) (by kernel_rfl) (by kernel_rfl) (by kernel_rfl) (fun n => ⟨x0_4, x1_4⟩) rfl ?_
        simp only [List.drop_succ_cons, List.drop_zero]
        repeat (any_goals (first | go_big_quiet_step (fail) | quiet_step (fail) | (refine wpQuiet_step (fun K hK => ?_); go_simp; split <;> (refine hK _ ?_; clear hK K))))
        all_goals (refine wpQuiet_nil ?_; intro _ hw_; obtain ⟨nq, hw__⟩ := hw_; subst hw__)
        all_goals (go_wp2; go_ret; exact ⟨rfl, by (repeat' (first | (with_reducible exact Below.refl _ _) | (with_reducible assumption) | (with_reducible refine Below.alloc ?_ ?_ _) | (with_reducible refine Below.drew ?_) | (with_reducible refine below_drewN ?_ _) | (with_reducible refine Below.setCell ?_ ?_ _) | (with_reducible refine bvia ?_ (by with_reducible assumption) ?_) | go_size))⟩)
      | false =>
        have H := HS'.out rfl
        have hdn : decide (0 < M.length) = false := decide_eq_false (by have := of_decide_eq_false hdl; omega)
        clear HS'
        refine wpAnyH_take (i := 23) (v := ?_) rfl (by kernel_rfl) (by kernel_rfl) (by kernel_rfl) (fun _ _ _ h => h) (Or.inl ⟨by rfl, ?_⟩) (by assumption) ?_
        rotate_left
        · intro w hSw
          (try dsimp only at hSw)
          go_simp
          all_goals (with_reducible rfl)
        change wpAnyH _ _ _ _ _ _ _ (Act.put _ (some 113) _) _
        simp only [Act.put, List.setIfInBounds_toArray, List.set_cons_zero, List.set_cons_succ]
        refine wpAnyH_take (i := 24) (v := ?_) rfl (by kernel_rfl) (by kernel_rfl) (by kernel_rfl) (fun _ _ _ h => h) (Or.inl ⟨by rfl, ?_⟩) (by assumption) ?_
        rotate_left
        · intro w hSw
          (try dsimp only at hSw)
          go_simp
          all_goals (with_reducible rfl)
        change wpAnyH _ _ _ _ _ _ _ (Act.put _ (some 114) _) _
        simp only [Act.put, List.setIfInBounds_toArray, List.set_cons_zero, List.set_cons_succ]
        refine wpAnyH_take (i := 25) (v := ?_) rfl (by kernel_rfl) (by kernel_rfl) (by kernel_rfl) (fun _ _ _ h => h) (Or.inl ⟨by rfl, ?_⟩) (by assumption) ?_
        rotate_left
        · intro w hSw
          (try dsimp only at hSw)
          go_simp
          all_goals (with_reducible rfl)
        change wpAnyH _ _ _ _ _ _ _ (Act.put _ (some 115) _) _
        simp only [Act.put, List.setIfInBounds_toArray, List.set_cons_zero, List.set_cons_succ]
        refine wpAnyH_take (i := 26) (v := ?_) rfl (by kernel_rfl) (by kernel_rfl) (by kernel_rfl) (fun _ _ _ h => h) (Or.inl ⟨by rfl, ?_⟩) (by assumption) ?_
        rotate_left
        · intro w hSw
          (try dsimp only at hSw)
          go_simp
          all_goals (with_reducible rfl)
        change wpAnyH _ _ _ _ _ _ _ (Act.put _ (some 116) _) _
        simp only [Act.put, List.setIfInBounds_toArray, List.set_cons_zero, List.set_cons_succ]
        refine wpAnyH_take (i := 27) (v := ?_) rfl (by kernel_rfl) (by kernel_rfl) (by kernel_rfl) (fun _ _ _ h => h) (Or.inl ⟨by rfl, ?_⟩) (by assumption) ?_
        rotate_left
        · intro w hSw
          (try dsimp only at hSw)
          go_simp
          all_goals (with_reducible rfl)
        change wpAnyH _ _ _ _ _ _ _ (Act.put _ (some 117) _) _
        simp only [Act.put, List.setIfInBounds_toArray, List.set_cons_zero, List.set_cons_succ]
        refine wpAnyH_take (i := 28) (v := ?_) rfl (by kernel_rfl) (by kernel_rfl) (by kernel_rfl) (fun _ _ _ h => h) (Or.inl ⟨by rfl, ?_⟩) (by assumption) ?_
        rotate_left
        · intro w hSw
          (try dsimp only at hSw)
          go_simp
          all_goals (with_reducible rfl)
        change wpAnyH _ _ _ _ _ _ _ (Act.put _ (some 118) _) _
        simp only [Act.put, List.setIfInBounds_toArray, List.set_cons_zero, List.set_cons_succ]
        refine wpAnyH_take (i := 29) (v := ?_) rfl (by kernel_rfl) (by kernel_rfl) (by kernel_rfl) (fun _ _ _ h => h) (Or.inl ⟨by rfl, ?_⟩) (by assumption) ?_
        rotate_left
        · intro w hSw
          (try dsimp only at hSw)
          go_simp
          all_goals (with_reducible rfl)
        change wpAnyH _ _ _ _ _ _ _ (Act.put _ (some 119) _) _
        simp only [Act.put, List.setIfInBounds_toArray, List.set_cons_zero, List.set_cons_succ]
        refine wpAnyH_take (i := 30) (v := ?_) rfl (by kernel_rfl) (by kernel_rfl) (by kernel_rfl) (fun _ _ _ h => h) (Or.inl ⟨by rfl, ?_⟩) (by assumption) ?_
        rotate_left
        · intro w hSw
          (try dsimp only at hSw)
          go_simp
          all_goals (with_reducible rfl)
        change wpAnyH _ _ _ _ _ _ _ (Act.put _ (some 120) _) _
        simp only [Act.put, List.setIfInBounds_toArray, List.set_cons_zero, List.set_cons_succ]
        refine wpAnyH_ready (rs := [31]) (by kernel_rfl) (by simp) (AllReadyH.cons (o := _) rfl (fun K hK => ?_) AllReadyH.nil)
        go_simp
        (go_at_call 8; refine (sPolicyOk p _).mono ?_; rintro e_ W5 ⟨rfl, hb5⟩; rw [hE.out]; have hz5_ := hb5.size; (try simp at hz5_); have hq5 : Below w6.heap.size w6 W5 := (by (repeat' (first | (with_reducible exact Below.refl _ _) | (with_reducible assumption) | (with_reducible refine Below.alloc ?_ ?_ _) | (with_reducible refine Below.drew ?_) | (with_reducible refine below_drewN ?_ _) | (with_reducible refine Below.setCell ?_ ?_ _) | (with_reducible refine bvia ?_ (by with_reducible assumption) ?_) | go_size))))
        have x0_5 : W5.cell? ⟨w1.heap.size, 0, none⟩ = some (.int .i64 p.fKind) := (hq5.cell (p := ⟨w1.heap.size, 0, none⟩) (by go_size)).trans x0
        have x1_5 : W5.cell? ⟨w1.heap.size, 1, none⟩ = some (.int .i64 p.fMany) := (hq5.cell (p := ⟨w1.heap.size, 1, none⟩) (by go_size)).trans x1
        refine hK.out _ _ (by exact ⟨x0_5, x1_5⟩) (fun hHeld6 => ?_)
        clear hK K hHeld5
        (try simp only [Act.put, List.setIfInBounds_toArray, List.set_cons_zero, List.set_cons_succ])
        have hB9' : Below w.heap.size w W5 := hB6.trans (hq5.mono (by go_size))
        clear hB9
        have H' := Lib.hid H
        clear H
        cases e with
        | false =>
          clear H'
          refine wpAnyH_rest (k := 32) (by kernel_rfl) (by kernel_rfl) (by kernel_rfl) (fun n => ⟨x0_5, x1_5⟩) rfl ?_
          simp only [List.drop_succ_cons, List.drop_zero]
          repeat (any_goals (first | go_big_quiet_step (fail) | quiet_step (fail) | (refine wpQuiet_step (fun K hK => ?_); go_simp; split <;> (refine hK _ ?_; clear hK K))))
          all_goals (refine wpQuiet_nil ?_; intro _ hw_; obtain ⟨nq, hw__⟩ := hw_; subst hw__)
          all_goals (go_wp2; go_ret; exact ⟨rfl, by (repeat' (first | (with_reducible exact Below.refl _ _) | (with_reducible assumption) | (with_reducible refine Below.alloc ?_ ?_ _) | (with_reducible refine Below.drew ?_) | (with_reducible refine below_drewN ?_ _) | (with_reducible refine Below.setCell ?_ ?_ _) | (with_reducible refine bvia ?_ (by with_reducible assumption) ?_) | go_size))⟩)
        | true =>
          have H : O.length = 0 ∨ F.length = 0 ∨ 6 < O.length ∨ 6 < F.length := H'.out.resolve_left (by decide)
          clear H'
          by_cases h1 : O.length = 0
          · have e1 : ((O.length : Int) == 0) = true := by simpa using h1
            clear H
            refine wpAnyH_rest (k := 32) (by kernel_rfl) (by kernel_rfl) (by kernel_rfl) (fun n => ⟨x0_5, x1_5⟩) rfl ?_
            simp only [List.drop_succ_cons, List.drop_zero]
            repeat (any_goals (first | go_big_quiet_step (fail) | quiet_step (fail) | (refine wpQuiet_step (fun K hK => ?_); go_simp; split <;> (refine hK _ ?_; clear hK K))))
            all_goals (refine wpQuiet_nil ?_; intro _ hw_; obtain ⟨nq, hw__⟩ := hw_; subst hw__)
            all_goals (go_wp2; go_ret; exact ⟨rfl, by (repeat' (first | (with_reducible exact Below.refl _ _) | (with_reducible assumption) | (with_reducible refine Below.alloc ?_ ?_ _) | (with_reducible refine Below.drew ?_) | (with_reducible refine below_drewN ?_ _) | (with_reducible refine Below.setCell ?_ ?_ _) | (with_reducible refine bvia ?_ (by with_reducible assumption) ?_) | go_size))⟩)
          have e1 : ((O.length : Int) == 0) = false := by simpa using h1
          by_cases h2 : F.length = 0
          · have e2 : ((F.length : Int) == 0) = true := by simpa using h2
            clear H
            refine wpAnyH_rest (k := 32) (by kernel_rfl) (by kernel_rfl) (by kernel_rfl) (fun n => ⟨x0_5, x1_5⟩) rfl ?_
            simp only [List.drop_succ_cons, List.drop_zero]
            repeat (any_goals (first | go_big_quiet_step (fail) | quiet_step (fail) | (refine wpQuiet_step (fun K hK => ?_); go_simp; split <;> (refine hK _ ?_; clear hK K))))
            all_goals (refine wpQuiet_nil ?_; intro _ hw_; obtain ⟨nq, hw__⟩ := hw_; subst hw__)
            all_goals (go_wp2; go_ret; exact ⟨rfl, by (repeat' (first | (with_reducible exact Below.refl _ _) | (with_reducible assumption) | (with_reducible refine Below.alloc ?_ ?_ _) | (with_reducible refine Below.drew ?_) | (with_reducible refine below_drewN ?_ _) | (with_reducible refine Below.setCell ?_ ?_ _) | (with_reducible refine bvia ?_ (by with_reducible assumption) ?_) | go_size))⟩)
          have e2 : ((F.length : Int) == 0) = false := by simpa using h2
          by_cases h3 : 6 < O.length
          · have e3 : decide ((6 : Int) < (O.length : Int)) = true := decide_eq_true (by omega)
            clear H
            refine wpAnyH_rest (k := 32) (by kernel_rfl) (by kernel_rfl) (by kernel_rfl) (fun n => ⟨x0_5, x1_5⟩) rfl ?_
            simp only [List.drop_succ_cons, List.drop_zero]
            repeat (any_goals (first | go_big_quiet_step (fail) | quiet_step (fail) | (refine wpQuiet_step (fun K hK => ?_); go_simp; split <;> (refine hK _ ?_; clear hK K))))
            all_goals (refine wpQuiet_nil ?_; intro _ hw_; obtain ⟨nq, hw__⟩ := hw_; subst hw__)
            all_goals (go_wp2; go_ret; exact ⟨rfl, by (repeat' (first | (with_reducible exact Below.refl _ _) | (with_reducible assumption) | (with_reducible refine Below.alloc ?_ ?_ _) | (with_reducible refine Below.drew ?_) | (with_reducible refine below_drewN ?_ _) | (with_reducible refine Below.setCell ?_ ?_ _) | (with_reducible refine bvia ?_ (by with_reducible assumption) ?_) | go_size))⟩)
          have e3 : decide ((6 : Int) < (O.length : Int)) = false := decide_eq_false (by omega)
          have e4 : decide ((6 : Int) < (F.length : Int)) = true := decide_eq_true (by omega)
          clear H
          refine wpAnyH_rest (k := 32) (by kernel_rfl) (by kernel_rfl) (by kernel_rfl) (fun n => ⟨x0_5, x1_5⟩) rfl ?_
          simp only [List.drop_succ_cons, List.drop_zero]
          repeat (any_goals (first | go_big_quiet_step (fail) | quiet_step (fail) | (refine wpQuiet_step (fun K hK => ?_); go_simp; split <;> (refine hK _ ?_; clear hK K))))
          all_goals (refine wpQuiet_nil ?_; intro _ hw_; obtain ⟨nq, hw__⟩ := hw_; subst hw__)
          all_goals (go_wp2; go_ret; exact ⟨rfl, by (repeat' (first | (with_reducible exact Below.refl _ _) | (with_reducible assumption) | (with_reducible refine Below.alloc ?_ ?_ _) | (with_reducible refine Below.drew ?_) | (with_reducible refine below_drewN ?_ _) | (with_reducible refine Below.setCell ?_ ?_ _) | (with_reducible refine bvia ?_ (by with_reducible assumption) ?_) | go_size))⟩)
end Go.Proofs.Ytfhfanbigjpfaaa
