/- The walk of FnPieces: for every input. Written by program (fnpieces.py). -/
import Derived.Test.YtpjbnfpadbknpaaPX
import Derived.Deep.RegionHeld3
import Derived.StillTailTactics
import Derived.Deep.DrawnRows
namespace Go.Proofs.Ytpjbnfpadbknpaa
set_option linter.unusedSimpArgs false
set_option linter.unusedVariables false
open Go.RowKit
set_option maxRecDepth 100000 in
set_option maxHeartbeats 16000000 in
theorem walk_FnPieces (A0 : Option Addr) (cap0 : Nat) (L0 : List Int) (w : World) (hle : L0.length ≤ cap0) (hcap : cap0 ≤ maxLen) (_ : ∀ x ∈ L0, (Lit.int .u8 x).wf = true) (hr : Rd bcells 1 w 0 w.heap.size A0 L0) :
    Calls Try.prog 8 #[.slice A0 L0.length cap0] w fun e w' => e = .returned (.bool true) ∧ Below w.heap.size w w' := by
  have hm0 : L0.length ≤ maxLen := Nat.le_trans hle hcap
  by_cases hbig : (1048576 : Int) < L0.length
  · have d0 : decide ((1048576 : Int) < (L0.length : Int)) = true := decide_eq_true hbig
    go_enter Try.func8, Try.ntmps8
    go_wp2_with fail
    refine (big_any _ _ _ _ hm0).mono ?_
    rintro e w1 ⟨rfl, rfl⟩
    go_wp2
    go_ret
    exact ⟨rfl, Below.refl _ _⟩
  have d0 : decide ((1048576 : Int) < (L0.length : Int)) = false := decide_eq_false hbig
  go_enter Try.func8, Try.ntmps8
  go_wp2_with fail
  refine (big_any _ _ _ _ hm0).mono ?_
  rintro e w1 ⟨rfl, rfl⟩
  go_wp2_with fail
  refine (DrawCuts_some A0 cap0 L0 _ hr (by omega)).mono ?_
  rintro e w1 ⟨T, vM, M, rfl, hT60, hT0, OM1, HC, hb1⟩
  obtain ⟨AM, kM, rfl, hleM, hcmM, -⟩ := OM1.rd0 PieceD.cells_length
  have hMT := HC.len
  have hz1 := hb1.size
  have HC := Lib.hid HC
  have HM1 := Lib.hid OM1
  obtain ⟨b, hbe⟩ : ∃ b, w1.heap.size = b := ⟨_, rfl⟩
  have hbe1 : w1.heap.size ≤ b := by omega
  have hbe2 : b ≤ w1.heap.size := by omega
  have HB1 := Lib.hid hb1
  clear OM1 hb1
  go_wp2_with fail
  go_loopw [7] (fun a wr => ∃ (k : Nat) (S : ByteArray) (A : Option Addr) (cp : Nat) (L : List PieceD) (S' : ByteArray) (A' : Option Addr) (cp' : Nat) (L' : List PieceD), a = .int .i64 k ∧ k ≤ M.length ∧ PX wr (b + 2) b S A cp L ∧ PX wr (b + 2) (b + 1) S' A' cp' L' ∧ Hid (Puts T S L M (fun j => j < k)) ∧ Hid (Puts T S' L' M (fun j => M.length ≤ j + k)) ∧ Below b w1 wr) (fun a _ => M.length - (intOf a).toNat)
  case atStart =>
    refine ⟨0, ⟨#[]⟩, none, 0, [], ⟨#[]⟩, none, 0, [], rfl, Nat.zero_le _, ⟨by simp; omega, by omega, ?_, ?_, ?_, fun o => ?_, Own.nil _ _ _⟩, ⟨by simp; omega, by omega, ?_, ?_, ?_, fun o => ?_, Own.nil _ _ _⟩, ?_, ?_, ?_⟩
    · rw [← hbe]; simp [go_sem]
    · rw [← hbe]; simp [go_sem]
    · rw [← hbe]; simp [go_sem]
    · rw [← hbe]; simp [go_sem]
    · rw [← hbe]; simp [go_sem]
    · rw [← hbe]; simp [go_sem]
    · rw [← hbe]; simp [go_sem]
    · rw [← hbe]; simp [go_sem]
    · exact ⟨good_nil T, fun j hj h => by omega⟩
    · exact ⟨good_nil T, fun j hj h => by omega⟩
    · (repeat' (first | (with_reducible exact Below.refl _ _) | (with_reducible assumption) | (with_reducible refine Below.alloc ?_ ?_ _) | (with_reducible refine Below.drew ?_) | (with_reducible refine below_drewN ?_ _) | (with_reducible refine Below.setCell ?_ ?_ _) | (with_reducible refine bvia ?_ (by with_reducible assumption) ?_) | go_size))
  case round =>
    obtain ⟨k, SP_1, AP_1, CP_1, LP_1, SQ_1, AQ_1, CQ_1, LQ_1, rfl, hk, hP, hQ, hPP_1, hPQ_1, hB_0⟩ := hrel
    obtain ⟨W1, hW1⟩ : ∃ x, x = wr := ⟨_, rfl⟩
    subst hW1
    rename Below b w1 W1 => hB_1
    have hBz := hB_1.size
    have HP_1 := Lib.hid hP
    have HQ_1 := Lib.hid hQ
    clear hP hQ
    by_cases hlt : k < M.length
    · obtain ⟨g, o, hgo, _, hg, hcell⟩ := (HM1.out.rdv PieceD.cells_length).at_ (by omega)
      subst hgo
      have HCE := Lib.hid hcell
      clear hcell
      obtain ⟨q, hqq⟩ : ∃ q : Nat, (M.length : Int) - 1 - k = q := ⟨M.length - 1 - k, by omega⟩
      have hw1 : IntKind.i64.wrap ((M.length : Int) - 1) = (M.length : Int) - 1 := IntWalk.i64_in _ (by omega)
      have hw2 : IntKind.i64.wrap (q : Int) = q := IntWalk.i64_in _ (by omega)
      have hq0 : (0 : Int) ≤ (q : Int) := by omega
      have hq1 : (q : Int) < (M.length : Int) := by omega
      have hki : (k : Int) < (M.length : Int) := by omega
      have hk0 : (0 : Int) ≤ (k : Int) := by omega
      have c0 := HP_1.out.c0
      have c1 := HP_1.out.c1
      have c2 := HP_1.out.c2
      have hl := HP_1.out.lt
      have hlo := HQ_1.out.lt
      obtain ⟨hln, hsz, htx⟩ := (hPP_1.out).bd hT60 (HC.out) (j := k) (by omega)
      obtain ⟨SP_2, hS⟩ : ∃ x, (putV 0 SP_1 LP_1 M[k].fAt M[k].fText).1 = x := ⟨_, rfl⟩
      obtain ⟨LP_2, hL⟩ : ∃ x, (putV 0 SP_1 LP_1 M[k].fAt M[k].fText).2 = x := ⟨_, rfl⟩
      have hPP_2 : Hid (Puts T SP_2 LP_2 M (fun j => j < k + 1)) := by
        have := (hPP_1.out).put (Q := fun j => j < k + 1) hT60 (j := k) (by omega) HC.out.of (by intro i hi; omega)
        rw [hS, hL] at this
        exact this
      have HS := Lib.hid hS
      have HL := Lib.hid hL
      clear hS hL
      have hgW : g < W1.heap.size := by omega
      have m0 : W1.cell? ⟨g, o + k * 2, none⟩ = some (.int .i64 M[k].fAt) := by rw [hB_1.cell (p := ⟨g, o + k * 2, none⟩) (by show g < b; omega)]; have := HCE.out k (by omega) 0 (by decide); simpa [PieceD.cells] using this
      have m1 : W1.cell? ⟨g, o + k * 2 + 1, none⟩ = some (.string M[k].fText) := by rw [hB_1.cell (p := ⟨g, o + k * 2 + 1, none⟩) (by show g < b; omega)]; have := HCE.out k (by omega) 1 (by decide); simpa [PieceD.cells] using this
      go_wp2_with fail
      go_still_tail 11, (by kernel_rfl)
      go_wp2_with fail
      refine (iPutPiece 0 SP_1 AP_1 CP_1 LP_1 M[k].fAt M[k].fText _ (by exact HP_1.out.drew.rd) hsz hln htx).mono ?_
      rintro e w5 ⟨AP_2, CP_2, rfl, O5, hb5⟩
      rw [HS.out, HL.out]
      rw [HL.out] at O5
      have hB5 : Below W1.heap.size W1 w5 := by (repeat' (first | (with_reducible exact Below.refl _ _) | (with_reducible assumption) | (with_reducible refine Below.alloc ?_ ?_ _) | (with_reducible refine Below.drew ?_) | (with_reducible refine below_drewN ?_ _) | (with_reducible refine Below.setCell ?_ ?_ _) | (with_reducible refine bvia ?_ (by with_reducible assumption) ?_) | go_size))
      have hz5 := hB5.size
      have HM5 := HP_1.out.next hB5
      have HO5 := HQ_1.out.next hB5
      have hBw5 : Below b w1 w5 := hB_1.trans (hB5.mono (by omega))
      have c0_5 := HM5.c0
      have c1_5 := HM5.c1
      have c2_5 := HM5.c2
      have f0_5 := HM5.fr 0
      have f1_5 := HM5.fr 1
      have f2_5 := HM5.fr 2
      clear c0 c1 c2 m0 m1 hb5
      go_wp2_with fail
      refine wp_world _ (fun W => PX W (b + 2) b SP_2 AP_2 CP_2 LP_2 ∧ PX W (b + 2) (b + 1) SQ_1 AQ_1 CQ_1 LQ_1 ∧ Below b w1 W) ⟨(HM5.set (O5.up (show b + 2 ≤ W1.heap.size by omega))), (((HO5.other (by show b ≠ b + 1; omega) (by show b < b + 2; omega) _).other (by show b ≠ b + 1; omega) (by show b < b + 2; omega) _).other (by show b ≠ b + 1; omega) (by show b < b + 2; omega) _), by (repeat' (first | (with_reducible exact Below.refl _ _) | (with_reducible assumption) | (with_reducible refine Below.alloc ?_ ?_ _) | (with_reducible refine Below.drew ?_) | (with_reducible refine below_drewN ?_ _) | (with_reducible refine Below.setCell ?_ ?_ _) | (with_reducible refine bvia ?_ (by with_reducible assumption) ?_) | go_size))⟩ ?_
      clear HM5 HO5 hBw5 c0_5 c1_5 c2_5 f0_5 f1_5 f2_5 HS HL O5 hB5 hz5
      rintro W2 ⟨hP, hQ, hB_2⟩
      have hz_2 := hB_2.size
      have HQ_2 := Lib.hid hQ
      have HP_2 := Lib.hid hP
      clear hP hQ HP_1 HQ_1 hB_1
      have c0 := HQ_2.out.c0
      have c1 := HQ_2.out.c1
      have c2 := HQ_2.out.c2
      have hl := HQ_2.out.lt
      have hlo := HP_2.out.lt
      obtain ⟨hln, hsz, htx⟩ := (hPQ_1.out).bd hT60 (HC.out) (j := q) (by omega)
      obtain ⟨SQ_2, hS⟩ : ∃ x, (putV 0 SQ_1 LQ_1 M[q].fAt M[q].fText).1 = x := ⟨_, rfl⟩
      obtain ⟨LQ_2, hL⟩ : ∃ x, (putV 0 SQ_1 LQ_1 M[q].fAt M[q].fText).2 = x := ⟨_, rfl⟩
      have hPQ_2 : Hid (Puts T SQ_2 LQ_2 M (fun j => M.length ≤ j + (k + 1))) := by
        have := (hPQ_1.out).put (Q := fun j => M.length ≤ j + (k + 1)) hT60 (j := q) (by omega) HC.out.of (by intro i hi; omega)
        rw [hS, hL] at this
        exact this
      have HS := Lib.hid hS
      have HL := Lib.hid hL
      clear hS hL
      have hgW : g < W2.heap.size := by omega
      have m0 : W2.cell? ⟨g, o + q * 2, none⟩ = some (.int .i64 M[q].fAt) := by rw [hB_2.cell (p := ⟨g, o + q * 2, none⟩) (by show g < b; omega)]; have := HCE.out q (by omega) 0 (by decide); simpa [PieceD.cells] using this
      have m1 : W2.cell? ⟨g, o + q * 2 + 1, none⟩ = some (.string M[q].fText) := by rw [hB_2.cell (p := ⟨g, o + q * 2 + 1, none⟩) (by show g < b; omega)]; have := HCE.out q (by omega) 1 (by decide); simpa [PieceD.cells] using this
      go_wp2_with fail
      go_still_tail 19, (by kernel_rfl)
      go_wp2_with fail
      refine (iPutPiece 0 SQ_1 AQ_1 CQ_1 LQ_1 M[q].fAt M[q].fText _ (by exact HQ_2.out.drew.rd) hsz hln htx).mono ?_
      rintro e w5 ⟨AQ_2, CQ_2, rfl, O5, hb5⟩
      rw [HS.out, HL.out]
      rw [HL.out] at O5
      have hB5 : Below W2.heap.size W2 w5 := by (repeat' (first | (with_reducible exact Below.refl _ _) | (with_reducible assumption) | (with_reducible refine Below.alloc ?_ ?_ _) | (with_reducible refine Below.drew ?_) | (with_reducible refine below_drewN ?_ _) | (with_reducible refine Below.setCell ?_ ?_ _) | (with_reducible refine bvia ?_ (by with_reducible assumption) ?_) | go_size))
      have hz5 := hB5.size
      have HM5 := HQ_2.out.next hB5
      have HO5 := HP_2.out.next hB5
      have hBw5 : Below b w1 w5 := hB_2.trans (hB5.mono (by omega))
      have c0_5 := HM5.c0
      have c1_5 := HM5.c1
      have c2_5 := HM5.c2
      have f0_5 := HM5.fr 0
      have f1_5 := HM5.fr 1
      have f2_5 := HM5.fr 2
      clear c0 c1 c2 m0 m1 hb5
      go_wp2_with fail
      refine wp_world _ (fun W => PX W (b + 2) b SP_2 AP_2 CP_2 LP_2 ∧ PX W (b + 2) (b + 1) SQ_2 AQ_2 CQ_2 LQ_2 ∧ Below b w1 W) ⟨(((HO5.other (by show b + 1 ≠ b; omega) (by show (b + 1) < b + 2; omega) _).other (by show b + 1 ≠ b; omega) (by show (b + 1) < b + 2; omega) _).other (by show b + 1 ≠ b; omega) (by show (b + 1) < b + 2; omega) _), (HM5.set (O5.up (show b + 2 ≤ W2.heap.size by omega))), by (repeat' (first | (with_reducible exact Below.refl _ _) | (with_reducible assumption) | (with_reducible refine Below.alloc ?_ ?_ _) | (with_reducible refine Below.drew ?_) | (with_reducible refine below_drewN ?_ _) | (with_reducible refine Below.setCell ?_ ?_ _) | (with_reducible refine bvia ?_ (by with_reducible assumption) ?_) | go_size))⟩ ?_
      clear HM5 HO5 hBw5 c0_5 c1_5 c2_5 f0_5 f1_5 f2_5 HS HL O5 hB5 hz5
      rintro W3 ⟨hP, hQ, hB_3⟩
      have hz_3 := hB_3.size
      have HP_3 := Lib.hid hP
      have HQ_3 := Lib.hid hQ
      clear hP hQ HQ_2 HP_2 hB_2
      have c0 := HQ_3.out.c0
      have c1 := HQ_3.out.c1
      have c2 := HQ_3.out.c2
      have hl := HQ_3.out.lt
      have hlo := HP_3.out.lt
      obtain ⟨hln, hsz, htx⟩ := (hPQ_2.out).bd hT60 (HC.out) (j := q) (by omega)
      obtain ⟨SQ_3, hS⟩ : ∃ x, (putV 0 SQ_2 LQ_2 M[q].fAt M[q].fText).1 = x := ⟨_, rfl⟩
      obtain ⟨LQ_3, hL⟩ : ∃ x, (putV 0 SQ_2 LQ_2 M[q].fAt M[q].fText).2 = x := ⟨_, rfl⟩
      have hPQ_3 : Hid (Puts T SQ_3 LQ_3 M (fun j => M.length ≤ j + (k + 1))) := by
        have := (hPQ_2.out).put (Q := fun j => M.length ≤ j + (k + 1)) hT60 (j := q) (by omega) HC.out.of (by intro i hi; omega)
        rw [hS, hL] at this
        exact this
      have HS := Lib.hid hS
      have HL := Lib.hid hL
      clear hS hL
      have hgW : g < W3.heap.size := by omega
      have m0 : W3.cell? ⟨g, o + q * 2, none⟩ = some (.int .i64 M[q].fAt) := by rw [hB_3.cell (p := ⟨g, o + q * 2, none⟩) (by show g < b; omega)]; have := HCE.out q (by omega) 0 (by decide); simpa [PieceD.cells] using this
      have m1 : W3.cell? ⟨g, o + q * 2 + 1, none⟩ = some (.string M[q].fText) := by rw [hB_3.cell (p := ⟨g, o + q * 2 + 1, none⟩) (by show g < b; omega)]; have := HCE.out q (by omega) 1 (by decide); simpa [PieceD.cells] using this
      go_wp2_with fail
      go_still_tail 19, (by kernel_rfl)
      go_wp2_with fail
      refine (iPutPiece 0 SQ_2 AQ_2 CQ_2 LQ_2 M[q].fAt M[q].fText _ (by exact HQ_3.out.drew.rd) hsz hln htx).mono ?_
      rintro e w5 ⟨AQ_3, CQ_3, rfl, O5, hb5⟩
      rw [HS.out, HL.out]
      rw [HL.out] at O5
      have hB5 : Below W3.heap.size W3 w5 := by (repeat' (first | (with_reducible exact Below.refl _ _) | (with_reducible assumption) | (with_reducible refine Below.alloc ?_ ?_ _) | (with_reducible refine Below.drew ?_) | (with_reducible refine below_drewN ?_ _) | (with_reducible refine Below.setCell ?_ ?_ _) | (with_reducible refine bvia ?_ (by with_reducible assumption) ?_) | go_size))
      have hz5 := hB5.size
      have HM5 := HQ_3.out.next hB5
      have HO5 := HP_3.out.next hB5
      have hBw5 : Below b w1 w5 := hB_3.trans (hB5.mono (by omega))
      have c0_5 := HM5.c0
      have c1_5 := HM5.c1
      have c2_5 := HM5.c2
      have f0_5 := HM5.fr 0
      have f1_5 := HM5.fr 1
      have f2_5 := HM5.fr 2
      clear c0 c1 c2 m0 m1 hb5
      go_upto_region 12 with (fail)
      refine wp_world _ (fun W => PX W (b + 2) b SP_2 AP_2 CP_2 LP_2 ∧ PX W (b + 2) (b + 1) SQ_3 AQ_3 CQ_3 LQ_3 ∧ Below b w1 W) ⟨(((HO5.other (by show b + 1 ≠ b; omega) (by show (b + 1) < b + 2; omega) _).other (by show b + 1 ≠ b; omega) (by show (b + 1) < b + 2; omega) _).other (by show b + 1 ≠ b; omega) (by show (b + 1) < b + 2; omega) _), (HM5.set (O5.up (show b + 2 ≤ W3.heap.size by omega))), by (repeat' (first | (with_reducible exact Below.refl _ _) | (with_reducible assumption) | (with_reducible refine Below.alloc ?_ ?_ _) | (with_reducible refine Below.drew ?_) | (with_reducible refine below_drewN ?_ _) | (with_reducible refine Below.setCell ?_ ?_ _) | (with_reducible refine bvia ?_ (by with_reducible assumption) ?_) | go_size))⟩ ?_
      clear HM5 HO5 hBw5 c0_5 c1_5 c2_5 f0_5 f1_5 f2_5 HS HL O5 hB5 hz5
      rintro W4 ⟨hP, hQ, hB_4⟩
      have hz_4 := hB_4.size
      have HP_4 := Lib.hid hP
      have HQ_4 := Lib.hid hQ
      clear hP hQ HQ_3 HP_3 hB_3
      obtain ⟨hln, hsz, -⟩ := (hPP_2.out).bd hT60 (HC.out) (j := k) (by omega)
      have hok := Lib.hid (good_ok (hPP_2.out).good hT60)
      obtain ⟨hh, hhe⟩ : ∃ n : Nat, SP_2.size + sumT LP_2 = n := ⟨_, rfl⟩
      have hhl : hh ≤ 200 := by obtain ⟨-, -, -, h4, -⟩ := pok_parts hok.out; omega
      have HH : Hid (heldV SP_2 LP_2 = (hh : Int)) := by unfold Hid heldV; rw [hhe]
      clear hhe
      have c0 := HP_4.out.c0
      have c1 := HP_4.out.c1
      have c2 := HP_4.out.c2
      go_wp2_with fail
      refine (sPiecesOk 0 SP_2 AP_2 CP_2 LP_2 _ (by exact HP_4.out.rd) hsz (by unfold maxLen; omega)).mono ?_
      rintro e W5 ⟨rfl, hb5⟩
      rw [hok.out]
      have HP_5 := Lib.hid (HP_4.out.next hb5)
      have HQ_5 := Lib.hid (HQ_4.out.next hb5)
      have hB_5 := hB_4.trans (hb5.mono (by omega))
      clear hb5 HP_4 HQ_4 hB_4 c0 c1 c2
      have hz_5 := hB_5.size
      have c0 := HP_5.out.c0
      have c1 := HP_5.out.c1
      have c2 := HP_5.out.c2
      go_wp2_with fail
      refine (iHeldOf 0 SP_2 AP_2 CP_2 LP_2 _ (by exact HP_5.out.rd) hsz (by unfold maxLen; omega)).mono ?_
      rintro e W6 ⟨rfl, hb6⟩
      rw [HH.out]
      have HP_6 := HP_5.out.next hb6
      have HQ_6 := HQ_5.out.next hb6
      have hB_6 := hB_5.trans (hb6.mono (by omega))
      clear hb6 HP_5 HQ_5 hB_5 c0 c1 c2
      go_wp2
      go_roundw
      case rel => exact ⟨k + 1, SP_2, AP_2, CP_2, LP_2, SQ_3, AQ_3, CQ_3, LQ_3, by go_num, by omega, HP_6, HQ_6, hPP_2, hPQ_3, hB_6⟩
      case measure => simp [intOf]; omega
    · obtain ⟨hS1, hL1⟩ := (hPP_1.out).done (fun j hj => by show j < k; omega) HC.out
      obtain ⟨hS2, hL2⟩ := (hPQ_1.out).done (fun j hj => by show M.length ≤ j + k; omega) HC.out
      have HP_2 : Hid (PX W1 (b + 2) b T AP_1 CP_1 []) := by have := HP_1.out; rw [hS1, hL1] at this; exact this
      have HQ_2 : Hid (PX W1 (b + 2) (b + 1) T AQ_1 CQ_1 []) := by have := HQ_1.out; rw [hS2, hL2] at this; exact this
      clear HP_1 HQ_1 hPP_1 hPQ_1 hS1 hL1 hS2 hL2
      have hki : ¬ ((k : Int) < (M.length : Int)) := by omega
      have hsz : T.size + sumT [] ≤ 4611686018427387904 := by show T.size + 0 ≤ _; omega
      have hok : piecesOk 0 T [] = true := pok_of (by omega) (by omega) (by simp) (by show T.size + 0 ≤ 200; omega) trivial
      have hn : tkN T (T.size : Int) = T.size := by unfold tkN; omega
      have htk : tkOk 0 T [] (T.size : Int) = true := by unfold tkOk; rw [hok, hn, decide_eq_true (show (0 : Int) ≤ (T.size : Int) by omega), decide_eq_true (show (0 : Int) + (T.size : Int) ≤ 1000000000 by omega)]; rfl
      obtain ⟨t1, t2, t3⟩ := tk_yes htk hn
      rw [show (0 : Int) + (T.size : Int) = T.size by omega] at t1
      rw [show T.extract T.size T.size = ByteArray.empty by simp] at t2
      rw [ByteArray.extract_zero_size] at t3
      have HT1 := Lib.hid t1
      have HT2 := Lib.hid t2
      have HT3 := Lib.hid t3
      have HN1 : Hid (nextV 0 T = (T.size : Int)) := by unfold Hid nextV wrap64; omega
      have HN2 : Hid (nextV (T.size : Int) ByteArray.empty = (T.size : Int)) := by show wrap64 ((T.size : Int) + ((0 : Nat) : Int)) = _; unfold wrap64; omega
      have HH : Hid (heldV ByteArray.empty [] = 0) := rfl
      clear t1 t2 t3 htk hok hn
      have c0 := HP_2.out.c0
      have c1 := HP_2.out.c1
      have c2 := HP_2.out.c2
      simp only [List.length_nil] at c2
      go_wp2_with fail
      refine (iTakeReady 0 T AP_1 CP_1 [] (T.size : Int) _ (by exact HP_2.out.rd) hsz (by simp)).mono ?_
      rintro e W2 ⟨A3, k3, rfl, O3, hb2⟩
      rw [HT1.out, HT2.out, HT3.out]
      have hz2 := hb2.size
      have hlp := HP_2.out.lt
      have hlq := HQ_2.out.lt
      have HP_3 := HP_2.out.next hb2
      have HQ_3 := HQ_2.out.next hb2
      have hB_2 := hB_1.trans (hb2.mono (by omega))
      have p0 := HP_3.c0
      have p1 := HP_3.c1
      have p2 := HP_3.c2
      have q1 := HQ_3.c1
      have hlp3 := HP_3.lt
      have hlq3 := HQ_3.lt
      have hHP := Lib.hid HP_3
      have hO3 := Lib.hid O3
      simp only [List.length_nil] at p2
      clear hb2 HP_2 HQ_2 hB_1 c0 c1 c2 HP_3 HQ_3 O3
      go_wp2_with fail
      refine (iNextOf 0 T AP_1 0 CP_1 _ (by unfold maxLen; omega)).mono ?_
      rintro e W3 ⟨rfl, hb3⟩
      rw [HN1.out]
      have hz3 := hb3.size
      simp at hz3
      have hq3 : Below W2.heap.size W2 W3 := by (repeat' (first | (with_reducible exact Below.refl _ _) | (with_reducible assumption) | (with_reducible refine Below.alloc ?_ ?_ _) | (with_reducible refine Below.drew ?_) | (with_reducible refine below_drewN ?_ _) | (with_reducible refine Below.setCell ?_ ?_ _) | (with_reducible refine bvia ?_ (by with_reducible assumption) ?_) | go_size))
      have o0 : W3.cell? ⟨W2.heap.size, 0, none⟩ = some (.int .i64 (T.size : Int)) := (hb3.cell (p := ⟨W2.heap.size, 0, none⟩) (by go_size)).trans (by simp [go_sem])
      have o1 : W3.cell? ⟨W2.heap.size, 1, none⟩ = some (.string ByteArray.empty) := (hb3.cell (p := ⟨W2.heap.size, 1, none⟩) (by go_size)).trans (by simp [go_sem])
      have o2 : W3.cell? ⟨W2.heap.size, 2, none⟩ = some (.slice A3 0 k3) := (hb3.cell (p := ⟨W2.heap.size, 2, none⟩) (by go_size)).trans (by simp [go_sem])
      have r2 := (hq3.cell (p := ⟨b, 2, none⟩) hlp3).trans p2
      have hO4 := Lib.hid (hO3.out.later hq3 (Nat.le_refl _))
      have hB_3 := hB_2.trans (hq3.mono (by omega))
      clear hb3 hq3 p0 p1 p2 q1 hO3
      go_wp2_with fail
      refine (iNextOf (T.size : Int) ByteArray.empty A3 0 k3 _ (by unfold maxLen; exact Nat.zero_le _)).mono ?_
      rintro e W4 ⟨rfl, hb4⟩
      rw [HN2.out]
      have hz4 := hb4.size
      have o0' := (hb4.cell (p := ⟨W2.heap.size, 0, none⟩) (by show W2.heap.size < _; omega)).trans o0
      have o1' := (hb4.cell (p := ⟨W2.heap.size, 1, none⟩) (by show W2.heap.size < _; omega)).trans o1
      have o2' := (hb4.cell (p := ⟨W2.heap.size, 2, none⟩) (by show W2.heap.size < _; omega)).trans o2
      have r2' := (hb4.cell (p := ⟨b, 2, none⟩) (by show b < _; omega)).trans r2
      have hO5 := Lib.hid (hO4.out.later hb4 (Nat.le_refl _))
      have hB_4 := hB_3.trans (hb4.mono (by omega))
      clear hb4 o0 o1 o2 r2 hO4
      go_wp2_with fail
      refine (iHeldOf (T.size : Int) ByteArray.empty A3 k3 [] _ (by exact Rd.nil) (by show 0 + 0 ≤ _; omega) (Nat.zero_le _)).mono ?_
      rintro e W5 ⟨rfl, hb5⟩
      rw [HH.out]
      have r2 := (hb5.cell (p := ⟨b, 2, none⟩) (by show b < _; omega)).trans r2'
      have hB_5 := hB_4.trans (hb5.mono (by omega))
      clear hb5 o0' o1' o2' r2' hO5
      go_wp2
      go_ret
      exact ⟨rfl, HB1.out.trans (hB_5.mono (by omega))⟩
end Go.Proofs.Ytpjbnfpadbknpaa
