/- The walk of FnStays: for every input. Written by program (fnstays.py). -/
import Derived.Test.YtpjbnfpadbknpaaStP
import Derived.Test.YtpjbnfpadbknpaaAnyTwo
import Derived.Deep.CutRange
import Derived.Deep.DrawnRows
import Derived.StillTailTactics
namespace Go.Proofs.Ytpjbnfpadbknpaa
set_option linter.unusedSimpArgs false
set_option linter.unusedVariables false
open Go.RowKit
theorem yieldsIf_load_row {P : Program} {ops : Array Oper} {S : World → Prop} {op : Oper} {act : Act} (hw : Region.wanted op (yielded ops act.tmps) = true) (ty : TypeId) (x : Operand) (ho : op.op = .load ty x)
    (g : Nat) (hx : act.eval x = .pointer (some ⟨g, 0, none⟩)) (t : TypeId) (cs : Array Value) (fr : Nat × Nat) (d : TypeDesc) (hS : ∀ w, S w → w.heap[g]? = some (.cells cs t fr))
    (hu : P.underlying ty = some d) (hd : (match d with | .struct _ | .array _ _ => true | _ => false) = true) (hi : (P.info? ty).map (·.size) = some cs.size) : YieldsIf P ops S op (.agg cs) act :=
  .inl ⟨hw, fun w hw' => by
    unfold execOp
    simp only [ho, hx, Instr.loadAt, Instr.sureAddr, Sem.run_bind, Sem.run_pure, Result.andThen_ok, run_loadVar_row w g t ty cs fr d (hS w hw') hu hd hi]⟩
set_option maxRecDepth 100000 in
set_option maxHeartbeats 16000000 in
theorem walk_FnStays (A0 : Option Addr) (cap0 : Nat) (L0 : List Int) (w : World) (hle : L0.length ≤ cap0) (hcap : cap0 ≤ maxLen) (_ : ∀ x ∈ L0, (Lit.int .u8 x).wf = true) (hr : Rd bcells 1 w 0 w.heap.size A0 L0) :
    Calls Try.prog 3 #[.slice A0 L0.length cap0] w fun e w' => e = .returned (.bool true) ∧ Below w.heap.size w w' := by
  have hm0 : L0.length ≤ maxLen := Nat.le_trans hle hcap
  by_cases hbig : (1048576 : Int) < L0.length
  · have d0 : decide ((1048576 : Int) < (L0.length : Int)) = true := decide_eq_true hbig
    go_enter Try.func3, Try.ntmps3
    go_wp2_with fail
    refine (big_any _ _ _ _ hm0).mono ?_
    rintro e w1 ⟨rfl, rfl⟩
    go_wp2
    go_ret
    exact ⟨rfl, Below.refl _ _⟩
  have d0 : decide ((1048576 : Int) < (L0.length : Int)) = false := decide_eq_false hbig
  obtain ⟨hbd, htz⟩ := drawV_bd L0
  obtain ⟨x, hx⟩ : ∃ x, drawV L0 = x := ⟨_, rfl⟩
  rw [hx] at hbd htz
  obtain ⟨⟨r, S0, K0⟩, a, T⟩ := x
  simp only at hbd htz
  have hD := fun W hr => DrawPut_eq A0 cap0 L0 hx W hr (by omega)
  clear hx
  obtain ⟨s1, s2, s3⟩ := hbd
  have hb1 := put_bd (r := r) (a := a) (t := T) (⟨s1, s2, s3⟩ : PBd S0 K0)
  have hidem := put_idem r S0 K0 a T
  obtain ⟨S1, hS1⟩ : ∃ x, (putV r S0 K0 a T).1 = x := ⟨_, rfl⟩
  obtain ⟨K1, hK1⟩ : ∃ x, (putV r S0 K0 a T).2 = x := ⟨_, rfl⟩
  have hi1 : (putV r S1 K1 a T).1 = S1 := by rw [← hS1, ← hK1, hidem]
  have hi2 : (putV r S1 K1 a T).2 = K1 := by rw [← hS1, ← hK1, hidem]
  rw [hS1, hK1] at hb1
  obtain ⟨u1, u2, u3⟩ := hb1
  have HD := Lib.hid hD
  have HS1 := Lib.hid hS1
  have HK1 := Lib.hid hK1
  have HI1 := Lib.hid hi1
  have HI2 := Lib.hid hi2
  clear hD hS1 hK1 hi1 hi2 hidem
  go_enter Try.func3, Try.ntmps3
  go_wp2_with fail
  refine (big_any _ _ _ _ hm0).mono ?_
  rintro e w1 ⟨rfl, rfl⟩
  go_wp2_with fail

  refine (HD.out _ hr).mono ?_
  rintro e w13 ⟨A3, k3, rfl, R3, hq3⟩
  obtain ⟨b3, hb3⟩ : ∃ b, w13.heap.size = b := ⟨_, rfl⟩
  go_upto_region 4 with (fail)
  refine wp_world _ (fun W => TP w W [(b3, (.cells #[.int .i64 r, .string S0, .slice A3 K0.length k3] 26 (0, 0)))] [(A3, K0)]) ?_ ?_
  · refine ((((TP.start hq3)).addList A3 K0 R3).next (by (repeat' (first | (with_reducible exact Below.refl _ _) | (with_reducible assumption) | (with_reducible refine Below.alloc ?_ ?_ _) | (with_reducible refine Below.drew ?_) | (with_reducible refine below_drewN ?_ _) | (with_reducible refine Below.setCell ?_ ?_ _) | (with_reducible refine bvia ?_ (by with_reducible assumption) ?_) | go_size)))).addBox b3 _ ?_
    rw [heap_alloc_at, if_pos (by omega)]
  intro W3 hTP
  try rw [hb3]
  have H3 := Lib.hid hTP
  clear hTP R3 hq3 hb3 w13
  go_wp2_with fail
  refine (HD.out _ (by exact hr.later (H3.out.below.trans (by (repeat' (first | (with_reducible exact Below.refl _ _) | (with_reducible assumption) | (with_reducible refine Below.alloc ?_ ?_ _) | (with_reducible refine Below.drew ?_) | (with_reducible refine below_drewN ?_ _) | (with_reducible refine Below.setCell ?_ ?_ _) | (with_reducible refine bvia ?_ (by with_reducible assumption) ?_) | go_size)))) (Nat.le_refl _) (by have := H3.out.below.size; first | omega | (simp; omega)))).mono ?_
  rintro e w14 ⟨A4, k4, rfl, R4, hq4⟩
  obtain ⟨b4, hb4⟩ : ∃ b, w14.heap.size = b := ⟨_, rfl⟩
  go_upto_region 5 with (fail)
  refine wp_world _ (fun W => TP w W [(b3, (.cells #[.int .i64 r, .string S0, .slice A3 K0.length k3] 26 (0, 0))), (b4, (.cells #[.int .i64 r, .string S0, .slice A4 K0.length k4] 26 (0, 0)))] [(A3, K0), (A4, K0)]) ?_ ?_
  · refine ((((H3.out.next (by (repeat' (first | (with_reducible exact Below.refl _ _) | (with_reducible assumption) | (with_reducible refine Below.alloc ?_ ?_ _) | (with_reducible refine Below.drew ?_) | (with_reducible refine below_drewN ?_ _) | (with_reducible refine Below.setCell ?_ ?_ _) | (with_reducible refine bvia ?_ (by with_reducible assumption) ?_) | go_size)) : Below W3.heap.size W3 w14))).addList A4 K0 R4).next (by (repeat' (first | (with_reducible exact Below.refl _ _) | (with_reducible assumption) | (with_reducible refine Below.alloc ?_ ?_ _) | (with_reducible refine Below.drew ?_) | (with_reducible refine below_drewN ?_ _) | (with_reducible refine Below.setCell ?_ ?_ _) | (with_reducible refine bvia ?_ (by with_reducible assumption) ?_) | go_size)))).addBox b4 _ ?_
    rw [heap_alloc_at, if_pos (by omega)]
  intro W4 hTP
  try rw [hb4]
  have H4 := Lib.hid hTP
  clear hTP R4 hq4 hb4 w14 H3 W3
  have hc : W4.heap[b3]? = some (.cells #[.int .i64 r, .string S0, .slice A3 K0.length k3] 26 (0, 0)) := H4.out.box (b3, (.cells #[.int .i64 r, .string S0, .slice A3 K0.length k3] 26 (0, 0))) (by simp)
  have lc : b3 < W4.heap.size := (Array.getElem?_eq_some_iff.1 hc).1
  have c0 : W4.cell? ⟨b3, 0, none⟩ = some (.int .i64 r) := by rw [cell_of_row _ _ _ _ _ (0, 0) hc]; rfl
  have c1 : W4.cell? ⟨b3, 1, none⟩ = some (.string S0) := by rw [cell_of_row _ _ _ _ _ (0, 0) hc]; rfl
  have c2 : W4.cell? ⟨b3, 2, none⟩ = some (.slice A3 K0.length k3) := by rw [cell_of_row _ _ _ _ _ (0, 0) hc]; rfl
  go_wp2_with fail
  refine (iPutPiece r S0 A3 k3 K0 a T _ (by exact (H4.out.list (A3, K0) (by simp)).later (by (repeat' (first | (with_reducible exact Below.refl _ _) | (with_reducible assumption) | (with_reducible refine Below.alloc ?_ ?_ _) | (with_reducible refine Below.drew ?_) | (with_reducible refine below_drewN ?_ _) | (with_reducible refine Below.setCell ?_ ?_ _) | (with_reducible refine bvia ?_ (by with_reducible assumption) ?_) | go_size))) (Nat.le_refl _) (by go_size)) (by omega) (by omega) (by omega)).mono ?_
  rintro e w15 ⟨A5, k5, rfl, O5, hq5⟩
  try rw [HS1.out]
  try rw [HK1.out]
  rw [HK1.out] at O5
  have R5 := Own.rdv PieceD.cells_length O5
  clear lc hc c0 c1 c2
  obtain ⟨b5, hb5⟩ : ∃ b, w15.heap.size = b := ⟨_, rfl⟩
  go_upto_region 6 with (fail)
  refine wp_world _ (fun W => TP w W [(b3, (.cells #[.int .i64 r, .string S0, .slice A3 K0.length k3] 26 (0, 0))), (b4, (.cells #[.int .i64 r, .string S0, .slice A4 K0.length k4] 26 (0, 0))), (b5, (.cells #[.int .i64 r, .string S1, .slice A5 K1.length k5] 26 (0, 0)))] [(A3, K0), (A4, K0), (A5, K1)]) ?_ ?_
  · refine (((H4.out.next (by (repeat' (first | (with_reducible exact Below.refl _ _) | (with_reducible assumption) | (with_reducible refine Below.alloc ?_ ?_ _) | (with_reducible refine Below.drew ?_) | (with_reducible refine below_drewN ?_ _) | (with_reducible refine Below.setCell ?_ ?_ _) | (with_reducible refine bvia ?_ (by with_reducible assumption) ?_) | go_size)) : Below W4.heap.size W4 w15)).addList A5 K1 R5).next (by (repeat' (first | (with_reducible exact Below.refl _ _) | (with_reducible assumption) | (with_reducible refine Below.alloc ?_ ?_ _) | (with_reducible refine Below.drew ?_) | (with_reducible refine below_drewN ?_ _) | (with_reducible refine Below.setCell ?_ ?_ _) | (with_reducible refine bvia ?_ (by with_reducible assumption) ?_) | go_size)))).addBox b5 _ ?_
    rw [heap_alloc_at, if_pos (by omega)]
  intro W5 hTP
  try rw [hb5]
  have H5 := Lib.hid hTP
  clear hTP R5 O5 hq5 hb5 w15 H4 W4
  have hc : W5.heap[b5]? = some (.cells #[.int .i64 r, .string S1, .slice A5 K1.length k5] 26 (0, 0)) := H5.out.box (b5, (.cells #[.int .i64 r, .string S1, .slice A5 K1.length k5] 26 (0, 0))) (by simp)
  have lc : b5 < W5.heap.size := (Array.getElem?_eq_some_iff.1 hc).1
  have c0 : W5.cell? ⟨b5, 0, none⟩ = some (.int .i64 r) := by rw [cell_of_row _ _ _ _ _ (0, 0) hc]; rfl
  have c1 : W5.cell? ⟨b5, 1, none⟩ = some (.string S1) := by rw [cell_of_row _ _ _ _ _ (0, 0) hc]; rfl
  have c2 : W5.cell? ⟨b5, 2, none⟩ = some (.slice A5 K1.length k5) := by rw [cell_of_row _ _ _ _ _ (0, 0) hc]; rfl
  go_wp2_with fail
  refine (iPutPiece r S1 A5 k5 K1 a T _ (by exact (H5.out.list (A5, K1) (by simp)).later (by (repeat' (first | (with_reducible exact Below.refl _ _) | (with_reducible assumption) | (with_reducible refine Below.alloc ?_ ?_ _) | (with_reducible refine Below.drew ?_) | (with_reducible refine below_drewN ?_ _) | (with_reducible refine Below.setCell ?_ ?_ _) | (with_reducible refine bvia ?_ (by with_reducible assumption) ?_) | go_size))) (Nat.le_refl _) (by go_size)) (by omega) (by omega) (by omega)).mono ?_
  rintro e w16 ⟨A6, k6, rfl, O6, hq6⟩
  try rw [HI1.out]
  try rw [HI2.out]
  rw [HI2.out] at O6
  have R6 := Own.rdv PieceD.cells_length O6
  clear lc hc c0 c1 c2
  obtain ⟨b6, hb6⟩ : ∃ b, w16.heap.size = b := ⟨_, rfl⟩
  go_upto_region 7 with (fail)
  refine wp_world _ (fun W => TP w W [(b3, (.cells #[.int .i64 r, .string S0, .slice A3 K0.length k3] 26 (0, 0))), (b4, (.cells #[.int .i64 r, .string S0, .slice A4 K0.length k4] 26 (0, 0))), (b5, (.cells #[.int .i64 r, .string S1, .slice A5 K1.length k5] 26 (0, 0))), (b6, (.cells #[.int .i64 r, .string S1, .slice A6 K1.length k6] 26 (0, 0)))] [(A3, K0), (A4, K0), (A5, K1), (A6, K1)]) ?_ ?_
  · refine (((H5.out.next (by (repeat' (first | (with_reducible exact Below.refl _ _) | (with_reducible assumption) | (with_reducible refine Below.alloc ?_ ?_ _) | (with_reducible refine Below.drew ?_) | (with_reducible refine below_drewN ?_ _) | (with_reducible refine Below.setCell ?_ ?_ _) | (with_reducible refine bvia ?_ (by with_reducible assumption) ?_) | go_size)) : Below W5.heap.size W5 w16)).addList A6 K1 R6).next (by (repeat' (first | (with_reducible exact Below.refl _ _) | (with_reducible assumption) | (with_reducible refine Below.alloc ?_ ?_ _) | (with_reducible refine Below.drew ?_) | (with_reducible refine below_drewN ?_ _) | (with_reducible refine Below.setCell ?_ ?_ _) | (with_reducible refine bvia ?_ (by with_reducible assumption) ?_) | go_size)))).addBox b6 _ ?_
    rw [heap_alloc_at, if_pos (by omega)]
  intro W6 hTP
  try rw [hb6]
  have H6 := Lib.hid hTP
  clear hTP R6 O6 hq6 hb6 w16 H5 W5
  have hcv := run_bytes_of_string (P := Try.prog) W6 9 22 5 T Try.underlying9 Try.underlying22 Try.underlying5
  obtain ⟨cp, hcp⟩ : ∃ c, grownCap W6 T.size 0 5 = c := ⟨_, rfl⟩
  rw [hcp] at hcv
  clear hcp
  obtain ⟨g, hg⟩ : ∃ g, W6.heap.size = g := ⟨_, rfl⟩
  go_upto_region 8 with (fail)
  refine wp_world _ (fun W => Below g W6 W ∧ ByteRow W g T.size) ?_ ?_
  · refine ⟨by rw [← hg]; (repeat' (first | (with_reducible exact Below.refl _ _) | (with_reducible assumption) | (with_reducible refine Below.alloc ?_ ?_ _) | (with_reducible refine Below.drew ?_) | (with_reducible refine below_drewN ?_ _) | (with_reducible refine Below.setCell ?_ ?_ _) | (with_reducible refine bvia ?_ (by with_reducible assumption) ?_) | go_size)), fun j hj => ?_, fun j hj => ?_, by rw [← hg]; simp⟩
    · obtain ⟨y, hy⟩ := bytesRow_cell T cp j hj
      refine ⟨y, ?_⟩
      rw [← hg]
      exact (World.cell?_alloc_mark _ _ _ _ _).trans hy
    · rw [← hg]
      have hz : T.size ≤ (bytesRow T cp).size := by unfold bytesRow; rw [Array.size_append, Array.size_map]; exact Nat.le_add_right _ _
      exact frozen_mark _ _ _ _ _ _ (Nat.lt_of_lt_of_le hj hz)
  rintro W7 ⟨hB7, hR7⟩
  clear hcv
  try rw [hg]
  have hg6 : W6.heap.size ≤ g := Nat.le_of_eq hg
  clear hg
  have hn1 := htz
  obtain ⟨n, hn⟩ : ∃ n, T.size = n := ⟨_, rfl⟩
  rw [hn] at hR7 hn1
  try rw [hn]
  go_wp2_with fail
  go_loopw [12] (fun i wr => ∃ k : Nat, k ≤ n ∧ i = .int .i64 k ∧ Below g W6 wr ∧ ByteRow wr g n) (fun i _ => n - (intOf i).toNat)
  case atStart => exact ⟨0, Nat.zero_le _, rfl, hB7, hR7⟩
  case round =>
    clear hB7 hR7
    obtain ⟨k, hk, rfl, hB, hR⟩ := hrel
    have hBz := hB.size
    have hgz := hR.2.2
    by_cases hlt : k < n
    · obtain ⟨x, hx⟩ := hR.1 k hlt
      have hf := hR.2.1 k hlt
      obtain ⟨z, hz⟩ := xor_byte x 1
      have hkn : (k : Int) < (n : Int) := by omega
      have hk0 : (0 : Int) ≤ (k : Int) := by omega
      have HR := Lib.hid hR
      clear hR hn
      go_wp2
      go_roundw
      case rel => exact ⟨k + 1, by omega, by go_num, by (repeat' (first | (with_reducible exact Below.refl _ _) | (with_reducible assumption) | (with_reducible refine Below.alloc ?_ ?_ _) | (with_reducible refine Below.drew ?_) | (with_reducible refine below_drewN ?_ _) | (with_reducible refine Below.setCell ?_ ?_ _) | (with_reducible refine bvia ?_ (by with_reducible assumption) ?_) | go_size)), HR.out.set k z⟩
      case measure => simp [intOf]; omega
    · obtain rfl : k = n := by omega
      obtain ⟨l, hl, hlc⟩ := hR.text
      have hcv := run_convert_bytes_back (P := Try.prog) wr 22 9 5 ⟨g, 0, none⟩ cp l Try.underlying22 Try.underlying5 Try.underlying9 hlc
      rw [hl] at hcv
      obtain ⟨U, hU⟩ : ∃ U : ByteArray, (⟨l.toArray⟩ : ByteArray) = U := ⟨_, rfl⟩
      have hUz : U.size ≤ 1000 := by rw [← hU]; show l.toArray.size ≤ 1000; simp; omega
      rw [hU] at hcv
      have HW := Lib.hid (H6.out.next (hB.mono hg6))
      clear hl hlc hU hR H6 hn
      have hb2 := put_bd (r := r) (a := a) (t := U) (⟨u1, u2, u3⟩ : PBd S1 K1)
      obtain ⟨X, hpre⟩ := put_prefix r S1 K1 a U
      obtain ⟨S2, hS2⟩ : ∃ x, (putV r S1 K1 a U).1 = x := ⟨_, rfl⟩
      obtain ⟨K2, hK2⟩ : ∃ x, (putV r S1 K1 a U).2 = x := ⟨_, rfl⟩
      rw [hS2, hK2] at hb2
      rw [hS2] at hpre
      obtain ⟨v1, v2, v3⟩ := hb2
      have HS2 := Lib.hid hS2
      have HK2 := Lib.hid hK2
      have HPRE := Lib.hid hpre
      clear hS2 hK2 hpre
      have hc : wr.heap[b5]? = some (.cells #[.int .i64 r, .string S1, .slice A5 K1.length k5] 26 (0, 0)) := HW.out.box (b5, (.cells #[.int .i64 r, .string S1, .slice A5 K1.length k5] 26 (0, 0))) (by simp)
      have lc : b5 < wr.heap.size := (Array.getElem?_eq_some_iff.1 hc).1
      have c0 : wr.cell? ⟨b5, 0, none⟩ = some (.int .i64 r) := by rw [cell_of_row _ _ _ _ _ (0, 0) hc]; rfl
      have c1 : wr.cell? ⟨b5, 1, none⟩ = some (.string S1) := by rw [cell_of_row _ _ _ _ _ (0, 0) hc]; rfl
      have c2 : wr.cell? ⟨b5, 2, none⟩ = some (.slice A5 K1.length k5) := by rw [cell_of_row _ _ _ _ _ (0, 0) hc]; rfl
      go_wp2_with fail
      refine (iPutPiece r S1 A5 k5 K1 a U _ (by exact (HW.out.list (A5, K1) (by simp)).later (by (repeat' (first | (with_reducible exact Below.refl _ _) | (with_reducible assumption) | (with_reducible refine Below.alloc ?_ ?_ _) | (with_reducible refine Below.drew ?_) | (with_reducible refine below_drewN ?_ _) | (with_reducible refine Below.setCell ?_ ?_ _) | (with_reducible refine bvia ?_ (by with_reducible assumption) ?_) | go_size))) (Nat.le_refl _) (by go_size)) (by omega) (by omega) (by omega)).mono ?_
      rintro e w17 ⟨A7, k7, rfl, O7, hq7⟩
      try rw [HS2.out]
      try rw [HK2.out]
      rw [HK2.out] at O7
      have R7 := Own.rdv PieceD.cells_length O7
      clear lc hc c0 c1 c2
      obtain ⟨b7, hb7⟩ : ∃ b, w17.heap.size = b := ⟨_, rfl⟩
      go_upto_region 13 with (fail)
      refine wp_world _ (fun W => TP w W [(b3, (.cells #[.int .i64 r, .string S0, .slice A3 K0.length k3] 26 (0, 0))), (b4, (.cells #[.int .i64 r, .string S0, .slice A4 K0.length k4] 26 (0, 0))), (b5, (.cells #[.int .i64 r, .string S1, .slice A5 K1.length k5] 26 (0, 0))), (b6, (.cells #[.int .i64 r, .string S1, .slice A6 K1.length k6] 26 (0, 0))), (b7, (.cells #[.int .i64 r, .string S2, .slice A7 K2.length k7] 26 (0, 0)))] [(A3, K0), (A4, K0), (A5, K1), (A6, K1), (A7, K2)]) ?_ ?_
      · refine (((HW.out.next (by (repeat' (first | (with_reducible exact Below.refl _ _) | (with_reducible assumption) | (with_reducible refine Below.alloc ?_ ?_ _) | (with_reducible refine Below.drew ?_) | (with_reducible refine below_drewN ?_ _) | (with_reducible refine Below.setCell ?_ ?_ _) | (with_reducible refine bvia ?_ (by with_reducible assumption) ?_) | go_size)) : Below wr.heap.size wr w17)).addList A7 K2 R7).next (by (repeat' (first | (with_reducible exact Below.refl _ _) | (with_reducible assumption) | (with_reducible refine Below.alloc ?_ ?_ _) | (with_reducible refine Below.drew ?_) | (with_reducible refine below_drewN ?_ _) | (with_reducible refine Below.setCell ?_ ?_ _) | (with_reducible refine bvia ?_ (by with_reducible assumption) ?_) | go_size)))).addBox b7 _ ?_
        rw [heap_alloc_at, if_pos (by omega)]
      intro W8 hTP
      try rw [hb7]
      have H8 := Lib.hid hTP
      clear hTP R7 O7 hq7 hb7 hcv hB hBz hgz hlt hk hg6 HW w17 wr
      obtain ⟨S, hS0, hS_b3, hS_b4, hS_b5, hS_b6, hS_b7, hS_A3, hS_A4, hS_A5, hS_A6, hS_A7, hS_cb5, hS_cb7, hSn, hSb⟩ : ∃ S : World → Prop, (S W8.drew) ∧ (∀ W, S W → W.heap[b3]? = some (.cells #[.int .i64 r, .string S0, .slice A3 K0.length k3] 26 (0, 0))) ∧ (∀ W, S W → W.heap[b4]? = some (.cells #[.int .i64 r, .string S0, .slice A4 K0.length k4] 26 (0, 0))) ∧ (∀ W, S W → W.heap[b5]? = some (.cells #[.int .i64 r, .string S1, .slice A5 K1.length k5] 26 (0, 0))) ∧ (∀ W, S W → W.heap[b6]? = some (.cells #[.int .i64 r, .string S1, .slice A6 K1.length k6] 26 (0, 0))) ∧ (∀ W, S W → W.heap[b7]? = some (.cells #[.int .i64 r, .string S2, .slice A7 K2.length k7] 26 (0, 0))) ∧ (∀ W, S W → Rd PieceD.cells 2 W 0 W.heap.size A3 K0) ∧ (∀ W, S W → Rd PieceD.cells 2 W 0 W.heap.size A4 K0) ∧ (∀ W, S W → Rd PieceD.cells 2 W 0 W.heap.size A5 K1) ∧ (∀ W, S W → Rd PieceD.cells 2 W 0 W.heap.size A6 K1) ∧ (∀ W, S W → Rd PieceD.cells 2 W 0 W.heap.size A7 K2) ∧ (∀ W, S W → W.cell? ⟨b5, 1, none⟩ = some (.string S1)) ∧ (∀ W, S W → W.cell? ⟨b7, 1, none⟩ = some (.string S2)) ∧ (∀ W W', S W → Below W.heap.size W W' → S W') ∧ (∀ W, S W → Below w.heap.size w W) := ⟨fun W => TP w W [(b3, (.cells #[.int .i64 r, .string S0, .slice A3 K0.length k3] 26 (0, 0))), (b4, (.cells #[.int .i64 r, .string S0, .slice A4 K0.length k4] 26 (0, 0))), (b5, (.cells #[.int .i64 r, .string S1, .slice A5 K1.length k5] 26 (0, 0))), (b6, (.cells #[.int .i64 r, .string S1, .slice A6 K1.length k6] 26 (0, 0))), (b7, (.cells #[.int .i64 r, .string S2, .slice A7 K2.length k7] 26 (0, 0)))] [(A3, K0), (A4, K0), (A5, K1), (A6, K1), (A7, K2)], H8.out.next (by (repeat' (first | (with_reducible exact Below.refl _ _) | (with_reducible assumption) | (with_reducible refine Below.alloc ?_ ?_ _) | (with_reducible refine Below.drew ?_) | (with_reducible refine below_drewN ?_ _) | (with_reducible refine Below.setCell ?_ ?_ _) | (with_reducible refine bvia ?_ (by with_reducible assumption) ?_) | go_size))), fun W h => h.box (b3, (.cells #[.int .i64 r, .string S0, .slice A3 K0.length k3] 26 (0, 0))) (by simp), fun W h => h.box (b4, (.cells #[.int .i64 r, .string S0, .slice A4 K0.length k4] 26 (0, 0))) (by simp), fun W h => h.box (b5, (.cells #[.int .i64 r, .string S1, .slice A5 K1.length k5] 26 (0, 0))) (by simp), fun W h => h.box (b6, (.cells #[.int .i64 r, .string S1, .slice A6 K1.length k6] 26 (0, 0))) (by simp), fun W h => h.box (b7, (.cells #[.int .i64 r, .string S2, .slice A7 K2.length k7] 26 (0, 0))) (by simp), fun W h => h.list (A3, K0) (by simp), fun W h => h.list (A4, K0) (by simp), fun W h => h.list (A5, K1) (by simp), fun W h => h.list (A6, K1) (by simp), fun W h => h.list (A7, K2) (by simp), fun W h => by rw [cell_of_row _ _ _ _ _ (0, 0) (h.box (b5, (.cells #[.int .i64 r, .string S1, .slice A5 K1.length k5] 26 (0, 0))) (by simp))]; rfl, fun W h => by rw [cell_of_row _ _ _ _ _ (0, 0) (h.box (b7, (.cells #[.int .i64 r, .string S2, .slice A7 K2.length k7] 26 (0, 0))) (by simp))]; rfl, fun W W' h hb => h.next hb, fun W h => h.below⟩
      clear H8
      have hsz : S1.size ≤ S2.size := by rw [HPRE.out, app_size]; omega
      have hszi : decide ((S2.size : Int) < (S1.size : Int)) = false := decide_eq_false (by omega)
      have hszl : (S1.size : Int) ≤ (S2.size : Int) := by omega
      have hext : S2.extract 0 S1.size = S1 := by rw [HPRE.out]; exact pre_extract S1 X
      have HEXT := Lib.hid hext
      clear hext
      have HS0 := hS0
      refine wp_region_but 43 S (by kernel_rfl) ?_
      refine AnyBut.take (i := 0) rfl (by kernel_rfl) (by kernel_rfl) (by kernel_rfl) (by kernel_rfl) (fun _ _ _ h => h) (yieldsIf_load_row rfl 26 (.tmp 9) rfl b5 rfl 26 _ (0, 0) _ (fun w' h => hS_b5 w' h) Try.underlying26 rfl (by kernel_rfl)) HS0 ?_
      change AnyBut _ _ _ _ _ _ _ _ (Act.put _ (some 57) _) _
      (try simp only [Act.put, List.setIfInBounds_toArray, List.set_cons_zero, List.set_cons_succ])
      refine AnyBut.take (i := 1) rfl (by kernel_rfl) (by kernel_rfl) (by kernel_rfl) (by kernel_rfl) (fun _ _ _ h => h) (yieldsIf_load_row rfl 26 (.tmp 6) rfl b4 rfl 26 _ (0, 0) _ (fun w' h => hS_b4 w' h) Try.underlying26 rfl (by kernel_rfl)) HS0 ?_
      change AnyBut _ _ _ _ _ _ _ _ (Act.put _ (some 58) _) _
      (try simp only [Act.put, List.setIfInBounds_toArray, List.set_cons_zero, List.set_cons_succ])
      refine AnyBut.take (i := 2) (v := ?_) rfl (by kernel_rfl) (by kernel_rfl) (by kernel_rfl) (by kernel_rfl) (fun _ _ _ h => h) (Or.inl ⟨by rfl, ?_⟩) HS0 ?_
      rotate_left
      · intro w' hSw
        go_simp
        all_goals (with_reducible rfl)
      change AnyBut _ _ _ _ _ _ _ _ (Act.put _ (some 59) _) _
      (try simp only [Act.put, List.setIfInBounds_toArray, List.set_cons_zero, List.set_cons_succ])
      refine AnyBut.take (i := 3) (v := ?_) rfl (by kernel_rfl) (by kernel_rfl) (by kernel_rfl) (by kernel_rfl) (fun _ _ _ h => h) (Or.inl ⟨by rfl, ?_⟩) HS0 ?_
      rotate_left
      · intro w' hSw
        go_simp
        all_goals (with_reducible rfl)
      change AnyBut _ _ _ _ _ _ _ _ (Act.put _ (some 60) _) _
      (try simp only [Act.put, List.setIfInBounds_toArray, List.set_cons_zero, List.set_cons_succ])
      refine AnyBut.one (i := 4) rfl (by kernel_rfl) (fun K9 hK9 => ?_)
      go_simp
      refine (sPutPiece r S0 A4 k4 K0 a T _ (hS_A4 _ HS0) (by omega) (by omega) (by omega)).mono ?_
      rintro e w9 ⟨A8, k8, rfl, O8, hb9⟩
      have HT1 := hSn _ _ HS0 hb9
      clear HS0
      have HS0 := HT1
      clear HT1
      rw [HK1.out] at O8
      try rw [HS1.out]
      try rw [HK1.out]
      have R8 := Lib.hid (O8.rdv.wide (Nat.zero_le _) (Nat.le_refl _))
      clear O8
      refine hK9 _ _ (fun h9 => HS0) ?_
      clear hK9 K9 hb9
      (try simp only [Act.put, List.setIfInBounds_toArray, List.set_cons_zero, List.set_cons_succ])
      refine AnyBut.one (i := 5) rfl (by kernel_rfl) (fun K9 hK9 => ?_)
      go_simp
      refine (samePieces_same r S1 A5 A8 k5 k8 K1 _ (hS_A5 _ HS0) R8.out (by unfold maxLen; omega)).mono ?_
      rintro e w9 ⟨rfl, hb9⟩
      have HT1 := hSn _ _ HS0 hb9
      clear HS0
      have HS0 := HT1
      clear HT1
      clear R8
      refine hK9 _ _ (fun h9 => HS0) ?_
      clear hK9 K9 hb9
      (try simp only [Act.put, List.setIfInBounds_toArray, List.set_cons_zero, List.set_cons_succ])
      refine AnyBut.take (i := 6) (v := ?_) rfl (by kernel_rfl) (by kernel_rfl) (by kernel_rfl) (by kernel_rfl) (fun _ _ _ h => h) (Or.inl ⟨by rfl, ?_⟩) HS0 ?_
      rotate_left
      · intro w' hSw
        go_simp
        all_goals (with_reducible rfl)
      change AnyBut _ _ _ _ _ _ _ _ (Act.put _ (some 63) _) _
      (try simp only [Act.put, List.setIfInBounds_toArray, List.set_cons_zero, List.set_cons_succ])
      refine AnyBut.take (i := 7) rfl (by kernel_rfl) (by kernel_rfl) (by kernel_rfl) (by kernel_rfl) (fun _ _ _ h => h) (yieldsIf_load_row rfl 26 (.tmp 9) rfl b5 rfl 26 _ (0, 0) _ (fun w' h => hS_b5 w' h) Try.underlying26 rfl (by kernel_rfl)) HS0 ?_
      change AnyBut _ _ _ _ _ _ _ _ (Act.put _ (some 64) _) _
      (try simp only [Act.put, List.setIfInBounds_toArray, List.set_cons_zero, List.set_cons_succ])
      refine AnyBut.take (i := 8) rfl (by kernel_rfl) (by kernel_rfl) (by kernel_rfl) (by kernel_rfl) (fun _ _ _ h => h) (yieldsIf_load_row rfl 26 (.tmp 10) rfl b6 rfl 26 _ (0, 0) _ (fun w' h => hS_b6 w' h) Try.underlying26 rfl (by kernel_rfl)) HS0 ?_
      change AnyBut _ _ _ _ _ _ _ _ (Act.put _ (some 65) _) _
      (try simp only [Act.put, List.setIfInBounds_toArray, List.set_cons_zero, List.set_cons_succ])
      refine AnyBut.one (i := 9) rfl (by kernel_rfl) (fun K9 hK9 => ?_)
      go_simp
      refine (samePieces_same r S1 A5 A6 k5 k6 K1 _ (hS_A5 _ HS0) (hS_A6 _ HS0) (by unfold maxLen; omega)).mono ?_
      rintro e w9 ⟨rfl, hb9⟩
      have HT1 := hSn _ _ HS0 hb9
      clear HS0
      have HS0 := HT1
      clear HT1
      refine hK9 _ _ (fun h9 => HS0) ?_
      clear hK9 K9 hb9
      (try simp only [Act.put, List.setIfInBounds_toArray, List.set_cons_zero, List.set_cons_succ])
      refine AnyBut.take (i := 10) (v := ?_) rfl (by kernel_rfl) (by kernel_rfl) (by kernel_rfl) (by kernel_rfl) (fun _ _ _ h => h) (Or.inl ⟨by rfl, ?_⟩) HS0 ?_
      rotate_left
      · intro w' hSw
        go_simp
        all_goals (with_reducible rfl)
      change AnyBut _ _ _ _ _ _ _ _ (Act.put _ (some 67) _) _
      (try simp only [Act.put, List.setIfInBounds_toArray, List.set_cons_zero, List.set_cons_succ])
      refine AnyBut.take (i := 11) (v := ?_) rfl (by kernel_rfl) (by kernel_rfl) (by kernel_rfl) (by kernel_rfl) (fun _ _ _ h => h) (Or.inl ⟨by rfl, ?_⟩) HS0 ?_
      rotate_left
      · intro w' hSw
        go_simp
        all_goals (with_reducible rfl)
      change AnyBut _ _ _ _ _ _ _ _ (Act.put _ (some 68) _) _
      (try simp only [Act.put, List.setIfInBounds_toArray, List.set_cons_zero, List.set_cons_succ])
      refine AnyBut.take (i := 12) rfl (by kernel_rfl) (by kernel_rfl) (by kernel_rfl) (by kernel_rfl) (fun _ _ _ h => h) (yieldsIf_load_row rfl 26 (.tmp 3) rfl b3 rfl 26 _ (0, 0) _ (fun w' h => hS_b3 w' h) Try.underlying26 rfl (by kernel_rfl)) HS0 ?_
      change AnyBut _ _ _ _ _ _ _ _ (Act.put _ (some 69) _) _
      (try simp only [Act.put, List.setIfInBounds_toArray, List.set_cons_zero, List.set_cons_succ])
      refine AnyBut.take (i := 13) rfl (by kernel_rfl) (by kernel_rfl) (by kernel_rfl) (by kernel_rfl) (fun _ _ _ h => h) (yieldsIf_load_row rfl 26 (.tmp 6) rfl b4 rfl 26 _ (0, 0) _ (fun w' h => hS_b4 w' h) Try.underlying26 rfl (by kernel_rfl)) HS0 ?_
      change AnyBut _ _ _ _ _ _ _ _ (Act.put _ (some 70) _) _
      (try simp only [Act.put, List.setIfInBounds_toArray, List.set_cons_zero, List.set_cons_succ])
      refine AnyBut.one (i := 14) rfl (by kernel_rfl) (fun K9 hK9 => ?_)
      go_simp
      refine (samePieces_same r S0 A3 A4 k3 k4 K0 _ (hS_A3 _ HS0) (hS_A4 _ HS0) (by unfold maxLen; omega)).mono ?_
      rintro e w9 ⟨rfl, hb9⟩
      have HT1 := hSn _ _ HS0 hb9
      clear HS0
      have HS0 := HT1
      clear HT1
      refine hK9 _ _ (fun h9 => HS0) ?_
      clear hK9 K9 hb9
      (try simp only [Act.put, List.setIfInBounds_toArray, List.set_cons_zero, List.set_cons_succ])
      refine AnyBut.take (i := 15) (v := ?_) rfl (by kernel_rfl) (by kernel_rfl) (by kernel_rfl) (by kernel_rfl) (fun _ _ _ h => h) (Or.inl ⟨by rfl, ?_⟩) HS0 ?_
      rotate_left
      · intro w' hSw
        go_simp
        all_goals (with_reducible rfl)
      change AnyBut _ _ _ _ _ _ _ _ (Act.put _ (some 72) _) _
      (try simp only [Act.put, List.setIfInBounds_toArray, List.set_cons_zero, List.set_cons_succ])
      refine AnyBut.take (i := 16) (v := ?_) rfl (by kernel_rfl) (by kernel_rfl) (by kernel_rfl) (by kernel_rfl) (fun _ _ _ h => h) (Or.inl ⟨by rfl, ?_⟩) HS0 ?_
      rotate_left
      · intro w' hSw
        go_simp
        all_goals (with_reducible rfl)
      change AnyBut _ _ _ _ _ _ _ _ (Act.put _ (some 73) _) _
      (try simp only [Act.put, List.setIfInBounds_toArray, List.set_cons_zero, List.set_cons_succ])
      refine AnyBut.take (i := 17) (v := ?_) rfl (by kernel_rfl) (by kernel_rfl) (by kernel_rfl) (by kernel_rfl) (fun _ _ _ h => h) (Or.inl ⟨by rfl, ?_⟩) HS0 ?_
      rotate_left
      · intro w' hSw
        go_simp
        all_goals (with_reducible rfl)
      change AnyBut _ _ _ _ _ _ _ _ (Act.put _ (some 74) _) _
      (try simp only [Act.put, List.setIfInBounds_toArray, List.set_cons_zero, List.set_cons_succ])
      refine AnyBut.take (i := 18) (v := ?_) rfl (by kernel_rfl) (by kernel_rfl) (by kernel_rfl) (by kernel_rfl) (fun _ _ _ h => h) (Or.inl ⟨by rfl, ?_⟩) HS0 ?_
      rotate_left
      · intro w' hSw
        have q7 := hS_cb7 w' hSw
        go_simp
        all_goals (with_reducible rfl)
      change AnyBut _ _ _ _ _ _ _ _ (Act.put _ (some 75) _) _
      (try simp only [Act.put, List.setIfInBounds_toArray, List.set_cons_zero, List.set_cons_succ])
      refine AnyBut.take (i := 19) (v := ?_) rfl (by kernel_rfl) (by kernel_rfl) (by kernel_rfl) (by kernel_rfl) (fun _ _ _ h => h) (Or.inl ⟨by rfl, ?_⟩) HS0 ?_
      rotate_left
      · intro w' hSw
        go_simp
        all_goals (with_reducible rfl)
      change AnyBut _ _ _ _ _ _ _ _ (Act.put _ (some 76) _) _
      (try simp only [Act.put, List.setIfInBounds_toArray, List.set_cons_zero, List.set_cons_succ])
      refine AnyBut.take (i := 20) (v := ?_) rfl (by kernel_rfl) (by kernel_rfl) (by kernel_rfl) (by kernel_rfl) (fun _ _ _ h => h) (Or.inl ⟨by rfl, ?_⟩) HS0 ?_
      rotate_left
      · intro w' hSw
        go_simp
        all_goals (with_reducible rfl)
      change AnyBut _ _ _ _ _ _ _ _ (Act.put _ (some 77) _) _
      (try simp only [Act.put, List.setIfInBounds_toArray, List.set_cons_zero, List.set_cons_succ])
      refine AnyBut.take (i := 21) (v := ?_) rfl (by kernel_rfl) (by kernel_rfl) (by kernel_rfl) (by kernel_rfl) (fun _ _ _ h => h) (Or.inl ⟨by rfl, ?_⟩) HS0 ?_
      rotate_left
      · intro w' hSw
        have q5 := hS_cb5 w' hSw
        go_simp
        all_goals (with_reducible rfl)
      change AnyBut _ _ _ _ _ _ _ _ (Act.put _ (some 78) _) _
      (try simp only [Act.put, List.setIfInBounds_toArray, List.set_cons_zero, List.set_cons_succ])
      refine AnyBut.take (i := 22) (v := ?_) rfl (by kernel_rfl) (by kernel_rfl) (by kernel_rfl) (by kernel_rfl) (fun _ _ _ h => h) (Or.inl ⟨by rfl, ?_⟩) HS0 ?_
      rotate_left
      · intro w' hSw
        go_simp
        all_goals (with_reducible rfl)
      change AnyBut _ _ _ _ _ _ _ _ (Act.put _ (some 79) _) _
      (try simp only [Act.put, List.setIfInBounds_toArray, List.set_cons_zero, List.set_cons_succ])
      refine AnyBut.take (i := 23) (v := .bool true) rfl (by kernel_rfl) (by kernel_rfl) (by kernel_rfl) (by kernel_rfl) (fun _ _ _ h => h) (Or.inl ⟨by rfl, ?_⟩) HS0 ?_
      · intro w' hSw
        go_simp
        all_goals (first | rfl | (simp; omega) | fail)
      change AnyBut _ _ _ _ _ _ _ _ (Act.put _ (some 80) _) _
      (try simp only [Act.put, List.setIfInBounds_toArray, List.set_cons_zero, List.set_cons_succ])
      refine AnyBut.take (i := 24) (v := ?_) rfl (by kernel_rfl) (by kernel_rfl) (by kernel_rfl) (by kernel_rfl) (fun _ _ _ h => h) (Or.inl ⟨by rfl, ?_⟩) HS0 ?_
      rotate_left
      · intro w' hSw
        go_simp
        all_goals (with_reducible rfl)
      change AnyBut _ _ _ _ _ _ _ _ (Act.put _ (some 81) _) _
      (try simp only [Act.put, List.setIfInBounds_toArray, List.set_cons_zero, List.set_cons_succ])
      refine AnyBut.take (i := 25) (v := ?_) rfl (by kernel_rfl) (by kernel_rfl) (by kernel_rfl) (by kernel_rfl) (fun _ _ _ h => h) (Or.inl ⟨by rfl, ?_⟩) HS0 ?_
      rotate_left
      · intro w' hSw
        go_simp
        all_goals (with_reducible rfl)
      change AnyBut _ _ _ _ _ _ _ _ (Act.put _ (some 82) _) _
      (try simp only [Act.put, List.setIfInBounds_toArray, List.set_cons_zero, List.set_cons_succ])
      refine AnyBut.take (i := 26) (v := ?_) rfl (by kernel_rfl) (by kernel_rfl) (by kernel_rfl) (by kernel_rfl) (fun _ _ _ h => h) (Or.inl ⟨by rfl, ?_⟩) HS0 ?_
      rotate_left
      · intro w' hSw
        go_simp
        all_goals (with_reducible rfl)
      change AnyBut _ _ _ _ _ _ _ _ (Act.put _ (some 83) _) _
      (try simp only [Act.put, List.setIfInBounds_toArray, List.set_cons_zero, List.set_cons_succ])
      refine AnyBut.take (i := 27) (v := ?_) rfl (by kernel_rfl) (by kernel_rfl) (by kernel_rfl) (by kernel_rfl) (fun _ _ _ h => h) (Or.inl ⟨by rfl, ?_⟩) HS0 ?_
      rotate_left
      · intro w' hSw
        have q7 := hS_cb7 w' hSw
        go_simp
        all_goals (with_reducible rfl)
      change AnyBut _ _ _ _ _ _ _ _ (Act.put _ (some 84) _) _
      (try simp only [Act.put, List.setIfInBounds_toArray, List.set_cons_zero, List.set_cons_succ])
      refine AnyBut.take (i := 28) (v := ?_) rfl (by kernel_rfl) (by kernel_rfl) (by kernel_rfl) (by kernel_rfl) (fun _ _ _ h => h) (Or.inl ⟨by rfl, ?_⟩) HS0 ?_
      rotate_left
      · intro w' hSw
        go_simp
        all_goals (with_reducible rfl)
      change AnyBut _ _ _ _ _ _ _ _ (Act.put _ (some 85) _) _
      (try simp only [Act.put, List.setIfInBounds_toArray, List.set_cons_zero, List.set_cons_succ])
      refine AnyBut.take (i := 29) (v := ?_) rfl (by kernel_rfl) (by kernel_rfl) (by kernel_rfl) (by kernel_rfl) (fun _ _ _ h => h) (Or.inl ⟨by rfl, ?_⟩) HS0 ?_
      rotate_left
      · intro w' hSw
        have q5 := hS_cb5 w' hSw
        go_simp
        all_goals (with_reducible rfl)
      change AnyBut _ _ _ _ _ _ _ _ (Act.put _ (some 86) _) _
      (try simp only [Act.put, List.setIfInBounds_toArray, List.set_cons_zero, List.set_cons_succ])
      refine AnyBut.take (i := 30) (v := ?_) rfl (by kernel_rfl) (by kernel_rfl) (by kernel_rfl) (by kernel_rfl) (fun _ _ _ h => h) (Or.inl ⟨by rfl, ?_⟩) HS0 ?_
      rotate_left
      · intro w' hSw
        go_simp
        all_goals (with_reducible rfl)
      change AnyBut _ _ _ _ _ _ _ _ (Act.put _ (some 87) _) _
      (try simp only [Act.put, List.setIfInBounds_toArray, List.set_cons_zero, List.set_cons_succ])
      refine AnyBut.take (i := 31) (v := .string S1) rfl (by kernel_rfl) (by kernel_rfl) (by kernel_rfl) (by kernel_rfl) (fun _ _ _ h => h) (Or.inl ⟨by rfl, ?_⟩) HS0 ?_
      · intro w' hSw
        go_simp
        all_goals (first | exact HEXT.out | (rw [HEXT.out]; done) | fail)
      change AnyBut _ _ _ _ _ _ _ _ (Act.put _ (some 88) _) _
      (try simp only [Act.put, List.setIfInBounds_toArray, List.set_cons_zero, List.set_cons_succ])
      refine AnyBut.take (i := 32) (v := ?_) rfl (by kernel_rfl) (by kernel_rfl) (by kernel_rfl) (by kernel_rfl) (fun _ _ _ h => h) (Or.inl ⟨by rfl, ?_⟩) HS0 ?_
      rotate_left
      · intro w' hSw
        go_simp
        all_goals (with_reducible rfl)
      change AnyBut _ _ _ _ _ _ _ _ (Act.put _ (some 89) _) _
      (try simp only [Act.put, List.setIfInBounds_toArray, List.set_cons_zero, List.set_cons_succ])
      refine AnyBut.take (i := 33) (v := ?_) rfl (by kernel_rfl) (by kernel_rfl) (by kernel_rfl) (by kernel_rfl) (fun _ _ _ h => h) (Or.inl ⟨by rfl, ?_⟩) HS0 ?_
      rotate_left
      · intro w' hSw
        have q5 := hS_cb5 w' hSw
        go_simp
        all_goals (with_reducible rfl)
      change AnyBut _ _ _ _ _ _ _ _ (Act.put _ (some 90) _) _
      (try simp only [Act.put, List.setIfInBounds_toArray, List.set_cons_zero, List.set_cons_succ])
      refine AnyBut.take (i := 34) (v := .bool true) rfl (by kernel_rfl) (by kernel_rfl) (by kernel_rfl) (by kernel_rfl) (fun _ _ _ h => h) (Or.inl ⟨by rfl, ?_⟩) HS0 ?_
      · intro w' hSw
        go_simp
        all_goals (first | rfl | (simp; done) | fail)
      change AnyBut _ _ _ _ _ _ _ _ (Act.put _ (some 91) _) _
      (try simp only [Act.put, List.setIfInBounds_toArray, List.set_cons_zero, List.set_cons_succ])
      refine AnyBut.take (i := 35) (v := ?_) rfl (by kernel_rfl) (by kernel_rfl) (by kernel_rfl) (by kernel_rfl) (fun _ _ _ h => h) (Or.inl ⟨by rfl, ?_⟩) HS0 ?_
      rotate_left
      · intro w' hSw
        go_simp
        all_goals (with_reducible rfl)
      change AnyBut _ _ _ _ _ _ _ _ (Act.put _ (some 92) _) _
      (try simp only [Act.put, List.setIfInBounds_toArray, List.set_cons_zero, List.set_cons_succ])
      refine AnyBut.take (i := 36) (v := ?_) rfl (by kernel_rfl) (by kernel_rfl) (by kernel_rfl) (by kernel_rfl) (fun _ _ _ h => h) (Or.inl ⟨by rfl, ?_⟩) HS0 ?_
      rotate_left
      · intro w' hSw
        go_simp
        all_goals (with_reducible rfl)
      change AnyBut _ _ _ _ _ _ _ _ (Act.put _ (some 93) _) _
      (try simp only [Act.put, List.setIfInBounds_toArray, List.set_cons_zero, List.set_cons_succ])
      refine AnyBut.take (i := 37) rfl (by kernel_rfl) (by kernel_rfl) (by kernel_rfl) (by kernel_rfl) (fun _ _ _ h => h) (yieldsIf_load_row rfl 26 (.tmp 9) rfl b5 rfl 26 _ (0, 0) _ (fun w' h => hS_b5 w' h) Try.underlying26 rfl (by kernel_rfl)) HS0 ?_
      change AnyBut _ _ _ _ _ _ _ _ (Act.put _ (some 94) _) _
      (try simp only [Act.put, List.setIfInBounds_toArray, List.set_cons_zero, List.set_cons_succ])
      refine AnyBut.take (i := 39) rfl (by kernel_rfl) (by kernel_rfl) (by kernel_rfl) (by kernel_rfl) (fun _ _ _ h => h) (yieldsIf_load_row rfl 26 (.tmp 9) rfl b5 rfl 26 _ (0, 0) _ (fun w' h => hS_b5 w' h) Try.underlying26 rfl (by kernel_rfl)) HS0 ?_
      change AnyBut _ _ _ _ _ _ _ _ (Act.put _ (some 96) _) _
      (try simp only [Act.put, List.setIfInBounds_toArray, List.set_cons_zero, List.set_cons_succ])
      refine AnyBut.one (i := 38) rfl (by kernel_rfl) (fun K9 hK9 => ?_)
      go_simp
      refine (iPiecesOk r S1 A5 k5 K1 _ (hS_A5 _ HS0) (by omega) (by unfold maxLen; omega)).mono ?_
      rintro e w9 ⟨rfl, hb9⟩
      have HT1 := hSn _ _ HS0 hb9
      clear HS0
      have HS0 := HT1
      clear HT1
      refine hK9 _ _ (fun h9 => HS0) ?_
      clear hK9 K9 hb9
      (try simp only [Act.put, List.setIfInBounds_toArray, List.set_cons_zero, List.set_cons_succ])
      refine AnyBut.one (i := 40) rfl (by kernel_rfl) (fun K9 hK9 => ?_)
      go_simp
      refine (sPiecesOk r S1 A5 k5 K1 _ (hS_A5 _ HS0) (by omega) (by unfold maxLen; omega)).mono ?_
      rintro e w9 ⟨rfl, hb9⟩
      have HT1 := hSn _ _ HS0 hb9
      clear HS0
      have HS0 := HT1
      clear HT1
      refine hK9 _ _ (fun h9 => HS0) ?_
      clear hK9 K9 hb9
      (try simp only [Act.put, List.setIfInBounds_toArray, List.set_cons_zero, List.set_cons_succ])
      refine AnyBut.take (i := 41) (v := .bool true) rfl (by kernel_rfl) (by kernel_rfl) (by kernel_rfl) (by kernel_rfl) (fun _ _ _ h => h) (Or.inl ⟨by rfl, ?_⟩) HS0 ?_
      · intro w' hSw
        go_simp
        all_goals (first | rfl | (simp; done) | fail)
      change AnyBut _ _ _ _ _ _ _ _ (Act.put _ (some 98) _) _
      (try simp only [Act.put, List.setIfInBounds_toArray, List.set_cons_zero, List.set_cons_succ])
      refine AnyBut.take (i := 42) (v := ?_) rfl (by kernel_rfl) (by kernel_rfl) (by kernel_rfl) (by kernel_rfl) (fun _ _ _ h => h) (Or.inl ⟨by rfl, ?_⟩) HS0 ?_
      rotate_left
      · intro w' hSw
        go_simp
        all_goals (with_reducible rfl)
      change AnyBut _ _ _ _ _ _ _ _ (Act.put _ (some 99) _) _
      (try simp only [Act.put, List.setIfInBounds_toArray, List.set_cons_zero, List.set_cons_succ])
      refine AnyBut.one (i := 43) rfl (by kernel_rfl) (fun K9 hK9 => ?_)
      go_simp
      refine hK9 _ _ (fun h9 => absurd rfl h9) ?_
      clear hK9 K9
      (try simp only [Act.put, List.setIfInBounds_toArray, List.set_cons_zero, List.set_cons_succ])
      refine AnyBut.done (by kernel_rfl) ?_ _
      have hBF := hSb _ HS0
      go_wp2
      go_ret
      exact ⟨rfl, hBF⟩
end Go.Proofs.Ytpjbnfpadbknpaa
