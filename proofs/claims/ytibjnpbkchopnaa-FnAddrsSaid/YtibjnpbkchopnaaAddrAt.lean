/- AddrAt (program and reference), and the walk of FnExactAddrAt: for every argument. -/
import Derived.Test.YtibjnpbkchopnaaAddrS3
import Derived.Test.YtibjnpbkchopnaaFind
namespace Go.Proofs.Ytibjnpbkchopnaa
set_option linter.unusedSimpArgs false
set_option linter.unusedVariables false
open Go.RowKit

/-- What AddrAt computes. -/
def addrAt (L : List AddrD) (id : Int) : Int := findI (fun a => a.fId == id) L
/-- None of the first k has that id. -/
def NoneTo (L : List AddrD) (id : Int) (k : Nat) : Prop := ∀ (i : Nat) (hi : i < L.length), i < k → (L[i].fId == id) = false
theorem NoneTo.succ {L : List AddrD} {id : Int} {k : Nat} (h : NoneTo L id k) (hk : k < L.length) (hn : (L[k].fId == id) = false) : NoneTo L id (k + 1) := fun i hi hik => by
  rcases Nat.lt_or_ge i k with h' | h'
  · exact h i hi h'
  · obtain rfl : i = k := by omega
    exact hn
set_option maxHeartbeats 400000 in
theorem iAddrAt (A : Option Addr) (cap : Nat) (L : List AddrD) (id : Int) (w : World) (hr : Rd AddrD.cells 4 w 0 w.heap.size A L) (hn : L.length ≤ maxLen) :
    Calls Try.prog 12 #[.slice A L.length cap, .int .i64 id] w fun e w' => e = .returned (.int .i64 (addrAt L id)) ∧ Below w.heap.size w w' := by
  unfold maxLen at hn
  go_enter Try.func12, Try.ntmps12
  go_wp2_with fail
  go_loopw [9] (fun i wr => ∃ k : Nat, k ≤ L.length ∧ i = .int .i64 k ∧ NoneTo L id k ∧ Below w.heap.size w wr) (fun i _ => L.length - (intOf i).toNat)
  case atStart => exact ⟨0, Nat.zero_le _, rfl, fun i hi h => absurd h (by omega), Below.refl _ _⟩
  case round =>
    obtain ⟨k, hk, rfl, hN, hB⟩ := hrel
    have hBz := hB.size
    by_cases hlt : k < L.length
    · obtain ⟨g, o, rfl, _, hg, hcell⟩ := hr.at_ (by omega)
      have hx : ∀ j v, (L[k].cells)[j]? = some v → wr.cell? ⟨g, o + k * 4 + j, none⟩ = some v := fun j v hv => by
        have hj : j < 4 := (List.getElem?_eq_some_iff.1 hv).1
        rw [hB.cell (p := ⟨g, o + k * 4 + j, none⟩) hg, hcell k hlt j hj, hv]
      have HX := Lib.hid hx
      clear hx hcell
      have hki : (k : Int) < (L.length : Int) := by omega
      by_cases hid : (L[k].fId == id) = true
      · have hv := Lib.hid (findI_hit (fun a : AddrD => a.fId == id) L k hlt hN hid)
        go_wp2_with (refine wpList_load_part rfl 40 (.tmp 12) rfl g _ rfl L[k].row _ HX.out Try.underlying40 rfl (by kernel_rfl) ?_)
        go_ret
        exact ⟨ret_int hv.out.symm, by (repeat' (first | (with_reducible exact Below.refl _ _) | (with_reducible assumption) | (with_reducible refine Below.alloc ?_ ?_ _) | (with_reducible refine Below.drew ?_) | (with_reducible refine below_drewN ?_ _) | (with_reducible refine Below.setCell ?_ ?_ _) | (with_reducible refine bvia ?_ (by with_reducible assumption) ?_) | go_size))⟩
      · have hid' : (L[k].fId == id) = false := by simpa using hid
        have hN' := hN.succ hlt hid'
        clear hid
        go_wp2_with (refine wpList_load_part rfl 40 (.tmp 12) rfl g _ rfl L[k].row _ HX.out Try.underlying40 rfl (by kernel_rfl) ?_)
        go_roundw
        case rel => exact ⟨k + 1, by omega, by go_num, hN', by (repeat' (first | (with_reducible exact Below.refl _ _) | (with_reducible assumption) | (with_reducible refine Below.alloc ?_ ?_ _) | (with_reducible refine Below.drew ?_) | (with_reducible refine below_drewN ?_ _) | (with_reducible refine Below.setCell ?_ ?_ _) | (with_reducible refine bvia ?_ (by with_reducible assumption) ?_) | go_size))⟩
        case measure => simp [intOf]; omega
    · obtain rfl : k = L.length := by omega
      have hv := Lib.hid (findI_none (fun a : AddrD => a.fId == id) L (fun i hi => hN i hi hi))
      go_wp2
      go_ret
      exact ⟨ret_int hv.out.symm, hB⟩
set_option maxHeartbeats 400000 in
theorem sAddrAt (A : Option Addr) (cap : Nat) (L : List AddrD) (id : Int) (w : World) (hr : Rd AddrD.cells 4 w 0 w.heap.size A L) (hn : L.length ≤ maxLen) :
    Calls Try.prog 10 #[.slice A L.length cap, .int .i64 id] w fun e w' => e = .returned (.int .i64 (addrAt L id)) ∧ w = w' := by
  unfold maxLen at hn
  go_enter Try.func10, Try.ntmps10
  go_wp2_with fail
  go_loop [5] (fun i => ∃ k : Nat, k ≤ L.length ∧ i = .int .i64 k ∧ NoneTo L id k) (fun i => L.length - (intOf i).toNat)
  case atStart => exact ⟨0, Nat.zero_le _, rfl, fun i hi h => absurd h (by omega)⟩
  case round =>
    obtain ⟨k, hk, rfl, hN⟩ := hrel
    by_cases hlt : k < L.length
    · obtain ⟨g, o, rfl, _, hg, hcell⟩ := hr.at_ (by omega)
      have a0 : w.cell? ⟨g, o + k * 4, none⟩ = some (.int .i64 L[k].fId) := hcell k hlt 0 (by decide)
      clear hcell
      have hki : (k : Int) < (L.length : Int) := by omega
      by_cases hid : (L[k].fId == id) = true
      · have hv := Lib.hid (findI_hit (fun a : AddrD => a.fId == id) L k hlt hN hid)
        go_wp2
        go_ret
        exact ⟨ret_int hv.out.symm, rfl⟩
      · have hid' : (L[k].fId == id) = false := by simpa using hid
        have hN' := hN.succ hlt hid'
        clear hid
        go_wp2
        go_round
        case rel => exact ⟨k + 1, by omega, by go_num, hN'⟩
        case measure => simp [intOf]; omega
    · obtain rfl : k = L.length := by omega
      have hv := Lib.hid (findI_none (fun a : AddrD => a.fId == id) L (fun i hi => hN i hi hi))
      go_wp2
      go_ret
      exact ⟨ret_int hv.out.symm, rfl⟩
set_option maxHeartbeats 400000 in
theorem walk_FnExactAddrAt (A : Option Addr) (cap : Nat) (L : List AddrD) (id : Int) (w : World) (hle : L.length ≤ cap) (hcap : cap ≤ maxLen) (_ : ∀ x ∈ L, x.wf) (hr : Rd AddrD.cells 4 w 0 w.heap.size A L) (_ : -9223372036854775808 ≤ id ∧ id ≤ 9223372036854775807) :
    Calls Try.prog 3 #[.slice A L.length cap, .int .i64 id] w fun e w' => e = .returned (.bool true) ∧ Below w.heap.size w w' := by
  have hm : L.length ≤ maxLen := Nat.le_trans hle hcap
  by_cases h : (L.length : Int) ≤ 1048576
  · have hv : Hid (szI 1048576 L.length = 1048576 - L.length) := if_pos h
    have hn : L.length ≤ 1048576 := by omega
    go_enter Try.func3, Try.ntmps3
    go_wp2_with fail
    refine (szAddrS_any _ _ _ _ _ (by omega) (by omega) hm).mono ?_
    rintro e w0 ⟨rfl, rfl⟩
    rw [hv.out]
    go_wp2_with fail
    refine (toAddrS_any A cap L _ hr hn).mono ?_
    rintro e w1 ⟨rfl, F1, hb1⟩
    have hz1 := hb1.size
    have HF1 := Lib.hid F1
    clear F1
    go_wp2_with fail
    refine (sAddrAt _ _ L _ _ (rd_of_fresh AddrD.cells_length 0 (Nat.zero_le _) HF1.out) hm).mono ?_
    rintro e w2 ⟨rfl, rfl⟩
    go_wp2_with fail
    refine (toAddrS_any A cap L _ (hr.later hb1 (Nat.le_refl _) hz1) hn).mono ?_
    rintro e w3 ⟨rfl, F3, hb3⟩
    have hz3 := hb3.size
    have HF3 := Lib.hid F3
    clear F3
    have hl3 : w1.heap.size < w3.heap.size := (Array.getElem?_eq_some_iff.1 HF3.out).1
    go_wp2_with fail
    refine (iAddrAt _ _ L _ _ (rd_of_fresh AddrD.cells_length 0 (Nat.zero_le _) HF3.out) hm).mono ?_
    rintro e w4 ⟨rfl, hb4⟩
    have hz4 := hb4.size
    go_wp2_with fail
    have hB4 : Below w.heap.size w w4 := (hb1.trans (hb3.mono hz1)).trans (hb4.mono (by omega))
    refine (toAddrS_any A cap L _ (hr.later hB4 (Nat.le_refl _) (by omega)) hn).mono ?_
    rintro e w5 ⟨rfl, F5, hb5⟩
    have hz5 := hb5.size
    have HF5 := Lib.hid F5
    clear F5
    go_wp2_with fail
    refine (eqAddrS_same _ _ _ _ L _ (((rd_of_fresh AddrD.cells_length 0 (Nat.zero_le _) HF3.out).later hb4 (Nat.le_refl _) hz4).later hb5 (Nat.le_refl _) hz5) (rd_of_fresh AddrD.cells_length 0 (Nat.zero_le _) HF5.out) hm).mono ?_
    rintro e w6 ⟨rfl, hb6⟩
    go_wp2
    go_ret
    exact ⟨rfl, (hB4.trans (hb5.mono (by omega))).trans (hb6.mono (by omega))⟩
  · have hv : Hid (szI 1048576 L.length = -1) := if_neg h
    go_enter Try.func3, Try.ntmps3
    go_wp2_with fail
    refine (szAddrS_any _ _ _ _ _ (by omega) (by omega) hm).mono ?_
    rintro e w0 ⟨rfl, rfl⟩
    rw [hv.out]
    go_wp2
    go_ret
    exact ⟨rfl, Below.refl _ _⟩
end Go.Proofs.Ytibjnpbkchopnaa
