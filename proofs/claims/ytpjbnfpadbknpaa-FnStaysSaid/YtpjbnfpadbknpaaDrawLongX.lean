/- l01Long, l01Pick: exact. -/
import Derived.Test.YtpjbnfpadbknpaaAnyModel
import Derived.Laws.IdiomStrings
import Derived.Deep.OwnRows
namespace Go.Proofs.Ytpjbnfpadbknpaa
set_option linter.unusedSimpArgs false
set_option linter.unusedVariables false
open Go.RowKit

theorem infoU8 : (Try.prog.info? 5).map (fun i => (i.zero, i.size, i.bytes)) = some (some (.int .u8 0), 1, 1) := by kernel_rfl
/-- The bytes that F says, as cells. -/
abbrev bv (F : Nat → UInt8) (j : Nat) : Value := .int .u8 ((F j).toNat : Int)
set_option maxHeartbeats 1000000 in
theorem l01Long_any (n : Nat) (x : UInt8) (hn : n ≤ 1000) (w : World) :
    Calls Try.prog 49 #[.int .i64 n, .int .u8 (x.toNat : Int)] w fun e w' => e = .returned (.string (longV n x)) ∧ Below w.heap.size w w' := by
  go_enter Try.func49, Try.ntmps49
  have hmk := run_make_row' (P := Try.prog) 22 5 (.int .u8 0) 1 Try.underlying22 infoU8 rfl .i64 .i64 n (by omega) (by omega)
  go_wp2_with fail
  go_loopw [6] (fun i wr => ∃ (k : Nat) (F : Nat → UInt8), k ≤ n ∧ i = .int .i64 k ∧ wr.rowIs w.heap.size 5 n (bv F) ∧ (∀ j, j < k → F j = x) ∧ Below w.heap.size w wr) (fun i _ => n - (intOf i).toNat)
  case atStart => exact ⟨0, fun _ => 0, Nat.zero_le _, rfl, World.rowIs_made w (.int .u8 0) n 5, fun j hj => absurd hj (Nat.not_lt_zero _), by (repeat' (first | (with_reducible exact Below.refl _ _) | (with_reducible assumption) | (with_reducible refine Below.alloc ?_ ?_ _) | (with_reducible refine Below.drew ?_) | (with_reducible refine below_drewN ?_ _) | (with_reducible refine Below.setCell ?_ ?_ _) | (with_reducible refine bvia ?_ (by with_reducible assumption) ?_) | go_size))⟩
  case round =>
    obtain ⟨k, F, hk, rfl, hR, hF, hB⟩ := hrel
    have hBz := hB.size
    have hlt2 := hR.lt
    by_cases hlt : k < n
    · have hc := hR.cell hlt
      have hf := hR.frozen k
      have hkn : (k : Int) < (n : Int) := by omega
      have hk0 : (0 : Int) ≤ (k : Int) := by omega
      have HR := Lib.hid hR
      clear hR
      go_wp2
      go_roundw
      case rel => exact ⟨k + 1, fun j => if j = k then x else F j, by omega, by go_num, (HR.out.set k (.int .u8 (x.toNat : Int))).congr (fun i _ => by by_cases h : i = k <;> simp [h]), fun j hj => by by_cases h : j = k <;> simp [h]; exact hF j (by omega), by (repeat' (first | (with_reducible exact Below.refl _ _) | (with_reducible assumption) | (with_reducible refine Below.alloc ?_ ?_ _) | (with_reducible refine Below.drew ?_) | (with_reducible refine below_drewN ?_ _) | (with_reducible refine Below.setCell ?_ ?_ _) | (with_reducible refine bvia ?_ (by with_reducible assumption) ?_) | go_size))⟩
      case measure => simp [intOf]; omega
    · obtain rfl : k = n := by omega
      have hcv := run_convert_bytes_back (P := Try.prog) wr 22 9 5 ⟨w.heap.size, 0, none⟩ k ((List.range k).map F) Try.underlying22 Try.underlying5 Try.underlying9 (fun j hj => by
        simp at hj
        rw [show (⟨w.heap.size, 0, none⟩ : Addr).add j = ⟨w.heap.size, j, none⟩ from by simp [Addr.add]; intro h; exact h.symm, hR.cell hj]
        simp)
      simp only [List.length_map, List.length_range] at hcv
      have hl : Hid ((⟨((List.range k).map F).toArray⟩ : ByteArray) = longV k x) := by
        unfold Hid longV
        congr 2
        exact List.map_congr_left fun j hj => hF j (List.mem_range.1 hj)
      have HR := Lib.hid hR
      clear hR
      go_wp2
      go_ret
      exact ⟨by show Ending.returned (Value.string _) = _; rw [← hl.out], hB⟩
abbrev scell (x : ByteArray) : List Value := [.string x]
/-- A list of strings that a literal lays in a new block. -/
theorem RdS_lit (w : World) (g lo : Nat) (L : List ByteArray) (arr : Array Value) (t : TypeId) (hg : g = w.heap.size) (hl : lo ≤ w.heap.size) (h : arr = (L.map Value.string).toArray) :
    Rd scell 1 (w.alloc (.cells arr t)) lo (w.alloc (.cells arr t)).heap.size (some ⟨g, 0, none⟩) L := by
  subst hg
  subst h
  refine .inr ⟨w.heap.size, 0, rfl, hl, by simp, fun k hk j hj => ?_⟩
  obtain rfl : j = 0 := by omega
  rw [cell_of_row _ w.heap.size _ _ t (0, 0) (heap_alloc_new w _)]
  simp [hk]
set_option maxHeartbeats 1000000 in
theorem l01Pick_any (g : Nat) (S : Src) (s : Nat × Int) (A : Option Addr) (cap : Nat) (L : List ByteArray) (n : Nat) (w : World) (hc : Cur w g S s) (hn : n = L.length) (hr : Rd scell 1 w (g + 1) w.heap.size A L) (hL : 0 < L.length) (hm : L.length ≤ maxLen) :
    Calls Try.prog 48 #[.pointer (some ⟨g, 0, none⟩), .slice A n cap] w fun e w' => e = .returned (.string (pickSV S.B s L)) ∧ Cur w' g S (belowS S.B s L.length) ∧ Touch g (g + 1) w w' := by
  subst hn
  have hb := belowV_range S.B s L.length
  have hb2 := hb.2.1 (by omega)
  obtain ⟨k, hk⟩ : ∃ k : Nat, belowV S.B s L.length = k := ⟨(belowV S.B s L.length).toNat, by omega⟩
  rw [hk] at hb2
  have hkl : k < L.length := by omega
  have hV : Hid (pickSV S.B s L = L[k]) := by unfold Hid pickSV; rw [hk]; simp [hkl]
  have HK := Lib.hid hk
  clear hk hb
  unfold maxLen at hm
  obtain ⟨g', o, rfl, hlo, hg, hcell⟩ := hr.at_ hL
  have a0 : w.cell? ⟨g', o + k, none⟩ = some (.string L[k]) := by have := hcell k hkl 0 (by decide); simpa using this
  clear hcell hr
  go_enter Try.func48, Try.ntmps48
  go_wp2_with fail
  refine (l01Below_any g S s L.length w hc).mono ?_
  rintro e w1 ⟨rfl, c1, t1⟩
  rw [HK.out]
  have a1 := (t1.cell (p := ⟨g', o + k, none⟩) hg (.inr hlo)).trans a0
  clear a0
  go_wp2
  go_ret
  exact ⟨by rw [hV.out]; rfl, c1, t1⟩
end Go.Proofs.Ytpjbnfpadbknpaa
