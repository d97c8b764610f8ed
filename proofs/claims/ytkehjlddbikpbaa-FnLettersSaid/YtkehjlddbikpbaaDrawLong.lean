/- l01Long: for small lengths. -/
import Derived.Test.YtkehjlddbikpbaaDrawLet0
import Derived.Laws.IdiomStrings
import Derived.Deep.OwnRows
namespace Go.Proofs.Ytkehjlddbikpbaa
set_option linter.unusedSimpArgs false
set_option linter.unusedVariables false
open Go.RowKit

theorem infoU8 : (Try.prog.info? 5).map (fun i => (i.zero, i.size, i.bytes)) = some (some (.int .u8 0), 1, 1) := by kernel_rfl
/-- The bytes that F says, as cells. -/
abbrev bv (F : Nat → UInt8) (j : Nat) : Value := .int .u8 ((F j).toNat : Int)
set_option maxHeartbeats 1000000 in
theorem l01Long_some (n : Nat) (x : UInt8) (hn : n ≤ 21) (w : World) :
    Calls Try.prog 31 #[.int .i64 n, .int .u8 (x.toNat : Int)] w fun e w' => ∃ b : ByteArray, e = .returned (.string b) ∧ b.size ≤ 21 ∧ Below w.heap.size w w' := by
  go_enter Try.func31, Try.ntmps31
  have hmk := run_make_row' (P := Try.prog) 38 5 (.int .u8 0) 1 Try.underlying38 infoU8 rfl .i64 .i64 n (by omega) (by omega)
  go_wp2_with fail
  go_loopw [6] (fun i wr => ∃ (k : Nat) (F : Nat → UInt8), k ≤ n ∧ i = .int .i64 k ∧ wr.rowIs w.heap.size 5 n (bv F) ∧ Below w.heap.size w wr) (fun i _ => n - (intOf i).toNat)
  case atStart => exact ⟨0, fun _ => 0, Nat.zero_le _, rfl, World.rowIs_made w (.int .u8 0) n 5, by (repeat' (first | (with_reducible exact Below.refl _ _) | (with_reducible assumption) | (with_reducible refine Below.alloc ?_ ?_ _) | (with_reducible refine Below.drew ?_) | (with_reducible refine below_drewN ?_ _) | (with_reducible refine Below.setCell ?_ ?_ _) | (with_reducible refine bvia ?_ (by with_reducible assumption) ?_) | go_size))⟩
  case round =>
    obtain ⟨k, F, hk, rfl, hR, hB⟩ := hrel
    have hBz := hB.size
    have hlt2 := hR.lt
    by_cases hlt : k < n
    · have hc := hR.cell hlt
      have hf := hR.frozen k
      have hkn : (k : Int) < (n : Int) := by omega
      have hk0 : (0 : Int) ≤ (k : Int) := by omega
      have HR := Lib.hid hR
      clear hR
      go_wp2
      go_roundw
      case rel => exact ⟨k + 1, fun j => if j = k then x else F j, by omega, by go_num, (HR.out.set k (.int .u8 (x.toNat : Int))).congr (fun i _ => by by_cases h : i = k <;> simp [h]), by (repeat' (first | (with_reducible exact Below.refl _ _) | (with_reducible assumption) | (with_reducible refine Below.alloc ?_ ?_ _) | (with_reducible refine Below.drew ?_) | (with_reducible refine below_drewN ?_ _) | (with_reducible refine Below.setCell ?_ ?_ _) | (with_reducible refine bvia ?_ (by with_reducible assumption) ?_) | go_size))⟩
      case measure => simp [intOf]; omega
    · obtain rfl : k = n := by omega
      have hcv := run_convert_bytes_back (P := Try.prog) wr 38 9 5 ⟨w.heap.size, 0, none⟩ k ((List.range k).map F) Try.underlying38 Try.underlying5 Try.underlying9 (fun j hj => by
        simp at hj
        rw [show (⟨w.heap.size, 0, none⟩ : Addr).add j = ⟨w.heap.size, j, none⟩ from by simp [Addr.add]; intro h; exact h.symm, hR.cell hj]
        simp)
      simp only [List.length_map, List.length_range] at hcv
      have HR := Lib.hid hR
      clear hR
      go_wp2
      go_ret
      exact ⟨_, rfl, by simp [ByteArray.size]; omega, hB⟩
end Go.Proofs.Ytkehjlddbikpbaa
