/- markText: for every number up to 10^9. -/
import Derived.Test.YtpjbnfpadbknpaaPiecesS
import Derived.Laws.IdiomStrings
namespace Go.Proofs.Ytpjbnfpadbknpaa
set_option linter.unusedSimpArgs false
set_option linter.unusedVariables false
open Go.RowKit

def dig (m : Nat) : UInt8 := UInt8.ofNat (48 + m % 10)
def mtGo : Nat → ByteArray → ByteArray
  | 0, o => o
  | k + 1, o => mtGo ((k + 1) / 10) (⟨#[dig (k + 1)]⟩ ++ o)
decreasing_by omega
theorem mtGo_step {m : Nat} (h : 0 < m) (o : ByteArray) : mtGo m o = mtGo (m / 10) (⟨#[dig m]⟩ ++ o) := by
  obtain ⟨k, rfl⟩ : ∃ k, m = k + 1 := ⟨m - 1, by omega⟩
  rw [mtGo]
/-- What markText gives. -/
def markTextV (k : Int) : ByteArray := if k ≤ 0 then ⟨#[109, 48]⟩ else ⟨#[109]⟩ ++ mtGo k.toNat ⟨#[]⟩
theorem run_one (n : Nat) (hn : n < 256) (W : World) : (convert 22 9 (.slice (some ⟨W.heap.size, 0, none⟩) 1 1)).run Try.prog (W.alloc (.cells #[.int .u8 (n : Int)] 5)) = .ok (.string ⟨#[UInt8.ofNat n]⟩) (W.alloc (.cells #[.int .u8 (n : Int)] 5)) :=
  run_convert_bytes_back (P := Try.prog) _ 22 9 5 ⟨W.heap.size, 0, none⟩ 1 [UInt8.ofNat n] Try.underlying22 Try.underlying5 Try.underlying9 (fun j hj => by
    simp at hj
    subst hj
    rw [addr_add, cell_of_row _ _ _ _ _ (0, 0) (heap_alloc_new W _)]
    simp [Nat.mod_eq_of_lt hn])
set_option maxHeartbeats 1000000 in
theorem markText_any (k : Int) (w : World) (h0 : 0 < k) (h1 : k ≤ 1000000000) :
    Calls Try.prog 54 #[.int .i64 k] w fun e w' => e = .returned (.string (markTextV k)) ∧ Below w.heap.size w w' := by
  have hv : Hid (markTextV k = ⟨#[109]⟩ ++ mtGo k.toNat ⟨#[]⟩) := by unfold Hid markTextV; rw [if_neg (by omega)]
  obtain ⟨n, rfl⟩ : ∃ n : Nat, k = n := ⟨k.toNat, by omega⟩
  go_enter Try.func54, Try.ntmps54
  go_wp2_with fail
  go_loopw [0, 3] (fun q v wr => ∃ (m : Nat) (o : ByteArray), q = .int .i64 m ∧ v = .string o ∧ o.size + m ≤ n ∧ Hid (mtGo m o = mtGo n ⟨#[]⟩) ∧ Below w.heap.size w wr) (fun q _ _ => (intOf q).toNat)
  case atStart => exact ⟨n, ⟨#[]⟩, rfl, rfl, by show 0 + n ≤ n; omega, rfl, Below.refl _ _⟩
  case round =>
    obtain ⟨m, o, rfl, rfl, hs, hm, hB⟩ := hrel
    by_cases hp : 0 < m
    · have hmi : (0 : Int) < (m : Int) := by omega
      have hrun := run_one (48 + m % 10) (by omega) wr
      have hcast : (((48 + m % 10 : Nat)) : Int) = 48 + (m : Int) % 10 := by omega
      rw [hcast, show UInt8.ofNat (48 + m % 10) = dig m from rfl] at hrun
      have hBz := hB.size
      clear hcast
      have hstep : Hid (mtGo (m / 10) (⟨#[dig m]⟩ ++ o) = mtGo n ⟨#[]⟩) := by rw [← hm.out, mtGo_step hp o]; rfl
      have hsz : (⟨#[dig m]⟩ ++ o : ByteArray).size + m / 10 ≤ n := by rw [show (⟨#[dig m]⟩ ++ o : ByteArray).size = 1 + o.size from by rw [ByteArray.size_append]; rfl]; omega
      have HS := Lib.hid hsz
      clear hsz
      go_wp2
      go_roundw
      case rel => exact ⟨m / 10, _, by first | rfl | (congr 1; omega), rfl, HS.out, hstep, by (repeat' (first | (with_reducible exact Below.refl _ _) | (with_reducible assumption) | (with_reducible refine Below.alloc ?_ ?_ _) | (with_reducible refine Below.drew ?_) | (with_reducible refine below_drewN ?_ _) | (with_reducible refine Below.setCell ?_ ?_ _) | (with_reducible refine bvia ?_ (by with_reducible assumption) ?_) | go_size))⟩
      case measure => simp [intOf]; omega
    · have hm0 : m = 0 := by omega
      have hv2 : Hid (markTextV n = ⟨#[109]⟩ ++ o) := by rw [hv.out, show ((n : Int).toNat) = n from by omega, ← hm.out, hm0]; simp only [Hid]; rw [mtGo]
      have hmi : (m : Int) ≤ 0 := by omega
      clear hm0
      go_wp2
      go_ret
      exact ⟨by rw [hv2.out]; rfl, hB⟩
end Go.Proofs.Ytpjbnfpadbknpaa
