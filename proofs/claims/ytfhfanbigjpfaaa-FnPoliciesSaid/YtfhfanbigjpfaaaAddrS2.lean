/- eqAddr, eqAddrS: two slices that read alike. -/
import Derived.Test.YtfhfanbigjpfaaaAddrS1
import Derived.StillTailTactics
namespace Go.Proofs.Ytfhfanbigjpfaaa
set_option linter.unusedSimpArgs false
set_option linter.unusedVariables false
open Go.RowKit

theorem eqAddr_same (x : AddrD) (w : World) : Calls Try.prog 36 #[x.val, x.val] w fun e w' => e = .returned (.bool true) ∧ Below w.heap.size w w' := by
  go_enter Try.func36, Try.ntmps36
  go_wp2
  go_ret
  exact ⟨rfl, by go_grown⟩
set_option maxHeartbeats 400000 in
theorem eqAddrS_same (A B : Option Addr) (ca cb : Nat) (L : List AddrD) (w : World) (hr : Rd AddrD.cells 4 w 0 w.heap.size A L) (hr2 : Rd AddrD.cells 4 w 0 w.heap.size B L) (hn : L.length ≤ maxLen) :
    Calls Try.prog 26 #[.slice A L.length ca, .slice B L.length cb] w fun e w' => e = .returned (.bool true) ∧ Below w.heap.size w w' := by
  unfold maxLen at hn
  go_enter Try.func26, Try.ntmps26
  go_wp2_with fail
  go_loopw [5] (fun i wr => ∃ k : Nat, k ≤ L.length ∧ i = .int .i64 k ∧ Below w.heap.size w wr) (fun i _ => L.length - (intOf i).toNat)
  case atStart => exact ⟨0, Nat.zero_le _, rfl, Below.refl _ _⟩
  case round =>
    obtain ⟨k, hk, rfl, hB⟩ := hrel
    by_cases hlt : k < L.length
    · obtain ⟨g, o, rfl, _, hg, hcell⟩ := hr.at_ (by omega)
      obtain ⟨g2, o2, rfl, _, hg2, hcell2⟩ := hr2.at_ (by omega)
      have hx : ∀ j v, (L[k].cells)[j]? = some v → wr.cell? ⟨g, o + k * 4 + j, none⟩ = some v := fun j v hv => by
        have hj : j < 4 := (List.getElem?_eq_some_iff.1 hv).1
        rw [hB.cell (p := ⟨g, o + k * 4 + j, none⟩) hg, hcell k hlt j hj, hv]
      have hy : ∀ j v, (L[k].cells)[j]? = some v → wr.cell? ⟨g2, o2 + k * 4 + j, none⟩ = some v := fun j v hv => by
        have hj : j < 4 := (List.getElem?_eq_some_iff.1 hv).1
        rw [hB.cell (p := ⟨g2, o2 + k * 4 + j, none⟩) hg2, hcell2 k hlt j hj, hv]
      have a0 : wr.cell? ⟨g, o + k * 4, none⟩ = some (.int .i64 L[k].fId) := hx 0 _ rfl
      have a1 : wr.cell? ⟨g, o + k * 4 + 1, none⟩ = some (.int .i64 L[k].fAddr) := hx 1 _ rfl
      have a2 : wr.cell? ⟨g, o + k * 4 + 2, none⟩ = some (.bool L[k].fSpare) := hx 2 _ rfl
      have a3 : wr.cell? ⟨g, o + k * 4 + 3, none⟩ = some (.bool L[k].fTold) := hx 3 _ rfl
      have b0 : wr.cell? ⟨g2, o2 + k * 4, none⟩ = some (.int .i64 L[k].fId) := hy 0 _ rfl
      have b1 : wr.cell? ⟨g2, o2 + k * 4 + 1, none⟩ = some (.int .i64 L[k].fAddr) := hy 1 _ rfl
      have b2 : wr.cell? ⟨g2, o2 + k * 4 + 2, none⟩ = some (.bool L[k].fSpare) := hy 2 _ rfl
      have b3 : wr.cell? ⟨g2, o2 + k * 4 + 3, none⟩ = some (.bool L[k].fTold) := hy 3 _ rfl
      clear hx hy hcell hcell2
      have hki : (k : Int) < (L.length : Int) := by omega
      have hk0 : (0 : Int) ≤ (k : Int) := by omega
      go_wp2_with fail
      go_still_tail 8, (by kernel_rfl)
      go_wp2_with (go_at_call 36; refine (eqAddr_same L[k] _).mono ?_; rintro e w2 ⟨rfl, hb2⟩)
      have hB2 : Below w.heap.size w w2 := hB.trans (Below.trans (Below.drew (Below.refl _ _)) (hb2.mono (by have := hB.size; simpa using this)))
      clear hb2 a0 a1 a2 a3 b0 b1 b2 b3
      go_roundw
      case rel => exact ⟨k + 1, by omega, by go_num, hB2⟩
      case measure => simp [intOf]; omega
    · go_wp2
      go_ret
      exact ⟨rfl, hB⟩
end Go.Proofs.Ytfhfanbigjpfaaa
