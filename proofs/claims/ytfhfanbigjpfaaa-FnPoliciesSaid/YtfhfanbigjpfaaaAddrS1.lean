/- toAddr, toAddrS: for every slice that can be read. -/
import Derived.Test.YtfhfanbigjpfaaaTy
import Derived.Test.YtfhfanbigjpfaaaPart
namespace Go.Proofs.Ytfhfanbigjpfaaa
set_option linter.unusedSimpArgs false
set_option linter.unusedVariables false
open Go.RowKit

theorem toAddr_any (x : AddrD) (w : World) : Calls Try.prog 35 #[x.val] w fun e w' => e = .returned x.val ∧ Below w.heap.size w w' := by
  go_enter Try.func35, Try.ntmps35
  go_wp2
  go_returns
  exact ⟨rfl, by go_grown⟩
theorem infoAddr : (Try.prog.info? 56).map (fun i => (i.zero, i.size, i.bytes)) = some (some (.agg #[.int .i64 0, .int .i64 0, .bool false, .bool false]), 4, 24) := by kernel_rfl
set_option maxHeartbeats 400000 in
theorem toAddrS_any (A : Option Addr) (cap : Nat) (L : List AddrD) (w : World) (hr : Rd AddrD.cells 4 w 0 w.heap.size A L) (hn : L.length ≤ 1048576) :
    Calls Try.prog 24 #[.slice A L.length cap] w fun e w' => e = .returned (.slice (some ⟨w.heap.size, 0, none⟩) L.length L.length) ∧ w'.heap[w.heap.size]? = some (.cells (L.flatMap AddrD.cells).toArray 56 (0, 0)) ∧ Below w.heap.size w w' := by
  obtain ⟨i0, hi0, hz0, hz1, hz2⟩ := info_parts infoAddr
  go_enter Try.func24, Try.ntmps24
  go_wp2_with (at_make; refine wpList_make_full _ rfl _ _ _ rfl w.heap.size 56 i0 _ 4 Try.underlying46 hi0 hz0 hz1 _ _ _ _ L.length rfl rfl (by omega) (by omega) (by rw [hz2]; omega) (by simp only [maxLen]; omega) (Nat.le_refl _) ?_; intro w1 hown1 hg1)
  have hF := Fill.start (c := AddrD.cells) hown1
  have hB : Below w.heap.size w w1 := (Below.refl _ _).grown hg1 (Nat.le_refl _) (by simp)
  have hlt1 : w.heap.size < w1.heap.size := by obtain ⟨rest, _, h⟩ := hF; exact (Array.getElem?_eq_some_iff.1 h).1
  clear hown1 hg1
  go_loopw [4] (fun i wr => ∃ k : Nat, k ≤ L.length ∧ i = .int .i64 k ∧ Fill wr w.heap.size 56 AddrD.cells 4 L k ∧ Below w.heap.size w wr ∧ w.heap.size < wr.heap.size) (fun i _ => L.length - (intOf i).toNat)
  case atStart => exact ⟨0, Nat.zero_le _, rfl, hF, hB, hlt1⟩
  case round =>
    obtain ⟨k, hk, rfl, hF, hB, hsz⟩ := hrel
    by_cases hlt : k < L.length
    · obtain ⟨g, o, rfl, _, hg, hcell⟩ := hr.at_ (by omega)
      have hx : ∀ j v, (L[k].cells)[j]? = some v → wr.cell? ⟨g, o + k * 4 + j, none⟩ = some v := fun j v hv => by
        have hj : j < 4 := (List.getElem?_eq_some_iff.1 hv).1
        rw [hB.cell (p := ⟨g, o + k * 4 + j, none⟩) hg, hcell k hlt j hj, hv]
      have HX := Lib.hid hx
      clear hx hcell
      obtain ⟨rest, hrest, hG⟩ := hF
      have HR := Lib.hid hrest
      have HG := Lib.hid hG
      clear hrest hG
      have hki : (k : Int) < (L.length : Int) := by omega
      go_wp2_with (first
        | (refine wpList_load_part rfl 60 (.tmp 18) rfl g _ rfl L[k].cells _ HX.out Try.underlying60 rfl (by kernel_rfl) ?_)
        | (go_at_call 35; refine (toAddr_any L[k] _).mono ?_; rintro e w2 ⟨rfl, hb2⟩)
        | (refine wpList_store_part rfl rfl 56 (.tmp 21) (.tmp 20) rfl w.heap.size (k * 4) rfl 56 _ L[k].arr rfl ((hb2.block _ hsz).trans HG.out) (Fill.size AddrD.cells_length hlt HR.out) (by kernel_rfl) (by simp [Value.oneCell']) ?_; intro w3 hg3 hgr3 hs3))
      have hF3 := Fill.step AddrD.cells_length hlt HR.out rfl hg3
      have hB2 : Below w.heap.size w w2 := hB.trans (hb2.mono (by omega))
      have hB3 : Below w.heap.size w w3 := hB2.grown hgr3 (by have := hB2.size; omega) (by rintro q ⟨⟩; exact Nat.le_refl _)
      have hsz3 : w.heap.size < w3.heap.size := by rw [hs3]; have := hb2.size; omega
      clear hg3 hgr3 hs3 HX HR HG hb2
      go_roundw
      case rel => exact ⟨k + 1, by omega, by go_num, hF3, hB3, hsz3⟩
      case measure => simp [intOf]; omega
    · go_wp2
      go_ret
      obtain rfl : k = L.length := by omega
      exact ⟨rfl, hF.done, hB⟩
end Go.Proofs.Ytfhfanbigjpfaaa
