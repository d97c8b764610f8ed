/- toPiece, toPieceS, eqPiece, eqPieceS, szPiece, szPieceS: for every slice that can be read. Written by program (pieces1.py). -/
import Derived.Test.YtpjbnfpadbknpaaTy
import Derived.Test.YtpjbnfpadbknpaaPart
import Derived.Test.YtpjbnfpadbknpaaMark
import Derived.StillTailTactics
namespace Go.Proofs.Ytpjbnfpadbknpaa
set_option linter.unusedSimpArgs false
set_option linter.unusedVariables false
open Go.RowKit

theorem toPiece_any (x : PieceD) (w : World) : Calls Try.prog 52 #[x.val] w fun e w' => e = .returned x.val ∧ Below w.heap.size w w' := by
  go_enter Try.func52, Try.ntmps52
  go_wp2
  go_returns
  exact ⟨rfl, by go_grown⟩
theorem infoPiece : (Try.prog.info? 44).map (fun i => (i.zero, i.size, i.bytes)) = some (some (.agg #[.int .i64 0, .string ⟨#[]⟩]), 2, 24) := by kernel_rfl
set_option maxHeartbeats 400000 in
theorem toPieceS_any (A : Option Addr) (cap : Nat) (L : List PieceD) (w : World) (hr : Rd PieceD.cells 2 w 0 w.heap.size A L) (hn : L.length ≤ 1048576) :
    Calls Try.prog 43 #[.slice A L.length cap] w fun e w' => e = .returned (.slice (some ⟨w.heap.size, 0, none⟩) L.length L.length) ∧ w'.heap[w.heap.size]? = some (.cells (L.flatMap PieceD.cells).toArray 44 (0, 0)) ∧ Below w.heap.size w w' := by
  obtain ⟨i0, hi0, hz0, hz1, hz2⟩ := info_parts infoPiece
  go_enter Try.func43, Try.ntmps43
  go_wp2_with (at_make; refine wpList_make_full _ rfl _ _ _ rfl w.heap.size 44 i0 _ 2 Try.underlying24 hi0 hz0 hz1 _ _ _ _ L.length rfl rfl (by omega) (by omega) (by rw [hz2]; omega) (by simp only [maxLen]; omega) (Nat.le_refl _) ?_; intro w1 hown1 hg1)
  have hF := Fill.start (c := PieceD.cells) hown1
  have hB : Below w.heap.size w w1 := (Below.refl _ _).grown hg1 (Nat.le_refl _) (by simp)
  have hlt1 : w.heap.size < w1.heap.size := by obtain ⟨rest, _, h⟩ := hF; exact (Array.getElem?_eq_some_iff.1 h).1
  clear hown1 hg1
  go_loopw [4] (fun i wr => ∃ k : Nat, k ≤ L.length ∧ i = .int .i64 k ∧ Fill wr w.heap.size 44 PieceD.cells 2 L k ∧ Below w.heap.size w wr ∧ w.heap.size < wr.heap.size) (fun i _ => L.length - (intOf i).toNat)
  case atStart => exact ⟨0, Nat.zero_le _, rfl, hF, hB, hlt1⟩
  case round =>
    obtain ⟨k, hk, rfl, hF, hB, hsz⟩ := hrel
    by_cases hlt : k < L.length
    · obtain ⟨g, o, rfl, _, hg, hcell⟩ := hr.at_ (by omega)
      have hx : ∀ j v, (L[k].cells)[j]? = some v → wr.cell? ⟨g, o + k * 2 + j, none⟩ = some v := fun j v hv => by
        have hj : j < 2 := (List.getElem?_eq_some_iff.1 hv).1
        rw [hB.cell (p := ⟨g, o + k * 2 + j, none⟩) hg, hcell k hlt j hj, hv]
      have HX := Lib.hid hx
      clear hx hcell
      obtain ⟨rest, hrest, hG⟩ := hF
      have HR := Lib.hid hrest
      have HG := Lib.hid hG
      clear hrest hG
      have hki : (k : Int) < (L.length : Int) := by omega
      go_wp2_with (first
        | (refine wpList_load_part rfl 70 (.tmp 18) rfl g _ rfl L[k].cells _ HX.out Try.underlying70 rfl (by kernel_rfl) ?_)
        | (go_at_call 52; refine (toPiece_any L[k] _).mono ?_; rintro e w2 ⟨rfl, hb2⟩)
        | (refine wpList_store_part rfl rfl 44 (.tmp 21) (.tmp 20) rfl w.heap.size (k * 2) rfl 44 _ L[k].arr rfl ((hb2.block _ hsz).trans HG.out) (Fill.size PieceD.cells_length hlt HR.out) (by kernel_rfl) (by simp [Value.oneCell']) ?_; intro w3 hg3 hgr3 hs3))
      have hF3 := Fill.step PieceD.cells_length hlt HR.out rfl hg3
      have hB2 : Below w.heap.size w w2 := hB.trans (hb2.mono (by omega))
      have hB3 : Below w.heap.size w w3 := hB2.grown hgr3 (by have := hB2.size; omega) (by rintro q ⟨⟩; exact Nat.le_refl _)
      have hsz3 : w.heap.size < w3.heap.size := by rw [hs3]; have := hb2.size; omega
      clear hg3 hgr3 hs3 HX HR HG hb2
      go_roundw
      case rel => exact ⟨k + 1, by omega, by go_num, hF3, hB3, hsz3⟩
      case measure => simp [intOf]; omega
    · go_wp2
      go_ret
      obtain rfl : k = L.length := by omega
      exact ⟨rfl, hF.done, hB⟩
theorem eqPiece_same (x : PieceD) (w : World) : Calls Try.prog 53 #[x.val, x.val] w fun e w' => e = .returned (.bool true) ∧ Below w.heap.size w w' := by
  go_enter Try.func53, Try.ntmps53
  go_wp2
  go_ret
  exact ⟨rfl, by go_grown⟩
set_option maxHeartbeats 400000 in
theorem eqPieceS_same (A B : Option Addr) (ca cb : Nat) (L : List PieceD) (w : World) (hr : Rd PieceD.cells 2 w 0 w.heap.size A L) (hr2 : Rd PieceD.cells 2 w 0 w.heap.size B L) (hn : L.length ≤ maxLen) :
    Calls Try.prog 44 #[.slice A L.length ca, .slice B L.length cb] w fun e w' => e = .returned (.bool true) ∧ Below w.heap.size w w' := by
  unfold maxLen at hn
  go_enter Try.func44, Try.ntmps44
  go_wp2_with fail
  go_loopw [5] (fun i wr => ∃ k : Nat, k ≤ L.length ∧ i = .int .i64 k ∧ Below w.heap.size w wr) (fun i _ => L.length - (intOf i).toNat)
  case atStart => exact ⟨0, Nat.zero_le _, rfl, Below.refl _ _⟩
  case round =>
    obtain ⟨k, hk, rfl, hB⟩ := hrel
    by_cases hlt : k < L.length
    · obtain ⟨g, o, rfl, _, hg, hcell⟩ := hr.at_ (by omega)
      obtain ⟨g2, o2, rfl, _, hg2, hcell2⟩ := hr2.at_ (by omega)
      have hx : ∀ j v, (L[k].cells)[j]? = some v → wr.cell? ⟨g, o + k * 2 + j, none⟩ = some v := fun j v hv => by
        have hj : j < 2 := (List.getElem?_eq_some_iff.1 hv).1
        rw [hB.cell (p := ⟨g, o + k * 2 + j, none⟩) hg, hcell k hlt j hj, hv]
      have hy : ∀ j v, (L[k].cells)[j]? = some v → wr.cell? ⟨g2, o2 + k * 2 + j, none⟩ = some v := fun j v hv => by
        have hj : j < 2 := (List.getElem?_eq_some_iff.1 hv).1
        rw [hB.cell (p := ⟨g2, o2 + k * 2 + j, none⟩) hg2, hcell2 k hlt j hj, hv]
      have a0 : wr.cell? ⟨g, o + k * 2, none⟩ = some (.int .i64 L[k].fAt) := hx 0 _ rfl
      have b0 : wr.cell? ⟨g2, o2 + k * 2, none⟩ = some (.int .i64 L[k].fAt) := hy 0 _ rfl
      have a1 : wr.cell? ⟨g, o + k * 2 + 1, none⟩ = some (.string L[k].fText) := hx 1 _ rfl
      have b1 : wr.cell? ⟨g2, o2 + k * 2 + 1, none⟩ = some (.string L[k].fText) := hy 1 _ rfl
      clear hx hy hcell hcell2
      have hki : (k : Int) < (L.length : Int) := by omega
      have hk0 : (0 : Int) ≤ (k : Int) := by omega
      go_wp2_with fail
      go_still_tail 8, (by kernel_rfl)
      go_wp2_with (go_at_call 53; refine (eqPiece_same L[k] _).mono ?_; rintro e w2 ⟨rfl, hb2⟩)
      have hB2 : Below w.heap.size w w2 := hB.trans (Below.trans (Below.drew (Below.refl _ _)) (hb2.mono (by have := hB.size; simpa using this)))
      clear hb2 a0 b0 a1 b1
      go_roundw
      case rel => exact ⟨k + 1, by omega, by go_num, hB2⟩
      case measure => simp [intOf]; omega
    · go_wp2
      go_ret
      exact ⟨rfl, hB⟩
theorem szPiece_any (x : PieceD) (l : Int) (w : World) (h0 : 0 ≤ l) (h1 : l ≤ 1048576) (hm : x.fText.size ≤ maxLen) :
    Calls Try.prog 51 #[x.val, .int .i64 l] w fun e w' => e = .returned (.int .i64 (szI l x.fText.size)) ∧ Below w.heap.size w w' := by
  unfold maxLen at hm
  by_cases h : (x.fText.size : Int) ≤ l
  · have hv : Hid (szI l x.fText.size = l - x.fText.size) := if_pos h
    go_enter Try.func51, Try.ntmps51
    go_wp2
    go_ret
    exact ⟨ret_int hv.out.symm, by go_grown⟩
  · have hv : Hid (szI l x.fText.size = -1) := if_neg h
    go_enter Try.func51, Try.ntmps51
    go_wp2
    go_ret
    exact ⟨ret_int hv.out.symm, by go_grown⟩
/-- The bytes of the pieces. -/
def sumT : List PieceD → Nat
  | [] => 0
  | x :: L => x.fText.size + sumT L
theorem sumT_app (A B : List PieceD) : sumT (A ++ B) = sumT A + sumT B := by
  induction A with
  | nil => simp [sumT]
  | cons x A ih => simp only [List.cons_append, sumT, ih]; omega
theorem sumT_succ {L : List PieceD} {k : Nat} (h : k < L.length) : sumT (L.take (k + 1)) = sumT (L.take k) + L[k].fText.size := by
  rw [List.take_succ_eq_append_getElem h, sumT_app]; simp [sumT]
theorem sumT_take (L : List PieceD) (k : Nat) : sumT (L.take k) ≤ sumT L := by
  have := sumT_app (L.take k) (L.drop k)
  rw [List.take_append_drop] at this
  omega
theorem sumT_get {L : List PieceD} {k : Nat} (h : k < L.length) : L[k].fText.size ≤ sumT L := by
  have h1 := sumT_succ h
  have h2 := sumT_take L (k + 1)
  omega
set_option maxHeartbeats 1000000 in
theorem szPieceS_any (A : Option Addr) (cap : Nat) (L : List PieceD) (l : Int) (w : World) (hr : Rd PieceD.cells 2 w 0 w.heap.size A L) (hm : L.length ≤ maxLen) (ht : ∀ x ∈ L, x.fText.size ≤ maxLen) (h0 : 0 ≤ l) (h1 : l ≤ 1048576) :
    Calls Try.prog 42 #[.slice A L.length cap, .int .i64 l] w fun e w' => e = .returned (.int .i64 (szI l (L.length + sumT L : Nat))) ∧ Below w.heap.size w w' := by
  unfold maxLen at hm
  by_cases h : (L.length : Int) ≤ l
  · go_enter Try.func42, Try.ntmps42
    go_wp2_with fail
    go_loopw [1, 5] (fun q i wr => ∃ k : Nat, k ≤ L.length ∧ i = .int .i64 k ∧ q = .int .i64 (l - L.length - (sumT (L.take k) : Nat)) ∧ ((L.length + sumT (L.take k) : Nat) : Int) ≤ l ∧ Below w.heap.size w wr) (fun _ i _ => L.length - (intOf i).toNat)
    case atStart => exact ⟨0, Nat.zero_le _, rfl, by simp [sumT], by simp [sumT]; omega, Below.refl _ _⟩
    case round =>
      obtain ⟨k, hk, rfl, rfl, hq, hB⟩ := hrel
      have hBz := hB.size
      obtain ⟨c, hc⟩ : ∃ c, sumT (L.take k) = c := ⟨_, rfl⟩
      rw [hc] at hq
      rw [hc]
      by_cases hlt : k < L.length
      · obtain ⟨g, o, rfl, _, hg, hcell⟩ := hr.at_ (by omega)
        have hx : ∀ j v, (L[k].cells)[j]? = some v → wr.cell? ⟨g, o + k * 2 + j, none⟩ = some v := fun j v hv => by
          have hj : j < 2 := (List.getElem?_eq_some_iff.1 hv).1
          rw [hB.cell (p := ⟨g, o + k * 2 + j, none⟩) hg, hcell k hlt j hj, hv]
        have HX := Lib.hid hx
        clear hx hcell
        have hki : (k : Int) < (L.length : Int) := by omega
        have hs := sumT_succ hlt
        rw [hc] at hs
        have HS := Lib.hid hs
        have hle := sumT_take L (k + 1)
        rw [hs] at hle
        have htk := ht _ (List.getElem_mem hlt)
        clear hc hs
        by_cases hf : (L[k].fText.size : Int) ≤ l - L.length - c
        · have hv : Hid (szI (l - L.length - c) L[k].fText.size = l - L.length - c - L[k].fText.size) := if_pos hf
          go_wp2_with (first
            | (refine wpList_load_part rfl 70 (.tmp 20) rfl g _ rfl L[k].cells _ HX.out Try.underlying70 rfl (by kernel_rfl) ?_)
            | (go_at_call 51; refine (szPiece_any L[k] (l - L.length - c) _ (by omega) (by omega) htk).mono ?_; rintro e w2 ⟨rfl, hb2⟩; rw [hv.out]))
          go_roundw
          case rel => exact ⟨k + 1, by omega, by go_num, by rw [HS.out]; congr 1; omega, by rw [HS.out]; omega, hB.trans (hb2.mono hBz)⟩
          case measure => simp [intOf]; omega
        · have hv : Hid (szI (l - L.length - c) L[k].fText.size = -1) := if_neg hf
          have hw : Hid (szI l (L.length + sumT L : Nat) = -1) := if_neg (by omega)
          go_wp2_with (first
            | (refine wpList_load_part rfl 70 (.tmp 20) rfl g _ rfl L[k].cells _ HX.out Try.underlying70 rfl (by kernel_rfl) ?_)
            | (go_at_call 51; refine (szPiece_any L[k] (l - L.length - c) _ (by omega) (by omega) htk).mono ?_; rintro e w2 ⟨rfl, hb2⟩; rw [hv.out]))
          go_ret
          exact ⟨ret_int hw.out.symm, hB.trans (hb2.mono hBz)⟩
      · obtain rfl : k = L.length := by omega
        rw [List.take_length] at hc
        have hw : Hid (szI l (L.length + sumT L : Nat) = l - L.length - c) := by unfold Hid szI; rw [hc, if_pos hq]; omega
        clear hc
        go_wp2
        go_ret
        exact ⟨ret_int hw.out.symm, hB⟩
  · have hw : Hid (szI l (L.length + sumT L : Nat) = -1) := if_neg (by omega)
    go_enter Try.func42, Try.ntmps42
    go_wp2
    go_ret
    exact ⟨ret_int hw.out.symm, Below.refl _ _⟩
end Go.Proofs.Ytpjbnfpadbknpaa
