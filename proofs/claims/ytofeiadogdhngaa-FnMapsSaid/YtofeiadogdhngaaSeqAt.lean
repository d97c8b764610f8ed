/- SeqAt, CutMaps (program): for every slice that can be read (CutMaps: of a list that is in order). -/
import Derived.Test.YtofeiadogdhngaaMapLaw
import Derived.Test.YtofeiadogdhngaaMapO
namespace Go.Proofs.Ytofeiadogdhngaa
set_option linter.unusedSimpArgs false
set_option linter.unusedVariables false
open Go.RowKit

def NoHit (L : List MapD) (sub : Int) (k : Nat) : Prop := ∀ (i : Nat) (hi : i < L.length), i < k → seqHit sub L[i] = false
theorem NoHit.succ {L : List MapD} {sub : Int} {k : Nat} (h : NoHit L sub k) (hk : k < L.length) (hn : seqHit sub L[k] = false) : NoHit L sub (k + 1) := fun i hi hik => by
  rcases Nat.lt_or_ge i k with h' | h'
  · exact h i hi h'
  · obtain rfl : i = k := by omega
    exact hn
theorem seqAt_none {L : List MapD} {sub : Int} (h : NoHit L sub L.length) : seqAt L sub = (0, false) := by
  unfold seqAt
  split
  · have : L.find? (seqHit sub) = none := by
      rw [List.find?_eq_none]
      intro x hx
      obtain ⟨i, hi, rfl⟩ := List.getElem_of_mem hx
      simp [h i hi hi]
    rw [this]
  · rfl
set_option maxRecDepth 100000 in
set_option maxHeartbeats 2000000 in
theorem iSeqAt (A : Option Addr) (cap : Nat) (L : List MapD) (sub : Int) (w : World) (hr : Rd MapD.cells 3 w 0 w.heap.size A L) (hle : L.length ≤ cap) (hcm : cap ≤ maxLen) :
    Calls Try.prog 19 #[.slice A L.length cap, .int .i64 sub] w fun e w' => e = .returned (.tuple #[.int .i64 (seqAt L sub).1, .bool (seqAt L sub).2]) ∧ Below w.heap.size w w' := by
  by_cases hok : mapsOk L = true
  · have HC := Lib.hid (iMapsOk A cap L w hr hle hcm)
    unfold maxLen at hcm
    go_enter Try.func19, Try.ntmps19
    go_wp2_with fail
    refine HC.out.mono ?_
    rintro e w1 ⟨rfl, hb1⟩
    rw [hok]
    have hz1 := hb1.size
    have hr1 := hr.later hb1 (Nat.le_refl _) hz1
    go_wp2_with fail
    go_loopw [13] (fun i wr => ∃ k : Nat, k ≤ L.length ∧ i = .int .i64 k ∧ NoHit L sub k ∧ Below w1.heap.size w1 wr) (fun i _ => L.length - (intOf i).toNat)
    case atStart => exact ⟨0, Nat.zero_le _, rfl, fun i hi h => absurd h (by omega), Below.refl _ _⟩
    case round =>
      obtain ⟨k, hk, rfl, hN, hB⟩ := hrel
      have hBz := hB.size
      by_cases hlt : k < L.length
      · obtain ⟨g, o, rfl, _, hg, hcell⟩ := hr1.at_ (by omega)
        have hx : ∀ j v, (L[k].cells)[j]? = some v → wr.cell? ⟨g, o + k * 3 + j, none⟩ = some v := fun j v hv => by
          have hj : j < 3 := (List.getElem?_eq_some_iff.1 hv).1
          rw [hB.cell (p := ⟨g, o + k * 3 + j, none⟩) hg, hcell k hlt j hj, hv]
        have HX := Lib.hid hx
        clear hx hcell
        have hki : (k : Int) < (L.length : Int) := by omega
        have hbd := mapsOk_bd hok hlt
        unfold bndM at hbd
        cases hh : seqHit sub L[k] with
        | true =>
          have hv := Lib.hid (seqAt_hit hok (List.getElem_mem hlt) hh)
          have hs : L[k].fSub ≤ sub ∧ sub ≤ L[k].fSub + L[k].fLen - 1 := by unfold seqHit winB at hh; simpa using hh
          have HH : Hid (winB sub L[k].fSub (L[k].fSub + L[k].fLen - 1) = true) := hh
          clear hh
          go_wp2_with (first
            | (refine wpList_load_part rfl 30 (.tmp 15) rfl g _ rfl L[k].row _ HX.out Try.underlying30 rfl (by kernel_rfl) ?_)
            | (go_at_call 28; refine (within_any _ _ _ _).mono ?_; rintro e w2 ⟨rfl, rfl⟩; rw [HH.out]))
          go_ret2
          exact ⟨by rw [hv.out]; rfl, hb1.trans ((by (repeat' (first | (with_reducible exact Below.refl _ _) | (with_reducible assumption) | (with_reducible refine Below.alloc ?_ ?_ _) | (with_reducible refine Below.drew ?_) | (with_reducible refine below_drewN ?_ _) | (with_reducible refine Below.setCell ?_ ?_ _) | (with_reducible refine bvia ?_ (by with_reducible assumption) ?_) | go_size)) : Below w1.heap.size w1 _).mono hz1)⟩
        | false =>
          have hN' := hN.succ hlt hh
          have HH : Hid (winB sub L[k].fSub (L[k].fSub + L[k].fLen - 1) = false) := hh
          clear hh hN
          go_wp2_with (first
            | (refine wpList_load_part rfl 30 (.tmp 15) rfl g _ rfl L[k].row _ HX.out Try.underlying30 rfl (by kernel_rfl) ?_)
            | (go_at_call 28; refine (within_any _ _ _ _).mono ?_; rintro e w2 ⟨rfl, rfl⟩; rw [HH.out]))
          go_roundw
          case rel => exact ⟨k + 1, by omega, by go_num, hN', by (repeat' (first | (with_reducible exact Below.refl _ _) | (with_reducible assumption) | (with_reducible refine Below.alloc ?_ ?_ _) | (with_reducible refine Below.drew ?_) | (with_reducible refine below_drewN ?_ _) | (with_reducible refine Below.setCell ?_ ?_ _) | (with_reducible refine bvia ?_ (by with_reducible assumption) ?_) | go_size))⟩
          case measure => simp [intOf]; omega
      · obtain rfl : k = L.length := by omega
        have hv := Lib.hid (seqAt_none hN)
        go_wp2
        go_ret2
        exact ⟨by rw [hv.out]; rfl, hb1.trans (hB.mono hz1)⟩
  · have hok : mapsOk L = false := by simpa using hok
    have hv : Hid (seqAt L sub = (0, false)) := by unfold Hid seqAt; rw [hok]; rfl
    have HC := Lib.hid (iMapsOk A cap L w hr hle hcm)
    go_enter Try.func19, Try.ntmps19
    go_wp2_with fail
    refine HC.out.mono ?_
    rintro e w1 ⟨rfl, hb1⟩
    rw [hok]
    go_wp2
    go_ret2
    exact ⟨by rw [hv.out]; rfl, hb1⟩
theorem cut_no {L : List MapD} {sub : Int} {k : Nat} (h : k < L.length) (ht : ¬ sub < L[k].fSub + L[k].fLen) : cutM (L.take (k + 1)) sub = cutM (L.take k) sub := by
  unfold cutM; rw [List.take_succ_eq_append_getElem h, List.filter_append]; simp; omega
theorem cut_yes {L : List MapD} {sub : Int} {k : Nat} (h : k < L.length) (ht : sub < L[k].fSub + L[k].fLen) : cutM (L.take (k + 1)) sub = cutM (L.take k) sub ++ [L[k]] := by
  unfold cutM; rw [List.take_succ_eq_append_getElem h, List.filter_append]; simp [ht]
theorem cut_le' (L : List MapD) (sub : Int) (k : Nat) : (cutM (L.take k) sub).length ≤ L.length := Nat.le_trans (List.length_filter_le _ _) (by rw [List.length_take]; omega)
set_option maxRecDepth 100000 in
set_option maxHeartbeats 2000000 in
theorem iCutMaps (A : Option Addr) (cap : Nat) (L : List MapD) (sub : Int) (w : World) (hok : mapsOk L = true) (hr : Rd MapD.cells 3 w 0 w.heap.size A L) (hle : L.length ≤ cap) (hcm : cap ≤ maxLen) (hn : L.length ≤ 4294967296) :
    Calls Try.prog 20 #[.slice A L.length cap, .int .i64 sub] w (RetSl w 30 MapD.cells 3 (cutM L sub) fun v => v) := by
  have HC := Lib.hid (iMapsOk A cap L w hr hle hcm)
  go_enter Try.func20, Try.ntmps20
  go_wp2_with fail
  refine HC.out.mono ?_
  rintro e w0 ⟨rfl, hb0⟩
  rw [hok]
  have hz0 := hb0.size
  have hr0 := hr.later hb0 (Nat.le_refl _) hz0
  go_wp2_with fail
  go_loopw [5, 15] (fun v i wr => ∃ k : Nat, k ≤ L.length ∧ i = .int .i64 k ∧ Own wr w0.heap.size 30 MapD.cells 3 v (cutM (L.take k) sub) ∧ Below w0.heap.size w0 wr) (fun _ i _ => L.length - (intOf i).toNat)
  case atStart => exact ⟨0, Nat.zero_le _, rfl, Own.nil _ _ _, Below.refl _ _⟩
  case round =>
    obtain ⟨k, hk, rfl, hO, hB⟩ := hrel
    have hBz := hB.size
    by_cases hlt : k < L.length
    · obtain ⟨g, o, rfl, _, hg, hcell⟩ := hr0.at_ (by omega)
      have hx : ∀ j v, (L[k].cells)[j]? = some v → wr.cell? ⟨g, o + k * 3 + j, none⟩ = some v := fun j v hv => by
        have hj : j < 3 := (List.getElem?_eq_some_iff.1 hv).1
        rw [hB.cell (p := ⟨g, o + k * 3 + j, none⟩) hg, hcell k hlt j hj, hv]
      have HX := Lib.hid hx
      clear hx hcell
      have hki : (k : Int) < (L.length : Int) := by omega
      have hle' := cut_le' L sub k
      have hbd := mapsOk_bd hok hlt
      unfold bndM at hbd
      by_cases ht : sub < L[k].fSub + L[k].fLen
      · have hs := Lib.hid (cut_yes hlt ht)
        have HO := Lib.hid hO
        clear hO
        go_wp2_with (first
          | (refine wpList_load_part rfl 30 (.tmp 17) rfl g _ rfl L[k].row _ HX.out Try.underlying30 rfl (by kernel_rfl) ?_)
          | (at_builtin; refine wpList_append_rd _ rfl (.tmp 26) (.tmp 28) rfl slMap MapD.cells_length MapD.one w0.heap.size _ (cutM (L.take k) sub) [L[k]] rfl ((HO.out.alloc _).alloc _) (some ⟨wr.heap.size + 1, 0, none⟩) 1 1 0 (wr.heap.size + 2) rfl rfl (rd_one _ _ _ _ MapD.cells_length rfl _ (by simp) _ (by omega)) (by simp; omega) (by simp; omega) ?_; intro v1 w1 O1 G1 A1))
        have hB1 : Below w0.heap.size w0 w1 := Own.below2 G1 ((HO.out.alloc _).alloc _) (by go_grown) (Nat.le_refl _) (by simp; omega)
        clear G1 A1
        go_roundw
        case rel => exact ⟨k + 1, by omega, by go_num, by rw [hs.out]; exact O1, hB1⟩
        case measure => simp [intOf]; omega
      · have hs := Lib.hid (cut_no hlt ht)
        have HO := Lib.hid hO
        clear hO
        go_wp2_with (refine wpList_load_part rfl 30 (.tmp 17) rfl g _ rfl L[k].row _ HX.out Try.underlying30 rfl (by kernel_rfl) ?_)
        go_roundw
        case rel => exact ⟨k + 1, by omega, by go_num, by rw [hs.out]; exact HO.out.alloc _, by (repeat' (first | (with_reducible exact Below.refl _ _) | (with_reducible assumption) | (with_reducible refine Below.alloc ?_ ?_ _) | (with_reducible refine Below.drew ?_) | (with_reducible refine below_drewN ?_ _) | (with_reducible refine Below.setCell ?_ ?_ _) | (with_reducible refine bvia ?_ (by with_reducible assumption) ?_) | go_size))⟩
        case measure => simp [intOf]; omega
    · obtain rfl : k = L.length := by omega
      rw [List.take_length] at hO
      go_wp2
      go_ret
      exact ⟨_, rfl, hO.up hz0, hb0.trans (hB.mono hz0)⟩
end Go.Proofs.Ytofeiadogdhngaa
