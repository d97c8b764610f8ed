/- AddrsOk (program and reference): for every slice that can be read. -/
import Derived.Test.YtfhfanbigjpfaaaAddrAt
import Derived.Test.YtfhfanbigjpfaaaBase2
import Derived.Deep.QuietTactic
import Derived.BigQuiet
import Derived.Test.YtfhfanbigjpfaaaAgg
namespace Go.Proofs.Ytfhfanbigjpfaaa
set_option linter.unusedSimpArgs false
set_option linter.unusedVariables false
open Go.RowKit

theorem quiet_left {P : Program} {f : FuncId} {args : Array Value} {w : World} {n : Nat} {v : Value}
    (h : Calls P f args (w.drewN n) fun e w' => e = .returned v ∧ w.drewN n = w') : Calls P f args (w.drewN n) fun e w'' => e = .returned v ∧ ∃ m, w'' = w.drewN m :=
  h.mono fun _ _ ⟨he, hm⟩ => ⟨he, n, hm.symm⟩
def nthA (L : List AddrD) (k : Nat) : AddrD := L.getD k ⟨0, 0, false, false⟩
theorem nthA_at {L : List AddrD} {k : Nat} (h : k < L.length) : nthA L k = L[k] := by simp [nthA, h]
/-- Element k of the first j differs in its address. -/
def farB (L : List AddrD) (k j : Nat) : Bool := (List.range j).all fun i => (nthA L i).fAddr != (nthA L k).fAddr
/-- Element k is in order. -/
def aokB (L : List AddrD) (k : Nat) : Bool := winB (nthA L k).fId 0 255 && winB (nthA L k).fAddr 1 65535 && (decide (k = 0) || decide ((nthA L (k - 1)).fId < (nthA L k).fId)) && farB L k k
/-- What AddrsOk computes. -/
def addrsOk (L : List AddrD) : Bool := decide (L.length ≤ 6) && (List.range L.length).all (aokB L)
def AokTo (L : List AddrD) (k : Nat) : Prop := ∀ i, i < k → aokB L i = true
def FarTo (L : List AddrD) (k j : Nat) : Prop := ∀ i, i < j → ((nthA L i).fAddr != (nthA L k).fAddr) = true
theorem aok_long {L : List AddrD} (h : ¬ (L.length : Int) ≤ 6) : addrsOk L = false := by
  have : ¬ L.length ≤ 6 := by omega
  simp [addrsOk, this]
theorem aok_no {L : List AddrD} {k : Nat} (h : k < L.length) (hk : aokB L k = false) : addrsOk L = false := by
  unfold addrsOk
  rw [Bool.and_eq_false_iff]; right
  rw [List.all_eq_false]
  exact ⟨k, by simpa using h, by simp [hk]⟩
theorem aok_yes {L : List AddrD} (h : (L.length : Int) ≤ 6) (hk : AokTo L L.length) : addrsOk L = true := by
  unfold addrsOk
  rw [Bool.and_eq_true]
  refine ⟨by simp; omega, ?_⟩
  rw [List.all_eq_true]
  intro k hk'
  exact hk k (by simpa using hk')
theorem AokTo.succ {L : List AddrD} {k : Nat} (h : AokTo L k) (hk : aokB L k = true) : AokTo L (k + 1) := fun i hi => by
  rcases Nat.lt_or_ge i k with h' | h'
  · exact h i h'
  · obtain rfl : i = k := by omega
    exact hk
theorem FarTo.succ {L : List AddrD} {k j : Nat} (h : FarTo L k j) (hk : ((nthA L j).fAddr != (nthA L k).fAddr) = true) : FarTo L k (j + 1) := fun i hi => by
  rcases Nat.lt_or_ge i j with h' | h'
  · exact h i h'
  · obtain rfl : i = j := by omega
    exact hk
theorem far_yes {L : List AddrD} {k : Nat} (h : FarTo L k k) : farB L k k = true := by
  unfold farB; rw [List.all_eq_true]; intro i hi; exact h i (by simpa using hi)
theorem far_no {L : List AddrD} {k j : Nat} (hj : j < k) (h : ((nthA L j).fAddr != (nthA L k).fAddr) = false) : farB L k k = false := by
  unfold farB; rw [List.all_eq_false]; exact ⟨j, by simpa using hj, by simp [h]⟩
set_option maxHeartbeats 2000000 in
theorem sAddrsOk (A : Option Addr) (cap : Nat) (L : List AddrD) (w : World) (hr : Rd AddrD.cells 4 w 0 w.heap.size A L) (hle : L.length ≤ cap) (hn : cap ≤ maxLen) :
    Calls Try.prog 49 #[.slice A L.length cap] w fun e w' => e = .returned (.bool (addrsOk L)) ∧ Below w.heap.size w w' := by
  unfold maxLen at hn
  by_cases h6 : (L.length : Int) ≤ 6
  · have d6 : decide ((6 : Int) < (L.length : Int)) = false := by simp; omega
    go_enter Try.func49, Try.ntmps49
    go_wp2_with fail
    go_loopw [3, 5] (fun i _ wr => ∃ k : Nat, k ≤ L.length ∧ i = .int .i64 k ∧ AokTo L k ∧ Below w.heap.size w wr) (fun i _ _ => L.length - (intOf i).toNat)
    case atStart => exact ⟨0, Nat.zero_le _, rfl, fun i hi => absurd hi (by omega), Below.refl _ _⟩
    case round =>
      obtain ⟨k, hk, rfl, hN, hB⟩ := hrel
      obtain ⟨wo, rfl⟩ : ∃ wo : World, wo = wr := ⟨_, rfl⟩
      have hBz := hB.size
      by_cases hlt : k < L.length
      · obtain ⟨g, o, rfl, _, hg, hcell⟩ := hr.at_ (by omega)
        have hx : ∀ i (hi : i < L.length) j v, (L[i].cells)[j]? = some v → wo.cell? ⟨g, o + i * 4 + j, none⟩ = some v := fun i hi j v hv => by
          have hj : j < 4 := (List.getElem?_eq_some_iff.1 hv).1
          rw [hB.cell (p := ⟨g, o + i * 4 + j, none⟩) hg, hcell i hi j hj, hv]
        have HX := Lib.hid (hx k hlt)
        have HA := Lib.hid hx
        have HC := Lib.hid hcell
        clear hx hcell
        have hki : (k : Int) < (L.length : Int) := by omega
        have hk0 : (0 : Int) ≤ (k : Int) := by omega
        have hgw : g < wo.heap.size := by omega
        by_cases q1 : winB L[k].fId 0 255 = true
        · by_cases q2 : winB L[k].fAddr 1 65535 = true
          · have hfin : (k = 0 ∨ (nthA L (k - 1)).fId < (nthA L k).fId) → farB L k k = true → aokB L k = true := fun h1 h2 => by
              unfold aokB; rw [nthA_at hlt, q1, q2, h2, ← nthA_at hlt]; simpa using h1
            have hbad : farB L k k = false → addrsOk L = false := fun h => aok_no hlt (by simp [aokB, h])
            have HFin := Lib.hid hfin
            have HBad := Lib.hid hbad
            clear hfin hbad
            have hcase : k = 0 ∨ (0 < k ∧ (nthA L (k - 1)).fId < (nthA L k).fId) ∨ (0 < k ∧ ¬ (nthA L (k - 1)).fId < (nthA L k).fId) := by omega
            rcases hcase with q3 | ⟨q3, q4⟩ | ⟨q3, q4⟩
            have d0 : decide ((0 : Int) < (k : Int)) = false := by simp; omega
            have d1 : decide (0 < k) = false := by simp; omega
            have hor : Hid (k = 0 ∨ (nthA L (k - 1)).fId < (nthA L k).fId) := Or.inl q3
            clear q3
            rotate_left
            have hk1 : k - 1 < L.length := by omega
            have hor : Hid (k = 0 ∨ (nthA L (k - 1)).fId < (nthA L k).fId) := Or.inr q4
            rw [nthA_at hlt, nthA_at hk1] at q4
            have d0 : decide ((0 : Int) < (k : Int)) = true := by simp; omega
            have d1 : decide (0 < k) = true := by simp; omega
            have p0 : wo.cell? ⟨g, o + (k - 1) * 4, none⟩ = some (.int .i64 L[k - 1].fId) := HA.out (k - 1) hk1 0 _ rfl
            have hkp : (0 : Int) < (k : Int) := by omega
            have e0 : 1 ≤ k := by omega
            have e5 : (1 : Int) ≤ (k : Int) := by omega
            have e2 : (0 : Int) ≤ (k : Int) - 1 := by omega
            have e4 : (k : Int) - 1 < (L.length : Int) := by omega
            have e3 : ((k : Int) - 1).toNat = k - 1 := by omega
            have e1 : IntKind.i64.wrap ((k : Int) - 1) = (k : Int) - 1 := IntWalk.i64_in _ (by omega)
            have d4 : decide (L[k].fId ≤ L[k - 1].fId) = false := by simp; omega
            rotate_left
            · have hk1 : k - 1 < L.length := by omega
              rw [nthA_at hlt, nthA_at hk1] at q4
              have hv := Lib.hid (aok_no hlt (by simp [aokB, nthA_at hlt, nthA_at hk1, Nat.ne_of_gt q3, q4]))
              have d0 : decide ((0 : Int) < (k : Int)) = true := by simp; omega
              have d1 : decide (0 < k) = true := by simp; omega
              have p0 : wo.cell? ⟨g, o + (k - 1) * 4, none⟩ = some (.int .i64 L[k - 1].fId) := HA.out (k - 1) hk1 0 _ rfl
              have hkp : (0 : Int) < (k : Int) := by omega
              have e0 : 1 ≤ k := by omega
              have e5 : (1 : Int) ≤ (k : Int) := by omega
              have e2 : (0 : Int) ≤ (k : Int) - 1 := by omega
              have e4 : (k : Int) - 1 < (L.length : Int) := by omega
              have e3 : ((k : Int) - 1).toNat = k - 1 := by omega
              have e1 : IntKind.i64.wrap ((k : Int) - 1) = (k : Int) - 1 := IntWalk.i64_in _ (by omega)
              have d4 : decide (L[k].fId ≤ L[k - 1].fId) = true := by simp; omega
              go_wp2_with (refine wpList_load_part rfl 56 (.tmp 17) rfl g _ rfl L[k].row _ HX.out Try.underlying56 rfl (by kernel_rfl) ?_)
              go_quiet (((go_at_call 31); first | (with_reducible exact quiet_left (l01In_is _ _ _ _ q1 _)) | (with_reducible exact quiet_left (l01In_is _ _ _ _ q2 _))))
              go_wp2
              go_ret
              exact ⟨ret_bool hv.out.symm, by (repeat' (first | (with_reducible exact Below.refl _ _) | (with_reducible assumption) | (with_reducible refine Below.alloc ?_ ?_ _) | (with_reducible refine Below.drew ?_) | (with_reducible refine below_drewN ?_ _) | (with_reducible refine Below.setCell ?_ ?_ _) | (with_reducible refine bvia ?_ (by with_reducible assumption) ?_) | go_size))⟩
            all_goals
              go_wp2_with (refine wpList_load_part rfl 56 (.tmp 17) rfl g _ rfl L[k].row _ HX.out Try.underlying56 rfl (by kernel_rfl) ?_)
              go_quiet (((go_at_call 31); first | (with_reducible exact quiet_left (l01In_is _ _ _ _ q1 _)) | (with_reducible exact quiet_left (l01In_is _ _ _ _ q2 _))))
              go_wp2_with fail
              refine wp_world _ (fun W => Below w.heap.size w W ∧ W.cell? ⟨wo.heap.size, 1, none⟩ = some (.int .i64 L[k].fAddr) ∧ wo.heap.size < W.heap.size) ⟨?_, ?_, ?_⟩ ?_
              · (repeat' (first | (with_reducible exact Below.refl _ _) | (with_reducible assumption) | (with_reducible refine Below.alloc ?_ ?_ _) | (with_reducible refine Below.drew ?_) | (with_reducible refine below_drewN ?_ _) | (with_reducible refine Below.setCell ?_ ?_ _) | (with_reducible refine bvia ?_ (by with_reducible assumption) ?_) | go_size))
              · simp
              · simp
              · rintro W ⟨hWB, hWc, hWz⟩
                go_loopw [5] (fun i wr => ∃ j : Nat, j ≤ k ∧ i = .int .i64 j ∧ FarTo L k j ∧ Below W.heap.size W wr) (fun i _ => k - (intOf i).toNat)
                case atStart => exact ⟨0, Nat.zero_le _, rfl, fun i hi => absurd hi (by omega), Below.refl _ _⟩
                case round =>
                  obtain ⟨j, hj, rfl, hFr, hBi⟩ := hrel
                  have hBz2 := hBi.size
                  have hi0 : wo.heap.size < wr.heap.size := by omega
                  have hi1 : wr.cell? ⟨wo.heap.size, 1, none⟩ = some (.int .i64 L[k].fAddr) := by rw [hBi.cell hWz]; exact hWc
                  have hBwi : Below w.heap.size w wr := hWB.trans (hBi.mono hWB.size)
                  by_cases hjk : j < k
                  · have hjl : j < L.length := by omega
                    have HY := Lib.hid (show ∀ q v, (L[j].row)[q]? = some v → wr.cell? ⟨g, o + j * 4 + q, none⟩ = some v from fun q v hv => by
                      have hq : q < 4 := (List.getElem?_eq_some_iff.1 hv).1
                      rw [hBwi.cell (p := ⟨g, o + j * 4 + q, none⟩) hg, HC.out j hjl q hq]; exact hv)
                    have hji : (j : Int) < (k : Int) := by omega
                    have hj0 : (0 : Int) ≤ (j : Int) := by omega
                    have hjL : (j : Int) < (L.length : Int) := by omega
                    by_cases q5 : (L[j].fAddr == L[k].fAddr) = true
                    · have hv := Lib.hid (HBad.out (far_no hjk (by rw [nthA_at hlt, nthA_at hjl]; simp at q5 ⊢; exact q5)))
                      have y1 : wr.cell? ⟨g, o + j * 4 + 1, none⟩ = some (.int .i64 L[j].fAddr) := HY.out 1 _ rfl
                      go_wp2
                      go_quiet (fail)
                      go_wp2
                      go_ret
                      exact ⟨ret_bool hv.out.symm, by (repeat' (first | (with_reducible exact Below.refl _ _) | (with_reducible assumption) | (with_reducible refine Below.alloc ?_ ?_ _) | (with_reducible refine Below.drew ?_) | (with_reducible refine below_drewN ?_ _) | (with_reducible refine Below.setCell ?_ ?_ _) | (with_reducible refine bvia ?_ (by with_reducible assumption) ?_) | go_size))⟩
                    · have q6 : (L[j].fAddr == L[k].fAddr) = false := by simpa using q5
                      have hFr' := hFr.succ (show ((nthA L j).fAddr != (nthA L k).fAddr) = true by rw [nthA_at hlt, nthA_at hjl]; simp at q6 ⊢; exact q6)
                      clear q5
                      have y1 : wr.cell? ⟨g, o + j * 4 + 1, none⟩ = some (.int .i64 L[j].fAddr) := HY.out 1 _ rfl
                      go_wp2
                      go_quiet (fail)
                      go_wp2
                      go_roundw
                      case rel => exact ⟨j + 1, by omega, by go_num, hFr', by (repeat' (first | (with_reducible exact Below.refl _ _) | (with_reducible assumption) | (with_reducible refine Below.alloc ?_ ?_ _) | (with_reducible refine Below.drew ?_) | (with_reducible refine below_drewN ?_ _) | (with_reducible refine Below.setCell ?_ ?_ _) | (with_reducible refine bvia ?_ (by with_reducible assumption) ?_) | go_size))⟩
                      case measure => simp [intOf]; omega
                  · obtain rfl : j = k := by omega
                    have hN' := hN.succ (HFin.out hor.out (far_yes hFr))
                    go_wp2
                    go_roundw
                    case rel => exact ⟨j + 1, by omega, by go_num, hN', hBwi⟩
                    case measure => simp [intOf]; omega
          · have q2 : winB L[k].fAddr 1 65535 = false := by simpa using q2
            have hv := Lib.hid (aok_no hlt (by simp [aokB, nthA_at hlt, q2]))
            go_wp2_with (refine wpList_load_part rfl 56 (.tmp 17) rfl g _ rfl L[k].row _ HX.out Try.underlying56 rfl (by kernel_rfl) ?_)
            go_quiet (((go_at_call 31); first | (with_reducible exact quiet_left (l01In_is _ _ _ _ q1 _)) | (with_reducible exact quiet_left (l01In_is _ _ _ _ q2 _))))
            go_wp2
            go_ret
            exact ⟨ret_bool hv.out.symm, by (repeat' (first | (with_reducible exact Below.refl _ _) | (with_reducible assumption) | (with_reducible refine Below.alloc ?_ ?_ _) | (with_reducible refine Below.drew ?_) | (with_reducible refine below_drewN ?_ _) | (with_reducible refine Below.setCell ?_ ?_ _) | (with_reducible refine bvia ?_ (by with_reducible assumption) ?_) | go_size))⟩
        · have q1 : winB L[k].fId 0 255 = false := by simpa using q1
          have q2 := q1
          have hv := Lib.hid (aok_no hlt (by simp [aokB, nthA_at hlt, q1]))
          go_wp2_with (refine wpList_load_part rfl 56 (.tmp 17) rfl g _ rfl L[k].row _ HX.out Try.underlying56 rfl (by kernel_rfl) ?_)
          go_quiet (((go_at_call 31); first | (with_reducible exact quiet_left (l01In_is _ _ _ _ q1 _)) | (with_reducible exact quiet_left (l01In_is _ _ _ _ q2 _))))
          go_wp2
          go_ret
          exact ⟨ret_bool hv.out.symm, by (repeat' (first | (with_reducible exact Below.refl _ _) | (with_reducible assumption) | (with_reducible refine Below.alloc ?_ ?_ _) | (with_reducible refine Below.drew ?_) | (with_reducible refine below_drewN ?_ _) | (with_reducible refine Below.setCell ?_ ?_ _) | (with_reducible refine bvia ?_ (by with_reducible assumption) ?_) | go_size))⟩
      · obtain rfl : k = L.length := by omega
        have hv := Lib.hid (aok_yes h6 hN)
        go_wp2
        go_ret
        exact ⟨ret_bool hv.out.symm, hB⟩
  · have hv := Lib.hid (aok_long h6)
    go_enter Try.func49, Try.ntmps49
    go_wp2
    go_ret
    exact ⟨ret_bool hv.out.symm, Below.refl _ _⟩
end Go.Proofs.Ytfhfanbigjpfaaa
