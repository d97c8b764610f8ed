/- MapsOk (program and reference): for every slice that can be read. -/
import Derived.Test.YtofeiadogdhngaaMapO
import Derived.Test.YtofeiadogdhngaaBase2
import Derived.Test.YtofeiadogdhngaaNum
import Derived.Deep.QuietTactic
import Derived.BigQuiet
import Derived.Deep.RegionHeld3
import Derived.Deep.DrawnRows
import Derived.Test.YtofeiadogdhngaaMid
namespace Go.Proofs.Ytofeiadogdhngaa
set_option linter.unusedSimpArgs false
set_option linter.unusedVariables false
open Go.RowKit
attribute [local go_sem ↓] Go.wp_at_zero Go.wp_at_succ

theorem quiet_left {P : Program} {f : FuncId} {args : Array Value} {w : World} {n : Nat} {v : Value}
    (h : Calls P f args (w.drewN n) fun e w' => e = .returned v ∧ w.drewN n = w') : Calls P f args (w.drewN n) fun e w'' => e = .returned v ∧ ∃ m, w'' = w.drewN m :=
  h.mono fun _ _ ⟨he, hm⟩ => ⟨he, n, hm.symm⟩
def nthM (L : List MapD) (k : Nat) : MapD := L.getD k ⟨0, 0, 0⟩
theorem nthM_at {L : List MapD} {k : Nat} (h : k < L.length) : nthM L k = L[k] := by simp [nthM, h]
/-- Element k is in order. -/
def mokB (L : List MapD) (k : Nat) : Bool := winB (nthM L k).fSub 0 1000000000 && winB (nthM L k).fSeq 0 1000000000 && winB (nthM L k).fLen 1 100000 && (decide (k = 0) || decide ((nthM L (k - 1)).fSub + (nthM L (k - 1)).fLen ≤ (nthM L k).fSub))
/-- What MapsOk computes. -/
def mapsOk (L : List MapD) : Bool := decide (L.length ≤ 40) && (List.range L.length).all (mokB L)
def MokTo (L : List MapD) (k : Nat) : Prop := ∀ i, i < k → mokB L i = true
theorem MokTo.succ {L : List MapD} {k : Nat} (h : MokTo L k) (hk : mokB L k = true) : MokTo L (k + 1) := fun i hi => by
  rcases Nat.lt_or_ge i k with h' | h'
  · exact h i h'
  · obtain rfl : i = k := by omega
    exact hk
theorem mok_long {L : List MapD} (h : ¬ (L.length : Int) ≤ 40) : mapsOk L = false := by
  have : ¬ L.length ≤ 40 := by omega
  simp [mapsOk, this]
theorem mok_no {L : List MapD} {k : Nat} (h : k < L.length) (hk : mokB L k = false) : mapsOk L = false := by
  unfold mapsOk
  rw [Bool.and_eq_false_iff]; right
  rw [List.all_eq_false]
  exact ⟨k, by simpa using h, by simp [hk]⟩
theorem mok_yes {L : List MapD} (h : (L.length : Int) ≤ 40) (hk : MokTo L L.length) : mapsOk L = true := by
  unfold mapsOk
  rw [Bool.and_eq_true]
  refine ⟨by simp; omega, ?_⟩
  rw [List.all_eq_true]
  intro k hk'
  exact hk k (by simpa using hk')
theorem mok_bd {L : List MapD} {k : Nat} (h : mokB L k = true) : 0 ≤ (nthM L k).fSub ∧ (nthM L k).fSub ≤ 1000000000 ∧ 0 ≤ (nthM L k).fSeq ∧ (nthM L k).fSeq ≤ 1000000000 ∧ 1 ≤ (nthM L k).fLen ∧ (nthM L k).fLen ≤ 100000 := by
  simp [mokB, winB] at h; omega
set_option maxRecDepth 100000 in
set_option maxHeartbeats 4000000 in
theorem sMapsOk (A : Option Addr) (cap : Nat) (L : List MapD) (w : World) (hr : Rd MapD.cells 3 w 0 w.heap.size A L) (hle : L.length ≤ cap) (hn : cap ≤ maxLen) :
    Calls Try.prog 21 #[.slice A L.length cap] w fun e w' => e = .returned (.bool (mapsOk L)) ∧ Below w.heap.size w w' := by
  unfold maxLen at hn
  by_cases h6 : (L.length : Int) ≤ 40
  · have d6 : decide ((40 : Int) < (L.length : Int)) = false := by simp; omega
    go_enter Try.func21, Try.ntmps21
    go_wp2_with fail
    go_loopw [3] (fun i wr => ∃ k : Nat, k ≤ L.length ∧ i = .int .i64 k ∧ MokTo L k ∧ Below w.heap.size w wr) (fun i _ => L.length - (intOf i).toNat)
    case atStart => exact ⟨0, Nat.zero_le _, rfl, fun i hi => absurd hi (by omega), Below.refl _ _⟩
    case round =>
      obtain ⟨k, hk, rfl, hN, hB⟩ := hrel
      have hBz := hB.size
      by_cases hlt : k < L.length
      · obtain ⟨g, o, rfl, _, hg, hcell⟩ := hr.at_ (by omega)
        have hx : ∀ i (hi : i < L.length) j v, (L[i].cells)[j]? = some v → wr.cell? ⟨g, o + i * 3 + j, none⟩ = some v := fun i hi j v hv => by
          have hj : j < 3 := (List.getElem?_eq_some_iff.1 hv).1
          rw [hB.cell (p := ⟨g, o + i * 3 + j, none⟩) hg, hcell i hi j hj, hv]
        have HX := Lib.hid (hx k hlt)
        have HA := Lib.hid hx
        clear hx hcell
        have hki : (k : Int) < (L.length : Int) := by omega
        have hk0 : (0 : Int) ≤ (k : Int) := by omega
        have hgw : g < wr.heap.size := by omega
        have hbad : Hid (∀ h : mokB L k = false, mapsOk L = false) := fun h => mok_no hlt h
        have hgood : Hid (mokB L k = true → MokTo L (k + 1)) := fun h => hN.succ h
        have hprev : Hid (0 < k → mokB L (k - 1) = true) := fun h => hN (k - 1) (by omega)
        clear hN
        by_cases q1 : winB L[k].fSub 0 1000000000 = true
        · by_cases q2 : winB L[k].fSeq 0 1000000000 = true
          · by_cases q3 : winB L[k].fLen 1 100000 = true
            · have hcase : k = 0 ∨ (0 < k ∧ (nthM L (k - 1)).fSub + (nthM L (k - 1)).fLen ≤ (nthM L k).fSub) ∨ (0 < k ∧ ¬ (nthM L (k - 1)).fSub + (nthM L (k - 1)).fLen ≤ (nthM L k).fSub) := by omega
              rcases hcase with q4 | ⟨q4, q5⟩ | ⟨q4, q5⟩
              · have d0 : decide ((0 : Int) < (k : Int)) = false := by simp; omega
                have d1 : decide (0 < k) = false := by simp; omega
                have hN' := hgood.out (by unfold mokB; rw [nthM_at hlt, q1, q2, q3]; simp [q4])
                clear q4
                go_wp2_with (refine wpList_load_part rfl 30 (.tmp 16) rfl g _ rfl L[k].row _ HX.out Try.underlying30 rfl (by kernel_rfl) ?_)
                go_quiet (((go_at_call 29); first | (with_reducible exact quiet_left (l01In_is _ _ _ _ q1 _)) | (with_reducible exact quiet_left (l01In_is _ _ _ _ q2 _)) | (with_reducible exact quiet_left (l01In_is _ _ _ _ q3 _))))
                go_wp2
                go_roundw
                case rel => exact ⟨k + 1, by omega, by go_num, hN', by (repeat' (first | (with_reducible exact Below.refl _ _) | (with_reducible assumption) | (with_reducible refine Below.alloc ?_ ?_ _) | (with_reducible refine Below.drew ?_) | (with_reducible refine below_drewN ?_ _) | (with_reducible refine Below.setCell ?_ ?_ _) | (with_reducible refine bvia ?_ (by with_reducible assumption) ?_) | go_size))⟩
                case measure => simp [intOf]; omega
              all_goals
                have hk1 : k - 1 < L.length := by omega
                have hbd := mok_bd (hprev.out q4)
                rw [nthM_at hk1] at hbd
                rw [nthM_at hlt, nthM_at hk1] at q5
                obtain ⟨e7, e8, _, _, e9, e10⟩ := hbd
                have p0 : wr.cell? ⟨g, o + (k - 1) * 3, none⟩ = some (.int .i64 L[k - 1].fSub) := HA.out (k - 1) hk1 0 _ rfl
                have p2 : wr.cell? ⟨g, o + (k - 1) * 3 + 2, none⟩ = some (.int .i64 L[k - 1].fLen) := HA.out (k - 1) hk1 2 _ rfl
                have d0 : decide ((0 : Int) < (k : Int)) = true := by simp; omega
                have d1 : decide (0 < k) = true := by simp; omega
                have e0 : 1 ≤ k := by omega
                have e5 : (1 : Int) ≤ (k : Int) := by omega
                have e2 : (0 : Int) ≤ (k : Int) - 1 := by omega
                have e4 : (k : Int) - 1 < (L.length : Int) := by omega
                have e3 : ((k : Int) - 1).toNat = k - 1 := by omega
                have e1 : IntKind.i64.wrap ((k : Int) - 1) = (k : Int) - 1 := IntWalk.i64_in _ (by omega)
                have e6 : IntKind.i64.wrap (L[k - 1].fSub + L[k - 1].fLen) = L[k - 1].fSub + L[k - 1].fLen := IntWalk.i64_in _ (by omega)
              · have d4 : decide (L[k].fSub < L[k - 1].fSub + L[k - 1].fLen) = false := by simp; omega
                have hN' := hgood.out (by unfold mokB; rw [nthM_at hlt, nthM_at hk1, q1, q2, q3]; simp [q5])
                go_wp2_with (refine wpList_load_part rfl 30 (.tmp 16) rfl g _ rfl L[k].row _ HX.out Try.underlying30 rfl (by kernel_rfl) ?_)
                go_quiet (((go_at_call 29); first | (with_reducible exact quiet_left (l01In_is _ _ _ _ q1 _)) | (with_reducible exact quiet_left (l01In_is _ _ _ _ q2 _)) | (with_reducible exact quiet_left (l01In_is _ _ _ _ q3 _))))
                go_wp2
                go_roundw
                case rel => exact ⟨k + 1, by omega, by go_num, hN', by (repeat' (first | (with_reducible exact Below.refl _ _) | (with_reducible assumption) | (with_reducible refine Below.alloc ?_ ?_ _) | (with_reducible refine Below.drew ?_) | (with_reducible refine below_drewN ?_ _) | (with_reducible refine Below.setCell ?_ ?_ _) | (with_reducible refine bvia ?_ (by with_reducible assumption) ?_) | go_size))⟩
                case measure => simp [intOf]; omega
              · have d4 : decide (L[k].fSub < L[k - 1].fSub + L[k - 1].fLen) = true := by simp; omega
                have hv := Lib.hid (hbad.out (by unfold mokB; rw [nthM_at hlt, nthM_at hk1, q1, q2, q3]; simp [q5]; omega))
                go_wp2_with (refine wpList_load_part rfl 30 (.tmp 16) rfl g _ rfl L[k].row _ HX.out Try.underlying30 rfl (by kernel_rfl) ?_)
                go_quiet (((go_at_call 29); first | (with_reducible exact quiet_left (l01In_is _ _ _ _ q1 _)) | (with_reducible exact quiet_left (l01In_is _ _ _ _ q2 _)) | (with_reducible exact quiet_left (l01In_is _ _ _ _ q3 _))))
                go_wp2
                go_ret
                exact ⟨ret_bool hv.out.symm, by (repeat' (first | (with_reducible exact Below.refl _ _) | (with_reducible assumption) | (with_reducible refine Below.alloc ?_ ?_ _) | (with_reducible refine Below.drew ?_) | (with_reducible refine below_drewN ?_ _) | (with_reducible refine Below.setCell ?_ ?_ _) | (with_reducible refine bvia ?_ (by with_reducible assumption) ?_) | go_size))⟩
            · have q3 : winB L[k].fLen 1 100000 = false := by simpa using q3
              have hv := Lib.hid (hbad.out (by unfold mokB; rw [nthM_at hlt, q3]; simp))
              go_wp2_with (refine wpList_load_part rfl 30 (.tmp 16) rfl g _ rfl L[k].row _ HX.out Try.underlying30 rfl (by kernel_rfl) ?_)
              go_quiet (((go_at_call 29); first | (with_reducible exact quiet_left (l01In_is _ _ _ _ q1 _)) | (with_reducible exact quiet_left (l01In_is _ _ _ _ q2 _)) | (with_reducible exact quiet_left (l01In_is _ _ _ _ q3 _))))
              go_wp2
              go_ret
              exact ⟨ret_bool hv.out.symm, by (repeat' (first | (with_reducible exact Below.refl _ _) | (with_reducible assumption) | (with_reducible refine Below.alloc ?_ ?_ _) | (with_reducible refine Below.drew ?_) | (with_reducible refine below_drewN ?_ _) | (with_reducible refine Below.setCell ?_ ?_ _) | (with_reducible refine bvia ?_ (by with_reducible assumption) ?_) | go_size))⟩
          · have q2 : winB L[k].fSeq 0 1000000000 = false := by simpa using q2
            have hv := Lib.hid (hbad.out (by unfold mokB; rw [nthM_at hlt, q2]; simp))
            go_wp2_with (refine wpList_load_part rfl 30 (.tmp 16) rfl g _ rfl L[k].row _ HX.out Try.underlying30 rfl (by kernel_rfl) ?_)
            go_quiet (((go_at_call 29); first | (with_reducible exact quiet_left (l01In_is _ _ _ _ q1 _)) | (with_reducible exact quiet_left (l01In_is _ _ _ _ q2 _))))
            go_wp2
            go_ret
            exact ⟨ret_bool hv.out.symm, by (repeat' (first | (with_reducible exact Below.refl _ _) | (with_reducible assumption) | (with_reducible refine Below.alloc ?_ ?_ _) | (with_reducible refine Below.drew ?_) | (with_reducible refine below_drewN ?_ _) | (with_reducible refine Below.setCell ?_ ?_ _) | (with_reducible refine bvia ?_ (by with_reducible assumption) ?_) | go_size))⟩
        · have q1 : winB L[k].fSub 0 1000000000 = false := by simpa using q1
          have hv := Lib.hid (hbad.out (by unfold mokB; rw [nthM_at hlt, q1]; simp))
          go_wp2_with (refine wpList_load_part rfl 30 (.tmp 16) rfl g _ rfl L[k].row _ HX.out Try.underlying30 rfl (by kernel_rfl) ?_)
          go_quiet (((go_at_call 29); first | (with_reducible exact quiet_left (l01In_is _ _ _ _ q1 _))))
          go_wp2
          go_ret
          exact ⟨ret_bool hv.out.symm, by (repeat' (first | (with_reducible exact Below.refl _ _) | (with_reducible assumption) | (with_reducible refine Below.alloc ?_ ?_ _) | (with_reducible refine Below.drew ?_) | (with_reducible refine below_drewN ?_ _) | (with_reducible refine Below.setCell ?_ ?_ _) | (with_reducible refine bvia ?_ (by with_reducible assumption) ?_) | go_size))⟩
      · obtain rfl : k = L.length := by omega
        have hv := Lib.hid (mok_yes h6 hN)
        go_wp2
        go_ret
        exact ⟨ret_bool hv.out.symm, hB⟩
  · have hv := Lib.hid (mok_long h6)
    go_enter Try.func21, Try.ntmps21
    go_wp2
    go_ret
    exact ⟨ret_bool hv.out.symm, Below.refl _ _⟩

set_option maxRecDepth 100000 in
set_option maxHeartbeats 4000000 in
theorem iMapsOk (A : Option Addr) (cap : Nat) (L : List MapD) (w : World) (hr : Rd MapD.cells 3 w 0 w.heap.size A L) (hle : L.length ≤ cap) (hn : cap ≤ maxLen) :
    Calls Try.prog 22 #[.slice A L.length cap] w fun e w' => e = .returned (.bool (mapsOk L)) ∧ Below w.heap.size w w' := by
  unfold maxLen at hn
  by_cases h6 : (L.length : Int) ≤ 40
  · have d6 : decide ((40 : Int) < (L.length : Int)) = false := by simp; omega
    go_enter Try.func22, Try.ntmps22
    go_wp2_with fail
    go_loopw [10] (fun i wr => ∃ k : Nat, k ≤ L.length ∧ i = .int .i64 k ∧ MokTo L k ∧ Below w.heap.size w wr) (fun i _ => L.length - (intOf i).toNat)
    case atStart => exact ⟨0, Nat.zero_le _, rfl, fun i hi => absurd hi (by omega), Below.refl _ _⟩
    case round =>
      obtain ⟨k, hk, rfl, hN, hB⟩ := hrel
      have hBz := hB.size
      by_cases hlt : k < L.length
      · obtain ⟨g, o, rfl, _, hg, hcell⟩ := hr.at_ (by omega)
        have hx : ∀ i (hi : i < L.length) j v, (L[i].cells)[j]? = some v → wr.cell? ⟨g, o + i * 3 + j, none⟩ = some v := fun i hi j v hv => by
          have hj : j < 3 := (List.getElem?_eq_some_iff.1 hv).1
          rw [hB.cell (p := ⟨g, o + i * 3 + j, none⟩) hg, hcell i hi j hj, hv]
        have HX := Lib.hid (hx k hlt)
        have HA := Lib.hid hx
        clear hx hcell
        have hki : (k : Int) < (L.length : Int) := by omega
        have hk0 : (0 : Int) ≤ (k : Int) := by omega
        have hgw : g < wr.heap.size := by omega
        have hbad : Hid (∀ h : mokB L k = false, mapsOk L = false) := fun h => mok_no hlt h
        have hgood : Hid (mokB L k = true → MokTo L (k + 1)) := fun h => hN.succ h
        have hprev : Hid (0 < k → mokB L (k - 1) = true) := fun h => hN (k - 1) (by omega)
        clear hN
        by_cases q1 : winB L[k].fSub 0 1000000000 = true
        · by_cases q2 : winB L[k].fSeq 0 1000000000 = true
          · by_cases q3 : winB L[k].fLen 1 100000 = true
            · have hcase : k = 0 ∨ (0 < k ∧ (nthM L (k - 1)).fSub + (nthM L (k - 1)).fLen ≤ (nthM L k).fSub) ∨ (0 < k ∧ ¬ (nthM L (k - 1)).fSub + (nthM L (k - 1)).fLen ≤ (nthM L k).fSub) := by omega
              rcases hcase with q4 | ⟨q4, q5⟩ | ⟨q4, q5⟩
              · have d0 : decide ((0 : Int) < (k : Int)) = false := by simp; omega
                have d1 : decide (0 < k) = false := by simp; omega
                have hN' := hgood.out (by unfold mokB; rw [nthM_at hlt, q1, q2, q3]; simp [q4])
                clear q4
                have hnb : numB [L[k].fSub, L[k].fSeq] = true := by simp [numB, *]
                go_wp2_with (refine wpList_load_part rfl 30 (.tmp 13) rfl g _ rfl L[k].row _ HX.out Try.underlying30 rfl (by kernel_rfl) ?_)
                refine wp_region_held_drew (S := (fun w' => w'.cell? ⟨wr.heap.size, 0, none⟩ = some (.int .i64 L[k].fSub) ∧ w'.cell? ⟨wr.heap.size, 1, none⟩ = some (.int .i64 L[k].fSeq) ∧ w'.cell? ⟨wr.heap.size, 2, none⟩ = some (.int .i64 L[k].fLen))) (by kernel_rfl) (by go_keep) (fun hHeld => ?_)
                refine wpAnyH_take (i := 0) (v := ?_) rfl (by kernel_rfl) (by kernel_rfl) (by kernel_rfl) (fun _ _ _ h => h) (Or.inl ⟨by rfl, ?_⟩) (by assumption) ?_
                rotate_left
                · intro w hSw
                  (try dsimp only at hSw)
                  go_simp
                  all_goals (with_reducible rfl)
                change wpAnyH _ _ _ _ _ _ _ (Act.put _ (some 15) _) _
                simp only [Act.put, List.setIfInBounds_toArray, List.set_cons_zero, List.set_cons_succ]
                refine wpAnyH_take (i := 1) (v := ?_) rfl (by kernel_rfl) (by kernel_rfl) (by kernel_rfl) (fun _ _ _ h => h) (Or.inl ⟨by rfl, ?_⟩) (by assumption) ?_
                rotate_left
                · intro w hSw
                  (try dsimp only at hSw)
                  go_simp
                  all_goals (with_reducible rfl)
                change wpAnyH _ _ _ _ _ _ _ (Act.put _ (some 16) _) _
                simp only [Act.put, List.setIfInBounds_toArray, List.set_cons_zero, List.set_cons_succ]
                refine wpAnyH_take (i := 2) (v := ?_) rfl (by kernel_rfl) (by kernel_rfl) (by kernel_rfl) (fun _ _ _ h => h) (Or.inl ⟨by rfl, ?_⟩) (by assumption) ?_
                rotate_left
                · intro w hSw
                  (try dsimp only at hSw)
                  go_simp
                  all_goals (with_reducible rfl)
                change wpAnyH _ _ _ _ _ _ _ (Act.put _ (some 17) _) _
                simp only [Act.put, List.setIfInBounds_toArray, List.set_cons_zero, List.set_cons_succ]
                refine wpAnyH_take (i := 3) (v := ?_) rfl (by kernel_rfl) (by kernel_rfl) (by kernel_rfl) (fun _ _ _ h => h) (Or.inl ⟨by rfl, ?_⟩) (by assumption) ?_
                rotate_left
                · intro w hSw
                  (try dsimp only at hSw)
                  go_simp
                  all_goals (with_reducible rfl)
                change wpAnyH _ _ _ _ _ _ _ (Act.put _ (some 18) _) _
                simp only [Act.put, List.setIfInBounds_toArray, List.set_cons_zero, List.set_cons_succ]
                refine wpAnyH_ready (rs := [4]) (by kernel_rfl) (by simp) (AllReadyH.cons (o := _) rfl (fun K hK => ?_) AllReadyH.nil)
                go_simp
                refine hK.out _ _ (by go_keep) (fun hHeld2 => ?_)
                clear hK K
                (try simp only [Act.put, List.setIfInBounds_toArray, List.set_cons_zero, List.set_cons_succ])
                refine wpAnyH_world _ (fun W => W.cell? ⟨wr.heap.size, 0, none⟩ = some (.int .i64 L[k].fSub) ∧ W.cell? ⟨wr.heap.size, 1, none⟩ = some (.int .i64 L[k].fSeq) ∧ W.cell? ⟨wr.heap.size, 2, none⟩ = some (.int .i64 L[k].fLen) ∧ W.heap[wr.heap.size + 1]? = some (.cells #[.int .i64 L[k].fSub, .int .i64 L[k].fSeq] 3 (0, 0)) ∧ Below w.heap.size w W) ⟨hHeld2.1, hHeld2.2.1, hHeld2.2.2, ?_, ?_⟩ ?_
                · show (World.alloc _ _).heap[wr.heap.size + 1]? = _
                  rw [← size1 wr (.cells #[.int .i64 L[k].fSub, .int .i64 L[k].fSeq, .int .i64 L[k].fLen] 30)]
                  exact heap_alloc_new _ _
                · (repeat' (first | (with_reducible exact Below.refl _ _) | (with_reducible assumption) | (with_reducible refine Below.alloc ?_ ?_ _) | (with_reducible refine Below.drew ?_) | (with_reducible refine below_drewN ?_ _) | (with_reducible refine Below.setCell ?_ ?_ _) | (with_reducible refine bvia ?_ (by with_reducible assumption) ?_) | go_size))
                rintro W ⟨c0, c1, c2, HBK, hBW⟩
                clear hHeld2 hHeld
                have HB := Lib.hid HBK
                clear HBK
                refine wpAnyH_rest (k := 5) (by kernel_rfl) (by kernel_rfl) (by kernel_rfl) (fun n => ⟨c0, c1, c2⟩) rfl ?_
                simp only [List.drop_succ_cons, List.drop_zero]
                repeat (any_goals (first | go_big_quiet_step ((first | (go_at_call 30; (exact quiet_left (isNumber_is _ _ [L[k].fSub, L[k].fSeq] _ hnb _ (by exact Rd_blk (t := 3) (by exact HB.out) rfl) (by first | (simp; done) | exact Nat.le_refl _) (by simp [maxLen])))) | (go_at_call 28; with_reducible exact quiet_left (within_is _ _ _ _ q3 _)))) | quiet_step ((first | (go_at_call 30; (exact quiet_left (isNumber_is _ _ [L[k].fSub, L[k].fSeq] _ hnb _ (by exact Rd_blk (t := 3) (by exact HB.out) rfl) (by first | (simp; done) | exact Nat.le_refl _) (by simp [maxLen])))) | (go_at_call 28; with_reducible exact quiet_left (within_is _ _ _ _ q3 _))))))
                all_goals (refine wpQuiet_nil ?_; intro _ hw_; obtain ⟨nq, hw__⟩ := hw_; subst hw__)
                go_wp2
                go_roundw
                case rel => exact ⟨k + 1, by omega, by go_num, hN', by (repeat' (first | (with_reducible exact Below.refl _ _) | (with_reducible assumption) | (with_reducible refine Below.alloc ?_ ?_ _) | (with_reducible refine Below.drew ?_) | (with_reducible refine below_drewN ?_ _) | (with_reducible refine Below.setCell ?_ ?_ _) | (with_reducible refine bvia ?_ (by with_reducible assumption) ?_) | go_size))⟩
                case measure => simp [intOf]; omega
              all_goals
                have hk1 : k - 1 < L.length := by omega
                have hbd := mok_bd (hprev.out q4)
                rw [nthM_at hk1] at hbd
                rw [nthM_at hlt, nthM_at hk1] at q5
                obtain ⟨e7, e8, _, _, e9, e10⟩ := hbd
                have p0 : wr.cell? ⟨g, o + (k - 1) * 3, none⟩ = some (.int .i64 L[k - 1].fSub) := HA.out (k - 1) hk1 0 _ rfl
                have p2 : wr.cell? ⟨g, o + (k - 1) * 3 + 2, none⟩ = some (.int .i64 L[k - 1].fLen) := HA.out (k - 1) hk1 2 _ rfl
                have d0 : decide ((0 : Int) < (k : Int)) = true := by simp; omega
                have d1 : decide (0 < k) = true := by simp; omega
                have e0 : 1 ≤ k := by omega
                have e5 : (1 : Int) ≤ (k : Int) := by omega
                have e2 : (0 : Int) ≤ (k : Int) - 1 := by omega
                have e4 : (k : Int) - 1 < (L.length : Int) := by omega
                have e3 : ((k : Int) - 1).toNat = k - 1 := by omega
                have e1 : IntKind.i64.wrap ((k : Int) - 1) = (k : Int) - 1 := IntWalk.i64_in _ (by omega)
                have e6 : IntKind.i64.wrap (L[k - 1].fSub + L[k - 1].fLen) = L[k - 1].fSub + L[k - 1].fLen := IntWalk.i64_in _ (by omega)
              · have d4 : decide (L[k].fSub < L[k - 1].fSub + L[k - 1].fLen) = false := by simp; omega
                have hN' := hgood.out (by unfold mokB; rw [nthM_at hlt, nthM_at hk1, q1, q2, q3]; simp [q5])
                have hnb : numB [L[k].fSub, L[k].fSeq] = true := by simp [numB, *]
                go_wp2_with (refine wpList_load_part rfl 30 (.tmp 13) rfl g _ rfl L[k].row _ HX.out Try.underlying30 rfl (by kernel_rfl) ?_)
                refine wp_region_held_drew (S := (fun w' => w'.cell? ⟨wr.heap.size, 0, none⟩ = some (.int .i64 L[k].fSub) ∧ w'.cell? ⟨wr.heap.size, 1, none⟩ = some (.int .i64 L[k].fSeq) ∧ w'.cell? ⟨wr.heap.size, 2, none⟩ = some (.int .i64 L[k].fLen))) (by kernel_rfl) (by go_keep) (fun hHeld => ?_)
                refine wpAnyH_take (i := 0) (v := ?_) rfl (by kernel_rfl) (by kernel_rfl) (by kernel_rfl) (fun _ _ _ h => h) (Or.inl ⟨by rfl, ?_⟩) (by assumption) ?_
                rotate_left
                · intro w hSw
                  (try dsimp only at hSw)
                  go_simp
                  all_goals (with_reducible rfl)
                change wpAnyH _ _ _ _ _ _ _ (Act.put _ (some 15) _) _
                simp only [Act.put, List.setIfInBounds_toArray, List.set_cons_zero, List.set_cons_succ]
                refine wpAnyH_take (i := 1) (v := ?_) rfl (by kernel_rfl) (by kernel_rfl) (by kernel_rfl) (fun _ _ _ h => h) (Or.inl ⟨by rfl, ?_⟩) (by assumption) ?_
                rotate_left
                · intro w hSw
                  (try dsimp only at hSw)
                  go_simp
                  all_goals (with_reducible rfl)
                change wpAnyH _ _ _ _ _ _ _ (Act.put _ (some 16) _) _
                simp only [Act.put, List.setIfInBounds_toArray, List.set_cons_zero, List.set_cons_succ]
                refine wpAnyH_take (i := 2) (v := ?_) rfl (by kernel_rfl) (by kernel_rfl) (by kernel_rfl) (fun _ _ _ h => h) (Or.inl ⟨by rfl, ?_⟩) (by assumption) ?_
                rotate_left
                · intro w hSw
                  (try dsimp only at hSw)
                  go_simp
                  all_goals (with_reducible rfl)
                change wpAnyH _ _ _ _ _ _ _ (Act.put _ (some 17) _) _
                simp only [Act.put, List.setIfInBounds_toArray, List.set_cons_zero, List.set_cons_succ]
                refine wpAnyH_take (i := 3) (v := ?_) rfl (by kernel_rfl) (by kernel_rfl) (by kernel_rfl) (fun _ _ _ h => h) (Or.inl ⟨by rfl, ?_⟩) (by assumption) ?_
                rotate_left
                · intro w hSw
                  (try dsimp only at hSw)
                  go_simp
                  all_goals (with_reducible rfl)
                change wpAnyH _ _ _ _ _ _ _ (Act.put _ (some 18) _) _
                simp only [Act.put, List.setIfInBounds_toArray, List.set_cons_zero, List.set_cons_succ]
                refine wpAnyH_ready (rs := [4]) (by kernel_rfl) (by simp) (AllReadyH.cons (o := _) rfl (fun K hK => ?_) AllReadyH.nil)
                go_simp
                refine hK.out _ _ (by go_keep) (fun hHeld2 => ?_)
                clear hK K
                (try simp only [Act.put, List.setIfInBounds_toArray, List.set_cons_zero, List.set_cons_succ])
                refine wpAnyH_world _ (fun W => W.cell? ⟨wr.heap.size, 0, none⟩ = some (.int .i64 L[k].fSub) ∧ W.cell? ⟨wr.heap.size, 1, none⟩ = some (.int .i64 L[k].fSeq) ∧ W.cell? ⟨wr.heap.size, 2, none⟩ = some (.int .i64 L[k].fLen) ∧ W.heap[wr.heap.size + 1]? = some (.cells #[.int .i64 L[k].fSub, .int .i64 L[k].fSeq] 3 (0, 0)) ∧ Below w.heap.size w W) ⟨hHeld2.1, hHeld2.2.1, hHeld2.2.2, ?_, ?_⟩ ?_
                · show (World.alloc _ _).heap[wr.heap.size + 1]? = _
                  rw [← size1 wr (.cells #[.int .i64 L[k].fSub, .int .i64 L[k].fSeq, .int .i64 L[k].fLen] 30)]
                  exact heap_alloc_new _ _
                · (repeat' (first | (with_reducible exact Below.refl _ _) | (with_reducible assumption) | (with_reducible refine Below.alloc ?_ ?_ _) | (with_reducible refine Below.drew ?_) | (with_reducible refine below_drewN ?_ _) | (with_reducible refine Below.setCell ?_ ?_ _) | (with_reducible refine bvia ?_ (by with_reducible assumption) ?_) | go_size))
                rintro W ⟨c0, c1, c2, HBK, hBW⟩
                clear hHeld2 hHeld
                have p0W : W.cell? ⟨g, o + (k - 1) * 3, none⟩ = some (.int .i64 L[k - 1].fSub) := by rw [hBW.cell (p := ⟨g, o + (k - 1) * 3, none⟩) hg, ← hB.cell (p := ⟨g, o + (k - 1) * 3, none⟩) hg]; exact p0
                have p2W : W.cell? ⟨g, o + (k - 1) * 3 + 2, none⟩ = some (.int .i64 L[k - 1].fLen) := by rw [hBW.cell (p := ⟨g, o + (k - 1) * 3 + 2, none⟩) hg, ← hB.cell (p := ⟨g, o + (k - 1) * 3 + 2, none⟩) hg]; exact p2
                have HB := Lib.hid HBK
                clear HBK
                refine wpAnyH_rest (k := 5) (by kernel_rfl) (by kernel_rfl) (by kernel_rfl) (fun n => ⟨c0, c1, c2⟩) rfl ?_
                simp only [List.drop_succ_cons, List.drop_zero]
                repeat (any_goals (first | go_big_quiet_step ((first | (go_at_call 30; (exact quiet_left (isNumber_is _ _ [L[k].fSub, L[k].fSeq] _ hnb _ (by exact Rd_blk (t := 3) (by exact HB.out) rfl) (by first | (simp; done) | exact Nat.le_refl _) (by simp [maxLen])))) | (go_at_call 28; with_reducible exact quiet_left (within_is _ _ _ _ q3 _)))) | quiet_step ((first | (go_at_call 30; (exact quiet_left (isNumber_is _ _ [L[k].fSub, L[k].fSeq] _ hnb _ (by exact Rd_blk (t := 3) (by exact HB.out) rfl) (by first | (simp; done) | exact Nat.le_refl _) (by simp [maxLen])))) | (go_at_call 28; with_reducible exact quiet_left (within_is _ _ _ _ q3 _))))))
                all_goals (refine wpQuiet_nil ?_; intro _ hw_; obtain ⟨nq, hw__⟩ := hw_; subst hw__)
                go_wp2
                go_roundw
                case rel => exact ⟨k + 1, by omega, by go_num, hN', by (repeat' (first | (with_reducible exact Below.refl _ _) | (with_reducible assumption) | (with_reducible refine Below.alloc ?_ ?_ _) | (with_reducible refine Below.drew ?_) | (with_reducible refine below_drewN ?_ _) | (with_reducible refine Below.setCell ?_ ?_ _) | (with_reducible refine bvia ?_ (by with_reducible assumption) ?_) | go_size))⟩
                case measure => simp [intOf]; omega
              · have d4 : decide (L[k].fSub < L[k - 1].fSub + L[k - 1].fLen) = true := by simp; omega
                have hv := Lib.hid (hbad.out (by unfold mokB; rw [nthM_at hlt, nthM_at hk1, q1, q2, q3]; simp [q5]; omega))
                have hnb : numB [L[k].fSub, L[k].fSeq] = true := by simp [numB, *]
                go_wp2_with (refine wpList_load_part rfl 30 (.tmp 13) rfl g _ rfl L[k].row _ HX.out Try.underlying30 rfl (by kernel_rfl) ?_)
                refine wp_region_held_drew (S := (fun w' => w'.cell? ⟨wr.heap.size, 0, none⟩ = some (.int .i64 L[k].fSub) ∧ w'.cell? ⟨wr.heap.size, 1, none⟩ = some (.int .i64 L[k].fSeq) ∧ w'.cell? ⟨wr.heap.size, 2, none⟩ = some (.int .i64 L[k].fLen))) (by kernel_rfl) (by go_keep) (fun hHeld => ?_)
                refine wpAnyH_take (i := 0) (v := ?_) rfl (by kernel_rfl) (by kernel_rfl) (by kernel_rfl) (fun _ _ _ h => h) (Or.inl ⟨by rfl, ?_⟩) (by assumption) ?_
                rotate_left
                · intro w hSw
                  (try dsimp only at hSw)
                  go_simp
                  all_goals (with_reducible rfl)
                change wpAnyH _ _ _ _ _ _ _ (Act.put _ (some 15) _) _
                simp only [Act.put, List.setIfInBounds_toArray, List.set_cons_zero, List.set_cons_succ]
                refine wpAnyH_take (i := 1) (v := ?_) rfl (by kernel_rfl) (by kernel_rfl) (by kernel_rfl) (fun _ _ _ h => h) (Or.inl ⟨by rfl, ?_⟩) (by assumption) ?_
                rotate_left
                · intro w hSw
                  (try dsimp only at hSw)
                  go_simp
                  all_goals (with_reducible rfl)
                change wpAnyH _ _ _ _ _ _ _ (Act.put _ (some 16) _) _
                simp only [Act.put, List.setIfInBounds_toArray, List.set_cons_zero, List.set_cons_succ]
                refine wpAnyH_take (i := 2) (v := ?_) rfl (by kernel_rfl) (by kernel_rfl) (by kernel_rfl) (fun _ _ _ h => h) (Or.inl ⟨by rfl, ?_⟩) (by assumption) ?_
                rotate_left
                · intro w hSw
                  (try dsimp only at hSw)
                  go_simp
                  all_goals (with_reducible rfl)
                change wpAnyH _ _ _ _ _ _ _ (Act.put _ (some 17) _) _
                simp only [Act.put, List.setIfInBounds_toArray, List.set_cons_zero, List.set_cons_succ]
                refine wpAnyH_take (i := 3) (v := ?_) rfl (by kernel_rfl) (by kernel_rfl) (by kernel_rfl) (fun _ _ _ h => h) (Or.inl ⟨by rfl, ?_⟩) (by assumption) ?_
                rotate_left
                · intro w hSw
                  (try dsimp only at hSw)
                  go_simp
                  all_goals (with_reducible rfl)
                change wpAnyH _ _ _ _ _ _ _ (Act.put _ (some 18) _) _
                simp only [Act.put, List.setIfInBounds_toArray, List.set_cons_zero, List.set_cons_succ]
                refine wpAnyH_ready (rs := [4]) (by kernel_rfl) (by simp) (AllReadyH.cons (o := _) rfl (fun K hK => ?_) AllReadyH.nil)
                go_simp
                refine hK.out _ _ (by go_keep) (fun hHeld2 => ?_)
                clear hK K
                (try simp only [Act.put, List.setIfInBounds_toArray, List.set_cons_zero, List.set_cons_succ])
                refine wpAnyH_world _ (fun W => W.cell? ⟨wr.heap.size, 0, none⟩ = some (.int .i64 L[k].fSub) ∧ W.cell? ⟨wr.heap.size, 1, none⟩ = some (.int .i64 L[k].fSeq) ∧ W.cell? ⟨wr.heap.size, 2, none⟩ = some (.int .i64 L[k].fLen) ∧ W.heap[wr.heap.size + 1]? = some (.cells #[.int .i64 L[k].fSub, .int .i64 L[k].fSeq] 3 (0, 0)) ∧ Below w.heap.size w W) ⟨hHeld2.1, hHeld2.2.1, hHeld2.2.2, ?_, ?_⟩ ?_
                · show (World.alloc _ _).heap[wr.heap.size + 1]? = _
                  rw [← size1 wr (.cells #[.int .i64 L[k].fSub, .int .i64 L[k].fSeq, .int .i64 L[k].fLen] 30)]
                  exact heap_alloc_new _ _
                · (repeat' (first | (with_reducible exact Below.refl _ _) | (with_reducible assumption) | (with_reducible refine Below.alloc ?_ ?_ _) | (with_reducible refine Below.drew ?_) | (with_reducible refine below_drewN ?_ _) | (with_reducible refine Below.setCell ?_ ?_ _) | (with_reducible refine bvia ?_ (by with_reducible assumption) ?_) | go_size))
                rintro W ⟨c0, c1, c2, HBK, hBW⟩
                clear hHeld2 hHeld
                have p0W : W.cell? ⟨g, o + (k - 1) * 3, none⟩ = some (.int .i64 L[k - 1].fSub) := by rw [hBW.cell (p := ⟨g, o + (k - 1) * 3, none⟩) hg, ← hB.cell (p := ⟨g, o + (k - 1) * 3, none⟩) hg]; exact p0
                have p2W : W.cell? ⟨g, o + (k - 1) * 3 + 2, none⟩ = some (.int .i64 L[k - 1].fLen) := by rw [hBW.cell (p := ⟨g, o + (k - 1) * 3 + 2, none⟩) hg, ← hB.cell (p := ⟨g, o + (k - 1) * 3 + 2, none⟩) hg]; exact p2
                have HB := Lib.hid HBK
                clear HBK
                refine wpAnyH_rest (k := 5) (by kernel_rfl) (by kernel_rfl) (by kernel_rfl) (fun n => ⟨c0, c1, c2⟩) rfl ?_
                simp only [List.drop_succ_cons, List.drop_zero]
                repeat (any_goals (first | go_big_quiet_step ((first | (go_at_call 30; (exact quiet_left (isNumber_is _ _ [L[k].fSub, L[k].fSeq] _ hnb _ (by exact Rd_blk (t := 3) (by exact HB.out) rfl) (by first | (simp; done) | exact Nat.le_refl _) (by simp [maxLen])))) | (go_at_call 28; with_reducible exact quiet_left (within_is _ _ _ _ q3 _)))) | quiet_step ((first | (go_at_call 30; (exact quiet_left (isNumber_is _ _ [L[k].fSub, L[k].fSeq] _ hnb _ (by exact Rd_blk (t := 3) (by exact HB.out) rfl) (by first | (simp; done) | exact Nat.le_refl _) (by simp [maxLen])))) | (go_at_call 28; with_reducible exact quiet_left (within_is _ _ _ _ q3 _))))))
                all_goals (refine wpQuiet_nil ?_; intro _ hw_; obtain ⟨nq, hw__⟩ := hw_; subst hw__)
                go_wp2
                go_ret
                exact ⟨ret_bool hv.out.symm, by (repeat' (first | (with_reducible exact Below.refl _ _) | (with_reducible assumption) | (with_reducible refine Below.alloc ?_ ?_ _) | (with_reducible refine Below.drew ?_) | (with_reducible refine below_drewN ?_ _) | (with_reducible refine Below.setCell ?_ ?_ _) | (with_reducible refine bvia ?_ (by with_reducible assumption) ?_) | go_size))⟩
            · have q3 : winB L[k].fLen 1 100000 = false := by simpa using q3
              have hv := Lib.hid (hbad.out (by unfold mokB; rw [nthM_at hlt, q3]; simp))
              have hnb : numB [L[k].fSub, L[k].fSeq] = true := by simp [numB, *]
              go_wp2_with (refine wpList_load_part rfl 30 (.tmp 13) rfl g _ rfl L[k].row _ HX.out Try.underlying30 rfl (by kernel_rfl) ?_)
              refine wp_region_held_drew (S := (fun w' => w'.cell? ⟨wr.heap.size, 0, none⟩ = some (.int .i64 L[k].fSub) ∧ w'.cell? ⟨wr.heap.size, 1, none⟩ = some (.int .i64 L[k].fSeq) ∧ w'.cell? ⟨wr.heap.size, 2, none⟩ = some (.int .i64 L[k].fLen))) (by kernel_rfl) (by go_keep) (fun hHeld => ?_)
              refine wpAnyH_take (i := 0) (v := ?_) rfl (by kernel_rfl) (by kernel_rfl) (by kernel_rfl) (fun _ _ _ h => h) (Or.inl ⟨by rfl, ?_⟩) (by assumption) ?_
              rotate_left
              · intro w hSw
                (try dsimp only at hSw)
                go_simp
                all_goals (with_reducible rfl)
              change wpAnyH _ _ _ _ _ _ _ (Act.put _ (some 15) _) _
              simp only [Act.put, List.setIfInBounds_toArray, List.set_cons_zero, List.set_cons_succ]
              refine wpAnyH_take (i := 1) (v := ?_) rfl (by kernel_rfl) (by kernel_rfl) (by kernel_rfl) (fun _ _ _ h => h) (Or.inl ⟨by rfl, ?_⟩) (by assumption) ?_
              rotate_left
              · intro w hSw
                (try dsimp only at hSw)
                go_simp
                all_goals (with_reducible rfl)
              change wpAnyH _ _ _ _ _ _ _ (Act.put _ (some 16) _) _
              simp only [Act.put, List.setIfInBounds_toArray, List.set_cons_zero, List.set_cons_succ]
              refine wpAnyH_take (i := 2) (v := ?_) rfl (by kernel_rfl) (by kernel_rfl) (by kernel_rfl) (fun _ _ _ h => h) (Or.inl ⟨by rfl, ?_⟩) (by assumption) ?_
              rotate_left
              · intro w hSw
                (try dsimp only at hSw)
                go_simp
                all_goals (with_reducible rfl)
              change wpAnyH _ _ _ _ _ _ _ (Act.put _ (some 17) _) _
              simp only [Act.put, List.setIfInBounds_toArray, List.set_cons_zero, List.set_cons_succ]
              refine wpAnyH_take (i := 3) (v := ?_) rfl (by kernel_rfl) (by kernel_rfl) (by kernel_rfl) (fun _ _ _ h => h) (Or.inl ⟨by rfl, ?_⟩) (by assumption) ?_
              rotate_left
              · intro w hSw
                (try dsimp only at hSw)
                go_simp
                all_goals (with_reducible rfl)
              change wpAnyH _ _ _ _ _ _ _ (Act.put _ (some 18) _) _
              simp only [Act.put, List.setIfInBounds_toArray, List.set_cons_zero, List.set_cons_succ]
              refine wpAnyH_ready (rs := [4]) (by kernel_rfl) (by simp) (AllReadyH.cons (o := _) rfl (fun K hK => ?_) AllReadyH.nil)
              go_simp
              refine hK.out _ _ (by go_keep) (fun hHeld2 => ?_)
              clear hK K
              (try simp only [Act.put, List.setIfInBounds_toArray, List.set_cons_zero, List.set_cons_succ])
              refine wpAnyH_world _ (fun W => W.cell? ⟨wr.heap.size, 0, none⟩ = some (.int .i64 L[k].fSub) ∧ W.cell? ⟨wr.heap.size, 1, none⟩ = some (.int .i64 L[k].fSeq) ∧ W.cell? ⟨wr.heap.size, 2, none⟩ = some (.int .i64 L[k].fLen) ∧ W.heap[wr.heap.size + 1]? = some (.cells #[.int .i64 L[k].fSub, .int .i64 L[k].fSeq] 3 (0, 0)) ∧ Below w.heap.size w W) ⟨hHeld2.1, hHeld2.2.1, hHeld2.2.2, ?_, ?_⟩ ?_
              · show (World.alloc _ _).heap[wr.heap.size + 1]? = _
                rw [← size1 wr (.cells #[.int .i64 L[k].fSub, .int .i64 L[k].fSeq, .int .i64 L[k].fLen] 30)]
                exact heap_alloc_new _ _
              · (repeat' (first | (with_reducible exact Below.refl _ _) | (with_reducible assumption) | (with_reducible refine Below.alloc ?_ ?_ _) | (with_reducible refine Below.drew ?_) | (with_reducible refine below_drewN ?_ _) | (with_reducible refine Below.setCell ?_ ?_ _) | (with_reducible refine bvia ?_ (by with_reducible assumption) ?_) | go_size))
              rintro W ⟨c0, c1, c2, HBK, hBW⟩
              clear hHeld2 hHeld
              have HB := Lib.hid HBK
              clear HBK
              refine wpAnyH_rest (k := 5) (by kernel_rfl) (by kernel_rfl) (by kernel_rfl) (fun n => ⟨c0, c1, c2⟩) rfl ?_
              simp only [List.drop_succ_cons, List.drop_zero]
              repeat (any_goals (first | go_big_quiet_step ((first | (go_at_call 30; (exact quiet_left (isNumber_is _ _ [L[k].fSub, L[k].fSeq] _ hnb _ (by exact Rd_blk (t := 3) (by exact HB.out) rfl) (by first | (simp; done) | exact Nat.le_refl _) (by simp [maxLen])))) | (go_at_call 28; with_reducible exact quiet_left (within_is _ _ _ _ q3 _)))) | quiet_step ((first | (go_at_call 30; (exact quiet_left (isNumber_is _ _ [L[k].fSub, L[k].fSeq] _ hnb _ (by exact Rd_blk (t := 3) (by exact HB.out) rfl) (by first | (simp; done) | exact Nat.le_refl _) (by simp [maxLen])))) | (go_at_call 28; with_reducible exact quiet_left (within_is _ _ _ _ q3 _))))))
              all_goals (refine wpQuiet_nil ?_; intro _ hw_; obtain ⟨nq, hw__⟩ := hw_; subst hw__)
              go_wp2
              go_ret
              exact ⟨ret_bool hv.out.symm, by (repeat' (first | (with_reducible exact Below.refl _ _) | (with_reducible assumption) | (with_reducible refine Below.alloc ?_ ?_ _) | (with_reducible refine Below.drew ?_) | (with_reducible refine below_drewN ?_ _) | (with_reducible refine Below.setCell ?_ ?_ _) | (with_reducible refine bvia ?_ (by with_reducible assumption) ?_) | go_size))⟩
          · have q2 : winB L[k].fSeq 0 1000000000 = false := by simpa using q2
            have hv := Lib.hid (hbad.out (by unfold mokB; rw [nthM_at hlt, q2]; simp))
            have hnb : numB [L[k].fSub, L[k].fSeq] = false := by simp [numB, *]
            go_wp2_with (refine wpList_load_part rfl 30 (.tmp 13) rfl g _ rfl L[k].row _ HX.out Try.underlying30 rfl (by kernel_rfl) ?_)
            refine wp_region_held_drew (S := (fun w' => w'.cell? ⟨wr.heap.size, 0, none⟩ = some (.int .i64 L[k].fSub) ∧ w'.cell? ⟨wr.heap.size, 1, none⟩ = some (.int .i64 L[k].fSeq) ∧ w'.cell? ⟨wr.heap.size, 2, none⟩ = some (.int .i64 L[k].fLen))) (by kernel_rfl) (by go_keep) (fun hHeld => ?_)
            refine wpAnyH_take (i := 0) (v := ?_) rfl (by kernel_rfl) (by kernel_rfl) (by kernel_rfl) (fun _ _ _ h => h) (Or.inl ⟨by rfl, ?_⟩) (by assumption) ?_
            rotate_left
            · intro w hSw
              (try dsimp only at hSw)
              go_simp
              all_goals (with_reducible rfl)
            change wpAnyH _ _ _ _ _ _ _ (Act.put _ (some 15) _) _
            simp only [Act.put, List.setIfInBounds_toArray, List.set_cons_zero, List.set_cons_succ]
            refine wpAnyH_take (i := 1) (v := ?_) rfl (by kernel_rfl) (by kernel_rfl) (by kernel_rfl) (fun _ _ _ h => h) (Or.inl ⟨by rfl, ?_⟩) (by assumption) ?_
            rotate_left
            · intro w hSw
              (try dsimp only at hSw)
              go_simp
              all_goals (with_reducible rfl)
            change wpAnyH _ _ _ _ _ _ _ (Act.put _ (some 16) _) _
            simp only [Act.put, List.setIfInBounds_toArray, List.set_cons_zero, List.set_cons_succ]
            refine wpAnyH_take (i := 2) (v := ?_) rfl (by kernel_rfl) (by kernel_rfl) (by kernel_rfl) (fun _ _ _ h => h) (Or.inl ⟨by rfl, ?_⟩) (by assumption) ?_
            rotate_left
            · intro w hSw
              (try dsimp only at hSw)
              go_simp
              all_goals (with_reducible rfl)
            change wpAnyH _ _ _ _ _ _ _ (Act.put _ (some 17) _) _
            simp only [Act.put, List.setIfInBounds_toArray, List.set_cons_zero, List.set_cons_succ]
            refine wpAnyH_take (i := 3) (v := ?_) rfl (by kernel_rfl) (by kernel_rfl) (by kernel_rfl) (fun _ _ _ h => h) (Or.inl ⟨by rfl, ?_⟩) (by assumption) ?_
            rotate_left
            · intro w hSw
              (try dsimp only at hSw)
              go_simp
              all_goals (with_reducible rfl)
            change wpAnyH _ _ _ _ _ _ _ (Act.put _ (some 18) _) _
            simp only [Act.put, List.setIfInBounds_toArray, List.set_cons_zero, List.set_cons_succ]
            refine wpAnyH_ready (rs := [4]) (by kernel_rfl) (by simp) (AllReadyH.cons (o := _) rfl (fun K hK => ?_) AllReadyH.nil)
            go_simp
            refine hK.out _ _ (by go_keep) (fun hHeld2 => ?_)
            clear hK K
            (try simp only [Act.put, List.setIfInBounds_toArray, List.set_cons_zero, List.set_cons_succ])
            refine wpAnyH_world _ (fun W => W.cell? ⟨wr.heap.size, 0, none⟩ = some (.int .i64 L[k].fSub) ∧ W.cell? ⟨wr.heap.size, 1, none⟩ = some (.int .i64 L[k].fSeq) ∧ W.cell? ⟨wr.heap.size, 2, none⟩ = some (.int .i64 L[k].fLen) ∧ W.heap[wr.heap.size + 1]? = some (.cells #[.int .i64 L[k].fSub, .int .i64 L[k].fSeq] 3 (0, 0)) ∧ Below w.heap.size w W) ⟨hHeld2.1, hHeld2.2.1, hHeld2.2.2, ?_, ?_⟩ ?_
            · show (World.alloc _ _).heap[wr.heap.size + 1]? = _
              rw [← size1 wr (.cells #[.int .i64 L[k].fSub, .int .i64 L[k].fSeq, .int .i64 L[k].fLen] 30)]
              exact heap_alloc_new _ _
            · (repeat' (first | (with_reducible exact Below.refl _ _) | (with_reducible assumption) | (with_reducible refine Below.alloc ?_ ?_ _) | (with_reducible refine Below.drew ?_) | (with_reducible refine below_drewN ?_ _) | (with_reducible refine Below.setCell ?_ ?_ _) | (with_reducible refine bvia ?_ (by with_reducible assumption) ?_) | go_size))
            rintro W ⟨c0, c1, c2, HBK, hBW⟩
            clear hHeld2 hHeld
            have HB := Lib.hid HBK
            clear HBK
            refine wpAnyH_rest (k := 5) (by kernel_rfl) (by kernel_rfl) (by kernel_rfl) (fun n => ⟨c0, c1, c2⟩) rfl ?_
            simp only [List.drop_succ_cons, List.drop_zero]
            repeat (any_goals (first | go_big_quiet_step ((first | (go_at_call 30; (exact quiet_left (isNumber_is _ _ [L[k].fSub, L[k].fSeq] _ hnb _ (by exact Rd_blk (t := 3) (by exact HB.out) rfl) (by first | (simp; done) | exact Nat.le_refl _) (by simp [maxLen])))) | (go_at_call 28; with_reducible exact quiet_left (within_is _ _ _ _ q1 _)))) | quiet_step ((first | (go_at_call 30; (exact quiet_left (isNumber_is _ _ [L[k].fSub, L[k].fSeq] _ hnb _ (by exact Rd_blk (t := 3) (by exact HB.out) rfl) (by first | (simp; done) | exact Nat.le_refl _) (by simp [maxLen])))) | (go_at_call 28; with_reducible exact quiet_left (within_is _ _ _ _ q1 _))))))
            all_goals (refine wpQuiet_nil ?_; intro _ hw_; obtain ⟨nq, hw__⟩ := hw_; subst hw__)
            go_wp2
            go_ret
            exact ⟨ret_bool hv.out.symm, by (repeat' (first | (with_reducible exact Below.refl _ _) | (with_reducible assumption) | (with_reducible refine Below.alloc ?_ ?_ _) | (with_reducible refine Below.drew ?_) | (with_reducible refine below_drewN ?_ _) | (with_reducible refine Below.setCell ?_ ?_ _) | (with_reducible refine bvia ?_ (by with_reducible assumption) ?_) | go_size))⟩
        · have q1 : winB L[k].fSub 0 1000000000 = false := by simpa using q1
          have hv := Lib.hid (hbad.out (by unfold mokB; rw [nthM_at hlt, q1]; simp))
          have hnb : numB [L[k].fSub, L[k].fSeq] = false := by simp [numB, *]
          go_wp2_with (refine wpList_load_part rfl 30 (.tmp 13) rfl g _ rfl L[k].row _ HX.out Try.underlying30 rfl (by kernel_rfl) ?_)
          refine wp_region_held_drew (S := (fun w' => w'.cell? ⟨wr.heap.size, 0, none⟩ = some (.int .i64 L[k].fSub) ∧ w'.cell? ⟨wr.heap.size, 1, none⟩ = some (.int .i64 L[k].fSeq) ∧ w'.cell? ⟨wr.heap.size, 2, none⟩ = some (.int .i64 L[k].fLen))) (by kernel_rfl) (by go_keep) (fun hHeld => ?_)
          refine wpAnyH_take (i := 0) (v := ?_) rfl (by kernel_rfl) (by kernel_rfl) (by kernel_rfl) (fun _ _ _ h => h) (Or.inl ⟨by rfl, ?_⟩) (by assumption) ?_
          rotate_left
          · intro w hSw
            (try dsimp only at hSw)
            go_simp
            all_goals (with_reducible rfl)
          change wpAnyH _ _ _ _ _ _ _ (Act.put _ (some 15) _) _
          simp only [Act.put, List.setIfInBounds_toArray, List.set_cons_zero, List.set_cons_succ]
          refine wpAnyH_take (i := 1) (v := ?_) rfl (by kernel_rfl) (by kernel_rfl) (by kernel_rfl) (fun _ _ _ h => h) (Or.inl ⟨by rfl, ?_⟩) (by assumption) ?_
          rotate_left
          · intro w hSw
            (try dsimp only at hSw)
            go_simp
            all_goals (with_reducible rfl)
          change wpAnyH _ _ _ _ _ _ _ (Act.put _ (some 16) _) _
          simp only [Act.put, List.setIfInBounds_toArray, List.set_cons_zero, List.set_cons_succ]
          refine wpAnyH_take (i := 2) (v := ?_) rfl (by kernel_rfl) (by kernel_rfl) (by kernel_rfl) (fun _ _ _ h => h) (Or.inl ⟨by rfl, ?_⟩) (by assumption) ?_
          rotate_left
          · intro w hSw
            (try dsimp only at hSw)
            go_simp
            all_goals (with_reducible rfl)
          change wpAnyH _ _ _ _ _ _ _ (Act.put _ (some 17) _) _
          simp only [Act.put, List.setIfInBounds_toArray, List.set_cons_zero, List.set_cons_succ]
          refine wpAnyH_take (i := 3) (v := ?_) rfl (by kernel_rfl) (by kernel_rfl) (by kernel_rfl) (fun _ _ _ h => h) (Or.inl ⟨by rfl, ?_⟩) (by assumption) ?_
          rotate_left
          · intro w hSw
            (try dsimp only at hSw)
            go_simp
            all_goals (with_reducible rfl)
          change wpAnyH _ _ _ _ _ _ _ (Act.put _ (some 18) _) _
          simp only [Act.put, List.setIfInBounds_toArray, List.set_cons_zero, List.set_cons_succ]
          refine wpAnyH_ready (rs := [4]) (by kernel_rfl) (by simp) (AllReadyH.cons (o := _) rfl (fun K hK => ?_) AllReadyH.nil)
          go_simp
          refine hK.out _ _ (by go_keep) (fun hHeld2 => ?_)
          clear hK K
          (try simp only [Act.put, List.setIfInBounds_toArray, List.set_cons_zero, List.set_cons_succ])
          refine wpAnyH_world _ (fun W => W.cell? ⟨wr.heap.size, 0, none⟩ = some (.int .i64 L[k].fSub) ∧ W.cell? ⟨wr.heap.size, 1, none⟩ = some (.int .i64 L[k].fSeq) ∧ W.cell? ⟨wr.heap.size, 2, none⟩ = some (.int .i64 L[k].fLen) ∧ W.heap[wr.heap.size + 1]? = some (.cells #[.int .i64 L[k].fSub, .int .i64 L[k].fSeq] 3 (0, 0)) ∧ Below w.heap.size w W) ⟨hHeld2.1, hHeld2.2.1, hHeld2.2.2, ?_, ?_⟩ ?_
          · show (World.alloc _ _).heap[wr.heap.size + 1]? = _
            rw [← size1 wr (.cells #[.int .i64 L[k].fSub, .int .i64 L[k].fSeq, .int .i64 L[k].fLen] 30)]
            exact heap_alloc_new _ _
          · (repeat' (first | (with_reducible exact Below.refl _ _) | (with_reducible assumption) | (with_reducible refine Below.alloc ?_ ?_ _) | (with_reducible refine Below.drew ?_) | (with_reducible refine below_drewN ?_ _) | (with_reducible refine Below.setCell ?_ ?_ _) | (with_reducible refine bvia ?_ (by with_reducible assumption) ?_) | go_size))
          rintro W ⟨c0, c1, c2, HBK, hBW⟩
          clear hHeld2 hHeld
          have HB := Lib.hid HBK
          clear HBK
          refine wpAnyH_rest (k := 5) (by kernel_rfl) (by kernel_rfl) (by kernel_rfl) (fun n => ⟨c0, c1, c2⟩) rfl ?_
          simp only [List.drop_succ_cons, List.drop_zero]
          repeat (any_goals (first | go_big_quiet_step ((first | (go_at_call 30; (exact quiet_left (isNumber_is _ _ [L[k].fSub, L[k].fSeq] _ hnb _ (by exact Rd_blk (t := 3) (by exact HB.out) rfl) (by first | (simp; done) | exact Nat.le_refl _) (by simp [maxLen])))) | (go_at_call 28; with_reducible exact quiet_left (within_is _ _ _ _ q1 _)))) | quiet_step ((first | (go_at_call 30; (exact quiet_left (isNumber_is _ _ [L[k].fSub, L[k].fSeq] _ hnb _ (by exact Rd_blk (t := 3) (by exact HB.out) rfl) (by first | (simp; done) | exact Nat.le_refl _) (by simp [maxLen])))) | (go_at_call 28; with_reducible exact quiet_left (within_is _ _ _ _ q1 _))))))
          all_goals (refine wpQuiet_nil ?_; intro _ hw_; obtain ⟨nq, hw__⟩ := hw_; subst hw__)
          go_wp2
          go_ret
          exact ⟨ret_bool hv.out.symm, by (repeat' (first | (with_reducible exact Below.refl _ _) | (with_reducible assumption) | (with_reducible refine Below.alloc ?_ ?_ _) | (with_reducible refine Below.drew ?_) | (with_reducible refine below_drewN ?_ _) | (with_reducible refine Below.setCell ?_ ?_ _) | (with_reducible refine bvia ?_ (by with_reducible assumption) ?_) | go_size))⟩
      · obtain rfl : k = L.length := by omega
        have hv := Lib.hid (mok_yes h6 hN)
        go_wp2
        go_ret
        exact ⟨ret_bool hv.out.symm, hB⟩
  · have hv := Lib.hid (mok_long h6)
    go_enter Try.func22, Try.ntmps22
    go_wp2
    go_ret
    exact ⟨ret_bool hv.out.symm, Below.refl _ _⟩

end Go.Proofs.Ytofeiadogdhngaa
