/- HalfsOk (program and reference): for every slice that can be read. -/
import Derived.Test.YtcnklfddokpbiaaHalfAt
import Derived.Test.YtcnklfddokpbiaaHalfO
import Derived.Test.YtcnklfddokpbiaaNum
namespace Go.Proofs.Ytcnklfddokpbiaa
set_option linter.unusedSimpArgs false
set_option linter.unusedVariables false
open Go.RowKit

/-- All numbers of a half are in range. -/
def hnum (h : HalfD) : Bool := numB [h.fRoadOwn, h.fRoadFar, h.fRoadPort] && numB [h.fTheirs, h.fMine, h.fGive, h.fTake, h.fUntil]
def nthH (L : List HalfD) (k : Nat) : HalfD := L.getD k ⟨0, 0, 0, 0, 0, 0, 0, 0⟩
theorem nthH_at {L : List HalfD} {k : Nat} (h : k < L.length) : nthH L k = L[k] := by simp [nthH, h]
def hfirst (L : List HalfD) (k : Nat) (h : HalfD) : Bool := halfAt L h.fRoadOwn h.fRoadFar h.fRoadPort == (k : Int)
def hokB (L : List HalfD) (k : Nat) : Bool := hfirst L k (nthH L k) && hnum (nthH L k)
/-- What HalfsOk computes. -/
def halfsOk (L : List HalfD) : Bool := decide (L.length ≤ 4) && (List.range L.length).all (hokB L)
def HokTo (L : List HalfD) (k : Nat) : Prop := ∀ i, i < k → hokB L i = true
theorem HokTo.succ {L : List HalfD} {k : Nat} (h : HokTo L k) (hk : hokB L k = true) : HokTo L (k + 1) := fun i hi => by
  rcases Nat.lt_or_ge i k with h' | h'
  · exact h i h'
  · obtain rfl : i = k := by omega
    exact hk
theorem hok_long {L : List HalfD} (h : ¬ (L.length : Int) ≤ 4) : halfsOk L = false := by
  have : ¬ L.length ≤ 4 := by omega
  simp [halfsOk, this]
theorem hok_no {L : List HalfD} {k : Nat} (h : k < L.length) (hk : hokB L k = false) : halfsOk L = false := by
  unfold halfsOk
  rw [Bool.and_eq_false_iff]; right
  rw [List.all_eq_false]
  exact ⟨k, by simpa using h, by simp [hk]⟩
theorem hok_yes {L : List HalfD} (h : (L.length : Int) ≤ 4) (hk : HokTo L L.length) : halfsOk L = true := by
  unfold halfsOk
  rw [Bool.and_eq_true]
  refine ⟨by simp; omega, ?_⟩
  rw [List.all_eq_true]
  intro k hk'
  exact hk k (by simpa using hk')
theorem roadIsNumber_any (a b c : Int) (w : World) : Calls Try.prog 32 #[rd a b c] w fun e w' => e = .returned (.bool (numB [a, b, c])) ∧ Below w.heap.size w w' := by
  go_enter Try.func32, Try.ntmps32
  go_wp2_with (go_at_call 33; refine (isNumber_any _ _ [a, b, c] _ (by exact Rd_new _ _ _ _ _ (by simp) rfl) (by first | (simp; done) | exact Nat.le_refl _) (by simp [maxLen])).mono ?_; rintro e w' ⟨rfl, rfl⟩)
  go_ret
  exact ⟨rfl, by go_grown⟩
theorem l14Num_any (a : Int) (w : World) : Calls Try.prog 31 #[.int .i64 a] w fun e w' => e = .returned (.bool (winB a 0 1000000000)) ∧ w = w' := by
  go_enter Try.func31, Try.ntmps31
  go_wp2_with (go_at_call 39; refine (l01In_any _ _ _ _).mono ?_; rintro e w' ⟨rfl, rfl⟩)
  go_ret
  exact ⟨rfl, rfl⟩
theorem l14Road_any (a b c : Int) (w : World) : Calls Try.prog 30 #[rd a b c] w fun e w' => e = .returned (.bool (numB [a, b, c])) ∧ Below w.heap.size w w' := by
  have hv : numB [a, b, c] = (winB a 0 1000000000 && winB b 0 1000000000 && winB c 0 1000000000) := by simp [numB, Bool.and_assoc]
  rw [hv]
  clear hv
  cases ha : winB a 0 1000000000 with
  | false =>
    go_enter Try.func30, Try.ntmps30
    go_wp2_with (go_at_call 31; refine (l14Num_any _ _).mono ?_; rintro e w' ⟨rfl, rfl⟩)
    go_ret
    exact ⟨rfl, by go_grown⟩
  | true =>
    cases hb : winB b 0 1000000000 with
    | false =>
      go_enter Try.func30, Try.ntmps30
      go_wp2_with (go_at_call 31; refine (l14Num_any _ _).mono ?_; rintro e w' ⟨rfl, rfl⟩)
      go_ret
      exact ⟨rfl, by go_grown⟩
    | true =>
      go_enter Try.func30, Try.ntmps30
      go_wp2_with (go_at_call 31; refine (l14Num_any _ _).mono ?_; rintro e w' ⟨rfl, rfl⟩)
      go_ret
      exact ⟨rfl, by go_grown⟩
set_option maxRecDepth 100000 in
set_option maxHeartbeats 4000000 in
theorem iHalfsOk (A : Option Addr) (cap : Nat) (L : List HalfD) (w : World) (hr : Rd HalfD.cells 8 w 0 w.heap.size A L) (hle : L.length ≤ cap) (hn : cap ≤ maxLen) :
    Calls Try.prog 16 #[.slice A L.length cap] w fun e w' => e = .returned (.bool (halfsOk L)) ∧ Below w.heap.size w w' := by
  have hm : L.length ≤ maxLen := Nat.le_trans hle hn
  unfold maxLen at hn
  by_cases h4 : (L.length : Int) ≤ 4
  · have d4 : decide ((4 : Int) < (L.length : Int)) = false := by simp; omega
    go_enter Try.func16, Try.ntmps16
    go_wp2_with fail
    go_loopw [10] (fun i wr => ∃ k : Nat, k ≤ L.length ∧ i = .int .i64 k ∧ HokTo L k ∧ Below w.heap.size w wr) (fun i _ => L.length - (intOf i).toNat)
    case atStart => exact ⟨0, Nat.zero_le _, rfl, fun i hi => absurd hi (by omega), Below.refl _ _⟩
    case round =>
      obtain ⟨k, hk, rfl, hN, hB⟩ := hrel
      have hBz := hB.size
      by_cases hlt : k < L.length
      · have hA : Hid (∃ g o, A = some ⟨g, o, none⟩ ∧ g < w.heap.size ∧ ∀ j v, (L[k].cells)[j]? = some v → wr.cell? ⟨g, o + k * 8 + j, none⟩ = some v) := by
          obtain ⟨g, o, e, _, hg, hcell⟩ := hr.at_ (by omega)
          exact ⟨g, o, e, hg, fun j v hv => by
            have hj : j < 8 := (List.getElem?_eq_some_iff.1 hv).1
            rw [hB.cell (p := ⟨g, o + k * 8 + j, none⟩) hg, hcell k hlt j hj, hv]⟩
        obtain ⟨g, o, rfl, hg, hx⟩ := hA.out
        clear hA
        have HX := Lib.hid hx
        clear hx
        have hki : (k : Int) < (L.length : Int) := by omega
        have hk0 : (0 : Int) ≤ (k : Int) := by omega
        have hno : Hid (hfirst L k L[k] = false ∨ hnum L[k] = false → halfsOk L = false) := fun h => hok_no hlt (by unfold hokB; rw [nthH_at hlt]; rcases h with h | h <;> simp [h])
        have hyes : Hid (hfirst L k L[k] = true → hnum L[k] = true → HokTo L (k + 1)) := fun h1 h2 => hN.succ (by unfold hokB; rw [nthH_at hlt, h1, h2]; rfl)
        have HN := Lib.hid hN
        clear hN
        have HC := Lib.hid (fun W hr => iHalfAt (some ⟨g, o, none⟩) cap L L[k].fRoadOwn L[k].fRoadFar L[k].fRoadPort W hr hm)
        obtain ⟨z, hz⟩ : ∃ z, z = halfAt L L[k].fRoadOwn L[k].fRoadFar L[k].fRoadPort := ⟨_, rfl⟩
        rw [← hz] at HC
        have hf : Hid (hfirst L k L[k] = (z == (k : Int))) := by show _ = _; unfold hfirst; rw [hz]
        clear hz
        have hrw : Below w.heap.size w (wr.alloc (.cells #[.int .i64 L[k].fRoadOwn, .int .i64 L[k].fRoadFar, .int .i64 L[k].fRoadPort, .int .i64 L[k].fTheirs, .int .i64 L[k].fMine, .int .i64 L[k].fGive, .int .i64 L[k].fTake, .int .i64 L[k].fUntil] 42)) := hB.alloc hBz _
        have hr1 := hr.later hrw (Nat.le_refl _) hrw.size
        go_wp2_with (refine wpList_load_part rfl 42 (.tmp 13) rfl g _ rfl L[k].row _ HX.out Try.underlying42 rfl (by kernel_rfl) ?_)
        refine (HC.out _ hr1).mono ?_
        rintro e w1 ⟨rfl, hb1⟩
        have hz1 := hb1.size
        simp at hz1
        have hB1 : Below w.heap.size w w1 := hrw.trans (hb1.mono hrw.size)
        have rw1_0 : w1.cell? ⟨wr.heap.size, 0, none⟩ = some (.int .i64 L[k].fRoadOwn) := by rw [hb1.cell (by show wr.heap.size < _; simp)]; simp
        have rw1_1 : w1.cell? ⟨wr.heap.size, 1, none⟩ = some (.int .i64 L[k].fRoadFar) := by rw [hb1.cell (by show wr.heap.size < _; simp)]; simp
        have rw1_2 : w1.cell? ⟨wr.heap.size, 2, none⟩ = some (.int .i64 L[k].fRoadPort) := by rw [hb1.cell (by show wr.heap.size < _; simp)]; simp
        have rw1_3 : w1.cell? ⟨wr.heap.size, 3, none⟩ = some (.int .i64 L[k].fTheirs) := by rw [hb1.cell (by show wr.heap.size < _; simp)]; simp
        have rw1_4 : w1.cell? ⟨wr.heap.size, 4, none⟩ = some (.int .i64 L[k].fMine) := by rw [hb1.cell (by show wr.heap.size < _; simp)]; simp
        have rw1_5 : w1.cell? ⟨wr.heap.size, 5, none⟩ = some (.int .i64 L[k].fGive) := by rw [hb1.cell (by show wr.heap.size < _; simp)]; simp
        have rw1_6 : w1.cell? ⟨wr.heap.size, 6, none⟩ = some (.int .i64 L[k].fTake) := by rw [hb1.cell (by show wr.heap.size < _; simp)]; simp
        have rw1_7 : w1.cell? ⟨wr.heap.size, 7, none⟩ = some (.int .i64 L[k].fUntil) := by rw [hb1.cell (by show wr.heap.size < _; simp)]; simp
        by_cases q1 : (z == (k : Int)) = true
        · have d1 : (z != (k : Int)) = false := by simp at q1 ⊢; exact q1
          go_wp2_with fail
          refine (roadIsNumber_any _ _ _ _).mono ?_
          rintro e w2 ⟨rfl, hb2⟩
          have hz2 := hb2.size
          have hB2 : Below w.heap.size w w2 := hB1.trans (hb2.mono (by omega))
          have rw2_0 : w2.cell? ⟨wr.heap.size, 0, none⟩ = some (.int .i64 L[k].fRoadOwn) := by rw [hb2.cell (by show wr.heap.size < _; omega)]; exact rw1_0
          have rw2_1 : w2.cell? ⟨wr.heap.size, 1, none⟩ = some (.int .i64 L[k].fRoadFar) := by rw [hb2.cell (by show wr.heap.size < _; omega)]; exact rw1_1
          have rw2_2 : w2.cell? ⟨wr.heap.size, 2, none⟩ = some (.int .i64 L[k].fRoadPort) := by rw [hb2.cell (by show wr.heap.size < _; omega)]; exact rw1_2
          have rw2_3 : w2.cell? ⟨wr.heap.size, 3, none⟩ = some (.int .i64 L[k].fTheirs) := by rw [hb2.cell (by show wr.heap.size < _; omega)]; exact rw1_3
          have rw2_4 : w2.cell? ⟨wr.heap.size, 4, none⟩ = some (.int .i64 L[k].fMine) := by rw [hb2.cell (by show wr.heap.size < _; omega)]; exact rw1_4
          have rw2_5 : w2.cell? ⟨wr.heap.size, 5, none⟩ = some (.int .i64 L[k].fGive) := by rw [hb2.cell (by show wr.heap.size < _; omega)]; exact rw1_5
          have rw2_6 : w2.cell? ⟨wr.heap.size, 6, none⟩ = some (.int .i64 L[k].fTake) := by rw [hb2.cell (by show wr.heap.size < _; omega)]; exact rw1_6
          have rw2_7 : w2.cell? ⟨wr.heap.size, 7, none⟩ = some (.int .i64 L[k].fUntil) := by rw [hb2.cell (by show wr.heap.size < _; omega)]; exact rw1_7
          clear rw1_0 rw1_1 rw1_2 rw1_3 rw1_4 rw1_5 rw1_6 rw1_7
          by_cases q2 : numB [L[k].fRoadOwn, L[k].fRoadFar, L[k].fRoadPort] = true
          · by_cases q3 : numB [L[k].fTheirs, L[k].fMine, L[k].fGive, L[k].fTake, L[k].fUntil] = true
            · have hN' := hyes.out (by rw [hf.out]; exact q1) (by unfold hnum; rw [q2, q3]; rfl)
              go_wp2_with (go_at_call 33; refine (isNumber_any _ _ [L[k].fTheirs, L[k].fMine, L[k].fGive, L[k].fTake, L[k].fUntil] _ (by exact Rd_new _ _ _ _ _ (by simp) rfl) (by first | (simp; done) | exact Nat.le_refl _) (by simp [maxLen])).mono ?_; rintro e w' ⟨rfl, rfl⟩)
              go_roundw
              case rel => exact ⟨k + 1, by omega, by go_num, hN', by (repeat' (first | (with_reducible exact Below.refl _ _) | (with_reducible assumption) | (with_reducible refine Below.alloc ?_ ?_ _) | (with_reducible refine Below.drew ?_) | (with_reducible refine below_drewN ?_ _) | (with_reducible refine Below.setCell ?_ ?_ _) | (with_reducible refine bvia ?_ (by with_reducible assumption) ?_) | go_size))⟩
              case measure => simp [intOf]; omega
            · have q3 : numB [L[k].fTheirs, L[k].fMine, L[k].fGive, L[k].fTake, L[k].fUntil] = false := by simpa using q3
              have hv := Lib.hid (hno.out (.inr (by unfold hnum; rw [q3, Bool.and_false])))
              go_wp2_with (go_at_call 33; refine (isNumber_any _ _ [L[k].fTheirs, L[k].fMine, L[k].fGive, L[k].fTake, L[k].fUntil] _ (by exact Rd_new _ _ _ _ _ (by simp) rfl) (by first | (simp; done) | exact Nat.le_refl _) (by simp [maxLen])).mono ?_; rintro e w' ⟨rfl, rfl⟩)
              go_ret
              exact ⟨ret_bool hv.out.symm, by (repeat' (first | (with_reducible exact Below.refl _ _) | (with_reducible assumption) | (with_reducible refine Below.alloc ?_ ?_ _) | (with_reducible refine Below.drew ?_) | (with_reducible refine below_drewN ?_ _) | (with_reducible refine Below.setCell ?_ ?_ _) | (with_reducible refine bvia ?_ (by with_reducible assumption) ?_) | go_size))⟩
          · have q2 : numB [L[k].fRoadOwn, L[k].fRoadFar, L[k].fRoadPort] = false := by simpa using q2
            have hv := Lib.hid (hno.out (.inr (by unfold hnum; rw [q2, Bool.false_and])))
            go_wp2
            go_ret
            exact ⟨ret_bool hv.out.symm, by (repeat' (first | (with_reducible exact Below.refl _ _) | (with_reducible assumption) | (with_reducible refine Below.alloc ?_ ?_ _) | (with_reducible refine Below.drew ?_) | (with_reducible refine below_drewN ?_ _) | (with_reducible refine Below.setCell ?_ ?_ _) | (with_reducible refine bvia ?_ (by with_reducible assumption) ?_) | go_size))⟩
        · have q1 : (z == (k : Int)) = false := by simpa using q1
          have d1 : (z != (k : Int)) = true := by simp at q1 ⊢; exact q1
          have hv := Lib.hid (hno.out (.inl (by rw [hf.out]; exact q1)))
          go_wp2
          go_ret
          exact ⟨ret_bool hv.out.symm, by (repeat' (first | (with_reducible exact Below.refl _ _) | (with_reducible assumption) | (with_reducible refine Below.alloc ?_ ?_ _) | (with_reducible refine Below.drew ?_) | (with_reducible refine below_drewN ?_ _) | (with_reducible refine Below.setCell ?_ ?_ _) | (with_reducible refine bvia ?_ (by with_reducible assumption) ?_) | go_size))⟩
      · obtain rfl : k = L.length := by omega
        have hv := Lib.hid (hok_yes h4 hN)
        go_wp2
        go_ret
        exact ⟨ret_bool hv.out.symm, hB⟩
  · have hv := Lib.hid (hok_long h4)
    go_enter Try.func16, Try.ntmps16
    go_wp2
    go_ret
    exact ⟨ret_bool hv.out.symm, Below.refl _ _⟩
set_option maxRecDepth 100000 in
set_option maxHeartbeats 4000000 in
theorem sHalfsOk (A : Option Addr) (cap : Nat) (L : List HalfD) (w : World) (hr : Rd HalfD.cells 8 w 0 w.heap.size A L) (hle : L.length ≤ cap) (hn : cap ≤ maxLen) :
    Calls Try.prog 15 #[.slice A L.length cap] w fun e w' => e = .returned (.bool (halfsOk L)) ∧ Below w.heap.size w w' := by
  have hm : L.length ≤ maxLen := Nat.le_trans hle hn
  unfold maxLen at hn
  by_cases h4 : (L.length : Int) ≤ 4
  · have d4 : decide ((4 : Int) < (L.length : Int)) = false := by simp; omega
    go_enter Try.func15, Try.ntmps15
    go_wp2_with fail
    go_loopw [3] (fun i wr => ∃ k : Nat, k ≤ L.length ∧ i = .int .i64 k ∧ HokTo L k ∧ Below w.heap.size w wr) (fun i _ => L.length - (intOf i).toNat)
    case atStart => exact ⟨0, Nat.zero_le _, rfl, fun i hi => absurd hi (by omega), Below.refl _ _⟩
    case round =>
      obtain ⟨k, hk, rfl, hN, hB⟩ := hrel
      have hBz := hB.size
      by_cases hlt : k < L.length
      · have hA : Hid (∃ g o, A = some ⟨g, o, none⟩ ∧ g < w.heap.size ∧ ∀ j v, (L[k].cells)[j]? = some v → wr.cell? ⟨g, o + k * 8 + j, none⟩ = some v) := by
          obtain ⟨g, o, e, _, hg, hcell⟩ := hr.at_ (by omega)
          exact ⟨g, o, e, hg, fun j v hv => by
            have hj : j < 8 := (List.getElem?_eq_some_iff.1 hv).1
            rw [hB.cell (p := ⟨g, o + k * 8 + j, none⟩) hg, hcell k hlt j hj, hv]⟩
        obtain ⟨g, o, rfl, hg, hx⟩ := hA.out
        clear hA
        have HX := Lib.hid hx
        clear hx
        have hki : (k : Int) < (L.length : Int) := by omega
        have hk0 : (0 : Int) ≤ (k : Int) := by omega
        have hno : Hid (hfirst L k L[k] = false ∨ hnum L[k] = false → halfsOk L = false) := fun h => hok_no hlt (by unfold hokB; rw [nthH_at hlt]; rcases h with h | h <;> simp [h])
        have hyes : Hid (hfirst L k L[k] = true → hnum L[k] = true → HokTo L (k + 1)) := fun h1 h2 => hN.succ (by unfold hokB; rw [nthH_at hlt, h1, h2]; rfl)
        have HN := Lib.hid hN
        clear hN
        have HC := Lib.hid (fun W hr => sHalfAt (some ⟨g, o, none⟩) cap L L[k].fRoadOwn L[k].fRoadFar L[k].fRoadPort W hr hm)
        obtain ⟨z, hz⟩ : ∃ z, z = halfAt L L[k].fRoadOwn L[k].fRoadFar L[k].fRoadPort := ⟨_, rfl⟩
        rw [← hz] at HC
        have hf : Hid (hfirst L k L[k] = (z == (k : Int))) := by show _ = _; unfold hfirst; rw [hz]
        clear hz
        have hrw : Below w.heap.size w (wr.alloc (.cells #[.int .i64 L[k].fRoadOwn, .int .i64 L[k].fRoadFar, .int .i64 L[k].fRoadPort, .int .i64 L[k].fTheirs, .int .i64 L[k].fMine, .int .i64 L[k].fGive, .int .i64 L[k].fTake, .int .i64 L[k].fUntil] 42)) := hB.alloc hBz _
        have hr1 := hr.later hrw (Nat.le_refl _) hrw.size
        go_wp2_with (refine wpList_load_part rfl 42 (.tmp 16) rfl g _ rfl L[k].row _ HX.out Try.underlying42 rfl (by kernel_rfl) ?_)
        refine (l14Road_any _ _ _ _).mono ?_
        rintro e w1 ⟨rfl, hb1⟩
        have hz1 := hb1.size
        simp at hz1
        have hB1 : Below w.heap.size w w1 := hrw.trans (hb1.mono hrw.size)
        have hr2 := hr.later hB1 (Nat.le_refl _) hB1.size
        have rw1_0 : w1.cell? ⟨wr.heap.size, 0, none⟩ = some (.int .i64 L[k].fRoadOwn) := by rw [hb1.cell (by show wr.heap.size < _; simp)]; simp
        have rw1_1 : w1.cell? ⟨wr.heap.size, 1, none⟩ = some (.int .i64 L[k].fRoadFar) := by rw [hb1.cell (by show wr.heap.size < _; simp)]; simp
        have rw1_2 : w1.cell? ⟨wr.heap.size, 2, none⟩ = some (.int .i64 L[k].fRoadPort) := by rw [hb1.cell (by show wr.heap.size < _; simp)]; simp
        have rw1_3 : w1.cell? ⟨wr.heap.size, 3, none⟩ = some (.int .i64 L[k].fTheirs) := by rw [hb1.cell (by show wr.heap.size < _; simp)]; simp
        have rw1_4 : w1.cell? ⟨wr.heap.size, 4, none⟩ = some (.int .i64 L[k].fMine) := by rw [hb1.cell (by show wr.heap.size < _; simp)]; simp
        have rw1_5 : w1.cell? ⟨wr.heap.size, 5, none⟩ = some (.int .i64 L[k].fGive) := by rw [hb1.cell (by show wr.heap.size < _; simp)]; simp
        have rw1_6 : w1.cell? ⟨wr.heap.size, 6, none⟩ = some (.int .i64 L[k].fTake) := by rw [hb1.cell (by show wr.heap.size < _; simp)]; simp
        have rw1_7 : w1.cell? ⟨wr.heap.size, 7, none⟩ = some (.int .i64 L[k].fUntil) := by rw [hb1.cell (by show wr.heap.size < _; simp)]; simp
        by_cases q2 : numB [L[k].fRoadOwn, L[k].fRoadFar, L[k].fRoadPort] = true
        · by_cases p0 : winB L[k].fTheirs 0 1000000000 = true
          · by_cases p1 : winB L[k].fMine 0 1000000000 = true
            · by_cases p2 : winB L[k].fGive 0 1000000000 = true
              · by_cases p3 : winB L[k].fTake 0 1000000000 = true
                · by_cases p4 : winB L[k].fUntil 0 1000000000 = true
                  · have q3 : numB [L[k].fTheirs, L[k].fMine, L[k].fGive, L[k].fTake, L[k].fUntil] = true := by simp [numB, p0, p1, p2, p3, p4]
                    go_wp2_with (go_at_call 31; refine (l14Num_any _ _).mono ?_; rintro e w' ⟨rfl, rfl⟩)
                    refine (HC.out _ hr2).mono ?_
                    rintro e w2 ⟨rfl, hb2⟩
                    have hz2 := hb2.size
                    have hB2 : Below w.heap.size w w2 := hB1.trans (hb2.mono (by omega))
                    by_cases q1 : (z == (k : Int)) = true
                    · have d1 : (z != (k : Int)) = false := by simp at q1 ⊢; exact q1
                      have hN' := hyes.out (by rw [hf.out]; exact q1) (by unfold hnum; rw [q2, q3]; rfl)
                      go_wp2
                      go_roundw
                      case rel => exact ⟨k + 1, by omega, by go_num, hN', by (repeat' (first | (with_reducible exact Below.refl _ _) | (with_reducible assumption) | (with_reducible refine Below.alloc ?_ ?_ _) | (with_reducible refine Below.drew ?_) | (with_reducible refine below_drewN ?_ _) | (with_reducible refine Below.setCell ?_ ?_ _) | (with_reducible refine bvia ?_ (by with_reducible assumption) ?_) | go_size))⟩
                      case measure => simp [intOf]; omega
                    · have q1 : (z == (k : Int)) = false := by simpa using q1
                      have d1 : (z != (k : Int)) = true := by simp at q1 ⊢; exact q1
                      have hv := Lib.hid (hno.out (.inl (by rw [hf.out]; exact q1)))
                      go_wp2
                      go_ret
                      exact ⟨ret_bool hv.out.symm, by (repeat' (first | (with_reducible exact Below.refl _ _) | (with_reducible assumption) | (with_reducible refine Below.alloc ?_ ?_ _) | (with_reducible refine Below.drew ?_) | (with_reducible refine below_drewN ?_ _) | (with_reducible refine Below.setCell ?_ ?_ _) | (with_reducible refine bvia ?_ (by with_reducible assumption) ?_) | go_size))⟩
                  · have p4 : winB L[k].fUntil 0 1000000000 = false := by simpa using p4
                    have hv := Lib.hid (hno.out (.inr (by simp [hnum, numB, p4])))
                    go_wp2_with (go_at_call 31; refine (l14Num_any _ _).mono ?_; rintro e w' ⟨rfl, rfl⟩)
                    go_ret
                    exact ⟨ret_bool hv.out.symm, by (repeat' (first | (with_reducible exact Below.refl _ _) | (with_reducible assumption) | (with_reducible refine Below.alloc ?_ ?_ _) | (with_reducible refine Below.drew ?_) | (with_reducible refine below_drewN ?_ _) | (with_reducible refine Below.setCell ?_ ?_ _) | (with_reducible refine bvia ?_ (by with_reducible assumption) ?_) | go_size))⟩
                · have p3 : winB L[k].fTake 0 1000000000 = false := by simpa using p3
                  have hv := Lib.hid (hno.out (.inr (by simp [hnum, numB, p3])))
                  go_wp2_with (go_at_call 31; refine (l14Num_any _ _).mono ?_; rintro e w' ⟨rfl, rfl⟩)
                  go_ret
                  exact ⟨ret_bool hv.out.symm, by (repeat' (first | (with_reducible exact Below.refl _ _) | (with_reducible assumption) | (with_reducible refine Below.alloc ?_ ?_ _) | (with_reducible refine Below.drew ?_) | (with_reducible refine below_drewN ?_ _) | (with_reducible refine Below.setCell ?_ ?_ _) | (with_reducible refine bvia ?_ (by with_reducible assumption) ?_) | go_size))⟩
              · have p2 : winB L[k].fGive 0 1000000000 = false := by simpa using p2
                have hv := Lib.hid (hno.out (.inr (by simp [hnum, numB, p2])))
                go_wp2_with (go_at_call 31; refine (l14Num_any _ _).mono ?_; rintro e w' ⟨rfl, rfl⟩)
                go_ret
                exact ⟨ret_bool hv.out.symm, by (repeat' (first | (with_reducible exact Below.refl _ _) | (with_reducible assumption) | (with_reducible refine Below.alloc ?_ ?_ _) | (with_reducible refine Below.drew ?_) | (with_reducible refine below_drewN ?_ _) | (with_reducible refine Below.setCell ?_ ?_ _) | (with_reducible refine bvia ?_ (by with_reducible assumption) ?_) | go_size))⟩
            · have p1 : winB L[k].fMine 0 1000000000 = false := by simpa using p1
              have hv := Lib.hid (hno.out (.inr (by simp [hnum, numB, p1])))
              go_wp2_with (go_at_call 31; refine (l14Num_any _ _).mono ?_; rintro e w' ⟨rfl, rfl⟩)
              go_ret
              exact ⟨ret_bool hv.out.symm, by (repeat' (first | (with_reducible exact Below.refl _ _) | (with_reducible assumption) | (with_reducible refine Below.alloc ?_ ?_ _) | (with_reducible refine Below.drew ?_) | (with_reducible refine below_drewN ?_ _) | (with_reducible refine Below.setCell ?_ ?_ _) | (with_reducible refine bvia ?_ (by with_reducible assumption) ?_) | go_size))⟩
          · have p0 : winB L[k].fTheirs 0 1000000000 = false := by simpa using p0
            have hv := Lib.hid (hno.out (.inr (by simp [hnum, numB, p0])))
            go_wp2_with (go_at_call 31; refine (l14Num_any _ _).mono ?_; rintro e w' ⟨rfl, rfl⟩)
            go_ret
            exact ⟨ret_bool hv.out.symm, by (repeat' (first | (with_reducible exact Below.refl _ _) | (with_reducible assumption) | (with_reducible refine Below.alloc ?_ ?_ _) | (with_reducible refine Below.drew ?_) | (with_reducible refine below_drewN ?_ _) | (with_reducible refine Below.setCell ?_ ?_ _) | (with_reducible refine bvia ?_ (by with_reducible assumption) ?_) | go_size))⟩
        · have q2 : numB [L[k].fRoadOwn, L[k].fRoadFar, L[k].fRoadPort] = false := by simpa using q2
          have hv := Lib.hid (hno.out (.inr (by unfold hnum; rw [q2, Bool.false_and])))
          go_wp2
          go_ret
          exact ⟨ret_bool hv.out.symm, by (repeat' (first | (with_reducible exact Below.refl _ _) | (with_reducible assumption) | (with_reducible refine Below.alloc ?_ ?_ _) | (with_reducible refine Below.drew ?_) | (with_reducible refine below_drewN ?_ _) | (with_reducible refine Below.setCell ?_ ?_ _) | (with_reducible refine bvia ?_ (by with_reducible assumption) ?_) | go_size))⟩
      · obtain rfl : k = L.length := by omega
        have hv := Lib.hid (hok_yes h4 hN)
        go_wp2
        go_ret
        exact ⟨ret_bool hv.out.symm, hB⟩
  · have hv := Lib.hid (hok_long h4)
    go_enter Try.func15, Try.ntmps15
    go_wp2
    go_ret
    exact ⟨ret_bool hv.out.symm, Below.refl _ _⟩
end Go.Proofs.Ytcnklfddokpbiaa
