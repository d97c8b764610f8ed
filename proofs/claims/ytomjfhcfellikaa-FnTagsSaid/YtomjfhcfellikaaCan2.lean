/- CanMake (program and reference): for every argument. Written by program (can2.py). -/
import Derived.Test.YtomjfhcfellikaaCan
namespace Go.Proofs.Ytomjfhcfellikaa
set_option linter.unusedSimpArgs false
set_option linter.unusedVariables false
open Go.RowKit

/-- Two tags, field by field. -/
def teq (a0 a1 a2 a3 a4 b0 b1 b2 b3 b4 : Int) : Bool := a0 == b0 && (a1 == b1 && (a2 == b2 && (a3 == b3 && a4 == b4)))
theorem run_teq (a0 a1 a2 a3 a4 b0 b1 b2 b3 b4 : Int) (w : World) : (binOp .eql 23 (.agg #[.int .i64 a0, .int .i64 a1, .int .i64 a2, .int .i64 a3, .int .i64 a4]) (.agg #[.int .i64 b0, .int .i64 b1, .int .i64 b2, .int .i64 b3, .int .i64 b4])).run Try.prog w = .ok (.bool (teq a0 a1 a2 a3 a4 b0 b1 b2 b3 b4)) w := by
  by_cases h0 : a0 = b0 <;> by_cases h1 : a1 = b1 <;> by_cases h2 : a2 = b2 <;> by_cases h3 : a3 = b3 <;> by_cases h4 : a4 = b4 <;> simp [teq, go_sem, *]
/-- What CanMake computes. -/
def canMake (K : List Int) (T : List TagD) (x : TagD) : Bool := teq x.fKind x.fOne x.fTwo x.fA x.fB 0 0 0 0 0 || (hasI K x.fOne && hasI K x.fTwo) || (T.take 300).any (fun y => teq y.fKind y.fOne y.fTwo y.fA y.fB x.fKind x.fOne x.fTwo x.fA x.fB)
theorem any_no300 {p : TagD → Bool} {T : List TagD} {k : Nat} (h : NoneTo p T k) (hk : ¬ (k < T.length ∧ k < 300)) : (T.take 300).any p = false := by
  refine any_no fun i hi _ => ?_
  have hi' : i < T.length ∧ i < 300 := by simp at hi; omega
  rw [List.getElem_take]
  exact h i hi'.1 (by omega)
theorem any_yes300 {p : TagD → Bool} {T : List TagD} {k : Nat} (hk : k < T.length) (h3 : k < 300) (h : p T[k] = true) : (T.take 300).any p = true := by
  refine any_yes (k := k) (by simp; omega) ?_
  rw [List.getElem_take]; exact h
attribute [local go_sem ↓] run_teq
set_option maxHeartbeats 1000000 in
theorem iCanMake (Ak At : Option Addr) (ck ct : Nat) (K : List Int) (T : List TagD) (x : TagD) (w : World) (hK : Rd icell 1 w 0 w.heap.size Ak K) (hT : Rd TagD.cells 5 w 0 w.heap.size At T) (hmK : K.length ≤ maxLen) (hmT : T.length ≤ maxLen) :
    Calls Try.prog 25 #[.agg #[.slice Ak K.length ck, .slice At T.length ct], x.val] w fun e w' => e = .returned (.bool (canMake K T x)) ∧ Below w.heap.size w w' := by
  unfold maxLen at hmT
  obtain ⟨W, HW⟩ : ∃ W, Hid ((w.alloc (.cells #[.slice Ak K.length ck, .slice At T.length ct] 35)).alloc (.cells x.arr 23) = W) := ⟨_, rfl⟩
  have hW : Below w.heap.size w W := HW.out ▸ (by go_grown)
  have hWs : w.heap.size + 2 ≤ W.heap.size := by rw [← HW.out]; simp
  by_cases hz : teq x.fKind x.fOne x.fTwo x.fA x.fB 0 0 0 0 0 = true
  · have hv : Hid (canMake K T x = true) := by unfold Hid canMake; rw [hz]; rfl
    go_enter Try.func25, Try.ntmps25
    go_wp2
    go_ret
    exact ⟨ret_bool hv.out.symm, by (repeat' (first | (with_reducible exact Below.refl _ _) | (with_reducible assumption) | (with_reducible refine Below.alloc ?_ ?_ _) | (with_reducible refine Below.drew ?_) | (with_reducible refine below_drewN ?_ _) | (with_reducible refine Below.setCell ?_ ?_ _) | (with_reducible refine bvia ?_ (by with_reducible assumption) ?_) | go_size))⟩
  have hz : teq x.fKind x.fOne x.fTwo x.fA x.fB 0 0 0 0 0 = false := by simpa using hz
  by_cases h1 : hasI K x.fOne = true
  · by_cases h2 : hasI K x.fTwo = true
    · have hv : Hid (canMake K T x = true) := by unfold Hid canMake; rw [h1, h2]; simp
      go_enter Try.func25, Try.ntmps25
      go_wp2_with (go_at_call 42; refine (hasInt_any Ak ck K _ _ (by exact hK.later (by (repeat' (first | (with_reducible exact Below.refl _ _) | (with_reducible assumption) | (with_reducible refine Below.alloc ?_ ?_ _) | (with_reducible refine Below.drew ?_) | (with_reducible refine below_drewN ?_ _) | (with_reducible refine Below.setCell ?_ ?_ _) | (with_reducible refine bvia ?_ (by with_reducible assumption) ?_) | go_size))) (Nat.le_refl _) (by go_size)) hmK).mono ?_; rintro e w1 ⟨rfl, rfl⟩)
      go_ret
      exact ⟨ret_bool hv.out.symm, by (repeat' (first | (with_reducible exact Below.refl _ _) | (with_reducible assumption) | (with_reducible refine Below.alloc ?_ ?_ _) | (with_reducible refine Below.drew ?_) | (with_reducible refine below_drewN ?_ _) | (with_reducible refine Below.setCell ?_ ?_ _) | (with_reducible refine bvia ?_ (by with_reducible assumption) ?_) | go_size))⟩
    · have h2 : hasI K x.fTwo = false := by simpa using h2
      have hc : Hid ((hasI K x.fOne && hasI K x.fTwo) = false) := by unfold Hid; rw [h1, h2]; rfl
      go_enter Try.func25, Try.ntmps25
      go_wp2_with (go_at_call 42; refine (hasInt_any Ak ck K _ _ (by exact hK.later (by (repeat' (first | (with_reducible exact Below.refl _ _) | (with_reducible assumption) | (with_reducible refine Below.alloc ?_ ?_ _) | (with_reducible refine Below.drew ?_) | (with_reducible refine below_drewN ?_ _) | (with_reducible refine Below.setCell ?_ ?_ _) | (with_reducible refine bvia ?_ (by with_reducible assumption) ?_) | go_size))) (Nat.le_refl _) (by go_size)) hmK).mono ?_; rintro e w1 ⟨rfl, rfl⟩)
      go_loopw [5] (fun i wr => ∃ k : Nat, k ≤ T.length ∧ k ≤ 300 ∧ i = .int .i64 k ∧ NoneTo (fun y => teq y.fKind y.fOne y.fTwo y.fA y.fB x.fKind x.fOne x.fTwo x.fA x.fB) T k ∧ Below W.heap.size W wr) (fun i _ => T.length - (intOf i).toNat)
      case atStart => exact ⟨0, Nat.zero_le _, Nat.zero_le _, rfl, NoneTo.zero _ _, HW.out ▸ (by (repeat' (first | (with_reducible exact Below.refl _ _) | (with_reducible assumption) | (with_reducible refine Below.alloc ?_ ?_ _) | (with_reducible refine Below.drew ?_) | (with_reducible refine below_drewN ?_ _) | (with_reducible refine Below.setCell ?_ ?_ _) | (with_reducible refine bvia ?_ (by with_reducible assumption) ?_) | go_size)))⟩
      case round =>
        obtain ⟨k, hk, hk3, rfl, hN, hB⟩ := hrel
        have hlz : w.heap.size + 2 ≤ wr.heap.size := Nat.le_trans hWs hB.size
        have r1 : wr.cell? ⟨w.heap.size, 1, none⟩ = some (.slice At T.length ct) := by rw [hB.cell (by show w.heap.size < _; omega), ← HW.out]; simp
        have t0 : wr.cell? ⟨w.heap.size + 1, 0, none⟩ = some (.int .i64 x.fKind) := by rw [hB.cell (by show w.heap.size + 1 < _; omega), ← HW.out]; simp
        have t1 : wr.cell? ⟨w.heap.size + 1, 1, none⟩ = some (.int .i64 x.fOne) := by rw [hB.cell (by show w.heap.size + 1 < _; omega), ← HW.out]; simp
        have t2 : wr.cell? ⟨w.heap.size + 1, 2, none⟩ = some (.int .i64 x.fTwo) := by rw [hB.cell (by show w.heap.size + 1 < _; omega), ← HW.out]; simp
        have t3 : wr.cell? ⟨w.heap.size + 1, 3, none⟩ = some (.int .i64 x.fA) := by rw [hB.cell (by show w.heap.size + 1 < _; omega), ← HW.out]; simp
        have t4 : wr.cell? ⟨w.heap.size + 1, 4, none⟩ = some (.int .i64 x.fB) := by rw [hB.cell (by show w.heap.size + 1 < _; omega), ← HW.out]; simp
        have HB := Lib.hid hB
        have hBw : Below w.heap.size w wr := hW.trans (hB.mono (by omega))
        clear hB
        by_cases hlt : k < T.length ∧ k < 300
        · obtain ⟨hlt, h3⟩ := hlt
          obtain ⟨g, o, rfl, _, hg, hcell⟩ := hT.at_ (by omega)
          have hx : ∀ j v, (T[k].cells)[j]? = some v → wr.cell? ⟨g, o + k * 5 + j, none⟩ = some v := fun j v hv => by
            have hj : j < 5 := (List.getElem?_eq_some_iff.1 hv).1
            rw [hBw.cell (p := ⟨g, o + k * 5 + j, none⟩) hg, hcell k hlt j hj, hv]
          have a0 : wr.cell? ⟨g, o + k * 5, none⟩ = some (.int .i64 T[k].fKind) := hx 0 _ rfl
          have a1 : wr.cell? ⟨g, o + k * 5 + 1, none⟩ = some (.int .i64 T[k].fOne) := hx 1 _ rfl
          have a2 : wr.cell? ⟨g, o + k * 5 + 2, none⟩ = some (.int .i64 T[k].fTwo) := hx 2 _ rfl
          have a3 : wr.cell? ⟨g, o + k * 5 + 3, none⟩ = some (.int .i64 T[k].fA) := hx 3 _ rfl
          have a4 : wr.cell? ⟨g, o + k * 5 + 4, none⟩ = some (.int .i64 T[k].fB) := hx 4 _ rfl
          clear hx hcell
          have hki : (k : Int) < (T.length : Int) := by omega
          have hk0 : (0 : Int) ≤ (k : Int) := by omega
          have hk4 : (k : Int) < 300 := by omega
          by_cases he : teq T[k].fKind T[k].fOne T[k].fTwo T[k].fA T[k].fB x.fKind x.fOne x.fTwo x.fA x.fB = true
          · have hv : Hid (canMake K T x = true) := by unfold Hid canMake; rw [any_yes300 (p := fun y => teq y.fKind y.fOne y.fTwo y.fA y.fB x.fKind x.fOne x.fTwo x.fA x.fB) hlt h3 he, Bool.or_true]
            go_wp2
            go_still_tail 6, (by kernel_rfl)
            go_wp2
            go_ret
            exact ⟨ret_bool hv.out.symm, by (repeat' (first | (with_reducible exact Below.refl _ _) | (with_reducible assumption) | (with_reducible refine Below.alloc ?_ ?_ _) | (with_reducible refine Below.drew ?_) | (with_reducible refine below_drewN ?_ _) | (with_reducible refine Below.setCell ?_ ?_ _) | (with_reducible refine bvia ?_ (by with_reducible assumption) ?_) | go_size))⟩
          · have he : teq T[k].fKind T[k].fOne T[k].fTwo T[k].fA T[k].fB x.fKind x.fOne x.fTwo x.fA x.fB = false := by simpa using he
            have hN' := hN.succ hlt he
            go_wp2
            go_still_tail 6, (by kernel_rfl)
            go_wp2
            have hB' := HB.out
            go_roundw
            case rel => exact ⟨k + 1, by omega, by omega, by go_num, hN', by (repeat' (first | (with_reducible exact Below.refl _ _) | (with_reducible assumption) | (with_reducible refine Below.alloc ?_ ?_ _) | (with_reducible refine Below.drew ?_) | (with_reducible refine below_drewN ?_ _) | (with_reducible refine Below.setCell ?_ ?_ _) | (with_reducible refine bvia ?_ (by with_reducible assumption) ?_) | go_size))⟩
            case measure => simp [intOf]; omega
        · have hv : Hid (canMake K T x = false) := by unfold Hid canMake; rw [any_no300 hN hlt, hz, hc.out]; rfl
          rcases Nat.lt_or_ge k T.length with hl | hl
          · have h3 : decide ((k : Int) < 300) = false := decide_eq_false (by omega)
            have hki : (k : Int) < (T.length : Int) := by omega
            go_wp2
            go_ret
            exact ⟨ret_bool hv.out.symm, hBw⟩
          · have hki : (T.length : Int) ≤ (k : Int) := by omega
            go_wp2
            go_ret
            exact ⟨ret_bool hv.out.symm, hBw⟩
  · have h1 : hasI K x.fOne = false := by simpa using h1
    · have hc : Hid ((hasI K x.fOne && hasI K x.fTwo) = false) := by unfold Hid; rw [h1]; rfl
      go_enter Try.func25, Try.ntmps25
      go_wp2_with (go_at_call 42; refine (hasInt_any Ak ck K _ _ (by exact hK.later (by (repeat' (first | (with_reducible exact Below.refl _ _) | (with_reducible assumption) | (with_reducible refine Below.alloc ?_ ?_ _) | (with_reducible refine Below.drew ?_) | (with_reducible refine below_drewN ?_ _) | (with_reducible refine Below.setCell ?_ ?_ _) | (with_reducible refine bvia ?_ (by with_reducible assumption) ?_) | go_size))) (Nat.le_refl _) (by go_size)) hmK).mono ?_; rintro e w1 ⟨rfl, rfl⟩)
      go_loopw [5] (fun i wr => ∃ k : Nat, k ≤ T.length ∧ k ≤ 300 ∧ i = .int .i64 k ∧ NoneTo (fun y => teq y.fKind y.fOne y.fTwo y.fA y.fB x.fKind x.fOne x.fTwo x.fA x.fB) T k ∧ Below W.heap.size W wr) (fun i _ => T.length - (intOf i).toNat)
      case atStart => exact ⟨0, Nat.zero_le _, Nat.zero_le _, rfl, NoneTo.zero _ _, HW.out ▸ (by (repeat' (first | (with_reducible exact Below.refl _ _) | (with_reducible assumption) | (with_reducible refine Below.alloc ?_ ?_ _) | (with_reducible refine Below.drew ?_) | (with_reducible refine below_drewN ?_ _) | (with_reducible refine Below.setCell ?_ ?_ _) | (with_reducible refine bvia ?_ (by with_reducible assumption) ?_) | go_size)))⟩
      case round =>
        obtain ⟨k, hk, hk3, rfl, hN, hB⟩ := hrel
        have hlz : w.heap.size + 2 ≤ wr.heap.size := Nat.le_trans hWs hB.size
        have r1 : wr.cell? ⟨w.heap.size, 1, none⟩ = some (.slice At T.length ct) := by rw [hB.cell (by show w.heap.size < _; omega), ← HW.out]; simp
        have t0 : wr.cell? ⟨w.heap.size + 1, 0, none⟩ = some (.int .i64 x.fKind) := by rw [hB.cell (by show w.heap.size + 1 < _; omega), ← HW.out]; simp
        have t1 : wr.cell? ⟨w.heap.size + 1, 1, none⟩ = some (.int .i64 x.fOne) := by rw [hB.cell (by show w.heap.size + 1 < _; omega), ← HW.out]; simp
        have t2 : wr.cell? ⟨w.heap.size + 1, 2, none⟩ = some (.int .i64 x.fTwo) := by rw [hB.cell (by show w.heap.size + 1 < _; omega), ← HW.out]; simp
        have t3 : wr.cell? ⟨w.heap.size + 1, 3, none⟩ = some (.int .i64 x.fA) := by rw [hB.cell (by show w.heap.size + 1 < _; omega), ← HW.out]; simp
        have t4 : wr.cell? ⟨w.heap.size + 1, 4, none⟩ = some (.int .i64 x.fB) := by rw [hB.cell (by show w.heap.size + 1 < _; omega), ← HW.out]; simp
        have HB := Lib.hid hB
        have hBw : Below w.heap.size w wr := hW.trans (hB.mono (by omega))
        clear hB
        by_cases hlt : k < T.length ∧ k < 300
        · obtain ⟨hlt, h3⟩ := hlt
          obtain ⟨g, o, rfl, _, hg, hcell⟩ := hT.at_ (by omega)
          have hx : ∀ j v, (T[k].cells)[j]? = some v → wr.cell? ⟨g, o + k * 5 + j, none⟩ = some v := fun j v hv => by
            have hj : j < 5 := (List.getElem?_eq_some_iff.1 hv).1
            rw [hBw.cell (p := ⟨g, o + k * 5 + j, none⟩) hg, hcell k hlt j hj, hv]
          have a0 : wr.cell? ⟨g, o + k * 5, none⟩ = some (.int .i64 T[k].fKind) := hx 0 _ rfl
          have a1 : wr.cell? ⟨g, o + k * 5 + 1, none⟩ = some (.int .i64 T[k].fOne) := hx 1 _ rfl
          have a2 : wr.cell? ⟨g, o + k * 5 + 2, none⟩ = some (.int .i64 T[k].fTwo) := hx 2 _ rfl
          have a3 : wr.cell? ⟨g, o + k * 5 + 3, none⟩ = some (.int .i64 T[k].fA) := hx 3 _ rfl
          have a4 : wr.cell? ⟨g, o + k * 5 + 4, none⟩ = some (.int .i64 T[k].fB) := hx 4 _ rfl
          clear hx hcell
          have hki : (k : Int) < (T.length : Int) := by omega
          have hk0 : (0 : Int) ≤ (k : Int) := by omega
          have hk4 : (k : Int) < 300 := by omega
          by_cases he : teq T[k].fKind T[k].fOne T[k].fTwo T[k].fA T[k].fB x.fKind x.fOne x.fTwo x.fA x.fB = true
          · have hv : Hid (canMake K T x = true) := by unfold Hid canMake; rw [any_yes300 (p := fun y => teq y.fKind y.fOne y.fTwo y.fA y.fB x.fKind x.fOne x.fTwo x.fA x.fB) hlt h3 he, Bool.or_true]
            go_wp2
            go_still_tail 6, (by kernel_rfl)
            go_wp2
            go_ret
            exact ⟨ret_bool hv.out.symm, by (repeat' (first | (with_reducible exact Below.refl _ _) | (with_reducible assumption) | (with_reducible refine Below.alloc ?_ ?_ _) | (with_reducible refine Below.drew ?_) | (with_reducible refine below_drewN ?_ _) | (with_reducible refine Below.setCell ?_ ?_ _) | (with_reducible refine bvia ?_ (by with_reducible assumption) ?_) | go_size))⟩
          · have he : teq T[k].fKind T[k].fOne T[k].fTwo T[k].fA T[k].fB x.fKind x.fOne x.fTwo x.fA x.fB = false := by simpa using he
            have hN' := hN.succ hlt he
            go_wp2
            go_still_tail 6, (by kernel_rfl)
            go_wp2
            have hB' := HB.out
            go_roundw
            case rel => exact ⟨k + 1, by omega, by omega, by go_num, hN', by (repeat' (first | (with_reducible exact Below.refl _ _) | (with_reducible assumption) | (with_reducible refine Below.alloc ?_ ?_ _) | (with_reducible refine Below.drew ?_) | (with_reducible refine below_drewN ?_ _) | (with_reducible refine Below.setCell ?_ ?_ _) | (with_reducible refine bvia ?_ (by with_reducible assumption) ?_) | go_size))⟩
            case measure => simp [intOf]; omega
        · have hv : Hid (canMake K T x = false) := by unfold Hid canMake; rw [any_no300 hN hlt, hz, hc.out]; rfl
          rcases Nat.lt_or_ge k T.length with hl | hl
          · have h3 : decide ((k : Int) < 300) = false := decide_eq_false (by omega)
            have hki : (k : Int) < (T.length : Int) := by omega
            go_wp2
            go_ret
            exact ⟨ret_bool hv.out.symm, hBw⟩
          · have hki : (T.length : Int) ≤ (k : Int) := by omega
            go_wp2
            go_ret
            exact ⟨ret_bool hv.out.symm, hBw⟩
set_option maxHeartbeats 1000000 in
theorem sCanMake (Ak At : Option Addr) (ck ct : Nat) (K : List Int) (T : List TagD) (x : TagD) (w : World) (hK : Rd icell 1 w 0 w.heap.size Ak K) (hT : Rd TagD.cells 5 w 0 w.heap.size At T) (hmK : K.length ≤ maxLen) (hmT : T.length ≤ maxLen) :
    Calls Try.prog 24 #[.agg #[.slice Ak K.length ck, .slice At T.length ct], x.val] w fun e w' => e = .returned (.bool (canMake K T x)) ∧ Below w.heap.size w w' := by
  unfold maxLen at hmT
  obtain ⟨W, HW⟩ : ∃ W, Hid ((w.alloc (.cells #[.slice Ak K.length ck, .slice At T.length ct] 35)).alloc (.cells x.arr 23) = W) := ⟨_, rfl⟩
  have hW : Below w.heap.size w W := HW.out ▸ (by go_grown)
  have hWs : w.heap.size + 2 ≤ W.heap.size := by rw [← HW.out]; simp
  by_cases hz : teq x.fKind x.fOne x.fTwo x.fA x.fB 0 0 0 0 0 = true
  · have hv : Hid (canMake K T x = true) := by unfold Hid canMake; rw [hz]; rfl
    go_enter Try.func24, Try.ntmps24
    go_wp2
    go_ret
    exact ⟨ret_bool hv.out.symm, by (repeat' (first | (with_reducible exact Below.refl _ _) | (with_reducible assumption) | (with_reducible refine Below.alloc ?_ ?_ _) | (with_reducible refine Below.drew ?_) | (with_reducible refine below_drewN ?_ _) | (with_reducible refine Below.setCell ?_ ?_ _) | (with_reducible refine bvia ?_ (by with_reducible assumption) ?_) | go_size))⟩
  have hz : teq x.fKind x.fOne x.fTwo x.fA x.fB 0 0 0 0 0 = false := by simpa using hz
  by_cases h1 : hasI K x.fOne = true
  · by_cases h2 : hasI K x.fTwo = true
    · have hv : Hid (canMake K T x = true) := by unfold Hid canMake; rw [h1, h2]; simp
      go_enter Try.func24, Try.ntmps24
      go_wp2_with (go_at_call 41; refine (l15Has_any Ak ck K _ _ (by exact hK.later (by (repeat' (first | (with_reducible exact Below.refl _ _) | (with_reducible assumption) | (with_reducible refine Below.alloc ?_ ?_ _) | (with_reducible refine Below.drew ?_) | (with_reducible refine below_drewN ?_ _) | (with_reducible refine Below.setCell ?_ ?_ _) | (with_reducible refine bvia ?_ (by with_reducible assumption) ?_) | go_size))) (Nat.le_refl _) (by go_size)) hmK).mono ?_; rintro e w1 ⟨rfl, rfl⟩)
      go_ret
      exact ⟨ret_bool hv.out.symm, by (repeat' (first | (with_reducible exact Below.refl _ _) | (with_reducible assumption) | (with_reducible refine Below.alloc ?_ ?_ _) | (with_reducible refine Below.drew ?_) | (with_reducible refine below_drewN ?_ _) | (with_reducible refine Below.setCell ?_ ?_ _) | (with_reducible refine bvia ?_ (by with_reducible assumption) ?_) | go_size))⟩
    · have h2 : hasI K x.fTwo = false := by simpa using h2
      have hc : Hid ((hasI K x.fOne && hasI K x.fTwo) = false) := by unfold Hid; rw [h1, h2]; rfl
      go_enter Try.func24, Try.ntmps24
      go_wp2_with (go_at_call 41; refine (l15Has_any Ak ck K _ _ (by exact hK.later (by (repeat' (first | (with_reducible exact Below.refl _ _) | (with_reducible assumption) | (with_reducible refine Below.alloc ?_ ?_ _) | (with_reducible refine Below.drew ?_) | (with_reducible refine below_drewN ?_ _) | (with_reducible refine Below.setCell ?_ ?_ _) | (with_reducible refine bvia ?_ (by with_reducible assumption) ?_) | go_size))) (Nat.le_refl _) (by go_size)) hmK).mono ?_; rintro e w1 ⟨rfl, rfl⟩)
      go_loopw [5] (fun i wr => ∃ k : Nat, k ≤ T.length ∧ k ≤ 300 ∧ i = .int .i64 k ∧ NoneTo (fun y => teq y.fKind y.fOne y.fTwo y.fA y.fB x.fKind x.fOne x.fTwo x.fA x.fB) T k ∧ Below W.heap.size W wr) (fun i _ => T.length - (intOf i).toNat)
      case atStart => exact ⟨0, Nat.zero_le _, Nat.zero_le _, rfl, NoneTo.zero _ _, HW.out ▸ (by (repeat' (first | (with_reducible exact Below.refl _ _) | (with_reducible assumption) | (with_reducible refine Below.alloc ?_ ?_ _) | (with_reducible refine Below.drew ?_) | (with_reducible refine below_drewN ?_ _) | (with_reducible refine Below.setCell ?_ ?_ _) | (with_reducible refine bvia ?_ (by with_reducible assumption) ?_) | go_size)))⟩
      case round =>
        obtain ⟨k, hk, hk3, rfl, hN, hB⟩ := hrel
        have hlz : w.heap.size + 2 ≤ wr.heap.size := Nat.le_trans hWs hB.size
        have r1 : wr.cell? ⟨w.heap.size, 1, none⟩ = some (.slice At T.length ct) := by rw [hB.cell (by show w.heap.size < _; omega), ← HW.out]; simp
        have t0 : wr.cell? ⟨w.heap.size + 1, 0, none⟩ = some (.int .i64 x.fKind) := by rw [hB.cell (by show w.heap.size + 1 < _; omega), ← HW.out]; simp
        have t1 : wr.cell? ⟨w.heap.size + 1, 1, none⟩ = some (.int .i64 x.fOne) := by rw [hB.cell (by show w.heap.size + 1 < _; omega), ← HW.out]; simp
        have t2 : wr.cell? ⟨w.heap.size + 1, 2, none⟩ = some (.int .i64 x.fTwo) := by rw [hB.cell (by show w.heap.size + 1 < _; omega), ← HW.out]; simp
        have t3 : wr.cell? ⟨w.heap.size + 1, 3, none⟩ = some (.int .i64 x.fA) := by rw [hB.cell (by show w.heap.size + 1 < _; omega), ← HW.out]; simp
        have t4 : wr.cell? ⟨w.heap.size + 1, 4, none⟩ = some (.int .i64 x.fB) := by rw [hB.cell (by show w.heap.size + 1 < _; omega), ← HW.out]; simp
        have HB := Lib.hid hB
        have hBw : Below w.heap.size w wr := hW.trans (hB.mono (by omega))
        clear hB
        by_cases hlt : k < T.length ∧ k < 300
        · obtain ⟨hlt, h3⟩ := hlt
          obtain ⟨g, o, rfl, _, hg, hcell⟩ := hT.at_ (by omega)
          have hx : ∀ j v, (T[k].cells)[j]? = some v → wr.cell? ⟨g, o + k * 5 + j, none⟩ = some v := fun j v hv => by
            have hj : j < 5 := (List.getElem?_eq_some_iff.1 hv).1
            rw [hBw.cell (p := ⟨g, o + k * 5 + j, none⟩) hg, hcell k hlt j hj, hv]
          have a0 : wr.cell? ⟨g, o + k * 5, none⟩ = some (.int .i64 T[k].fKind) := hx 0 _ rfl
          have a1 : wr.cell? ⟨g, o + k * 5 + 1, none⟩ = some (.int .i64 T[k].fOne) := hx 1 _ rfl
          have a2 : wr.cell? ⟨g, o + k * 5 + 2, none⟩ = some (.int .i64 T[k].fTwo) := hx 2 _ rfl
          have a3 : wr.cell? ⟨g, o + k * 5 + 3, none⟩ = some (.int .i64 T[k].fA) := hx 3 _ rfl
          have a4 : wr.cell? ⟨g, o + k * 5 + 4, none⟩ = some (.int .i64 T[k].fB) := hx 4 _ rfl
          clear hx hcell
          have hki : (k : Int) < (T.length : Int) := by omega
          have hk0 : (0 : Int) ≤ (k : Int) := by omega
          have hk4 : (k : Int) < 300 := by omega
          by_cases he : teq T[k].fKind T[k].fOne T[k].fTwo T[k].fA T[k].fB x.fKind x.fOne x.fTwo x.fA x.fB = true
          · have hv : Hid (canMake K T x = true) := by unfold Hid canMake; rw [any_yes300 (p := fun y => teq y.fKind y.fOne y.fTwo y.fA y.fB x.fKind x.fOne x.fTwo x.fA x.fB) hlt h3 he, Bool.or_true]
            go_wp2
            go_still_tail 6, (by kernel_rfl)
            go_wp2
            go_ret
            exact ⟨ret_bool hv.out.symm, by (repeat' (first | (with_reducible exact Below.refl _ _) | (with_reducible assumption) | (with_reducible refine Below.alloc ?_ ?_ _) | (with_reducible refine Below.drew ?_) | (with_reducible refine below_drewN ?_ _) | (with_reducible refine Below.setCell ?_ ?_ _) | (with_reducible refine bvia ?_ (by with_reducible assumption) ?_) | go_size))⟩
          · have he : teq T[k].fKind T[k].fOne T[k].fTwo T[k].fA T[k].fB x.fKind x.fOne x.fTwo x.fA x.fB = false := by simpa using he
            have hN' := hN.succ hlt he
            go_wp2
            go_still_tail 6, (by kernel_rfl)
            go_wp2
            have hB' := HB.out
            go_roundw
            case rel => exact ⟨k + 1, by omega, by omega, by go_num, hN', by (repeat' (first | (with_reducible exact Below.refl _ _) | (with_reducible assumption) | (with_reducible refine Below.alloc ?_ ?_ _) | (with_reducible refine Below.drew ?_) | (with_reducible refine below_drewN ?_ _) | (with_reducible refine Below.setCell ?_ ?_ _) | (with_reducible refine bvia ?_ (by with_reducible assumption) ?_) | go_size))⟩
            case measure => simp [intOf]; omega
        · have hv : Hid (canMake K T x = false) := by unfold Hid canMake; rw [any_no300 hN hlt, hz, hc.out]; rfl
          rcases Nat.lt_or_ge k T.length with hl | hl
          · have h3 : decide ((k : Int) < 300) = false := decide_eq_false (by omega)
            have hki : (k : Int) < (T.length : Int) := by omega
            go_wp2
            go_ret
            exact ⟨ret_bool hv.out.symm, hBw⟩
          · have hki : (T.length : Int) ≤ (k : Int) := by omega
            go_wp2
            go_ret
            exact ⟨ret_bool hv.out.symm, hBw⟩
  · have h1 : hasI K x.fOne = false := by simpa using h1
    · have hc : Hid ((hasI K x.fOne && hasI K x.fTwo) = false) := by unfold Hid; rw [h1]; rfl
      go_enter Try.func24, Try.ntmps24
      go_wp2_with (go_at_call 41; refine (l15Has_any Ak ck K _ _ (by exact hK.later (by (repeat' (first | (with_reducible exact Below.refl _ _) | (with_reducible assumption) | (with_reducible refine Below.alloc ?_ ?_ _) | (with_reducible refine Below.drew ?_) | (with_reducible refine below_drewN ?_ _) | (with_reducible refine Below.setCell ?_ ?_ _) | (with_reducible refine bvia ?_ (by with_reducible assumption) ?_) | go_size))) (Nat.le_refl _) (by go_size)) hmK).mono ?_; rintro e w1 ⟨rfl, rfl⟩)
      go_loopw [5] (fun i wr => ∃ k : Nat, k ≤ T.length ∧ k ≤ 300 ∧ i = .int .i64 k ∧ NoneTo (fun y => teq y.fKind y.fOne y.fTwo y.fA y.fB x.fKind x.fOne x.fTwo x.fA x.fB) T k ∧ Below W.heap.size W wr) (fun i _ => T.length - (intOf i).toNat)
      case atStart => exact ⟨0, Nat.zero_le _, Nat.zero_le _, rfl, NoneTo.zero _ _, HW.out ▸ (by (repeat' (first | (with_reducible exact Below.refl _ _) | (with_reducible assumption) | (with_reducible refine Below.alloc ?_ ?_ _) | (with_reducible refine Below.drew ?_) | (with_reducible refine below_drewN ?_ _) | (with_reducible refine Below.setCell ?_ ?_ _) | (with_reducible refine bvia ?_ (by with_reducible assumption) ?_) | go_size)))⟩
      case round =>
        obtain ⟨k, hk, hk3, rfl, hN, hB⟩ := hrel
        have hlz : w.heap.size + 2 ≤ wr.heap.size := Nat.le_trans hWs hB.size
        have r1 : wr.cell? ⟨w.heap.size, 1, none⟩ = some (.slice At T.length ct) := by rw [hB.cell (by show w.heap.size < _; omega), ← HW.out]; simp
        have t0 : wr.cell? ⟨w.heap.size + 1, 0, none⟩ = some (.int .i64 x.fKind) := by rw [hB.cell (by show w.heap.size + 1 < _; omega), ← HW.out]; simp
        have t1 : wr.cell? ⟨w.heap.size + 1, 1, none⟩ = some (.int .i64 x.fOne) := by rw [hB.cell (by show w.heap.size + 1 < _; omega), ← HW.out]; simp
        have t2 : wr.cell? ⟨w.heap.size + 1, 2, none⟩ = some (.int .i64 x.fTwo) := by rw [hB.cell (by show w.heap.size + 1 < _; omega), ← HW.out]; simp
        have t3 : wr.cell? ⟨w.heap.size + 1, 3, none⟩ = some (.int .i64 x.fA) := by rw [hB.cell (by show w.heap.size + 1 < _; omega), ← HW.out]; simp
        have t4 : wr.cell? ⟨w.heap.size + 1, 4, none⟩ = some (.int .i64 x.fB) := by rw [hB.cell (by show w.heap.size + 1 < _; omega), ← HW.out]; simp
        have HB := Lib.hid hB
        have hBw : Below w.heap.size w wr := hW.trans (hB.mono (by omega))
        clear hB
        by_cases hlt : k < T.length ∧ k < 300
        · obtain ⟨hlt, h3⟩ := hlt
          obtain ⟨g, o, rfl, _, hg, hcell⟩ := hT.at_ (by omega)
          have hx : ∀ j v, (T[k].cells)[j]? = some v → wr.cell? ⟨g, o + k * 5 + j, none⟩ = some v := fun j v hv => by
            have hj : j < 5 := (List.getElem?_eq_some_iff.1 hv).1
            rw [hBw.cell (p := ⟨g, o + k * 5 + j, none⟩) hg, hcell k hlt j hj, hv]
          have a0 : wr.cell? ⟨g, o + k * 5, none⟩ = some (.int .i64 T[k].fKind) := hx 0 _ rfl
          have a1 : wr.cell? ⟨g, o + k * 5 + 1, none⟩ = some (.int .i64 T[k].fOne) := hx 1 _ rfl
          have a2 : wr.cell? ⟨g, o + k * 5 + 2, none⟩ = some (.int .i64 T[k].fTwo) := hx 2 _ rfl
          have a3 : wr.cell? ⟨g, o + k * 5 + 3, none⟩ = some (.int .i64 T[k].fA) := hx 3 _ rfl
          have a4 : wr.cell? ⟨g, o + k * 5 + 4, none⟩ = some (.int .i64 T[k].fB) := hx 4 _ rfl
          clear hx hcell
          have hki : (k : Int) < (T.length : Int) := by omega
          have hk0 : (0 : Int) ≤ (k : Int) := by omega
          have hk4 : (k : Int) < 300 := by omega
          by_cases he : teq T[k].fKind T[k].fOne T[k].fTwo T[k].fA T[k].fB x.fKind x.fOne x.fTwo x.fA x.fB = true
          · have hv : Hid (canMake K T x = true) := by unfold Hid canMake; rw [any_yes300 (p := fun y => teq y.fKind y.fOne y.fTwo y.fA y.fB x.fKind x.fOne x.fTwo x.fA x.fB) hlt h3 he, Bool.or_true]
            go_wp2
            go_still_tail 6, (by kernel_rfl)
            go_wp2
            go_ret
            exact ⟨ret_bool hv.out.symm, by (repeat' (first | (with_reducible exact Below.refl _ _) | (with_reducible assumption) | (with_reducible refine Below.alloc ?_ ?_ _) | (with_reducible refine Below.drew ?_) | (with_reducible refine below_drewN ?_ _) | (with_reducible refine Below.setCell ?_ ?_ _) | (with_reducible refine bvia ?_ (by with_reducible assumption) ?_) | go_size))⟩
          · have he : teq T[k].fKind T[k].fOne T[k].fTwo T[k].fA T[k].fB x.fKind x.fOne x.fTwo x.fA x.fB = false := by simpa using he
            have hN' := hN.succ hlt he
            go_wp2
            go_still_tail 6, (by kernel_rfl)
            go_wp2
            have hB' := HB.out
            go_roundw
            case rel => exact ⟨k + 1, by omega, by omega, by go_num, hN', by (repeat' (first | (with_reducible exact Below.refl _ _) | (with_reducible assumption) | (with_reducible refine Below.alloc ?_ ?_ _) | (with_reducible refine Below.drew ?_) | (with_reducible refine below_drewN ?_ _) | (with_reducible refine Below.setCell ?_ ?_ _) | (with_reducible refine bvia ?_ (by with_reducible assumption) ?_) | go_size))⟩
            case measure => simp [intOf]; omega
        · have hv : Hid (canMake K T x = false) := by unfold Hid canMake; rw [any_no300 hN hlt, hz, hc.out]; rfl
          rcases Nat.lt_or_ge k T.length with hl | hl
          · have h3 : decide ((k : Int) < 300) = false := decide_eq_false (by omega)
            have hki : (k : Int) < (T.length : Int) := by omega
            go_wp2
            go_ret
            exact ⟨ret_bool hv.out.symm, hBw⟩
          · have hki : (T.length : Int) ≤ (k : Int) := by omega
            go_wp2
            go_ret
            exact ⟨ret_bool hv.out.symm, hBw⟩
end Go.Proofs.Ytomjfhcfellikaa
