/- PiecesOk (program and reference): for every argument of no more than 2^62 bytes. -/
import Derived.Test.YtpjbnfpadbknpaaPieces1
import Derived.Test.YtpjbnfpadbknpaaBase2
namespace Go.Proofs.Ytpjbnfpadbknpaa
set_option linter.unusedSimpArgs false
set_option linter.unusedVariables false
open Go.RowKit

def nthP (L : List PieceD) (k : Nat) : PieceD := L.getD k ⟨0, ⟨#[]⟩⟩
theorem nthP_at {L : List PieceD} {k : Nat} (h : k < L.length) : nthP L k = L[k] := by simp [nthP, h]
/-- A piece that may stand behind e. -/
def stepOk (e : Int) (x : PieceD) : Bool := x.fText.size != 0 && (decide (e < x.fAt) && decide (x.fAt ≤ 2000000000))
/-- Where the first k pieces end. -/
def endTo (e0 : Int) (L : List PieceD) (k : Nat) : Int := if k = 0 then e0 else (nthP L (k - 1)).fAt + (nthP L (k - 1)).fText.size
def pokB (e0 : Int) (L : List PieceD) (k : Nat) : Bool := stepOk (endTo e0 L k) (nthP L k)
def chainOk (e0 : Int) (L : List PieceD) : Bool := (List.range L.length).all (pokB e0 L)
/-- What PiecesOk computes. -/
def piecesOk (r : Int) (s : ByteArray) (L : List PieceD) : Bool := winB r 0 1000000000 && (decide (L.length ≤ 20) && (decide (heldV s L ≤ 200) && chainOk (r + s.size) L))
def PokTo (e0 : Int) (L : List PieceD) (k : Nat) : Prop := ∀ i, i < k → pokB e0 L i = true
theorem PokTo.succ {e0 : Int} {L : List PieceD} {k : Nat} (h : PokTo e0 L k) (hk : pokB e0 L k = true) : PokTo e0 L (k + 1) := fun i hi => by
  rcases Nat.lt_or_ge i k with h' | h'
  · exact h i h'
  · obtain rfl : i = k := by omega
    exact hk
theorem chain_no {e0 : Int} {L : List PieceD} {k : Nat} (h : k < L.length) (hk : pokB e0 L k = false) : chainOk e0 L = false := by
  unfold chainOk
  rw [List.all_eq_false]
  exact ⟨k, by simpa using h, by simp [hk]⟩
theorem chain_yes {e0 : Int} {L : List PieceD} (h : PokTo e0 L L.length) : chainOk e0 L = true := by
  unfold chainOk
  rw [List.all_eq_true]
  intro i hi
  exact h i (by simpa using hi)
theorem endTo_succ {e0 : Int} {L : List PieceD} {k : Nat} (h : k < L.length) : endTo e0 L (k + 1) = L[k].fAt + L[k].fText.size := by
  unfold endTo
  rw [if_neg (by omega), show k + 1 - 1 = k from rfl, nthP_at h]
theorem endTo_bd {e0 : Int} {L : List PieceD} (hL : sumT L ≤ 4611686018427387904) (h0 : 0 ≤ e0) (h1 : e0 ≤ 4611686018427387904 + 2000000000) : ∀ k, k ≤ L.length → PokTo e0 L k → 0 ≤ endTo e0 L k ∧ endTo e0 L k ≤ 4611686018427387904 + 2000000000
  | 0, _, _ => ⟨h0, h1⟩
  | k + 1, hk, hp => by
    have ih := endTo_bd hL h0 h1 k (by omega) (fun i hi => hp i (by omega))
    have hb := hp k (by omega)
    unfold pokB stepOk at hb
    rw [nthP_at (by omega)] at hb
    simp only [Bool.and_eq_true, decide_eq_true_eq] at hb
    have hs := sumT_get (L := L) (k := k) (by omega)
    rw [endTo_succ (by omega)]
    omega
theorem loop_is (s : ByteArray) : ∀ (n i : Nat) (r : List UInt8), s.size - i = n → ByteArray.toList.loop s i r = r.reverse ++ (s.data.toList.drop i) := by
  have hl : s.data.toList.length = s.size := by simp
  intro n
  induction n with
  | zero =>
    intro i r h
    unfold ByteArray.toList.loop
    rw [if_neg (by omega), List.drop_eq_nil_of_le (by omega)]
    simp
  | succ n ih =>
    intro i r h
    unfold ByteArray.toList.loop
    rw [if_pos (by omega), ih (i + 1) _ (by omega)]
    have hi : i < s.data.toList.length := by omega
    have hi2 : i < s.data.size := by simpa using hi
    rw [List.drop_eq_getElem_cons hi]
    simp only [ByteArray.get!, List.reverse_cons, List.append_assoc, List.cons_append, List.nil_append]
    rw [getElem!_pos s.data i hi2]
    simp
theorem toList_is (s : ByteArray) : s.toList = s.data.toList := by
  unfold ByteArray.toList
  rw [loop_is s _ 0 [] rfl]; simp
theorem toList_ne {s : ByteArray} (h : s.size ≠ 0) : ¬ s.toList = [] ∧ s.toList.isEmpty = false ∧ (!s.toList.isEmpty) = true := by
  have h1 : ¬ s.toList = [] := by
    rw [toList_is]
    intro e
    apply h
    have : s.data.toList.length = s.size := by simp
    rw [← this, e]; rfl
  cases ht : s.toList with
  | nil => exact absurd ht h1
  | cons a l => simp
theorem size0 {s : ByteArray} (h : s.size = 0) : s = ⟨#[]⟩ := by
  obtain ⟨d⟩ := s
  have h' : d.size = 0 := h
  congr
  exact Array.eq_empty_of_size_eq_zero h'
set_option maxRecDepth 100000 in
set_option maxHeartbeats 2000000 in
theorem iPiecesOk (r : Int) (s : ByteArray) (A : Option Addr) (cap : Nat) (L : List PieceD) (w : World) (hr : Rd PieceD.cells 2 w 0 w.heap.size A L) (hs : s.size + sumT L ≤ 4611686018427387904) (hm : L.length ≤ maxLen) :
    Calls Try.prog 15 #[pv r s A L.length cap] w fun e w' => e = .returned (.bool (piecesOk r s L)) ∧ Below w.heap.size w w' := by
  have hm' := hm
  have hss : s.size ≤ maxLen := by unfold maxLen; omega
  unfold maxLen at hm
  cases q1 : winB r 0 1000000000 with
  | false =>
    have hv : Hid (piecesOk r s L = false) := by unfold Hid piecesOk; rw [q1]; rfl
    have hnb : numB [r] = false := by simp [numB, q1]
    go_enter Try.func15, Try.ntmps15
    go_wp2_with (go_at_call 34; refine (isNumber_is _ _ [r] _ hnb _ (by exact Rd_new _ _ _ _ _ (by simp) rfl) (by simp) (by simp [maxLen])).mono ?_; rintro e w1 ⟨rfl, rfl⟩)
    go_ret
    exact ⟨ret_bool hv.out.symm, by (repeat' (first | (with_reducible exact Below.refl _ _) | (with_reducible assumption) | (with_reducible refine Below.alloc ?_ ?_ _) | (with_reducible refine Below.drew ?_) | (with_reducible refine below_drewN ?_ _) | (with_reducible refine Below.setCell ?_ ?_ _) | (with_reducible refine bvia ?_ (by with_reducible assumption) ?_) | go_size))⟩
  | true =>
    have hnb : numB [r] = true := by simp [numB, q1]
    have hrb : 0 ≤ r ∧ r ≤ 1000000000 := by unfold winB at q1; simpa using q1
    by_cases q2 : (L.length : Int) ≤ 20
    · have d2 : decide ((20 : Int) < (L.length : Int)) = false := decide_eq_false (by omega)
      have hx2 : Hid (piecesOk r s L = (decide (heldV s L ≤ 200) && chainOk (r + s.size) L)) := by unfold Hid piecesOk; rw [q1, decide_eq_true (show L.length ≤ 20 by omega)]; simp
      go_enter Try.func15, Try.ntmps15
      go_wp2_with (first
        | (go_at_call 34; refine (isNumber_is _ _ [r] _ hnb _ (by exact Rd_new _ _ _ _ _ (by simp) rfl) (by simp) (by simp [maxLen])).mono ?_; rintro e w1 ⟨rfl, rfl⟩)
        | fail)
      have e1 : Hid (nextV r s = r + s.size) := by unfold Hid nextV; exact IntWalk.wrap64_in _ (by omega)
      refine (iNextOf r s A L.length cap _ hss).mono ?_
      rintro e w1 ⟨rfl, hb1⟩
      rw [e1.out]
      have HX : Hid (w1.heap[w.heap.size]? = some (.cells #[.int .i64 r, .string s, .slice A L.length cap] 26 (0, 0))) := (hb1.block w.heap.size (by simp; omega)).trans ((Below.heap_alloc _ _ _ (by simp)).trans (heap_alloc_new w _))
      have hB1 : Below w.heap.size w w1 := by (repeat' (first | (with_reducible exact Below.refl _ _) | (with_reducible assumption) | (with_reducible refine Below.alloc ?_ ?_ _) | (with_reducible refine Below.drew ?_) | (with_reducible refine below_drewN ?_ _) | (with_reducible refine Below.setCell ?_ ?_ _) | (with_reducible refine bvia ?_ (by with_reducible assumption) ?_) | go_size))
      have hz1 := hB1.size
      have x2 : w1.cell? ⟨w.heap.size, 2, none⟩ = some (.slice A L.length cap) := by rw [cell_of_row _ _ _ _ _ (0, 0) HX.out]; rfl
      clear hb1
      go_wp2_with fail
      go_loopw [3, 22] (fun q i wr => ∃ k : Nat, k ≤ L.length ∧ i = .int .i64 k ∧ PokTo (r + s.size) L k ∧ q = .int .i64 (endTo (r + s.size) L k) ∧ Below w1.heap.size w1 wr) (fun _ i _ => L.length - (intOf i).toNat)
      case atStart => exact ⟨0, Nat.zero_le _, rfl, fun i hi => absurd hi (by omega), rfl, Below.refl _ _⟩
      case round =>
        obtain ⟨k, hk, rfl, hP, rfl, hB⟩ := hrel
        have hBz := hB.size
        have hBw : Below w.heap.size w wr := hB1.trans (hB.mono hz1)
        have hbd := endTo_bd (e0 := r + s.size) (L := L) (by omega) (by omega) (by omega) k hk hP
        obtain ⟨en, hen⟩ : ∃ en, endTo (r + s.size) L k = en := ⟨_, rfl⟩
        rw [hen] at hbd
        rw [hen]
        by_cases hlt : k < L.length
        · obtain ⟨g, o, rfl, _, hg, hcell⟩ := hr.at_ (by omega)
          have hx : ∀ j v, (L[k].cells)[j]? = some v → wr.cell? ⟨g, o + k * 2 + j, none⟩ = some v := fun j v hv => by
            have hj : j < 2 := (List.getElem?_eq_some_iff.1 hv).1
            rw [hBw.cell (p := ⟨g, o + k * 2 + j, none⟩) hg, hcell k hlt j hj, hv]
          have HXk := Lib.hid hx
          clear hx hcell
          have hki : (k : Int) < (L.length : Int) := by omega
          have hpk : pokB (r + s.size) L k = stepOk en L[k] := by unfold pokB; rw [hen, nthP_at hlt]
          have hsk := sumT_get hlt
          have hbad : Hid (stepOk en L[k] = false → piecesOk r s L = false) := fun h => by rw [hx2.out, chain_no hlt (hpk.trans h)]; simp
          have hgood : Hid (stepOk en L[k] = true → PokTo (r + s.size) L (k + 1)) := fun h => hP.succ (hpk.trans h)
          have hes := Lib.hid (endTo_succ (e0 := r + s.size) hlt)
          clear hpk hP hen
          by_cases h0 : L[k].fText.size = 0
          · have hv := Lib.hid (hbad.out (by simp [stepOk, h0]))
            have he := size0 h0
            clear h0
            go_wp2_with (refine wpList_load_part rfl 44 (.tmp 24) rfl g _ rfl L[k].row _ HXk.out Try.underlying44 rfl (by kernel_rfl) ?_)
            go_ret
            exact ⟨ret_bool hv.out.symm, by (repeat' (first | (with_reducible exact Below.refl _ _) | (with_reducible assumption) | (with_reducible refine Below.alloc ?_ ?_ _) | (with_reducible refine Below.drew ?_) | (with_reducible refine below_drewN ?_ _) | (with_reducible refine Below.setCell ?_ ?_ _) | (with_reducible refine bvia ?_ (by with_reducible assumption) ?_) | go_size))⟩
          · have hne : decide (L[k].fText = ⟨#[]⟩) = false := decide_eq_false (fun h => h0 (by rw [h]; rfl))
            obtain ⟨hl1, hl2, hl3⟩ := toList_ne h0
            have hsz : Hid ((L[k].fText.size != 0) = true) := by unfold Hid; simpa using h0
            clear h0
            by_cases h1 : L[k].fAt ≤ 2000000000
            · by_cases h2 : en < L[k].fAt
              · have hN := hgood.out (by unfold stepOk; rw [hsz.out, decide_eq_true h1, decide_eq_true h2]; rfl)
                go_wp2_with (refine wpList_load_part rfl 44 (.tmp 24) rfl g _ rfl L[k].row _ HXk.out Try.underlying44 rfl (by kernel_rfl) ?_)
                go_roundw
                case rel => exact ⟨k + 1, by omega, by go_num, hN, by rw [hes.out], by (repeat' (first | (with_reducible exact Below.refl _ _) | (with_reducible assumption) | (with_reducible refine Below.alloc ?_ ?_ _) | (with_reducible refine Below.drew ?_) | (with_reducible refine below_drewN ?_ _) | (with_reducible refine Below.setCell ?_ ?_ _) | (with_reducible refine bvia ?_ (by with_reducible assumption) ?_) | go_size))⟩
                case measure => simp [intOf]; omega
              · have hv := Lib.hid (hbad.out (by simp [stepOk, h2]))
                go_wp2_with (refine wpList_load_part rfl 44 (.tmp 24) rfl g _ rfl L[k].row _ HXk.out Try.underlying44 rfl (by kernel_rfl) ?_)
                go_ret
                exact ⟨ret_bool hv.out.symm, by (repeat' (first | (with_reducible exact Below.refl _ _) | (with_reducible assumption) | (with_reducible refine Below.alloc ?_ ?_ _) | (with_reducible refine Below.drew ?_) | (with_reducible refine below_drewN ?_ _) | (with_reducible refine Below.setCell ?_ ?_ _) | (with_reducible refine bvia ?_ (by with_reducible assumption) ?_) | go_size))⟩
            · have hv := Lib.hid (hbad.out (by simp [stepOk, h1]))
              go_wp2_with (refine wpList_load_part rfl 44 (.tmp 24) rfl g _ rfl L[k].row _ HXk.out Try.underlying44 rfl (by kernel_rfl) ?_)
              go_ret
              exact ⟨ret_bool hv.out.symm, by (repeat' (first | (with_reducible exact Below.refl _ _) | (with_reducible assumption) | (with_reducible refine Below.alloc ?_ ?_ _) | (with_reducible refine Below.drew ?_) | (with_reducible refine below_drewN ?_ _) | (with_reducible refine Below.setCell ?_ ?_ _) | (with_reducible refine bvia ?_ (by with_reducible assumption) ?_) | go_size))⟩
        · obtain rfl : k = L.length := by omega
          have hv := Lib.hid (hx2.out.trans (by rw [chain_yes hP, Bool.and_true]))
          have HXr : Hid (wr.heap[w.heap.size]? = _) := (hB.block _ (Array.getElem?_eq_some_iff.1 HX.out).1).trans HX.out
          have y0 : wr.cell? ⟨w.heap.size, 0, none⟩ = some (.int .i64 r) := by rw [cell_of_row _ _ _ _ _ (0, 0) HXr.out]; rfl
          have y1 : wr.cell? ⟨w.heap.size, 1, none⟩ = some (.string s) := by rw [cell_of_row _ _ _ _ _ (0, 0) HXr.out]; rfl
          have y2 : wr.cell? ⟨w.heap.size, 2, none⟩ = some (.slice A L.length cap) := by rw [cell_of_row _ _ _ _ _ (0, 0) HXr.out]; rfl
          clear hen hP
          go_wp2_with fail
          refine (iHeldOf r s A cap L _ (by exact hr.later hBw (Nat.le_refl _) (by omega)) hs hm').mono ?_
          rintro e w2 ⟨rfl, hb2⟩
          have hB2 := hBw.trans (hb2.mono (by omega))
          obtain ⟨c, hc⟩ : ∃ c, heldV s L = c := ⟨_, rfl⟩
          rw [hc]
          rw [hc] at hv
          clear hc hb2
          go_wp2
          go_ret
          exact ⟨ret_bool hv.out.symm, hB2⟩
    · have d2 : decide ((20 : Int) < (L.length : Int)) = true := decide_eq_true (by omega)
      have hv : Hid (piecesOk r s L = false) := by unfold Hid piecesOk; rw [decide_eq_false (show ¬ L.length ≤ 20 by omega)]; simp
      go_enter Try.func15, Try.ntmps15
      go_wp2_with (go_at_call 34; refine (isNumber_is _ _ [r] _ hnb _ (by exact Rd_new _ _ _ _ _ (by simp) rfl) (by simp) (by simp [maxLen])).mono ?_; rintro e w1 ⟨rfl, rfl⟩)
      go_ret
      exact ⟨ret_bool hv.out.symm, by (repeat' (first | (with_reducible exact Below.refl _ _) | (with_reducible assumption) | (with_reducible refine Below.alloc ?_ ?_ _) | (with_reducible refine Below.drew ?_) | (with_reducible refine below_drewN ?_ _) | (with_reducible refine Below.setCell ?_ ?_ _) | (with_reducible refine bvia ?_ (by with_reducible assumption) ?_) | go_size))⟩
set_option maxRecDepth 100000 in
set_option maxHeartbeats 2000000 in
theorem sPiecesOk (r : Int) (s : ByteArray) (A : Option Addr) (cap : Nat) (L : List PieceD) (w : World) (hr : Rd PieceD.cells 2 w 0 w.heap.size A L) (hs : s.size + sumT L ≤ 4611686018427387904) (hm : L.length ≤ maxLen) :
    Calls Try.prog 16 #[pv r s A L.length cap] w fun e w' => e = .returned (.bool (piecesOk r s L)) ∧ Below w.heap.size w w' := by
  have hm' := hm
  have hss : s.size ≤ maxLen := by unfold maxLen; omega
  unfold maxLen at hm
  cases q1 : winB r 0 1000000000 with
  | false =>
    have hv : Hid (piecesOk r s L = false) := by unfold Hid piecesOk; rw [q1]; rfl
    go_enter Try.func16, Try.ntmps16
    go_wp2_with (go_at_call 40; refine (l01In_is _ _ _ _ q1 _).mono ?_; rintro e w1 ⟨rfl, rfl⟩)
    go_ret
    exact ⟨ret_bool hv.out.symm, by (repeat' (first | (with_reducible exact Below.refl _ _) | (with_reducible assumption) | (with_reducible refine Below.alloc ?_ ?_ _) | (with_reducible refine Below.drew ?_) | (with_reducible refine below_drewN ?_ _) | (with_reducible refine Below.setCell ?_ ?_ _) | (with_reducible refine bvia ?_ (by with_reducible assumption) ?_) | go_size))⟩
  | true =>
    have hrb : 0 ≤ r ∧ r ≤ 1000000000 := by unfold winB at q1; simpa using q1
    by_cases q2 : (L.length : Int) ≤ 20
    · have d2 : decide ((20 : Int) < (L.length : Int)) = false := decide_eq_false (by omega)
      obtain ⟨c, hc⟩ : ∃ c, heldV s L = c := ⟨_, rfl⟩
      have hx1 : Hid (piecesOk r s L = (decide (c ≤ 200) && chainOk (r + s.size) L)) := by unfold Hid piecesOk; rw [q1, hc, decide_eq_true (show L.length ≤ 20 by omega)]; simp
      have HC := Lib.hid hc
      clear hc
      go_enter Try.func16, Try.ntmps16
      go_wp2_with (go_at_call 40; refine (l01In_is _ _ _ _ q1 _).mono ?_; rintro e w1 ⟨rfl, rfl⟩)
      refine (sHeldOf r s A cap L _ (by exact hr.later (by (repeat' (first | (with_reducible exact Below.refl _ _) | (with_reducible assumption) | (with_reducible refine Below.alloc ?_ ?_ _) | (with_reducible refine Below.drew ?_) | (with_reducible refine below_drewN ?_ _) | (with_reducible refine Below.setCell ?_ ?_ _) | (with_reducible refine bvia ?_ (by with_reducible assumption) ?_) | go_size))) (Nat.le_refl _) (by go_size)) hs hm').mono ?_
      rintro e w0 ⟨rfl, hb0⟩
      rw [HC.out]
      have HX0 : Hid (w0.heap[w.heap.size]? = some (.cells #[.int .i64 r, .string s, .slice A L.length cap] 26 (0, 0))) := (hb0.block w.heap.size (by simp)).trans (heap_alloc_new w _)
      have hz0 := (Array.getElem?_eq_some_iff.1 HX0.out).1
      have hB0 : Below w.heap.size w w0 := by (repeat' (first | (with_reducible exact Below.refl _ _) | (with_reducible assumption) | (with_reducible refine Below.alloc ?_ ?_ _) | (with_reducible refine Below.drew ?_) | (with_reducible refine below_drewN ?_ _) | (with_reducible refine Below.setCell ?_ ?_ _) | (with_reducible refine bvia ?_ (by with_reducible assumption) ?_) | go_size))
      have c0 : w0.cell? ⟨w.heap.size, 0, none⟩ = some (.int .i64 r) := by rw [cell_of_row _ _ _ _ _ (0, 0) HX0.out]; rfl
      have c1 : w0.cell? ⟨w.heap.size, 1, none⟩ = some (.string s) := by rw [cell_of_row _ _ _ _ _ (0, 0) HX0.out]; rfl
      have c2 : w0.cell? ⟨w.heap.size, 2, none⟩ = some (.slice A L.length cap) := by rw [cell_of_row _ _ _ _ _ (0, 0) HX0.out]; rfl
      clear hb0
      by_cases q3 : c ≤ 200
      · have d3 : decide ((200 : Int) < c) = false := decide_eq_false (by omega)
        have hx2 : Hid (piecesOk r s L = chainOk (r + s.size) L) := by rw [hx1.out, decide_eq_true q3]; simp [Hid]
        have e1 : Hid (nextV r s = r + s.size) := by unfold Hid nextV; exact IntWalk.wrap64_in _ (by omega)
        go_wp2_with fail
        refine (sNextOf r s A L.length cap _ hss).mono ?_
        rintro e w1 ⟨rfl, hb1⟩
        rw [e1.out]
        clear c0 c1 c2
        have HX : Hid (w1.heap[w.heap.size]? = some (.cells #[.int .i64 r, .string s, .slice A L.length cap] 26 (0, 0))) := (hb1.block w.heap.size hz0).trans HX0.out
        have hB1 : Below w.heap.size w w1 := hB0.trans (hb1.mono (by omega))
        have hz1 := hB1.size
        have x2 : w1.cell? ⟨w.heap.size, 2, none⟩ = some (.slice A L.length cap) := by rw [cell_of_row _ _ _ _ _ (0, 0) HX.out]; rfl
        clear hb1
        go_wp2_with fail
        go_loopw [3, 4] (fun q i wr => ∃ k : Nat, k ≤ L.length ∧ i = .int .i64 k ∧ PokTo (r + s.size) L k ∧ q = .int .i64 (endTo (r + s.size) L k) ∧ Below w1.heap.size w1 wr) (fun _ i _ => L.length - (intOf i).toNat)
        case atStart => exact ⟨0, Nat.zero_le _, rfl, fun i hi => absurd hi (by omega), rfl, Below.refl _ _⟩
        case round =>
          obtain ⟨k, hk, rfl, hP, rfl, hB⟩ := hrel
          have hBz := hB.size
          have hBw : Below w.heap.size w wr := hB1.trans (hB.mono hz1)
          have hbd := endTo_bd (e0 := r + s.size) (L := L) (by omega) (by omega) (by omega) k hk hP
          obtain ⟨en, hen⟩ : ∃ en, endTo (r + s.size) L k = en := ⟨_, rfl⟩
          rw [hen] at hbd
          rw [hen]
          by_cases hlt : k < L.length
          · obtain ⟨g, o, rfl, _, hg, hcell⟩ := hr.at_ (by omega)
            have hx : ∀ j v, (L[k].cells)[j]? = some v → wr.cell? ⟨g, o + k * 2 + j, none⟩ = some v := fun j v hv => by
              have hj : j < 2 := (List.getElem?_eq_some_iff.1 hv).1
              rw [hBw.cell (p := ⟨g, o + k * 2 + j, none⟩) hg, hcell k hlt j hj, hv]
            have HXk := Lib.hid hx
            have HXq : Hid (wr.heap[w.heap.size]? = _) := (hB.block _ (Array.getElem?_eq_some_iff.1 HX.out).1).trans HX.out
            have y2 : wr.cell? ⟨w.heap.size, 2, none⟩ = some (.slice (some ⟨g, o, none⟩) L.length cap) := by rw [cell_of_row _ _ _ _ _ (0, 0) HXq.out]; rfl
            clear hx hcell
            have hki : (k : Int) < (L.length : Int) := by omega
            have hpk : pokB (r + s.size) L k = stepOk en L[k] := by unfold pokB; rw [hen, nthP_at hlt]
            have hsk := sumT_get hlt
            have hbad : Hid (stepOk en L[k] = false → piecesOk r s L = false) := fun h => by rw [hx2.out, chain_no hlt (hpk.trans h)]
            have hgood : Hid (stepOk en L[k] = true → PokTo (r + s.size) L (k + 1)) := fun h => hP.succ (hpk.trans h)
            have hes := Lib.hid (endTo_succ (e0 := r + s.size) hlt)
            clear hpk hP hen
            by_cases h0 : L[k].fText.size = 0
            · have hv := Lib.hid (hbad.out (by simp [stepOk, h0]))
              have he := size0 h0
              clear h0
              go_wp2_with (refine wpList_load_part rfl 44 (.tmp 33) rfl g _ rfl L[k].row _ HXk.out Try.underlying44 rfl (by kernel_rfl) ?_)
              go_ret
              exact ⟨ret_bool hv.out.symm, by (repeat' (first | (with_reducible exact Below.refl _ _) | (with_reducible assumption) | (with_reducible refine Below.alloc ?_ ?_ _) | (with_reducible refine Below.drew ?_) | (with_reducible refine below_drewN ?_ _) | (with_reducible refine Below.setCell ?_ ?_ _) | (with_reducible refine bvia ?_ (by with_reducible assumption) ?_) | go_size))⟩
            · have hne : decide (L[k].fText = ⟨#[]⟩) = false := decide_eq_false (fun h => h0 (by rw [h]; rfl))
              have hs1 : ((L[k].fText.size : Int) == 0) = false := by simp; exact fun h => h0 (by rw [h]; rfl)
              have hs2 : (L[k].fText.size == 0) = false := by simpa using h0
              have hs4 : ¬ L[k].fText = ByteArray.empty := fun h => h0 (by rw [h]; rfl)
              have hsz : Hid ((L[k].fText.size != 0) = true) := by unfold Hid; simpa using h0
              clear h0
              by_cases h1 : L[k].fAt ≤ 2000000000
              · by_cases h2 : en < L[k].fAt
                · have hN := hgood.out (by unfold stepOk; rw [hsz.out, decide_eq_true h1, decide_eq_true h2]; rfl)
                  go_wp2_with (refine wpList_load_part rfl 44 (.tmp 33) rfl g _ rfl L[k].row _ HXk.out Try.underlying44 rfl (by kernel_rfl) ?_)
                  go_roundw
                  case rel => exact ⟨k + 1, by omega, by go_num, hN, by rw [hes.out], by (repeat' (first | (with_reducible exact Below.refl _ _) | (with_reducible assumption) | (with_reducible refine Below.alloc ?_ ?_ _) | (with_reducible refine Below.drew ?_) | (with_reducible refine below_drewN ?_ _) | (with_reducible refine Below.setCell ?_ ?_ _) | (with_reducible refine bvia ?_ (by with_reducible assumption) ?_) | go_size))⟩
                  case measure => simp [intOf]; omega
                · have hv := Lib.hid (hbad.out (by simp [stepOk, h2]))
                  go_wp2_with (refine wpList_load_part rfl 44 (.tmp 33) rfl g _ rfl L[k].row _ HXk.out Try.underlying44 rfl (by kernel_rfl) ?_)
                  go_ret
                  exact ⟨ret_bool hv.out.symm, by (repeat' (first | (with_reducible exact Below.refl _ _) | (with_reducible assumption) | (with_reducible refine Below.alloc ?_ ?_ _) | (with_reducible refine Below.drew ?_) | (with_reducible refine below_drewN ?_ _) | (with_reducible refine Below.setCell ?_ ?_ _) | (with_reducible refine bvia ?_ (by with_reducible assumption) ?_) | go_size))⟩
              · have hv := Lib.hid (hbad.out (by simp [stepOk, h1]))
                go_wp2_with (refine wpList_load_part rfl 44 (.tmp 33) rfl g _ rfl L[k].row _ HXk.out Try.underlying44 rfl (by kernel_rfl) ?_)
                all_goals (go_ret; exact ⟨ret_bool hv.out.symm, by (repeat' (first | (with_reducible exact Below.refl _ _) | (with_reducible assumption) | (with_reducible refine Below.alloc ?_ ?_ _) | (with_reducible refine Below.drew ?_) | (with_reducible refine below_drewN ?_ _) | (with_reducible refine Below.setCell ?_ ?_ _) | (with_reducible refine bvia ?_ (by with_reducible assumption) ?_) | go_size))⟩)
          · obtain rfl : k = L.length := by omega
            have hv := Lib.hid (hx2.out.trans (by rw [chain_yes hP]))
            have HXr : Hid (wr.heap[w.heap.size]? = _) := (hB.block _ (Array.getElem?_eq_some_iff.1 HX.out).1).trans HX.out
            have y2 : wr.cell? ⟨w.heap.size, 2, none⟩ = some (.slice A L.length cap) := by rw [cell_of_row _ _ _ _ _ (0, 0) HXr.out]; rfl
            clear hen hP
            go_wp2
            go_ret
            exact ⟨ret_bool hv.out.symm, hBw⟩
      · have d3 : decide ((200 : Int) < c) = true := decide_eq_true (by omega)
        have hv : Hid (piecesOk r s L = false) := by rw [hx1.out, decide_eq_false q3]; simp [Hid]
        go_wp2
        go_ret
        exact ⟨ret_bool hv.out.symm, hB0⟩
    · have d2 : decide ((20 : Int) < (L.length : Int)) = true := decide_eq_true (by omega)
      have hv : Hid (piecesOk r s L = false) := by unfold Hid piecesOk; rw [decide_eq_false (show ¬ L.length ≤ 20 by omega)]; simp
      go_enter Try.func16, Try.ntmps16
      go_wp2_with (go_at_call 40; refine (l01In_is _ _ _ _ q1 _).mono ?_; rintro e w1 ⟨rfl, rfl⟩)
      go_ret
      exact ⟨ret_bool hv.out.symm, by (repeat' (first | (with_reducible exact Below.refl _ _) | (with_reducible assumption) | (with_reducible refine Below.alloc ?_ ?_ _) | (with_reducible refine Below.drew ?_) | (with_reducible refine below_drewN ?_ _) | (with_reducible refine Below.setCell ?_ ?_ _) | (with_reducible refine bvia ?_ (by with_reducible assumption) ?_) | go_size))⟩
end Go.Proofs.Ytpjbnfpadbknpaa
