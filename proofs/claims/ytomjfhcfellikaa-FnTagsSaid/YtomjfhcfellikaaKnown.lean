/- Known (two slices): toKnown, szKnown, eqKnown, markKnown, heldKnown; copyKnown: for every argument. -/
import Derived.Test.YtomjfhcfellikaaVal
import Derived.Test.YtomjfhcfellikaaTagO
import Derived.Test.YtomjfhcfellikaaIntS
namespace Go.Proofs.Ytomjfhcfellikaa
set_option linter.unusedSimpArgs false
set_option linter.unusedVariables false
open Go.RowKit

abbrev knv (Ak : Option Addr) (nk ck : Nat) (At : Option Addr) (nt ct : Nat) : Value := .agg #[.slice Ak nk ck, .slice At nt ct]
/-- The two slices of a Known lie from lo to hi, in two blocks, and read as K and T. -/
def KnV (w : World) (lo hi : Nat) (vK vT : Value) (K : List Int) (T : List TagD) : Prop :=
  OwnIn w lo hi 3 icell 1 vK K ∧ OwnIn w lo hi 23 TagD.cells 5 vT T ∧ ∀ k, vK.ownBlock = some k → vT.ownBlock = some k → False
theorem KnV.keep {w w' : World} {lo hi : Nat} {vK vT : Value} {K : List Int} {T : List TagD} (h : KnV w lo hi vK vT K T) (hk : ∀ k, lo ≤ k → k < hi → w'.heap[k]? = w.heap[k]?) : KnV w' lo hi vK vT K T := ⟨h.1.keep hk, h.2.1.keep hk, h.2.2⟩
theorem KnV.rdK {w : World} {lo hi nk ck : Nat} {Ak : Option Addr} {vT : Value} {K : List Int} {T : List TagD} (h : KnV w lo hi (.slice Ak nk ck) vT K T) : Rd icell 1 w 0 w.heap.size Ak K := h.1.1.rdv icell_length
theorem KnV.rdT {w : World} {lo hi nt ct : Nat} {At : Option Addr} {vK : Value} {K : List Int} {T : List TagD} (h : KnV w lo hi vK (.slice At nt ct) K T) : Rd TagD.cells 5 w 0 w.heap.size At T := h.2.1.1.rdv TagD.cells_length
/-- A call returned a Known in new memory that reads as K and T; nothing that was there has changed. -/
def RetKn (w : World) (K : List Int) (T : List TagD) (e : Ending) (w' : World) : Prop :=
  ∃ Ak ck At ct, e = .returned (knv Ak K.length ck At T.length ct) ∧ KnV w' w.heap.size w'.heap.size (.slice Ak K.length ck) (.slice At T.length ct) K T ∧ Below w.heap.size w w'
theorem RetKn.of_eq {w w' : World} {K : List Int} {T T' : List TagD} {e : Ending} (h : T' = T) (hr : RetKn w K T e w') : RetKn w K T' e w' := h ▸ hr
theorem KnV.wide {w : World} {lo hi lo' hi' : Nat} {vK vT : Value} {K : List Int} {T : List TagD} (h : KnV w lo hi vK vT K T) (h1 : lo' ≤ lo) (h2 : hi ≤ hi') : KnV w lo' hi' vK vT K T := ⟨h.1.wide h1 h2, h.2.1.wide h1 h2, h.2.2⟩
set_option maxHeartbeats 1000000 in
theorem toKnown_any (Ak At : Option Addr) (ck ct : Nat) (K : List Int) (T : List TagD) (w : World) (hK : Rd icell 1 w 0 w.heap.size Ak K) (hT : Rd TagD.cells 5 w 0 w.heap.size At T) (hnK : K.length ≤ 1048576) (hnT : T.length ≤ 1048576) :
    Calls Try.prog 16 #[knv Ak K.length ck At T.length ct] w (RetKn w K T) := by
  go_enter Try.func16, Try.ntmps16
  go_wp2_with fail
  refine (toIntS_any Ak ck K _ (by exact hK.later (by (repeat' (first | (with_reducible exact Below.refl _ _) | (with_reducible assumption) | (with_reducible refine Below.alloc ?_ ?_ _) | (with_reducible refine Below.drew ?_) | (with_reducible refine below_drewN ?_ _) | (with_reducible refine Below.setCell ?_ ?_ _) | (with_reducible refine bvia ?_ (by with_reducible assumption) ?_) | go_size))) (Nat.le_refl _) (by go_size)) hnK).mono ?_
  rintro e w1 ⟨rfl, F1, hb1⟩
  obtain ⟨hc, hf⟩ := bcell hb1
  have hc1_0 := fun o => hc (w.heap.size) o (by go_size)
  have hf1_0 := fun o => hf (w.heap.size) o (by go_size)
  have hz1_0 : w.heap.size < w1.heap.size := Nat.lt_of_lt_of_le (by go_size) hb1.size
  have hc1_1 := fun o => hc (w.heap.size + 1) o (by go_size)
  have hf1_1 := fun o => hf (w.heap.size + 1) o (by go_size)
  have hz1_1 : w.heap.size + 1 < w1.heap.size := Nat.lt_of_lt_of_le (by go_size) hb1.size
  have hc1_2 := fun o => hc (w.heap.size + 2) o (by go_size)
  have hf1_2 := fun o => hf (w.heap.size + 2) o (by go_size)
  have hz1_2 : w.heap.size + 2 < w1.heap.size := Nat.lt_of_lt_of_le (by go_size) hb1.size
  clear hc hf
  have hz1 := hb1.size
  try simp at hz1
  simp only [World.size_alloc] at F1
  go_wp2_with fail
  refine (toTagS_any At ct T _ (by exact hT.later (by (repeat' (first | (with_reducible exact Below.refl _ _) | (with_reducible assumption) | (with_reducible refine Below.alloc ?_ ?_ _) | (with_reducible refine Below.drew ?_) | (with_reducible refine below_drewN ?_ _) | (with_reducible refine Below.setCell ?_ ?_ _) | (with_reducible refine bvia ?_ (by with_reducible assumption) ?_) | go_size))) (Nat.le_refl _) (by go_size)) hnT).mono ?_
  rintro e w2 ⟨rfl, F2, hb2⟩
  obtain ⟨hc, hf⟩ := bcell hb2
  have hc2_0 := fun o => hc (w.heap.size) o (by go_size)
  have hf2_0 := fun o => hf (w.heap.size) o (by go_size)
  have hz2_0 : w.heap.size < w2.heap.size := Nat.lt_of_lt_of_le (by go_size) hb2.size
  have hc2_1 := fun o => hc (w.heap.size + 1) o (by go_size)
  have hf2_1 := fun o => hf (w.heap.size + 1) o (by go_size)
  have hz2_1 : w.heap.size + 1 < w2.heap.size := Nat.lt_of_lt_of_le (by go_size) hb2.size
  have hc2_2 := fun o => hc (w.heap.size + 2) o (by go_size)
  have hf2_2 := fun o => hf (w.heap.size + 2) o (by go_size)
  have hz2_2 : w.heap.size + 2 < w2.heap.size := Nat.lt_of_lt_of_le (by go_size) hb2.size
  clear hc hf
  have hz2 := hb2.size
  try simp at hz2
  simp only [World.size_setCell] at F2
  have F1' := (hb2.block (w.heap.size + 1 + 1 + 1) (by have := (Array.getElem?_eq_some_iff.1 F1).1; go_size)).trans ((Below.heap_setCell _ _ _ _ (by show _ ≠ _; simp)).trans F1)
  have l1 := (Array.getElem?_eq_some_iff.1 F1).1
  have HF1 := Lib.hid F1'
  have HF2 := Lib.hid F2
  clear F1 F2 F1'
  have c0 : w2.cell? ⟨w.heap.size + 1, 0, none⟩ = some (.slice none 0 0) := by simp [go_sem, hc2_1, hc1_1]
  have c1 : w2.cell? ⟨w.heap.size + 1, 1, none⟩ = some (.slice none 0 0) := by simp [go_sem, hc2_1, hc1_1]
  have f0 : w2.frozen? ⟨w.heap.size + 1, 0, none⟩ = false := by simp [go_sem, hf2_1, hf1_1]
  go_wp2
  refine bodyPost_ret (v := knv (some ⟨w.heap.size + 1 + 1 + 1, 0, none⟩) K.length K.length (some ⟨w1.heap.size, 0, none⟩) T.length T.length) (by simp [results, Try.results16, go_sem, *]) rfl ?_
  refine ⟨_, _, _, _, rfl, ⟨?_, ?_, ?_⟩, by (repeat' (first | (with_reducible exact Below.refl _ _) | (with_reducible assumption) | (with_reducible refine Below.alloc ?_ ?_ _) | (with_reducible refine Below.drew ?_) | (with_reducible refine below_drewN ?_ _) | (with_reducible refine Below.setCell ?_ ?_ _) | (with_reducible refine bvia ?_ (by with_reducible assumption) ?_) | go_size))⟩
  · exact (Own.fresh icell_length (by omega) (by unfold maxLen; omega) (((show Touch w.heap.size (w.heap.size + 1 + 1 + 1) w2 _ by (repeat' (first | (with_reducible exact Touch.refl _ _ _) | (with_reducible assumption) | (with_reducible refine Touch.alloc ?_ _) | (with_reducible refine Touch.drew ?_) | (with_reducible refine Touch.drewN ?_ _) | (with_reducible refine Touch.setCell ?_ ?_ ?_ _) | (with_reducible refine Touch.via ?_ (by with_reducible assumption)) | go_size))).block _ (by go_size) (.inr (by omega))).trans HF1.out)).inn
  · exact (Own.fresh TagD.cells_length (by omega) (by unfold maxLen; omega) (((show Touch w.heap.size (w.heap.size + 1 + 1 + 1) w2 _ by (repeat' (first | (with_reducible exact Touch.refl _ _ _) | (with_reducible assumption) | (with_reducible refine Touch.alloc ?_ _) | (with_reducible refine Touch.drew ?_) | (with_reducible refine Touch.drewN ?_ _) | (with_reducible refine Touch.setCell ?_ ?_ ?_ _) | (with_reducible refine Touch.via ?_ (by with_reducible assumption)) | go_size))).block _ (by have := (Array.getElem?_eq_some_iff.1 HF2.out).1; go_size) (.inr (by omega))).trans HF2.out)).inn
  · intro k h1 h2
    simp [Value.ownBlock] at h1 h2
    omega
/-- What szKnown computes. -/
def szKn (l : Int) (nk nt : Nat) : Int := if (nk : Int) + nt ≤ l then l - nk - nt else -1
theorem szKnown_any (Ak At : Option Addr) (nk ck nt ct : Nat) (l : Int) (w : World) (h0 : 0 ≤ l) (h1 : l ≤ 1048576) (hk : nk ≤ maxLen) (ht : nt ≤ maxLen) :
    Calls Try.prog 14 #[knv Ak nk ck At nt ct, .int .i64 l] w fun e w' => e = .returned (.int .i64 (szKn l nk nt)) ∧ Below w.heap.size w w' := by
  by_cases h : (nk : Int) ≤ l
  · have e1 : Hid (szI l nk = l - nk) := if_pos h
    have d1 : decide (l - (nk : Int) < 0) = false := decide_eq_false (by omega)
    by_cases h2 : (nt : Int) ≤ l - nk
    · have e2 : Hid (szI (l - nk) nt = l - nk - nt) := if_pos h2
      have d2 : decide (l - (nk : Int) - (nt : Int) < 0) = false := decide_eq_false (by omega)
      have ev : Hid (szKn l nk nt = l - nk - nt) := if_pos (by omega)
      go_enter Try.func14, Try.ntmps14
      go_wp2_with fail
      refine (szIntS_any _ _ _ _ _ h0 h1 hk).mono ?_
      rintro e w1 ⟨rfl, rfl⟩
      rw [e1.out]
      go_wp2_with fail
      refine (szTagS_any _ _ _ _ _ (by omega) (by omega) ht).mono ?_
      rintro e w1 ⟨rfl, rfl⟩
      rw [e2.out]
      go_wp2
      go_ret
      exact ⟨ret_int ev.out.symm, by (repeat' (first | (with_reducible exact Below.refl _ _) | (with_reducible assumption) | (with_reducible refine Below.alloc ?_ ?_ _) | (with_reducible refine Below.drew ?_) | (with_reducible refine below_drewN ?_ _) | (with_reducible refine Below.setCell ?_ ?_ _) | (with_reducible refine bvia ?_ (by with_reducible assumption) ?_) | go_size))⟩
    · have e2 : Hid (szI (l - nk) nt = -1) := if_neg h2
      have ev : Hid (szKn l nk nt = -1) := if_neg (by omega)
      go_enter Try.func14, Try.ntmps14
      go_wp2_with fail
      refine (szIntS_any _ _ _ _ _ h0 h1 hk).mono ?_
      rintro e w1 ⟨rfl, rfl⟩
      rw [e1.out]
      go_wp2_with fail
      refine (szTagS_any _ _ _ _ _ (by omega) (by omega) ht).mono ?_
      rintro e w1 ⟨rfl, rfl⟩
      rw [e2.out]
      go_wp2
      go_ret
      exact ⟨ret_int ev.out.symm, by (repeat' (first | (with_reducible exact Below.refl _ _) | (with_reducible assumption) | (with_reducible refine Below.alloc ?_ ?_ _) | (with_reducible refine Below.drew ?_) | (with_reducible refine below_drewN ?_ _) | (with_reducible refine Below.setCell ?_ ?_ _) | (with_reducible refine bvia ?_ (by with_reducible assumption) ?_) | go_size))⟩
  · have e1 : Hid (szI l nk = -1) := if_neg h
    have ev : Hid (szKn l nk nt = -1) := if_neg (by omega)
    go_enter Try.func14, Try.ntmps14
    go_wp2_with fail
    refine (szIntS_any _ _ _ _ _ h0 h1 hk).mono ?_
    rintro e w1 ⟨rfl, rfl⟩
    rw [e1.out]
    go_wp2
    go_ret
    exact ⟨ret_int ev.out.symm, by (repeat' (first | (with_reducible exact Below.refl _ _) | (with_reducible assumption) | (with_reducible refine Below.alloc ?_ ?_ _) | (with_reducible refine Below.drew ?_) | (with_reducible refine below_drewN ?_ _) | (with_reducible refine Below.setCell ?_ ?_ _) | (with_reducible refine bvia ?_ (by with_reducible assumption) ?_) | go_size))⟩
theorem eqKnown_same (Ak At Bk Bt : Option Addr) (ck ct dk dt : Nat) (K : List Int) (T : List TagD) (w : World) (hK : Rd icell 1 w 0 w.heap.size Ak K) (hT : Rd TagD.cells 5 w 0 w.heap.size At T) (hK2 : Rd icell 1 w 0 w.heap.size Bk K) (hT2 : Rd TagD.cells 5 w 0 w.heap.size Bt T) (hmK : K.length ≤ maxLen) (hmT : T.length ≤ maxLen) :
    Calls Try.prog 19 #[knv Ak K.length ck At T.length ct, knv Bk K.length dk Bt T.length dt] w fun e w' => e = .returned (.bool true) ∧ Below w.heap.size w w' := by
  go_enter Try.func19, Try.ntmps19
  go_wp2_with fail
  refine (eqIntS_same _ _ _ _ K _ (by exact hK.later (by (repeat' (first | (with_reducible exact Below.refl _ _) | (with_reducible assumption) | (with_reducible refine Below.alloc ?_ ?_ _) | (with_reducible refine Below.drew ?_) | (with_reducible refine below_drewN ?_ _) | (with_reducible refine Below.setCell ?_ ?_ _) | (with_reducible refine bvia ?_ (by with_reducible assumption) ?_) | go_size))) (Nat.le_refl _) (by go_size)) (by exact hK2.later (by (repeat' (first | (with_reducible exact Below.refl _ _) | (with_reducible assumption) | (with_reducible refine Below.alloc ?_ ?_ _) | (with_reducible refine Below.drew ?_) | (with_reducible refine below_drewN ?_ _) | (with_reducible refine Below.setCell ?_ ?_ _) | (with_reducible refine bvia ?_ (by with_reducible assumption) ?_) | go_size))) (Nat.le_refl _) (by go_size)) hmK).mono ?_
  rintro e w1 ⟨rfl, hb1⟩
  obtain ⟨hc, hf⟩ := bcell hb1
  have hc1_0 := fun o => hc (w.heap.size) o (by go_size)
  have hf1_0 := fun o => hf (w.heap.size) o (by go_size)
  have hz1_0 : w.heap.size < w1.heap.size := Nat.lt_of_lt_of_le (by go_size) hb1.size
  have hc1_1 := fun o => hc (w.heap.size + 1) o (by go_size)
  have hf1_1 := fun o => hf (w.heap.size + 1) o (by go_size)
  have hz1_1 : w.heap.size + 1 < w1.heap.size := Nat.lt_of_lt_of_le (by go_size) hb1.size
  clear hc hf
  have hz1 := hb1.size
  try simp at hz1
  go_wp2_with fail
  refine (eqTagS_same _ _ _ _ T _ (by exact hT.later (by (repeat' (first | (with_reducible exact Below.refl _ _) | (with_reducible assumption) | (with_reducible refine Below.alloc ?_ ?_ _) | (with_reducible refine Below.drew ?_) | (with_reducible refine below_drewN ?_ _) | (with_reducible refine Below.setCell ?_ ?_ _) | (with_reducible refine bvia ?_ (by with_reducible assumption) ?_) | go_size))) (Nat.le_refl _) (by go_size)) (by exact hT2.later (by (repeat' (first | (with_reducible exact Below.refl _ _) | (with_reducible assumption) | (with_reducible refine Below.alloc ?_ ?_ _) | (with_reducible refine Below.drew ?_) | (with_reducible refine below_drewN ?_ _) | (with_reducible refine Below.setCell ?_ ?_ _) | (with_reducible refine bvia ?_ (by with_reducible assumption) ?_) | go_size))) (Nat.le_refl _) (by go_size)) hmT).mono ?_
  rintro e w2 ⟨rfl, hb2⟩
  obtain ⟨hc, hf⟩ := bcell hb2
  have hc2_0 := fun o => hc (w.heap.size) o (by go_size)
  have hf2_0 := fun o => hf (w.heap.size) o (by go_size)
  have hz2_0 : w.heap.size < w2.heap.size := Nat.lt_of_lt_of_le (by go_size) hb2.size
  have hc2_1 := fun o => hc (w.heap.size + 1) o (by go_size)
  have hf2_1 := fun o => hf (w.heap.size + 1) o (by go_size)
  have hz2_1 : w.heap.size + 1 < w2.heap.size := Nat.lt_of_lt_of_le (by go_size) hb2.size
  clear hc hf
  have hz2 := hb2.size
  try simp at hz2
  go_wp2
  go_ret
  exact ⟨rfl, by (repeat' (first | (with_reducible exact Below.refl _ _) | (with_reducible assumption) | (with_reducible refine Below.alloc ?_ ?_ _) | (with_reducible refine Below.drew ?_) | (with_reducible refine below_drewN ?_ _) | (with_reducible refine Below.setCell ?_ ?_ _) | (with_reducible refine bvia ?_ (by with_reducible assumption) ?_) | go_size))⟩
theorem markKnown_own (Ak At : Option Addr) (ck ct : Nat) (K : List Int) (T : List TagD) (lo hi : Nat) (k0 : Int) (w : World) (h : KnV w lo hi (.slice Ak K.length ck) (.slice At T.length ct) K T) (hhi : hi ≤ w.heap.size) (h0 : 0 ≤ k0) (h1 : k0 ≤ 100000000) (hnK : K.length ≤ 2000000) (hnT : T.length ≤ 2000000) :
    Calls Try.prog 20 #[knv Ak K.length ck At T.length ct, .int .i64 k0] w fun e w' => e = .returned (.int .i64 (k0 + 1 * (K.length : Int) + 5 * (T.length : Int))) ∧ KnV w' lo hi (.slice Ak K.length ck) (.slice At T.length ct) (markL (mkInt k0) K.length) (markL (mkTag (k0 + 1 * (K.length : Int))) T.length) ∧ Touch lo hi w w' := by
  obtain ⟨k1, hk1⟩ : ∃ k1 : Int, k0 + 1 * (K.length : Int) = k1 := ⟨_, rfl⟩
  rw [hk1]
  have HK1 := Lib.hid hk1
  have b1 : 0 ≤ k1 ∧ k1 ≤ 200000000 := by omega
  clear hk1
  go_enter Try.func20, Try.ntmps20
  go_wp2_with fail
  have hW := h.keep (w' := w.alloc (.cells #[.slice Ak K.length ck, .slice At T.length ct] 35)) (fun k _ hk => Below.heap_alloc _ _ _ (by omega))
  refine (markIntS_own _ K lo k0 _ hW.1.1 h0 (by omega) (by omega)).mono ?_
  rintro e w1 ⟨rfl, O1, G1⟩
  rw [HK1.out]
  have hs1 := G1.size
  simp at hs1
  have c1 : w1.cell? ⟨w.heap.size, 1, none⟩ = some (.slice At T.length ct) := by
    rw [G1.cell_far _ (by simp) (by intro hh; have := hW.1.2 _ hh.symm; simp at this; omega)]
    simp
  have hT1 := hW.2.1.1.grown G1 (fun k e1 e2 => hW.2.2 k e1 e2)
  have hTo : Touch lo hi w w1 := ((Touch.refl lo hi w).alloc _).grown G1 (fun k hk => ⟨(hW.1.1.lt hk).1, hW.1.2 k hk⟩)
  go_wp2_with fail
  refine (markTagS_own _ T lo k1 _ hT1 b1.1 (by omega) (by omega)).mono ?_
  rintro e w2 ⟨rfl, O2, G2⟩
  have O1' := O1.grown G2 (fun k e1 e2 => hW.2.2 k e2 e1)
  have hTo2 := hTo.grown G2 (fun k hk => ⟨(hW.2.1.1.lt hk).1, hW.2.1.2 k hk⟩)
  obtain ⟨k2, hk2⟩ : ∃ k2 : Int, k1 + 5 * (T.length : Int) = k2 := ⟨_, rfl⟩
  rw [hk2]
  have HK2 := Lib.hid hk2
  clear hk2
  go_wp2
  go_ret
  exact ⟨ret_int HK2.out.symm, ⟨⟨O1', hW.1.2⟩, ⟨O2, hW.2.1.2⟩, hW.2.2⟩, hTo2⟩
theorem heldKnown_any (Ak At : Option Addr) (nk ck nt ct : Nat) (lo hi : Nat) (k0 : Int) (w : World) (h : KnV w lo hi (.slice Ak nk ck) (.slice At nt ct) (markL (mkInt k0) nk) (markL (mkTag (k0 + 1 * (nk : Int))) nt)) (h0 : 0 ≤ k0) (h1 : k0 ≤ 100000000) (hnK : nk ≤ 2000000) (hnT : nt ≤ 2000000) :
    Calls Try.prog 21 #[knv Ak nk ck At nt ct, .int .i64 k0] w fun e w' => e = .returned (.int .i64 (k0 + 1 * (nk : Int) + 5 * (nt : Int))) ∧ Below w.heap.size w w' := by
  obtain ⟨k1, hk1⟩ : ∃ k1 : Int, k0 + 1 * (nk : Int) = k1 := ⟨_, rfl⟩
  rw [hk1] at h
  rw [hk1]
  have HK1 := Lib.hid hk1
  have b1 : 0 ≤ k1 ∧ k1 ≤ 200000000 := by omega
  have d1 : decide (k1 < 0) = false := decide_eq_false (by omega)
  clear hk1
  obtain ⟨k2, hk2⟩ : ∃ k2 : Int, k1 + 5 * (nt : Int) = k2 := ⟨_, rfl⟩
  rw [hk2]
  have HK2 := Lib.hid hk2
  have d2 : decide (k2 < 0) = false := decide_eq_false (by omega)
  clear hk2
  have hrK := h.rdK
  have hrT := h.rdT
  go_enter Try.func21, Try.ntmps21
  go_wp2_with fail
  refine (heldIntS_any _ nk _ k0 _ 0 _ (by exact hrK.later (hi' := w.heap.size) (by (repeat' (first | (with_reducible exact Below.refl _ _) | (with_reducible assumption) | (with_reducible refine Below.alloc ?_ ?_ _) | (with_reducible refine Below.drew ?_) | (with_reducible refine below_drewN ?_ _) | (with_reducible refine Below.setCell ?_ ?_ _) | (with_reducible refine bvia ?_ (by with_reducible assumption) ?_) | go_size))) (Nat.le_refl _) (Nat.le_refl _)) h0 (by omega) (by omega)).mono ?_
  rintro e w1 ⟨rfl, rfl⟩
  rw [HK1.out]
  go_wp2_with fail
  refine (heldTagS_any _ nt _ k1 _ 0 _ (by exact hrT.later (hi' := w.heap.size) (by (repeat' (first | (with_reducible exact Below.refl _ _) | (with_reducible assumption) | (with_reducible refine Below.alloc ?_ ?_ _) | (with_reducible refine Below.drew ?_) | (with_reducible refine below_drewN ?_ _) | (with_reducible refine Below.setCell ?_ ?_ _) | (with_reducible refine bvia ?_ (by with_reducible assumption) ?_) | go_size))) (Nat.le_refl _) (Nat.le_refl _)) b1.1 (by omega) (by omega)).mono ?_
  rintro e w1 ⟨rfl, rfl⟩
  rw [HK2.out]
  go_wp2
  go_ret
  exact ⟨rfl, by (repeat' (first | (with_reducible exact Below.refl _ _) | (with_reducible assumption) | (with_reducible refine Below.alloc ?_ ?_ _) | (with_reducible refine Below.drew ?_) | (with_reducible refine below_drewN ?_ _) | (with_reducible refine Below.setCell ?_ ?_ _) | (with_reducible refine bvia ?_ (by with_reducible assumption) ?_) | go_size))⟩
end Go.Proofs.Ytomjfhcfellikaa
