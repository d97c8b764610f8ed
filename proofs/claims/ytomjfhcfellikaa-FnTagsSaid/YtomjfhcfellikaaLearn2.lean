/- Learn (program and reference): for every argument. Written by program (learn.py). -/
import Derived.Test.YtomjfhcfellikaaLearn
namespace Go.Proofs.Ytomjfhcfellikaa
set_option linter.unusedSimpArgs false
set_option linter.unusedVariables false
open Go.RowKit
theorem calL (w : World) (o : Obj) (b off : Nat) (h : b < w.heap.size) : (w.alloc o).cell? ⟨b, off, none⟩ = w.cell? ⟨b, off, none⟩ := World.cell?_alloc_lt w o _ h
theorem falL (w : World) (o : Obj) (b off : Nat) (h : b < w.heap.size) : (w.alloc o).frozen? ⟨b, off, none⟩ = w.frozen? ⟨b, off, none⟩ := (by go_grown : Below w.heap.size w (w.alloc o)).frozen (p := ⟨b, off, none⟩) h
/-- What Learn makes of the tags. -/
def learnT (K : List Int) (T : List TagD) (x : TagD) : List TagD := if !canMake K T x && decide (T.length < 300) then T ++ [x] else T
theorem learnT_le (K : List Int) (T : List TagD) (x : TagD) : (learnT K T x).length ≤ T.length + 1 := by unfold learnT; split <;> simp
/-- The world behind the first line of Learn: the boxes of the arguments, of the result (r) and of 'out' (b), and what 'out' holds. -/
structure LW (w : World) (Ak : Option Addr) (ck : Nat) (At : Option Addr) (ct : Nat) (K : List Int) (T : List TagD) (x : TagD) (b : Nat) (A1 : Option Addr) (k1 : Nat) (A2 : Option Addr) (k2 : Nat) (W : World) : Prop where
  below : Below w.heap.size w W
  lb : w.heap.size + 3 ≤ b
  lW : b < W.heap.size
  a0 : W.cell? ⟨w.heap.size, 0, none⟩ = some (.slice Ak K.length ck)
  a1 : W.cell? ⟨w.heap.size, 1, none⟩ = some (.slice At T.length ct)
  t0 : W.cell? ⟨w.heap.size + 1, 0, none⟩ = some (.int .i64 x.fKind)
  t1 : W.cell? ⟨w.heap.size + 1, 1, none⟩ = some (.int .i64 x.fOne)
  t2 : W.cell? ⟨w.heap.size + 1, 2, none⟩ = some (.int .i64 x.fTwo)
  t3 : W.cell? ⟨w.heap.size + 1, 3, none⟩ = some (.int .i64 x.fA)
  t4 : W.cell? ⟨w.heap.size + 1, 4, none⟩ = some (.int .i64 x.fB)
  c0 : W.cell? ⟨w.heap.size + 1 + 1, 0, none⟩ = some (.slice none 0 0)
  c1 : W.cell? ⟨w.heap.size + 1 + 1, 1, none⟩ = some (.slice none 0 0)
  cf : ∀ o, W.frozen? ⟨w.heap.size + 1 + 1, o, none⟩ = false
  o0 : W.cell? ⟨b, 0, none⟩ = some (.slice A1 K.length k1)
  o1 : W.cell? ⟨b, 1, none⟩ = some (.slice A2 T.length k2)
  of : ∀ o, W.frozen? ⟨b, o, none⟩ = false
  kn : KnV W (w.heap.size + 3) b (.slice A1 K.length k1) (.slice A2 T.length k2) K T
set_option maxHeartbeats 4000000 in
theorem iLearn (Ak At : Option Addr) (ck ct : Nat) (K : List Int) (T : List TagD) (x : TagD) (w : World) (hK : Rd icell 1 w 0 w.heap.size Ak K) (hT : Rd TagD.cells 5 w 0 w.heap.size At T) (hnK : K.length ≤ 1048576) (hnT : T.length ≤ 1048576) :
    Calls Try.prog 18 #[knv Ak K.length ck At T.length ct, x.val] w (RetKn w K (learnT K T x)) := by
  have hmK : K.length ≤ maxLen := by unfold maxLen; omega
  have hmT : T.length ≤ maxLen := by unfold maxLen; omega
  go_enter Try.func18, Try.ntmps18
  go_wp2_with fail
  refine (iCopyKnown Ak At ck ct K T _ (by exact hK.later (by (repeat' (first | (with_reducible exact Below.refl _ _) | (with_reducible assumption) | (with_reducible refine Below.alloc ?_ ?_ _) | (with_reducible refine Below.drew ?_) | (with_reducible refine below_drewN ?_ _) | (with_reducible refine Below.setCell ?_ ?_ _) | (with_reducible refine bvia ?_ (by with_reducible assumption) ?_) | go_size))) (Nat.le_refl _) (by go_size)) (by exact hT.later (by (repeat' (first | (with_reducible exact Below.refl _ _) | (with_reducible assumption) | (with_reducible refine Below.alloc ?_ ?_ _) | (with_reducible refine Below.drew ?_) | (with_reducible refine below_drewN ?_ _) | (with_reducible refine Below.setCell ?_ ?_ _) | (with_reducible refine bvia ?_ (by with_reducible assumption) ?_) | go_size))) (Nat.le_refl _) (by go_size)) hnK hnT).mono ?_
  rintro e w1 ⟨A1, k1, A2, k2, rfl, V1, hb1⟩
  obtain ⟨hc, hf⟩ := bcell hb1
  have hc1_0 := fun o => hc (w.heap.size) o (by go_size)
  have hf1_0 := fun o => hf (w.heap.size) o (by go_size)
  have hz1_0 : w.heap.size < w1.heap.size := Nat.lt_of_lt_of_le (by go_size) hb1.size
  have hc1_1 := fun o => hc (w.heap.size + 1) o (by go_size)
  have hf1_1 := fun o => hf (w.heap.size + 1) o (by go_size)
  have hz1_1 : w.heap.size + 1 < w1.heap.size := Nat.lt_of_lt_of_le (by go_size) hb1.size
  have hc1_2 := fun o => hc (w.heap.size + 2) o (by go_size)
  have hf1_2 := fun o => hf (w.heap.size + 2) o (by go_size)
  have hz1_2 : w.heap.size + 2 < w1.heap.size := Nat.lt_of_lt_of_le (by go_size) hb1.size
  clear hc hf
  have hz1 := hb1.size
  try simp at hz1
  go_upto_region 2 with (fail)
  refine wp_world _ (LW w Ak ck At ct K T x w1.heap.size A1 k1 A2 k2) ⟨by (repeat' (first | (with_reducible exact Below.refl _ _) | (with_reducible assumption) | (with_reducible refine Below.alloc ?_ ?_ _) | (with_reducible refine Below.drew ?_) | (with_reducible refine below_drewN ?_ _) | (with_reducible refine Below.setCell ?_ ?_ _) | (with_reducible refine bvia ?_ (by with_reducible assumption) ?_) | go_size)), by omega, by simp, by simp [go_sem, hc1_0, calL, hz1_0], by simp [go_sem, hc1_0, calL, hz1_0], by simp [go_sem, hc1_1, calL, hz1_1], by simp [go_sem, hc1_1, calL, hz1_1], by simp [go_sem, hc1_1, calL, hz1_1], by simp [go_sem, hc1_1, calL, hz1_1], by simp [go_sem, hc1_1, calL, hz1_1], by simp [go_sem, hc1_2, calL, hz1_2], by simp [go_sem, hc1_2, calL, hz1_2], fun o => by simp [go_sem, hf1_2, falL, hz1_2], by simp [go_sem], by simp [go_sem], by simp [go_sem], ?_⟩ ?_
  · exact (V1.wide (by simp) (Nat.le_refl _)).keep (fun k _ hk => Below.heap_alloc _ _ _ hk)
  · intro W hL
    obtain ⟨b, hb⟩ : ∃ b, w1.heap.size = b := ⟨_, rfl⟩
    rw [hb] at hL
    rw [hb]
    clear hb V1 hb1
    have hB := hL.below
    have hlb := hL.lb
    have hlW := hL.lW
    have a0 := hL.a0
    have a1 := hL.a1
    have t0 := hL.t0
    have t1 := hL.t1
    have t2 := hL.t2
    have t3 := hL.t3
    have t4 := hL.t4
    have HL := Lib.hid hL
    clear hL
    by_cases hc : canMake K T x = true
    · have hv : Hid (learnT K T x = T) := by unfold Hid learnT; rw [hc]; rfl
      go_wp2_with fail
      refine (iCanMake Ak At ck ct K T x _ (by exact hK.later hB (Nat.le_refl _) (by omega)) (by exact hT.later hB (Nat.le_refl _) (by omega)) hmK hmT).mono ?_
      rintro e w1 ⟨rfl, hb1⟩
      rw [hc]
      clear a0 a1 t0 t1 t2 t3 t4
      have HQ := Lib.hid hb1
      have hz1 := hb1.size
      have p0 := (hb1.cell (p := ⟨b, 0, none⟩) hlW).trans HL.out.o0
      have p1 := (hb1.cell (p := ⟨b, 1, none⟩) hlW).trans HL.out.o1
      have q0 := (hb1.cell (p := ⟨w.heap.size + 1 + 1, 0, none⟩) (by show w.heap.size + 1 + 1 < _; omega)).trans HL.out.c0
      have q1 := (hb1.cell (p := ⟨w.heap.size + 1 + 1, 1, none⟩) (by show w.heap.size + 1 + 1 < _; omega)).trans HL.out.c1
      have q2 := (hb1.frozen (p := ⟨w.heap.size + 1 + 1, 0, none⟩) (by show w.heap.size + 1 + 1 < _; omega)).trans (HL.out.cf 0)
      have q3 := (hb1.frozen (p := ⟨w.heap.size + 1 + 1, 1, none⟩) (by show w.heap.size + 1 + 1 < _; omega)).trans (HL.out.cf 1)
      have HK := Lib.hid (HL.out.kn.keep (w' := w1) (fun k _ hk => hb1.block k (by omega)))
      clear hb1
      go_wp2
      refine bodyPost_ret (v := knv A1 K.length k1 A2 T.length k2) (by simp [results, Try.results18, go_sem, *]) rfl ?_
      have hTo : Touch w.heap.size (w.heap.size + 3) w1 ((w1.setCell ⟨w.heap.size + 1 + 1, 0, none⟩ (.slice A1 K.length k1)).setCell ⟨w.heap.size + 1 + 1, 1, none⟩ (.slice A2 T.length k2)) := by (repeat' (first | (with_reducible exact Touch.refl _ _ _) | (with_reducible assumption) | (with_reducible refine Touch.alloc ?_ _) | (with_reducible refine Touch.drew ?_) | (with_reducible refine Touch.drewN ?_ _) | (with_reducible refine Touch.setCell ?_ ?_ ?_ _) | (with_reducible refine Touch.via ?_ (by with_reducible assumption)) | go_size))
      have hle := hTo.size
      refine RetKn.of_eq hv.out ⟨A1, k1, A2, k2, rfl, ?_, by have := HQ.out; (repeat' (first | (with_reducible exact Below.refl _ _) | (with_reducible assumption) | (with_reducible refine Below.alloc ?_ ?_ _) | (with_reducible refine Below.drew ?_) | (with_reducible refine below_drewN ?_ _) | (with_reducible refine Below.setCell ?_ ?_ _) | (with_reducible refine bvia ?_ (by with_reducible assumption) ?_) | go_size))⟩
      exact (HK.out.keep (fun k hk1 hk2 => hTo.block k (by omega) (.inr hk1))).wide (by omega) (by omega)
    · have hc : canMake K T x = false := by simpa using hc
      go_wp2_with fail
      refine (iCanMake Ak At ck ct K T x _ (by exact hK.later hB (Nat.le_refl _) (by omega)) (by exact hT.later hB (Nat.le_refl _) (by omega)) hmK hmT).mono ?_
      rintro e w1 ⟨rfl, hb1⟩
      rw [hc]
      have b1 : w1.cell? ⟨w.heap.size, 1, none⟩ = some (.slice At T.length ct) := (hb1.cell (by show w.heap.size < _; omega)).trans a1
      by_cases h3 : T.length < 300
      · have hv : Hid (learnT K T x = T ++ [x]) := by unfold Hid learnT; rw [hc]; simp [h3]
        have hi3 : decide ((T.length : Int) < 300) = true := decide_eq_true (by omega)
        have u0 : w1.cell? ⟨w.heap.size + 1, 0, none⟩ = some (.int .i64 x.fKind) := (hb1.cell (by show w.heap.size + 1 < _; omega)).trans t0
        have u1 : w1.cell? ⟨w.heap.size + 1, 1, none⟩ = some (.int .i64 x.fOne) := (hb1.cell (by show w.heap.size + 1 < _; omega)).trans t1
        have u2 : w1.cell? ⟨w.heap.size + 1, 2, none⟩ = some (.int .i64 x.fTwo) := (hb1.cell (by show w.heap.size + 1 < _; omega)).trans t2
        have u3 : w1.cell? ⟨w.heap.size + 1, 3, none⟩ = some (.int .i64 x.fA) := (hb1.cell (by show w.heap.size + 1 < _; omega)).trans t3
        have u4 : w1.cell? ⟨w.heap.size + 1, 4, none⟩ = some (.int .i64 x.fB) := (hb1.cell (by show w.heap.size + 1 < _; omega)).trans t4
        clear a0 a1 t0 t1 t2 t3 t4
        have HQ := Lib.hid hb1
        have hz1 := hb1.size
        have p0 := (hb1.cell (p := ⟨b, 0, none⟩) hlW).trans HL.out.o0
        have p1 := (hb1.cell (p := ⟨b, 1, none⟩) hlW).trans HL.out.o1
        have p2 := (hb1.frozen (p := ⟨b, 1, none⟩) hlW).trans (HL.out.of 1)
        have q0 := (hb1.cell (p := ⟨w.heap.size + 1 + 1, 0, none⟩) (by show w.heap.size + 1 + 1 < _; omega)).trans HL.out.c0
        have q1 := (hb1.cell (p := ⟨w.heap.size + 1 + 1, 1, none⟩) (by show w.heap.size + 1 + 1 < _; omega)).trans HL.out.c1
        have q2 := (hb1.frozen (p := ⟨w.heap.size + 1 + 1, 0, none⟩) (by show w.heap.size + 1 + 1 < _; omega)).trans (HL.out.cf 0)
        have q3 := (hb1.frozen (p := ⟨w.heap.size + 1 + 1, 1, none⟩) (by show w.heap.size + 1 + 1 < _; omega)).trans (HL.out.cf 1)
        have kn := HL.out.kn.keep (w' := w1) (fun k _ hk => hb1.block k (by omega))
        have HK := Lib.hid kn
        clear kn
        clear hb1
        go_wp2_with (at_builtin; refine wpList_append_rd _ rfl (.tmp 19) (.tmp 21) rfl slTag TagD.cells_length TagD.one (w.heap.size + 3) (.slice A2 T.length k2) T [x] rfl (HK.out.2.1.1.alloc _) (some ⟨w1.heap.size, 0, none⟩) 1 1 0 (w1.heap.size + 1) rfl rfl (rd_one _ x _ _ TagD.cells_length rfl _ rfl _ (by omega)) (by simp; unfold maxLen at hmT; omega) (by simp; omega) ?_; intro v3 w3 O3 G3 X3; obtain ⟨A3, k3, rfl, -, -, -⟩ := O3.rd0 TagD.cells_length; have hz3 := G3.size; (try simp at hz3); have fr : ∀ g o, g < w1.heap.size → (g < w.heap.size + 3 ∨ b ≤ g) → w3.cell? ⟨g, o, none⟩ = w1.cell? ⟨g, o, none⟩ ∧ w3.frozen? ⟨g, o, none⟩ = w1.frozen? ⟨g, o, none⟩ := (fun g o hg hn => ⟨(G3.cell_far _ (by simp; omega) (by intro hh; have h9 := HK.out.2.1.2 _ hh.symm; have h8 := (HK.out.2.1.1.lt hh.symm).1; simp at h9 h8; omega)).trans (World.cell?_alloc_lt w1 _ _ hg), (G3.frozen_far _ (by simp; omega) (by intro hh; have h9 := HK.out.2.1.2 _ hh.symm; have h8 := (HK.out.2.1.1.lt hh.symm).1; simp at h9 h8; omega)).trans (by simp [World.frozen?, heap_alloc_at]; rw [if_neg (by omega)])⟩); have p0' := (fr b 0 (by omega) (.inr (Nat.le_refl _))).1.trans p0; have p1' := (fr b 1 (by omega) (.inr (Nat.le_refl _))).1.trans p1; have p2' := (fr b 1 (by omega) (.inr (Nat.le_refl _))).2.trans p2; have q0' := (fr (w.heap.size + 1 + 1) 0 (by omega) (.inl (by omega))).1.trans q0; have q1' := (fr (w.heap.size + 1 + 1) 1 (by omega) (.inl (by omega))).1.trans q1; have q2' := (fr (w.heap.size + 1 + 1) 0 (by omega) (.inl (by omega))).2.trans q2; have q3' := (fr (w.heap.size + 1 + 1) 1 (by omega) (.inl (by omega))).2.trans q3; have HO := Lib.hid O3; have HG := Lib.hid G3; clear O3 G3 fr)
        have hq3 : Below w.heap.size w w3 := Below.grown (by have := HQ.out; (repeat' (first | (with_reducible exact Below.refl _ _) | (with_reducible assumption) | (with_reducible refine Below.alloc ?_ ?_ _) | (with_reducible refine Below.drew ?_) | (with_reducible refine below_drewN ?_ _) | (with_reducible refine Below.setCell ?_ ?_ _) | (with_reducible refine bvia ?_ (by with_reducible assumption) ?_) | go_size))) HG.out (by simp; omega) (fun k hk => by have := (HK.out.2.1.1.lt hk).1; omega)
        refine bodyPost_ret (v := knv A1 K.length k1 A3 (T ++ [x]).length k3) (by simp [results, Try.results18, go_sem, *]) rfl ?_
        have hK3 := (HK.out.1.1.alloc (.cells x.arr 23)).grown HG.out (fun k e1 e2 => HK.out.2.2 k e2 e1)
        have n1 : ∀ k, (Value.slice A1 K.length k1).ownBlock = some k → w.heap.size + 3 ≤ k ∧ k < b := fun k hk => ⟨(HK.out.1.1.lt hk).1, HK.out.1.2 k hk⟩
        have n2 : ∀ k, (Value.slice A2 T.length k2).ownBlock = some k → w.heap.size + 3 ≤ k ∧ k < b := fun k hk => ⟨(HK.out.2.1.1.lt hk).1, HK.out.2.1.2 k hk⟩
        have n3 : ∀ k, (Value.slice A3 (T ++ [x]).length k3).ownBlock = some k → w.heap.size + 3 ≤ k ∧ k ≠ b ∧ ∀ j, (Value.slice A1 K.length k1).ownBlock = some j → j ≠ k := fun k hk => by
          rcases X3 with h | h
          · rw [h] at hk; have := n2 k hk; exact ⟨this.1, by omega, fun j hj e => HK.out.2.2 j hj (e ▸ hk)⟩
          · rw [h] at hk; cases hk; simp; exact ⟨by omega, by omega, fun j hj => by have := n1 j hj; omega⟩
        refine RetKn.of_eq hv.out ⟨A1, k1, A3, k3, rfl, ⟨Own.inn ((hK3.keep (fun k hk _ _ => by have := n1 k hk; repeat (rw [Below.heap_setCell _ _ _ _ (by show _ ≠ _; simp; omega)]))).up (by omega)), Own.inn ((HO.out.keep (fun k hk _ _ => by have := n3 k hk; repeat (rw [Below.heap_setCell _ _ _ _ (by show _ ≠ _; simp; omega)]))).up (by omega)), fun k h1 h2 => (n3 k h2).2.2 k h1 rfl⟩, by (repeat' (first | (with_reducible exact Below.refl _ _) | (with_reducible assumption) | (with_reducible refine Below.alloc ?_ ?_ _) | (with_reducible refine Below.drew ?_) | (with_reducible refine below_drewN ?_ _) | (with_reducible refine Below.setCell ?_ ?_ _) | (with_reducible refine bvia ?_ (by with_reducible assumption) ?_) | go_size))⟩
      · have hv : Hid (learnT K T x = T) := by unfold Hid learnT; rw [hc]; simp [h3]
        have hi3 : decide ((T.length : Int) < 300) = false := decide_eq_false (by omega)
        clear a0 a1 t0 t1 t2 t3 t4
        have HQ := Lib.hid hb1
        have hz1 := hb1.size
        have p0 := (hb1.cell (p := ⟨b, 0, none⟩) hlW).trans HL.out.o0
        have p1 := (hb1.cell (p := ⟨b, 1, none⟩) hlW).trans HL.out.o1
        have q0 := (hb1.cell (p := ⟨w.heap.size + 1 + 1, 0, none⟩) (by show w.heap.size + 1 + 1 < _; omega)).trans HL.out.c0
        have q1 := (hb1.cell (p := ⟨w.heap.size + 1 + 1, 1, none⟩) (by show w.heap.size + 1 + 1 < _; omega)).trans HL.out.c1
        have q2 := (hb1.frozen (p := ⟨w.heap.size + 1 + 1, 0, none⟩) (by show w.heap.size + 1 + 1 < _; omega)).trans (HL.out.cf 0)
        have q3 := (hb1.frozen (p := ⟨w.heap.size + 1 + 1, 1, none⟩) (by show w.heap.size + 1 + 1 < _; omega)).trans (HL.out.cf 1)
        have HK := Lib.hid (HL.out.kn.keep (w' := w1) (fun k _ hk => hb1.block k (by omega)))
        clear hb1
        go_wp2
        refine bodyPost_ret (v := knv A1 K.length k1 A2 T.length k2) (by simp [results, Try.results18, go_sem, *]) rfl ?_
        have hTo : Touch w.heap.size (w.heap.size + 3) w1 ((w1.setCell ⟨w.heap.size + 1 + 1, 0, none⟩ (.slice A1 K.length k1)).setCell ⟨w.heap.size + 1 + 1, 1, none⟩ (.slice A2 T.length k2)) := by (repeat' (first | (with_reducible exact Touch.refl _ _ _) | (with_reducible assumption) | (with_reducible refine Touch.alloc ?_ _) | (with_reducible refine Touch.drew ?_) | (with_reducible refine Touch.drewN ?_ _) | (with_reducible refine Touch.setCell ?_ ?_ ?_ _) | (with_reducible refine Touch.via ?_ (by with_reducible assumption)) | go_size))
        have hle := hTo.size
        refine RetKn.of_eq hv.out ⟨A1, k1, A2, k2, rfl, ?_, by have := HQ.out; (repeat' (first | (with_reducible exact Below.refl _ _) | (with_reducible assumption) | (with_reducible refine Below.alloc ?_ ?_ _) | (with_reducible refine Below.drew ?_) | (with_reducible refine below_drewN ?_ _) | (with_reducible refine Below.setCell ?_ ?_ _) | (with_reducible refine bvia ?_ (by with_reducible assumption) ?_) | go_size))⟩
        exact (HK.out.keep (fun k hk1 hk2 => hTo.block k (by omega) (.inr hk1))).wide (by omega) (by omega)
end Go.Proofs.Ytomjfhcfellikaa
