/- Learn (reference): for every argument. Written by program (slearn.py). -/
import Derived.Test.YtomjfhcfellikaaLearnS
import Derived.Test.YtomjfhcfellikaaMid
import Derived.Deep.DeepCutAuto
namespace Go.Proofs.Ytomjfhcfellikaa
set_option linter.unusedSimpArgs false
set_option linter.unusedVariables false
open Go.RowKit
/-- The boxes of Learn's arguments and of its result. -/
structure LA (w : World) (Ak : Option Addr) (nk ck : Nat) (At : Option Addr) (nt ct : Nat) (x : TagD) (W : World) : Prop where
  below : Below w.heap.size w W
  hz : w.heap.size + 3 ≤ W.heap.size
  a0 : W.cell? ⟨w.heap.size, 0, none⟩ = some (.slice Ak nk ck)
  a1 : W.cell? ⟨w.heap.size, 1, none⟩ = some (.slice At nt ct)
  t0 : W.cell? ⟨w.heap.size + 1, 0, none⟩ = some (.int .i64 x.fKind)
  t1 : W.cell? ⟨w.heap.size + 1, 1, none⟩ = some (.int .i64 x.fOne)
  t2 : W.cell? ⟨w.heap.size + 1, 2, none⟩ = some (.int .i64 x.fTwo)
  t3 : W.cell? ⟨w.heap.size + 1, 3, none⟩ = some (.int .i64 x.fA)
  t4 : W.cell? ⟨w.heap.size + 1, 4, none⟩ = some (.int .i64 x.fB)
  c0 : W.cell? ⟨w.heap.size + 1 + 1, 0, none⟩ = some (.slice none 0 0)
  c1 : W.cell? ⟨w.heap.size + 1 + 1, 1, none⟩ = some (.slice none 0 0)
  cf : ∀ o, W.frozen? ⟨w.heap.size + 1 + 1, o, none⟩ = false
theorem LA.next {w W W' : World} {Ak : Option Addr} {nk ck : Nat} {At : Option Addr} {nt ct : Nat} {x : TagD} (h : LA w Ak nk ck At nt ct x W) {B : Nat} (hb : Below B W W') (hB : w.heap.size + 3 ≤ B) : LA w Ak nk ck At nt ct x W' :=
  ⟨h.below.trans (hb.mono (by omega)), Nat.le_trans h.hz hb.size, (hb.cell (by show w.heap.size < _; omega)).trans h.a0, (hb.cell (by show w.heap.size < _; omega)).trans h.a1, (hb.cell (by show w.heap.size + 1 < _; omega)).trans h.t0, (hb.cell (by show w.heap.size + 1 < _; omega)).trans h.t1, (hb.cell (by show w.heap.size + 1 < _; omega)).trans h.t2, (hb.cell (by show w.heap.size + 1 < _; omega)).trans h.t3, (hb.cell (by show w.heap.size + 1 < _; omega)).trans h.t4,
    (hb.cell (by show w.heap.size + 1 + 1 < _; omega)).trans h.c0, (hb.cell (by show w.heap.size + 1 + 1 < _; omega)).trans h.c1, fun o => (hb.frozen (p := ⟨w.heap.size + 1 + 1, o, none⟩) (by show w.heap.size + 1 + 1 < _; omega)).trans (h.cf o)⟩
theorem LA.set {w W : World} {Ak : Option Addr} {nk ck : Nat} {At : Option Addr} {nt ct : Nat} {x : TagD} {b n : Nat} {u v : Value} (h : LA w Ak nk ck At nt ct x W) (hb : n ≤ b) (hn : w.heap.size + 3 ≤ n) : LA w Ak nk ck At nt ct x ((W.setCell ⟨b, 0, none⟩ u).setCell ⟨b, 1, none⟩ v) :=
  h.next (B := w.heap.size + 3) ⟨rfl, rfl, rfl, by simp [World.setCell], fun k hk => (Below.heap_setCell _ _ _ _ (by show k ≠ b; omega)).trans (Below.heap_setCell _ _ _ _ (by show k ≠ b; omega))⟩ (Nat.le_refl _)
/-- Behind the region: 'out' lies in box b and holds the two copies. -/
structure LB (w : World) (b : Nat) (A1 : Option Addr) (k1 : Nat) (A2 : Option Addr) (k2 : Nat) (K : List Int) (T : List TagD) (W : World) : Prop where
  lb : w.heap.size + 3 ≤ b
  lW : b < W.heap.size
  o0 : W.cell? ⟨b, 0, none⟩ = some (.slice A1 K.length k1)
  o1 : W.cell? ⟨b, 1, none⟩ = some (.slice A2 T.length k2)
  of : ∀ o, W.frozen? ⟨b, o, none⟩ = false
  oK : Own W (w.heap.size + 3) 3 icell 1 (.slice A1 K.length k1) K
  oT : Own W (w.heap.size + 3) 23 TagD.cells 5 (.slice A2 T.length k2) T
  nK : ∀ k, (Value.slice A1 K.length k1).ownBlock = some k → k ≠ b
  nT : ∀ k, (Value.slice A2 T.length k2).ownBlock = some k → k ≠ b
  dis : ∀ k, (Value.slice A1 K.length k1).ownBlock = some k → (Value.slice A2 T.length k2).ownBlock = some k → False
theorem LB.next {w W W' : World} {b : Nat} {A1 : Option Addr} {k1 : Nat} {A2 : Option Addr} {k2 : Nat} {K : List Int} {T : List TagD} (h : LB w b A1 k1 A2 k2 K T W) (hb : Below W.heap.size W W') : LB w b A1 k1 A2 k2 K T W' :=
  ⟨h.lb, Nat.lt_of_lt_of_le h.lW hb.size, (hb.cell h.lW).trans h.o0, (hb.cell h.lW).trans h.o1, fun o => (hb.frozen (p := ⟨b, o, none⟩) h.lW).trans (h.of o), h.oK.later hb (Nat.le_refl _), h.oT.later hb (Nat.le_refl _), h.nK, h.nT, h.dis⟩
theorem LB.made {w W0 W : World} {b : Nat} {A1 : Option Addr} {k1 : Nat} {A2 : Option Addr} {k2 : Nat} {K : List Int} {T : List TagD} (h : LS W0 K T none none (some (.slice A1 K.length k1)) (some (.slice A2 T.length k2)) (some b) W) (h0 : w.heap.size + 3 ≤ W0.heap.size) : LB w b A1 k1 A2 k2 K T ((W.setCell ⟨b, 0, none⟩ (.slice A1 K.length k1)).setCell ⟨b, 1, none⟩ (.slice A2 T.length k2)) := by
  obtain ⟨b1, b2⟩ := h.bX b rfl
  obtain ⟨k1', k2'⟩ := h.oK _ rfl
  obtain ⟨t1, t2⟩ := h.oT _ rfl
  have c0 : W.cell? ⟨b, 0, none⟩ = some (.slice none 0 0) := by rw [cell_of_row _ _ _ _ _ (0, 0) b2]; rfl
  have c1 : W.cell? ⟨b, 1, none⟩ = some (.slice none 0 0) := by rw [cell_of_row _ _ _ _ _ (0, 0) b2]; rfl
  have nK : ∀ k, (Value.slice A1 K.length k1).ownBlock = some k → k ≠ b := fun k hk e => (k2' k hk).2.1 (by rw [e])
  have nT : ∀ k, (Value.slice A2 T.length k2).ownBlock = some k → k ≠ b := fun k hk e => (t2 k hk).2.1 (by rw [e])
  have hkeep : ∀ k, k ≠ b → ((W.setCell ⟨b, 0, none⟩ (.slice A1 K.length k1)).setCell ⟨b, 1, none⟩ (.slice A2 T.length k2)).heap[k]? = W.heap[k]? := fun k hk => (Below.heap_setCell _ _ _ _ (fun e => hk e)).trans (Below.heap_setCell _ _ _ _ (fun e => hk e))
  refine ⟨Nat.le_trans h0 b1, by simpa using blkLt b2, ?_, ?_, fun o => ?_, (k1'.keep (fun k hk _ _ => hkeep k (nK k hk))).up h0, (t1.keep (fun k hk _ _ => hkeep k (nT k hk))).up h0, nK, nT, fun k h1 h2 => (k2' k h1).2.2 _ rfl h2⟩
  · exact (World.cell?_setCell_other _ _ _ _ (by simp)).trans (World.cell?_setCell_same _ _ _ c0)
  · exact World.cell?_setCell_same _ _ _ ((World.cell?_setCell_other _ _ _ _ (by simp)).trans c1)
  · rw [World.frozen?_setCell, World.frozen?_setCell]; exact frozen_of_row _ _ _ _ _ b2
set_option maxRecDepth 100000 in
set_option maxHeartbeats 20000000 in
theorem sLearn (Ak At : Option Addr) (ck ct : Nat) (K : List Int) (T : List TagD) (x : TagD) (w : World) (hK : Rd icell 1 w 0 w.heap.size Ak K) (hT : Rd TagD.cells 5 w 0 w.heap.size At T) (hnK : K.length ≤ 1048576) (hnT : T.length ≤ 1048576) :
    Calls Try.prog 15 #[knv Ak K.length ck At T.length ct, x.val] w (RetKn w K (learnT K T x)) := by
  have hmK : K.length ≤ maxLen := by unfold maxLen; omega
  have hmT : T.length ≤ maxLen := by unfold maxLen; omega
  go_enter Try.func15, Try.ntmps15
  go_upto_region 1 with (fail)
  refine wp_world _ (LA w Ak K.length ck At T.length ct x) ⟨by (repeat' (first | (with_reducible exact Below.refl _ _) | (with_reducible assumption) | (with_reducible refine Below.alloc ?_ ?_ _) | (with_reducible refine Below.drew ?_) | (with_reducible refine below_drewN ?_ _) | (with_reducible refine Below.setCell ?_ ?_ _) | (with_reducible refine bvia ?_ (by with_reducible assumption) ?_) | go_size)), by simp, by simp [go_sem], by simp [go_sem], by simp [go_sem], by simp [go_sem], by simp [go_sem], by simp [go_sem], by simp [go_sem], by simp [go_sem], by simp [go_sem], fun o => by simp [go_sem]⟩ ?_
  intro W0 hL
  have HL := Lib.hid hL
  have a0 := hL.a0
  have a1 := hL.a1
  have hz := hL.hz
  have hB := hL.below
  clear hL
  go_cut [5] (fun s5 wx => ∃ (b : Nat) (A1 : Option Addr) (k1 : Nat) (A2 : Option Addr) (k2 : Nat), s5 = .pointer (some ⟨b, 0, none⟩) ∧ LA w Ak K.length ck At T.length ct x wx ∧ LB w b A1 k1 A2 k2 K T wx)
  case first =>
    have H0 := Lib.hid (LS.start W0 K T)
    refine wp_region_held_drew (S := (fun w' => w'.cell? ⟨w.heap.size, 0, none⟩ = some (.slice Ak K.length ck) ∧ w'.cell? ⟨w.heap.size, 1, none⟩ = some (.slice At T.length ct))) (by kernel_rfl) ⟨a0, a1⟩ (fun _ => ?_)
    refine wpAnyH_take (i := 1) (v := ?_) rfl (by kernel_rfl) (by kernel_rfl) (by kernel_rfl) (fun _ _ _ h => h) (Or.inl ⟨by rfl, ?_⟩) (by assumption) ?_
    rotate_left
    · intro w hSw
      clear hSw
      go_simp
      all_goals (with_reducible rfl)
    change wpAnyH _ _ _ _ _ _ _ (Act.put _ (some 7) _) _
    (try simp only [Act.put, List.setIfInBounds_toArray, List.set_cons_zero, List.set_cons_succ])
    refine wpAnyH_take (i := 2) (v := ?_) rfl (by kernel_rfl) (by kernel_rfl) (by kernel_rfl) (fun _ _ _ h => h) (Or.inl ⟨by rfl, ?_⟩) (by assumption) ?_
    rotate_left
    · intro w hSw
      have q0 := hSw.1
      clear hSw
      go_simp
      all_goals (with_reducible rfl)
    change wpAnyH _ _ _ _ _ _ _ (Act.put _ (some 8) _) _
    (try simp only [Act.put, List.setIfInBounds_toArray, List.set_cons_zero, List.set_cons_succ])
    refine wpAnyH_take (i := 5) (v := ?_) rfl (by kernel_rfl) (by kernel_rfl) (by kernel_rfl) (fun _ _ _ h => h) (Or.inl ⟨by rfl, ?_⟩) (by assumption) ?_
    rotate_left
    · intro w hSw
      clear hSw
      go_simp
      all_goals (with_reducible rfl)
    change wpAnyH _ _ _ _ _ _ _ (Act.put _ (some 11) _) _
    (try simp only [Act.put, List.setIfInBounds_toArray, List.set_cons_zero, List.set_cons_succ])
    refine wpAnyH_take (i := 6) (v := ?_) rfl (by kernel_rfl) (by kernel_rfl) (by kernel_rfl) (fun _ _ _ h => h) (Or.inl ⟨by rfl, ?_⟩) (by assumption) ?_
    rotate_left
    · intro w hSw
      have q0 := hSw.2
      clear hSw
      go_simp
      all_goals (with_reducible rfl)
    change wpAnyH _ _ _ _ _ _ _ (Act.put _ (some 12) _) _
    (try simp only [Act.put, List.setIfInBounds_toArray, List.set_cons_zero, List.set_cons_succ])
    refine wpAnyH_world _ (fun V => LS W0 K T none none none none none V ∧ (fun w' => w'.cell? ⟨w.heap.size, 0, none⟩ = some (.slice Ak K.length ck) ∧ w'.cell? ⟨w.heap.size, 1, none⟩ = some (.slice At T.length ct)) V) ⟨⟨⟨rfl, rfl, rfl, Nat.le_refl _, fun _ _ => rfl⟩, H0.out.lK, H0.out.lT, fun _ h => (by cases h), fun _ h => (by cases h), fun _ h => (by cases h)⟩, ⟨a0, a1⟩⟩ ?_
    rintro V0 ⟨h9, _⟩
    have H9 := Lib.hid h9
    clear h9
    refine wpAnyH_ready (rs := [0, 4, 9]) (by kernel_rfl) (by simp) (AllReadyH.cons (o := _) rfl (fun K9 hK9 => ?_) (AllReadyH.cons (o := _) rfl (fun K9 hK9 => ?_) (AllReadyH.cons (o := _) rfl (fun K9 hK9 => ?_) (AllReadyH.nil))))
    · go_simp
      have Hn := H9.out.mkK
      refine hK9.out _ _ ⟨(Hn.below.cell (by show w.heap.size < _; omega)).trans a0, (Hn.below.cell (by show w.heap.size < _; omega)).trans a1⟩ (fun _ => ?_)
      clear hK9 K9
      (try simp only [Act.put, List.setIfInBounds_toArray, List.set_cons_zero, List.set_cons_succ])
      obtain ⟨gK1, hg⟩ : ∃ g, V0.heap.size = g := ⟨_, rfl⟩
      rw [hg] at Hn
      rw [hg]
      clear hg
      refine wpAnyH_world _ (fun V => LS W0 K T (some gK1) none none none none V ∧ (fun w' => w'.cell? ⟨w.heap.size, 0, none⟩ = some (.slice Ak K.length ck) ∧ w'.cell? ⟨w.heap.size, 1, none⟩ = some (.slice At T.length ct)) V) ⟨Hn, ⟨(Hn.below.cell (by show w.heap.size < _; omega)).trans a0, (Hn.below.cell (by show w.heap.size < _; omega)).trans a1⟩⟩ ?_
      clear Hn
      rintro V1 ⟨h1, _⟩
      have H1 := Lib.hid h1
      clear h1
      clear H9
      refine wpAnyH_ready (rs := [3, 4, 9]) (by kernel_rfl) (by simp) (AllReadyH.cons (o := _) rfl (fun K9 hK9 => ?_) (AllReadyH.cons (o := _) rfl (fun K9 hK9 => ?_) (AllReadyH.cons (o := _) rfl (fun K9 hK9 => ?_) (AllReadyH.nil))))
      · refine step_append_rd _ (by rfl) (.tmp 6) (.tmp 8) (by rfl) slInt icell_length icell_one W0.heap.size (.slice (some ⟨gK1, 0, none⟩) 0 0) [] K (by rfl) (Own.blk0 (H1.out.lK _ rfl).1 (H1.out.lK _ rfl).2.1) Ak K.length ck 0 w.heap.size (by rfl) (by rfl) (by exact hK.later (hB.trans (H1.out.below.mono (by omega))) (Nat.le_refl _) (Nat.le_refl _)) (by simp; omega) H1.out.below.size ?_
        intro v1 w1 O1 G1 X1
        rw [List.nil_append] at O1
        obtain ⟨A2, k2, rfl, -, -, -⟩ := O1.rd0 icell_length
        have Hn := H1.out.apK O1 G1 X1
        clear O1 G1 X1
        refine hK9.out _ _ ⟨(Hn.below.cell (by show w.heap.size < _; omega)).trans a0, (Hn.below.cell (by show w.heap.size < _; omega)).trans a1⟩ (fun _ => ?_)
        clear hK9 K9
        (try simp only [Act.put, List.setIfInBounds_toArray, List.set_cons_zero, List.set_cons_succ])
        refine wpAnyH_world _ (fun V => LS W0 K T none none (some (.slice A2 K.length k2)) none none V ∧ (fun w' => w'.cell? ⟨w.heap.size, 0, none⟩ = some (.slice Ak K.length ck) ∧ w'.cell? ⟨w.heap.size, 1, none⟩ = some (.slice At T.length ct)) V) ⟨Hn, ⟨(Hn.below.cell (by show w.heap.size < _; omega)).trans a0, (Hn.below.cell (by show w.heap.size < _; omega)).trans a1⟩⟩ ?_
        clear Hn
        rintro V2 ⟨h2, _⟩
        have H2 := Lib.hid h2
        clear h2
        clear H1
        refine wpAnyH_ready (rs := [4, 9]) (by kernel_rfl) (by simp) (AllReadyH.cons (o := _) rfl (fun K9 hK9 => ?_) (AllReadyH.cons (o := _) rfl (fun K9 hK9 => ?_) (AllReadyH.nil)))
        · go_simp
          have Hn := H2.out.mkT
          refine hK9.out _ _ ⟨(Hn.below.cell (by show w.heap.size < _; omega)).trans a0, (Hn.below.cell (by show w.heap.size < _; omega)).trans a1⟩ (fun _ => ?_)
          clear hK9 K9
          (try simp only [Act.put, List.setIfInBounds_toArray, List.set_cons_zero, List.set_cons_succ])
          obtain ⟨gT3, hg⟩ : ∃ g, V2.heap.size = g := ⟨_, rfl⟩
          rw [hg] at Hn
          rw [hg]
          clear hg
          refine wpAnyH_world _ (fun V => LS W0 K T none (some gT3) (some (.slice A2 K.length k2)) none none V ∧ (fun w' => w'.cell? ⟨w.heap.size, 0, none⟩ = some (.slice Ak K.length ck) ∧ w'.cell? ⟨w.heap.size, 1, none⟩ = some (.slice At T.length ct)) V) ⟨Hn, ⟨(Hn.below.cell (by show w.heap.size < _; omega)).trans a0, (Hn.below.cell (by show w.heap.size < _; omega)).trans a1⟩⟩ ?_
          clear Hn
          rintro V3 ⟨h3, _⟩
          have H3 := Lib.hid h3
          clear h3
          clear H2
          refine wpAnyH_ready (rs := [7, 9]) (by kernel_rfl) (by simp) (AllReadyH.cons (o := _) rfl (fun K9 hK9 => ?_) (AllReadyH.cons (o := _) rfl (fun K9 hK9 => ?_) (AllReadyH.nil)))
          · refine step_append_rd _ (by rfl) (.tmp 10) (.tmp 12) (by rfl) slTag TagD.cells_length TagD.one W0.heap.size (.slice (some ⟨gT3, 0, none⟩) 0 0) [] T (by rfl) (Own.blk0 (H3.out.lT _ rfl).1 (H3.out.lT _ rfl).2.1) At T.length ct 0 w.heap.size (by rfl) (by rfl) (by exact hT.later (hB.trans (H3.out.below.mono (by omega))) (Nat.le_refl _) (Nat.le_refl _)) (by simp; omega) H3.out.below.size ?_
            intro v1 w1 O1 G1 X1
            rw [List.nil_append] at O1
            obtain ⟨A4, k4, rfl, -, -, -⟩ := O1.rd0 TagD.cells_length
            have Hn := H3.out.apT O1 G1 X1
            clear O1 G1 X1
            refine hK9.out _ _ ⟨(Hn.below.cell (by show w.heap.size < _; omega)).trans a0, (Hn.below.cell (by show w.heap.size < _; omega)).trans a1⟩ (fun _ => ?_)
            clear hK9 K9
            (try simp only [Act.put, List.setIfInBounds_toArray, List.set_cons_zero, List.set_cons_succ])
            refine wpAnyH_world _ (fun V => LS W0 K T none none (some (.slice A2 K.length k2)) (some (.slice A4 T.length k4)) none V ∧ (fun w' => w'.cell? ⟨w.heap.size, 0, none⟩ = some (.slice Ak K.length ck) ∧ w'.cell? ⟨w.heap.size, 1, none⟩ = some (.slice At T.length ct)) V) ⟨Hn, ⟨(Hn.below.cell (by show w.heap.size < _; omega)).trans a0, (Hn.below.cell (by show w.heap.size < _; omega)).trans a1⟩⟩ ?_
            clear Hn
            rintro V4 ⟨h4, _⟩
            have H4 := Lib.hid h4
            clear h4
            clear H3
            refine wpAnyH_take (i := 8) (v := ?_) rfl (by kernel_rfl) (by kernel_rfl) (by kernel_rfl) (fun _ _ _ h => h) (Or.inl ⟨by rfl, ?_⟩) (by assumption) ?_
            rotate_left
            · intro w hSw
              clear hSw
              go_simp
              all_goals (with_reducible rfl)
            change wpAnyH _ _ _ _ _ _ _ (Act.put _ (some 14) _) _
            (try simp only [Act.put, List.setIfInBounds_toArray, List.set_cons_zero, List.set_cons_succ])
            refine wpAnyH_ready (rs := [9]) (by kernel_rfl) (by simp) (AllReadyH.cons (o := _) rfl (fun K9 hK9 => ?_) (AllReadyH.nil))
            · go_simp
              have Hn := H4.out.mkB
              refine hK9.out _ _ ⟨(Hn.below.cell (by show w.heap.size < _; omega)).trans a0, (Hn.below.cell (by show w.heap.size < _; omega)).trans a1⟩ (fun _ => ?_)
              clear hK9 K9
              (try simp only [Act.put, List.setIfInBounds_toArray, List.set_cons_zero, List.set_cons_succ])
              obtain ⟨b5, hg⟩ : ∃ g, V4.heap.size = g := ⟨_, rfl⟩
              rw [hg] at Hn
              rw [hg]
              clear hg
              refine wpAnyH_world _ (fun V => LS W0 K T none none (some (.slice A2 K.length k2)) (some (.slice A4 T.length k4)) (some b5) V ∧ (fun w' => w'.cell? ⟨w.heap.size, 0, none⟩ = some (.slice Ak K.length ck) ∧ w'.cell? ⟨w.heap.size, 1, none⟩ = some (.slice At T.length ct)) V) ⟨Hn, ⟨(Hn.below.cell (by show w.heap.size < _; omega)).trans a0, (Hn.below.cell (by show w.heap.size < _; omega)).trans a1⟩⟩ ?_
              clear Hn
              rintro V5 ⟨h5, _⟩
              have H5 := Lib.hid h5
              clear h5
              clear H4
              obtain ⟨b1, b2⟩ := H5.out.bX _ rfl
              have z0 : V5.cell? ⟨b5, 0, none⟩ = some (.slice none 0 0) := by rw [cell_of_row _ _ _ _ _ (0, 0) b2]; rfl
              have z1 : V5.cell? ⟨b5, 1, none⟩ = some (.slice none 0 0) := by rw [cell_of_row _ _ _ _ _ (0, 0) b2]; rfl
              have y0 : V5.frozen? ⟨b5, 0, none⟩ = false := frozen_of_row _ _ _ _ _ b2
              have y1 : V5.frozen? ⟨b5, 1, none⟩ = false := frozen_of_row _ _ _ _ _ b2
              have hzb := H5.out.below
              clear b2
              refine wpAnyH_ready (rs := [10]) (by kernel_rfl) (by simp) (AllReadyH.cons (o := _) rfl (fun K hK => ?_) AllReadyH.nil)
              go_simp
              refine hK.out _ _ ⟨(World.cell?_setCell_far _ _ _ _ (by show b5 ≠ w.heap.size; omega)).trans ((World.cell?_setCell_far _ _ _ _ (by show b5 ≠ w.heap.size; omega)).trans (show _ ∧ _ from ⟨(hzb.cell (by show w.heap.size < _; omega)).trans a0, (hzb.cell (by show w.heap.size < _; omega)).trans a1⟩).1), (World.cell?_setCell_far _ _ _ _ (by show b5 ≠ w.heap.size; omega)).trans ((World.cell?_setCell_far _ _ _ _ (by show b5 ≠ w.heap.size; omega)).trans (show _ ∧ _ from ⟨(hzb.cell (by show w.heap.size < _; omega)).trans a0, (hzb.cell (by show w.heap.size < _; omega)).trans a1⟩).2)⟩ (fun _ => ?_)
              clear hK K
              refine wpAnyH_done (by kernel_rfl) ?_ _
              go_wp2_with fail
              go_meet
              case rel => exact ⟨b5, _, _, _, _, rfl, (HL.out.next hzb hz).set b1 hz, LB.made H5.out hz⟩
          · go_simp
            have Hn := H3.out.mkB
            refine hK9.out _ _ ⟨(Hn.below.cell (by show w.heap.size < _; omega)).trans a0, (Hn.below.cell (by show w.heap.size < _; omega)).trans a1⟩ (fun _ => ?_)
            clear hK9 K9
            (try simp only [Act.put, List.setIfInBounds_toArray, List.set_cons_zero, List.set_cons_succ])
            obtain ⟨b6, hg⟩ : ∃ g, V3.heap.size = g := ⟨_, rfl⟩
            rw [hg] at Hn
            rw [hg]
            clear hg
            refine wpAnyH_world _ (fun V => LS W0 K T none (some gT3) (some (.slice A2 K.length k2)) none (some b6) V ∧ (fun w' => w'.cell? ⟨w.heap.size, 0, none⟩ = some (.slice Ak K.length ck) ∧ w'.cell? ⟨w.heap.size, 1, none⟩ = some (.slice At T.length ct)) V) ⟨Hn, ⟨(Hn.below.cell (by show w.heap.size < _; omega)).trans a0, (Hn.below.cell (by show w.heap.size < _; omega)).trans a1⟩⟩ ?_
            clear Hn
            rintro V6 ⟨h6, _⟩
            have H6 := Lib.hid h6
            clear h6
            clear H3
            refine wpAnyH_ready (rs := [7]) (by kernel_rfl) (by simp) (AllReadyH.cons (o := _) rfl (fun K9 hK9 => ?_) (AllReadyH.nil))
            · refine step_append_rd _ (by rfl) (.tmp 10) (.tmp 12) (by rfl) slTag TagD.cells_length TagD.one W0.heap.size (.slice (some ⟨gT3, 0, none⟩) 0 0) [] T (by rfl) (Own.blk0 (H6.out.lT _ rfl).1 (H6.out.lT _ rfl).2.1) At T.length ct 0 w.heap.size (by rfl) (by rfl) (by exact hT.later (hB.trans (H6.out.below.mono (by omega))) (Nat.le_refl _) (Nat.le_refl _)) (by simp; omega) H6.out.below.size ?_
              intro v1 w1 O1 G1 X1
              rw [List.nil_append] at O1
              obtain ⟨A7, k7, rfl, -, -, -⟩ := O1.rd0 TagD.cells_length
              have Hn := H6.out.apT O1 G1 X1
              clear O1 G1 X1
              refine hK9.out _ _ ⟨(Hn.below.cell (by show w.heap.size < _; omega)).trans a0, (Hn.below.cell (by show w.heap.size < _; omega)).trans a1⟩ (fun _ => ?_)
              clear hK9 K9
              (try simp only [Act.put, List.setIfInBounds_toArray, List.set_cons_zero, List.set_cons_succ])
              refine wpAnyH_world _ (fun V => LS W0 K T none none (some (.slice A2 K.length k2)) (some (.slice A7 T.length k7)) (some b6) V ∧ (fun w' => w'.cell? ⟨w.heap.size, 0, none⟩ = some (.slice Ak K.length ck) ∧ w'.cell? ⟨w.heap.size, 1, none⟩ = some (.slice At T.length ct)) V) ⟨Hn, ⟨(Hn.below.cell (by show w.heap.size < _; omega)).trans a0, (Hn.below.cell (by show w.heap.size < _; omega)).trans a1⟩⟩ ?_
              clear Hn
              rintro V7 ⟨h7, _⟩
              have H7 := Lib.hid h7
              clear h7
              clear H6
              refine wpAnyH_take (i := 8) (v := ?_) rfl (by kernel_rfl) (by kernel_rfl) (by kernel_rfl) (fun _ _ _ h => h) (Or.inl ⟨by rfl, ?_⟩) (by assumption) ?_
              rotate_left
              · intro w hSw
                clear hSw
                go_simp
                all_goals (with_reducible rfl)
              change wpAnyH _ _ _ _ _ _ _ (Act.put _ (some 14) _) _
              (try simp only [Act.put, List.setIfInBounds_toArray, List.set_cons_zero, List.set_cons_succ])
              obtain ⟨b1, b2⟩ := H7.out.bX _ rfl
              have z0 : V7.cell? ⟨b6, 0, none⟩ = some (.slice none 0 0) := by rw [cell_of_row _ _ _ _ _ (0, 0) b2]; rfl
              have z1 : V7.cell? ⟨b6, 1, none⟩ = some (.slice none 0 0) := by rw [cell_of_row _ _ _ _ _ (0, 0) b2]; rfl
              have y0 : V7.frozen? ⟨b6, 0, none⟩ = false := frozen_of_row _ _ _ _ _ b2
              have y1 : V7.frozen? ⟨b6, 1, none⟩ = false := frozen_of_row _ _ _ _ _ b2
              have hzb := H7.out.below
              clear b2
              refine wpAnyH_ready (rs := [10]) (by kernel_rfl) (by simp) (AllReadyH.cons (o := _) rfl (fun K hK => ?_) AllReadyH.nil)
              go_simp
              refine hK.out _ _ ⟨(World.cell?_setCell_far _ _ _ _ (by show b6 ≠ w.heap.size; omega)).trans ((World.cell?_setCell_far _ _ _ _ (by show b6 ≠ w.heap.size; omega)).trans (show _ ∧ _ from ⟨(hzb.cell (by show w.heap.size < _; omega)).trans a0, (hzb.cell (by show w.heap.size < _; omega)).trans a1⟩).1), (World.cell?_setCell_far _ _ _ _ (by show b6 ≠ w.heap.size; omega)).trans ((World.cell?_setCell_far _ _ _ _ (by show b6 ≠ w.heap.size; omega)).trans (show _ ∧ _ from ⟨(hzb.cell (by show w.heap.size < _; omega)).trans a0, (hzb.cell (by show w.heap.size < _; omega)).trans a1⟩).2)⟩ (fun _ => ?_)
              clear hK K
              refine wpAnyH_done (by kernel_rfl) ?_ _
              go_wp2_with fail
              go_meet
              case rel => exact ⟨b6, _, _, _, _, rfl, (HL.out.next hzb hz).set b1 hz, LB.made H7.out hz⟩
        · go_simp
          have Hn := H2.out.mkB
          refine hK9.out _ _ ⟨(Hn.below.cell (by show w.heap.size < _; omega)).trans a0, (Hn.below.cell (by show w.heap.size < _; omega)).trans a1⟩ (fun _ => ?_)
          clear hK9 K9
          (try simp only [Act.put, List.setIfInBounds_toArray, List.set_cons_zero, List.set_cons_succ])
          obtain ⟨b8, hg⟩ : ∃ g, V2.heap.size = g := ⟨_, rfl⟩
          rw [hg] at Hn
          rw [hg]
          clear hg
          refine wpAnyH_world _ (fun V => LS W0 K T none none (some (.slice A2 K.length k2)) none (some b8) V ∧ (fun w' => w'.cell? ⟨w.heap.size, 0, none⟩ = some (.slice Ak K.length ck) ∧ w'.cell? ⟨w.heap.size, 1, none⟩ = some (.slice At T.length ct)) V) ⟨Hn, ⟨(Hn.below.cell (by show w.heap.size < _; omega)).trans a0, (Hn.below.cell (by show w.heap.size < _; omega)).trans a1⟩⟩ ?_
          clear Hn
          rintro V8 ⟨h8, _⟩
          have H8 := Lib.hid h8
          clear h8
          clear H2
          refine wpAnyH_ready (rs := [4]) (by kernel_rfl) (by simp) (AllReadyH.cons (o := _) rfl (fun K9 hK9 => ?_) (AllReadyH.nil))
          · go_simp
            have Hn := H8.out.mkT
            refine hK9.out _ _ ⟨(Hn.below.cell (by show w.heap.size < _; omega)).trans a0, (Hn.below.cell (by show w.heap.size < _; omega)).trans a1⟩ (fun _ => ?_)
            clear hK9 K9
            (try simp only [Act.put, List.setIfInBounds_toArray, List.set_cons_zero, List.set_cons_succ])
            obtain ⟨gT9, hg⟩ : ∃ g, V8.heap.size = g := ⟨_, rfl⟩
            rw [hg] at Hn
            rw [hg]
            clear hg
            refine wpAnyH_world _ (fun V => LS W0 K T none (some gT9) (some (.slice A2 K.length k2)) none (some b8) V ∧ (fun w' => w'.cell? ⟨w.heap.size, 0, none⟩ = some (.slice Ak K.length ck) ∧ w'.cell? ⟨w.heap.size, 1, none⟩ = some (.slice At T.length ct)) V) ⟨Hn, ⟨(Hn.below.cell (by show w.heap.size < _; omega)).trans a0, (Hn.below.cell (by show w.heap.size < _; omega)).trans a1⟩⟩ ?_
            clear Hn
            rintro V9 ⟨h9, _⟩
            have H9 := Lib.hid h9
            clear h9
            clear H8
            refine wpAnyH_ready (rs := [7]) (by kernel_rfl) (by simp) (AllReadyH.cons (o := _) rfl (fun K9 hK9 => ?_) (AllReadyH.nil))
            · refine step_append_rd _ (by rfl) (.tmp 10) (.tmp 12) (by rfl) slTag TagD.cells_length TagD.one W0.heap.size (.slice (some ⟨gT9, 0, none⟩) 0 0) [] T (by rfl) (Own.blk0 (H9.out.lT _ rfl).1 (H9.out.lT _ rfl).2.1) At T.length ct 0 w.heap.size (by rfl) (by rfl) (by exact hT.later (hB.trans (H9.out.below.mono (by omega))) (Nat.le_refl _) (Nat.le_refl _)) (by simp; omega) H9.out.below.size ?_
              intro v1 w1 O1 G1 X1
              rw [List.nil_append] at O1
              obtain ⟨A10, k10, rfl, -, -, -⟩ := O1.rd0 TagD.cells_length
              have Hn := H9.out.apT O1 G1 X1
              clear O1 G1 X1
              refine hK9.out _ _ ⟨(Hn.below.cell (by show w.heap.size < _; omega)).trans a0, (Hn.below.cell (by show w.heap.size < _; omega)).trans a1⟩ (fun _ => ?_)
              clear hK9 K9
              (try simp only [Act.put, List.setIfInBounds_toArray, List.set_cons_zero, List.set_cons_succ])
              refine wpAnyH_world _ (fun V => LS W0 K T none none (some (.slice A2 K.length k2)) (some (.slice A10 T.length k10)) (some b8) V ∧ (fun w' => w'.cell? ⟨w.heap.size, 0, none⟩ = some (.slice Ak K.length ck) ∧ w'.cell? ⟨w.heap.size, 1, none⟩ = some (.slice At T.length ct)) V) ⟨Hn, ⟨(Hn.below.cell (by show w.heap.size < _; omega)).trans a0, (Hn.below.cell (by show w.heap.size < _; omega)).trans a1⟩⟩ ?_
              clear Hn
              rintro V10 ⟨h10, _⟩
              have H10 := Lib.hid h10
              clear h10
              clear H9
              refine wpAnyH_take (i := 8) (v := ?_) rfl (by kernel_rfl) (by kernel_rfl) (by kernel_rfl) (fun _ _ _ h => h) (Or.inl ⟨by rfl, ?_⟩) (by assumption) ?_
              rotate_left
              · intro w hSw
                clear hSw
                go_simp
                all_goals (with_reducible rfl)
              change wpAnyH _ _ _ _ _ _ _ (Act.put _ (some 14) _) _
              (try simp only [Act.put, List.setIfInBounds_toArray, List.set_cons_zero, List.set_cons_succ])
              obtain ⟨b1, b2⟩ := H10.out.bX _ rfl
              have z0 : V10.cell? ⟨b8, 0, none⟩ = some (.slice none 0 0) := by rw [cell_of_row _ _ _ _ _ (0, 0) b2]; rfl
              have z1 : V10.cell? ⟨b8, 1, none⟩ = some (.slice none 0 0) := by rw [cell_of_row _ _ _ _ _ (0, 0) b2]; rfl
              have y0 : V10.frozen? ⟨b8, 0, none⟩ = false := frozen_of_row _ _ _ _ _ b2
              have y1 : V10.frozen? ⟨b8, 1, none⟩ = false := frozen_of_row _ _ _ _ _ b2
              have hzb := H10.out.below
              clear b2
              refine wpAnyH_ready (rs := [10]) (by kernel_rfl) (by simp) (AllReadyH.cons (o := _) rfl (fun K hK => ?_) AllReadyH.nil)
              go_simp
              refine hK.out _ _ ⟨(World.cell?_setCell_far _ _ _ _ (by show b8 ≠ w.heap.size; omega)).trans ((World.cell?_setCell_far _ _ _ _ (by show b8 ≠ w.heap.size; omega)).trans (show _ ∧ _ from ⟨(hzb.cell (by show w.heap.size < _; omega)).trans a0, (hzb.cell (by show w.heap.size < _; omega)).trans a1⟩).1), (World.cell?_setCell_far _ _ _ _ (by show b8 ≠ w.heap.size; omega)).trans ((World.cell?_setCell_far _ _ _ _ (by show b8 ≠ w.heap.size; omega)).trans (show _ ∧ _ from ⟨(hzb.cell (by show w.heap.size < _; omega)).trans a0, (hzb.cell (by show w.heap.size < _; omega)).trans a1⟩).2)⟩ (fun _ => ?_)
              clear hK K
              refine wpAnyH_done (by kernel_rfl) ?_ _
              go_wp2_with fail
              go_meet
              case rel => exact ⟨b8, _, _, _, _, rfl, (HL.out.next hzb hz).set b1 hz, LB.made H10.out hz⟩
      · go_simp
        have Hn := H1.out.mkT
        refine hK9.out _ _ ⟨(Hn.below.cell (by show w.heap.size < _; omega)).trans a0, (Hn.below.cell (by show w.heap.size < _; omega)).trans a1⟩ (fun _ => ?_)
        clear hK9 K9
        (try simp only [Act.put, List.setIfInBounds_toArray, List.set_cons_zero, List.set_cons_succ])
        obtain ⟨gT11, hg⟩ : ∃ g, V1.heap.size = g := ⟨_, rfl⟩
        rw [hg] at Hn
        rw [hg]
        clear hg
        refine wpAnyH_world _ (fun V => LS W0 K T (some gK1) (some gT11) none none none V ∧ (fun w' => w'.cell? ⟨w.heap.size, 0, none⟩ = some (.slice Ak K.length ck) ∧ w'.cell? ⟨w.heap.size, 1, none⟩ = some (.slice At T.length ct)) V) ⟨Hn, ⟨(Hn.below.cell (by show w.heap.size < _; omega)).trans a0, (Hn.below.cell (by show w.heap.size < _; omega)).trans a1⟩⟩ ?_
        clear Hn
        rintro V11 ⟨h11, _⟩
        have H11 := Lib.hid h11
        clear h11
        clear H1
        refine wpAnyH_ready (rs := [3, 9]) (by kernel_rfl) (by simp) (AllReadyH.cons (o := _) rfl (fun K9 hK9 => ?_) (AllReadyH.cons (o := _) rfl (fun K9 hK9 => ?_) (AllReadyH.nil)))
        · refine step_append_rd _ (by rfl) (.tmp 6) (.tmp 8) (by rfl) slInt icell_length icell_one W0.heap.size (.slice (some ⟨gK1, 0, none⟩) 0 0) [] K (by rfl) (Own.blk0 (H11.out.lK _ rfl).1 (H11.out.lK _ rfl).2.1) Ak K.length ck 0 w.heap.size (by rfl) (by rfl) (by exact hK.later (hB.trans (H11.out.below.mono (by omega))) (Nat.le_refl _) (Nat.le_refl _)) (by simp; omega) H11.out.below.size ?_
          intro v1 w1 O1 G1 X1
          rw [List.nil_append] at O1
          obtain ⟨A12, k12, rfl, -, -, -⟩ := O1.rd0 icell_length
          have Hn := H11.out.apK O1 G1 X1
          clear O1 G1 X1
          refine hK9.out _ _ ⟨(Hn.below.cell (by show w.heap.size < _; omega)).trans a0, (Hn.below.cell (by show w.heap.size < _; omega)).trans a1⟩ (fun _ => ?_)
          clear hK9 K9
          (try simp only [Act.put, List.setIfInBounds_toArray, List.set_cons_zero, List.set_cons_succ])
          refine wpAnyH_world _ (fun V => LS W0 K T none (some gT11) (some (.slice A12 K.length k12)) none none V ∧ (fun w' => w'.cell? ⟨w.heap.size, 0, none⟩ = some (.slice Ak K.length ck) ∧ w'.cell? ⟨w.heap.size, 1, none⟩ = some (.slice At T.length ct)) V) ⟨Hn, ⟨(Hn.below.cell (by show w.heap.size < _; omega)).trans a0, (Hn.below.cell (by show w.heap.size < _; omega)).trans a1⟩⟩ ?_
          clear Hn
          rintro V12 ⟨h12, _⟩
          have H12 := Lib.hid h12
          clear h12
          clear H11
          refine wpAnyH_ready (rs := [7, 9]) (by kernel_rfl) (by simp) (AllReadyH.cons (o := _) rfl (fun K9 hK9 => ?_) (AllReadyH.cons (o := _) rfl (fun K9 hK9 => ?_) (AllReadyH.nil)))
          · refine step_append_rd _ (by rfl) (.tmp 10) (.tmp 12) (by rfl) slTag TagD.cells_length TagD.one W0.heap.size (.slice (some ⟨gT11, 0, none⟩) 0 0) [] T (by rfl) (Own.blk0 (H12.out.lT _ rfl).1 (H12.out.lT _ rfl).2.1) At T.length ct 0 w.heap.size (by rfl) (by rfl) (by exact hT.later (hB.trans (H12.out.below.mono (by omega))) (Nat.le_refl _) (Nat.le_refl _)) (by simp; omega) H12.out.below.size ?_
            intro v1 w1 O1 G1 X1
            rw [List.nil_append] at O1
            obtain ⟨A13, k13, rfl, -, -, -⟩ := O1.rd0 TagD.cells_length
            have Hn := H12.out.apT O1 G1 X1
            clear O1 G1 X1
            refine hK9.out _ _ ⟨(Hn.below.cell (by show w.heap.size < _; omega)).trans a0, (Hn.below.cell (by show w.heap.size < _; omega)).trans a1⟩ (fun _ => ?_)
            clear hK9 K9
            (try simp only [Act.put, List.setIfInBounds_toArray, List.set_cons_zero, List.set_cons_succ])
            refine wpAnyH_world _ (fun V => LS W0 K T none none (some (.slice A12 K.length k12)) (some (.slice A13 T.length k13)) none V ∧ (fun w' => w'.cell? ⟨w.heap.size, 0, none⟩ = some (.slice Ak K.length ck) ∧ w'.cell? ⟨w.heap.size, 1, none⟩ = some (.slice At T.length ct)) V) ⟨Hn, ⟨(Hn.below.cell (by show w.heap.size < _; omega)).trans a0, (Hn.below.cell (by show w.heap.size < _; omega)).trans a1⟩⟩ ?_
            clear Hn
            rintro V13 ⟨h13, _⟩
            have H13 := Lib.hid h13
            clear h13
            clear H12
            refine wpAnyH_take (i := 8) (v := ?_) rfl (by kernel_rfl) (by kernel_rfl) (by kernel_rfl) (fun _ _ _ h => h) (Or.inl ⟨by rfl, ?_⟩) (by assumption) ?_
            rotate_left
            · intro w hSw
              clear hSw
              go_simp
              all_goals (with_reducible rfl)
            change wpAnyH _ _ _ _ _ _ _ (Act.put _ (some 14) _) _
            (try simp only [Act.put, List.setIfInBounds_toArray, List.set_cons_zero, List.set_cons_succ])
            refine wpAnyH_ready (rs := [9]) (by kernel_rfl) (by simp) (AllReadyH.cons (o := _) rfl (fun K9 hK9 => ?_) (AllReadyH.nil))
            · go_simp
              have Hn := H13.out.mkB
              refine hK9.out _ _ ⟨(Hn.below.cell (by show w.heap.size < _; omega)).trans a0, (Hn.below.cell (by show w.heap.size < _; omega)).trans a1⟩ (fun _ => ?_)
              clear hK9 K9
              (try simp only [Act.put, List.setIfInBounds_toArray, List.set_cons_zero, List.set_cons_succ])
              obtain ⟨b14, hg⟩ : ∃ g, V13.heap.size = g := ⟨_, rfl⟩
              rw [hg] at Hn
              rw [hg]
              clear hg
              refine wpAnyH_world _ (fun V => LS W0 K T none none (some (.slice A12 K.length k12)) (some (.slice A13 T.length k13)) (some b14) V ∧ (fun w' => w'.cell? ⟨w.heap.size, 0, none⟩ = some (.slice Ak K.length ck) ∧ w'.cell? ⟨w.heap.size, 1, none⟩ = some (.slice At T.length ct)) V) ⟨Hn, ⟨(Hn.below.cell (by show w.heap.size < _; omega)).trans a0, (Hn.below.cell (by show w.heap.size < _; omega)).trans a1⟩⟩ ?_
              clear Hn
              rintro V14 ⟨h14, _⟩
              have H14 := Lib.hid h14
              clear h14
              clear H13
              obtain ⟨b1, b2⟩ := H14.out.bX _ rfl
              have z0 : V14.cell? ⟨b14, 0, none⟩ = some (.slice none 0 0) := by rw [cell_of_row _ _ _ _ _ (0, 0) b2]; rfl
              have z1 : V14.cell? ⟨b14, 1, none⟩ = some (.slice none 0 0) := by rw [cell_of_row _ _ _ _ _ (0, 0) b2]; rfl
              have y0 : V14.frozen? ⟨b14, 0, none⟩ = false := frozen_of_row _ _ _ _ _ b2
              have y1 : V14.frozen? ⟨b14, 1, none⟩ = false := frozen_of_row _ _ _ _ _ b2
              have hzb := H14.out.below
              clear b2
              refine wpAnyH_ready (rs := [10]) (by kernel_rfl) (by simp) (AllReadyH.cons (o := _) rfl (fun K hK => ?_) AllReadyH.nil)
              go_simp
              refine hK.out _ _ ⟨(World.cell?_setCell_far _ _ _ _ (by show b14 ≠ w.heap.size; omega)).trans ((World.cell?_setCell_far _ _ _ _ (by show b14 ≠ w.heap.size; omega)).trans (show _ ∧ _ from ⟨(hzb.cell (by show w.heap.size < _; omega)).trans a0, (hzb.cell (by show w.heap.size < _; omega)).trans a1⟩).1), (World.cell?_setCell_far _ _ _ _ (by show b14 ≠ w.heap.size; omega)).trans ((World.cell?_setCell_far _ _ _ _ (by show b14 ≠ w.heap.size; omega)).trans (show _ ∧ _ from ⟨(hzb.cell (by show w.heap.size < _; omega)).trans a0, (hzb.cell (by show w.heap.size < _; omega)).trans a1⟩).2)⟩ (fun _ => ?_)
              clear hK K
              refine wpAnyH_done (by kernel_rfl) ?_ _
              go_wp2_with fail
              go_meet
              case rel => exact ⟨b14, _, _, _, _, rfl, (HL.out.next hzb hz).set b1 hz, LB.made H14.out hz⟩
          · go_simp
            have Hn := H12.out.mkB
            refine hK9.out _ _ ⟨(Hn.below.cell (by show w.heap.size < _; omega)).trans a0, (Hn.below.cell (by show w.heap.size < _; omega)).trans a1⟩ (fun _ => ?_)
            clear hK9 K9
            (try simp only [Act.put, List.setIfInBounds_toArray, List.set_cons_zero, List.set_cons_succ])
            obtain ⟨b15, hg⟩ : ∃ g, V12.heap.size = g := ⟨_, rfl⟩
            rw [hg] at Hn
            rw [hg]
            clear hg
            refine wpAnyH_world _ (fun V => LS W0 K T none (some gT11) (some (.slice A12 K.length k12)) none (some b15) V ∧ (fun w' => w'.cell? ⟨w.heap.size, 0, none⟩ = some (.slice Ak K.length ck) ∧ w'.cell? ⟨w.heap.size, 1, none⟩ = some (.slice At T.length ct)) V) ⟨Hn, ⟨(Hn.below.cell (by show w.heap.size < _; omega)).trans a0, (Hn.below.cell (by show w.heap.size < _; omega)).trans a1⟩⟩ ?_
            clear Hn
            rintro V15 ⟨h15, _⟩
            have H15 := Lib.hid h15
            clear h15
            clear H12
            refine wpAnyH_ready (rs := [7]) (by kernel_rfl) (by simp) (AllReadyH.cons (o := _) rfl (fun K9 hK9 => ?_) (AllReadyH.nil))
            · refine step_append_rd _ (by rfl) (.tmp 10) (.tmp 12) (by rfl) slTag TagD.cells_length TagD.one W0.heap.size (.slice (some ⟨gT11, 0, none⟩) 0 0) [] T (by rfl) (Own.blk0 (H15.out.lT _ rfl).1 (H15.out.lT _ rfl).2.1) At T.length ct 0 w.heap.size (by rfl) (by rfl) (by exact hT.later (hB.trans (H15.out.below.mono (by omega))) (Nat.le_refl _) (Nat.le_refl _)) (by simp; omega) H15.out.below.size ?_
              intro v1 w1 O1 G1 X1
              rw [List.nil_append] at O1
              obtain ⟨A16, k16, rfl, -, -, -⟩ := O1.rd0 TagD.cells_length
              have Hn := H15.out.apT O1 G1 X1
              clear O1 G1 X1
              refine hK9.out _ _ ⟨(Hn.below.cell (by show w.heap.size < _; omega)).trans a0, (Hn.below.cell (by show w.heap.size < _; omega)).trans a1⟩ (fun _ => ?_)
              clear hK9 K9
              (try simp only [Act.put, List.setIfInBounds_toArray, List.set_cons_zero, List.set_cons_succ])
              refine wpAnyH_world _ (fun V => LS W0 K T none none (some (.slice A12 K.length k12)) (some (.slice A16 T.length k16)) (some b15) V ∧ (fun w' => w'.cell? ⟨w.heap.size, 0, none⟩ = some (.slice Ak K.length ck) ∧ w'.cell? ⟨w.heap.size, 1, none⟩ = some (.slice At T.length ct)) V) ⟨Hn, ⟨(Hn.below.cell (by show w.heap.size < _; omega)).trans a0, (Hn.below.cell (by show w.heap.size < _; omega)).trans a1⟩⟩ ?_
              clear Hn
              rintro V16 ⟨h16, _⟩
              have H16 := Lib.hid h16
              clear h16
              clear H15
              refine wpAnyH_take (i := 8) (v := ?_) rfl (by kernel_rfl) (by kernel_rfl) (by kernel_rfl) (fun _ _ _ h => h) (Or.inl ⟨by rfl, ?_⟩) (by assumption) ?_
              rotate_left
              · intro w hSw
                clear hSw
                go_simp
                all_goals (with_reducible rfl)
              change wpAnyH _ _ _ _ _ _ _ (Act.put _ (some 14) _) _
              (try simp only [Act.put, List.setIfInBounds_toArray, List.set_cons_zero, List.set_cons_succ])
              obtain ⟨b1, b2⟩ := H16.out.bX _ rfl
              have z0 : V16.cell? ⟨b15, 0, none⟩ = some (.slice none 0 0) := by rw [cell_of_row _ _ _ _ _ (0, 0) b2]; rfl
              have z1 : V16.cell? ⟨b15, 1, none⟩ = some (.slice none 0 0) := by rw [cell_of_row _ _ _ _ _ (0, 0) b2]; rfl
              have y0 : V16.frozen? ⟨b15, 0, none⟩ = false := frozen_of_row _ _ _ _ _ b2
              have y1 : V16.frozen? ⟨b15, 1, none⟩ = false := frozen_of_row _ _ _ _ _ b2
              have hzb := H16.out.below
              clear b2
              refine wpAnyH_ready (rs := [10]) (by kernel_rfl) (by simp) (AllReadyH.cons (o := _) rfl (fun K hK => ?_) AllReadyH.nil)
              go_simp
              refine hK.out _ _ ⟨(World.cell?_setCell_far _ _ _ _ (by show b15 ≠ w.heap.size; omega)).trans ((World.cell?_setCell_far _ _ _ _ (by show b15 ≠ w.heap.size; omega)).trans (show _ ∧ _ from ⟨(hzb.cell (by show w.heap.size < _; omega)).trans a0, (hzb.cell (by show w.heap.size < _; omega)).trans a1⟩).1), (World.cell?_setCell_far _ _ _ _ (by show b15 ≠ w.heap.size; omega)).trans ((World.cell?_setCell_far _ _ _ _ (by show b15 ≠ w.heap.size; omega)).trans (show _ ∧ _ from ⟨(hzb.cell (by show w.heap.size < _; omega)).trans a0, (hzb.cell (by show w.heap.size < _; omega)).trans a1⟩).2)⟩ (fun _ => ?_)
              clear hK K
              refine wpAnyH_done (by kernel_rfl) ?_ _
              go_wp2_with fail
              go_meet
              case rel => exact ⟨b15, _, _, _, _, rfl, (HL.out.next hzb hz).set b1 hz, LB.made H16.out hz⟩
        · go_simp
          have Hn := H11.out.mkB
          refine hK9.out _ _ ⟨(Hn.below.cell (by show w.heap.size < _; omega)).trans a0, (Hn.below.cell (by show w.heap.size < _; omega)).trans a1⟩ (fun _ => ?_)
          clear hK9 K9
          (try simp only [Act.put, List.setIfInBounds_toArray, List.set_cons_zero, List.set_cons_succ])
          obtain ⟨b17, hg⟩ : ∃ g, V11.heap.size = g := ⟨_, rfl⟩
          rw [hg] at Hn
          rw [hg]
          clear hg
          refine wpAnyH_world _ (fun V => LS W0 K T (some gK1) (some gT11) none none (some b17) V ∧ (fun w' => w'.cell? ⟨w.heap.size, 0, none⟩ = some (.slice Ak K.length ck) ∧ w'.cell? ⟨w.heap.size, 1, none⟩ = some (.slice At T.length ct)) V) ⟨Hn, ⟨(Hn.below.cell (by show w.heap.size < _; omega)).trans a0, (Hn.below.cell (by show w.heap.size < _; omega)).trans a1⟩⟩ ?_
          clear Hn
          rintro V17 ⟨h17, _⟩
          have H17 := Lib.hid h17
          clear h17
          clear H11
          refine wpAnyH_ready (rs := [3]) (by kernel_rfl) (by simp) (AllReadyH.cons (o := _) rfl (fun K9 hK9 => ?_) (AllReadyH.nil))
          · refine step_append_rd _ (by rfl) (.tmp 6) (.tmp 8) (by rfl) slInt icell_length icell_one W0.heap.size (.slice (some ⟨gK1, 0, none⟩) 0 0) [] K (by rfl) (Own.blk0 (H17.out.lK _ rfl).1 (H17.out.lK _ rfl).2.1) Ak K.length ck 0 w.heap.size (by rfl) (by rfl) (by exact hK.later (hB.trans (H17.out.below.mono (by omega))) (Nat.le_refl _) (Nat.le_refl _)) (by simp; omega) H17.out.below.size ?_
            intro v1 w1 O1 G1 X1
            rw [List.nil_append] at O1
            obtain ⟨A18, k18, rfl, -, -, -⟩ := O1.rd0 icell_length
            have Hn := H17.out.apK O1 G1 X1
            clear O1 G1 X1
            refine hK9.out _ _ ⟨(Hn.below.cell (by show w.heap.size < _; omega)).trans a0, (Hn.below.cell (by show w.heap.size < _; omega)).trans a1⟩ (fun _ => ?_)
            clear hK9 K9
            (try simp only [Act.put, List.setIfInBounds_toArray, List.set_cons_zero, List.set_cons_succ])
            refine wpAnyH_world _ (fun V => LS W0 K T none (some gT11) (some (.slice A18 K.length k18)) none (some b17) V ∧ (fun w' => w'.cell? ⟨w.heap.size, 0, none⟩ = some (.slice Ak K.length ck) ∧ w'.cell? ⟨w.heap.size, 1, none⟩ = some (.slice At T.length ct)) V) ⟨Hn, ⟨(Hn.below.cell (by show w.heap.size < _; omega)).trans a0, (Hn.below.cell (by show w.heap.size < _; omega)).trans a1⟩⟩ ?_
            clear Hn
            rintro V18 ⟨h18, _⟩
            have H18 := Lib.hid h18
            clear h18
            clear H17
            refine wpAnyH_ready (rs := [7]) (by kernel_rfl) (by simp) (AllReadyH.cons (o := _) rfl (fun K9 hK9 => ?_) (AllReadyH.nil))
            · refine step_append_rd _ (by rfl) (.tmp 10) (.tmp 12) (by rfl) slTag TagD.cells_length TagD.one W0.heap.size (.slice (some ⟨gT11, 0, none⟩) 0 0) [] T (by rfl) (Own.blk0 (H18.out.lT _ rfl).1 (H18.out.lT _ rfl).2.1) At T.length ct 0 w.heap.size (by rfl) (by rfl) (by exact hT.later (hB.trans (H18.out.below.mono (by omega))) (Nat.le_refl _) (Nat.le_refl _)) (by simp; omega) H18.out.below.size ?_
              intro v1 w1 O1 G1 X1
              rw [List.nil_append] at O1
              obtain ⟨A19, k19, rfl, -, -, -⟩ := O1.rd0 TagD.cells_length
              have Hn := H18.out.apT O1 G1 X1
              clear O1 G1 X1
              refine hK9.out _ _ ⟨(Hn.below.cell (by show w.heap.size < _; omega)).trans a0, (Hn.below.cell (by show w.heap.size < _; omega)).trans a1⟩ (fun _ => ?_)
              clear hK9 K9
              (try simp only [Act.put, List.setIfInBounds_toArray, List.set_cons_zero, List.set_cons_succ])
              refine wpAnyH_world _ (fun V => LS W0 K T none none (some (.slice A18 K.length k18)) (some (.slice A19 T.length k19)) (some b17) V ∧ (fun w' => w'.cell? ⟨w.heap.size, 0, none⟩ = some (.slice Ak K.length ck) ∧ w'.cell? ⟨w.heap.size, 1, none⟩ = some (.slice At T.length ct)) V) ⟨Hn, ⟨(Hn.below.cell (by show w.heap.size < _; omega)).trans a0, (Hn.below.cell (by show w.heap.size < _; omega)).trans a1⟩⟩ ?_
              clear Hn
              rintro V19 ⟨h19, _⟩
              have H19 := Lib.hid h19
              clear h19
              clear H18
              refine wpAnyH_take (i := 8) (v := ?_) rfl (by kernel_rfl) (by kernel_rfl) (by kernel_rfl) (fun _ _ _ h => h) (Or.inl ⟨by rfl, ?_⟩) (by assumption) ?_
              rotate_left
              · intro w hSw
                clear hSw
                go_simp
                all_goals (with_reducible rfl)
              change wpAnyH _ _ _ _ _ _ _ (Act.put _ (some 14) _) _
              (try simp only [Act.put, List.setIfInBounds_toArray, List.set_cons_zero, List.set_cons_succ])
              obtain ⟨b1, b2⟩ := H19.out.bX _ rfl
              have z0 : V19.cell? ⟨b17, 0, none⟩ = some (.slice none 0 0) := by rw [cell_of_row _ _ _ _ _ (0, 0) b2]; rfl
              have z1 : V19.cell? ⟨b17, 1, none⟩ = some (.slice none 0 0) := by rw [cell_of_row _ _ _ _ _ (0, 0) b2]; rfl
              have y0 : V19.frozen? ⟨b17, 0, none⟩ = false := frozen_of_row _ _ _ _ _ b2
              have y1 : V19.frozen? ⟨b17, 1, none⟩ = false := frozen_of_row _ _ _ _ _ b2
              have hzb := H19.out.below
              clear b2
              refine wpAnyH_ready (rs := [10]) (by kernel_rfl) (by simp) (AllReadyH.cons (o := _) rfl (fun K hK => ?_) AllReadyH.nil)
              go_simp
              refine hK.out _ _ ⟨(World.cell?_setCell_far _ _ _ _ (by show b17 ≠ w.heap.size; omega)).trans ((World.cell?_setCell_far _ _ _ _ (by show b17 ≠ w.heap.size; omega)).trans (show _ ∧ _ from ⟨(hzb.cell (by show w.heap.size < _; omega)).trans a0, (hzb.cell (by show w.heap.size < _; omega)).trans a1⟩).1), (World.cell?_setCell_far _ _ _ _ (by show b17 ≠ w.heap.size; omega)).trans ((World.cell?_setCell_far _ _ _ _ (by show b17 ≠ w.heap.size; omega)).trans (show _ ∧ _ from ⟨(hzb.cell (by show w.heap.size < _; omega)).trans a0, (hzb.cell (by show w.heap.size < _; omega)).trans a1⟩).2)⟩ (fun _ => ?_)
              clear hK K
              refine wpAnyH_done (by kernel_rfl) ?_ _
              go_wp2_with fail
              go_meet
              case rel => exact ⟨b17, _, _, _, _, rfl, (HL.out.next hzb hz).set b1 hz, LB.made H19.out hz⟩
      · go_simp
        have Hn := H1.out.mkB
        refine hK9.out _ _ ⟨(Hn.below.cell (by show w.heap.size < _; omega)).trans a0, (Hn.below.cell (by show w.heap.size < _; omega)).trans a1⟩ (fun _ => ?_)
        clear hK9 K9
        (try simp only [Act.put, List.setIfInBounds_toArray, List.set_cons_zero, List.set_cons_succ])
        obtain ⟨b20, hg⟩ : ∃ g, V1.heap.size = g := ⟨_, rfl⟩
        rw [hg] at Hn
        rw [hg]
        clear hg
        refine wpAnyH_world _ (fun V => LS W0 K T (some gK1) none none none (some b20) V ∧ (fun w' => w'.cell? ⟨w.heap.size, 0, none⟩ = some (.slice Ak K.length ck) ∧ w'.cell? ⟨w.heap.size, 1, none⟩ = some (.slice At T.length ct)) V) ⟨Hn, ⟨(Hn.below.cell (by show w.heap.size < _; omega)).trans a0, (Hn.below.cell (by show w.heap.size < _; omega)).trans a1⟩⟩ ?_
        clear Hn
        rintro V20 ⟨h20, _⟩
        have H20 := Lib.hid h20
        clear h20
        clear H1
        refine wpAnyH_ready (rs := [3, 4]) (by kernel_rfl) (by simp) (AllReadyH.cons (o := _) rfl (fun K9 hK9 => ?_) (AllReadyH.cons (o := _) rfl (fun K9 hK9 => ?_) (AllReadyH.nil)))
        · refine step_append_rd _ (by rfl) (.tmp 6) (.tmp 8) (by rfl) slInt icell_length icell_one W0.heap.size (.slice (some ⟨gK1, 0, none⟩) 0 0) [] K (by rfl) (Own.blk0 (H20.out.lK _ rfl).1 (H20.out.lK _ rfl).2.1) Ak K.length ck 0 w.heap.size (by rfl) (by rfl) (by exact hK.later (hB.trans (H20.out.below.mono (by omega))) (Nat.le_refl _) (Nat.le_refl _)) (by simp; omega) H20.out.below.size ?_
          intro v1 w1 O1 G1 X1
          rw [List.nil_append] at O1
          obtain ⟨A21, k21, rfl, -, -, -⟩ := O1.rd0 icell_length
          have Hn := H20.out.apK O1 G1 X1
          clear O1 G1 X1
          refine hK9.out _ _ ⟨(Hn.below.cell (by show w.heap.size < _; omega)).trans a0, (Hn.below.cell (by show w.heap.size < _; omega)).trans a1⟩ (fun _ => ?_)
          clear hK9 K9
          (try simp only [Act.put, List.setIfInBounds_toArray, List.set_cons_zero, List.set_cons_succ])
          refine wpAnyH_world _ (fun V => LS W0 K T none none (some (.slice A21 K.length k21)) none (some b20) V ∧ (fun w' => w'.cell? ⟨w.heap.size, 0, none⟩ = some (.slice Ak K.length ck) ∧ w'.cell? ⟨w.heap.size, 1, none⟩ = some (.slice At T.length ct)) V) ⟨Hn, ⟨(Hn.below.cell (by show w.heap.size < _; omega)).trans a0, (Hn.below.cell (by show w.heap.size < _; omega)).trans a1⟩⟩ ?_
          clear Hn
          rintro V21 ⟨h21, _⟩
          have H21 := Lib.hid h21
          clear h21
          clear H20
          refine wpAnyH_ready (rs := [4]) (by kernel_rfl) (by simp) (AllReadyH.cons (o := _) rfl (fun K9 hK9 => ?_) (AllReadyH.nil))
          · go_simp
            have Hn := H21.out.mkT
            refine hK9.out _ _ ⟨(Hn.below.cell (by show w.heap.size < _; omega)).trans a0, (Hn.below.cell (by show w.heap.size < _; omega)).trans a1⟩ (fun _ => ?_)
            clear hK9 K9
            (try simp only [Act.put, List.setIfInBounds_toArray, List.set_cons_zero, List.set_cons_succ])
            obtain ⟨gT22, hg⟩ : ∃ g, V21.heap.size = g := ⟨_, rfl⟩
            rw [hg] at Hn
            rw [hg]
            clear hg
            refine wpAnyH_world _ (fun V => LS W0 K T none (some gT22) (some (.slice A21 K.length k21)) none (some b20) V ∧ (fun w' => w'.cell? ⟨w.heap.size, 0, none⟩ = some (.slice Ak K.length ck) ∧ w'.cell? ⟨w.heap.size, 1, none⟩ = some (.slice At T.length ct)) V) ⟨Hn, ⟨(Hn.below.cell (by show w.heap.size < _; omega)).trans a0, (Hn.below.cell (by show w.heap.size < _; omega)).trans a1⟩⟩ ?_
            clear Hn
            rintro V22 ⟨h22, _⟩
            have H22 := Lib.hid h22
            clear h22
            clear H21
            refine wpAnyH_ready (rs := [7]) (by kernel_rfl) (by simp) (AllReadyH.cons (o := _) rfl (fun K9 hK9 => ?_) (AllReadyH.nil))
            · refine step_append_rd _ (by rfl) (.tmp 10) (.tmp 12) (by rfl) slTag TagD.cells_length TagD.one W0.heap.size (.slice (some ⟨gT22, 0, none⟩) 0 0) [] T (by rfl) (Own.blk0 (H22.out.lT _ rfl).1 (H22.out.lT _ rfl).2.1) At T.length ct 0 w.heap.size (by rfl) (by rfl) (by exact hT.later (hB.trans (H22.out.below.mono (by omega))) (Nat.le_refl _) (Nat.le_refl _)) (by simp; omega) H22.out.below.size ?_
              intro v1 w1 O1 G1 X1
              rw [List.nil_append] at O1
              obtain ⟨A23, k23, rfl, -, -, -⟩ := O1.rd0 TagD.cells_length
              have Hn := H22.out.apT O1 G1 X1
              clear O1 G1 X1
              refine hK9.out _ _ ⟨(Hn.below.cell (by show w.heap.size < _; omega)).trans a0, (Hn.below.cell (by show w.heap.size < _; omega)).trans a1⟩ (fun _ => ?_)
              clear hK9 K9
              (try simp only [Act.put, List.setIfInBounds_toArray, List.set_cons_zero, List.set_cons_succ])
              refine wpAnyH_world _ (fun V => LS W0 K T none none (some (.slice A21 K.length k21)) (some (.slice A23 T.length k23)) (some b20) V ∧ (fun w' => w'.cell? ⟨w.heap.size, 0, none⟩ = some (.slice Ak K.length ck) ∧ w'.cell? ⟨w.heap.size, 1, none⟩ = some (.slice At T.length ct)) V) ⟨Hn, ⟨(Hn.below.cell (by show w.heap.size < _; omega)).trans a0, (Hn.below.cell (by show w.heap.size < _; omega)).trans a1⟩⟩ ?_
              clear Hn
              rintro V23 ⟨h23, _⟩
              have H23 := Lib.hid h23
              clear h23
              clear H22
              refine wpAnyH_take (i := 8) (v := ?_) rfl (by kernel_rfl) (by kernel_rfl) (by kernel_rfl) (fun _ _ _ h => h) (Or.inl ⟨by rfl, ?_⟩) (by assumption) ?_
              rotate_left
              · intro w hSw
                clear hSw
                go_simp
                all_goals (with_reducible rfl)
              change wpAnyH _ _ _ _ _ _ _ (Act.put _ (some 14) _) _
              (try simp only [Act.put, List.setIfInBounds_toArray, List.set_cons_zero, List.set_cons_succ])
              obtain ⟨b1, b2⟩ := H23.out.bX _ rfl
              have z0 : V23.cell? ⟨b20, 0, none⟩ = some (.slice none 0 0) := by rw [cell_of_row _ _ _ _ _ (0, 0) b2]; rfl
              have z1 : V23.cell? ⟨b20, 1, none⟩ = some (.slice none 0 0) := by rw [cell_of_row _ _ _ _ _ (0, 0) b2]; rfl
              have y0 : V23.frozen? ⟨b20, 0, none⟩ = false := frozen_of_row _ _ _ _ _ b2
              have y1 : V23.frozen? ⟨b20, 1, none⟩ = false := frozen_of_row _ _ _ _ _ b2
              have hzb := H23.out.below
              clear b2
              refine wpAnyH_ready (rs := [10]) (by kernel_rfl) (by simp) (AllReadyH.cons (o := _) rfl (fun K hK => ?_) AllReadyH.nil)
              go_simp
              refine hK.out _ _ ⟨(World.cell?_setCell_far _ _ _ _ (by show b20 ≠ w.heap.size; omega)).trans ((World.cell?_setCell_far _ _ _ _ (by show b20 ≠ w.heap.size; omega)).trans (show _ ∧ _ from ⟨(hzb.cell (by show w.heap.size < _; omega)).trans a0, (hzb.cell (by show w.heap.size < _; omega)).trans a1⟩).1), (World.cell?_setCell_far _ _ _ _ (by show b20 ≠ w.heap.size; omega)).trans ((World.cell?_setCell_far _ _ _ _ (by show b20 ≠ w.heap.size; omega)).trans (show _ ∧ _ from ⟨(hzb.cell (by show w.heap.size < _; omega)).trans a0, (hzb.cell (by show w.heap.size < _; omega)).trans a1⟩).2)⟩ (fun _ => ?_)
              clear hK K
              refine wpAnyH_done (by kernel_rfl) ?_ _
              go_wp2_with fail
              go_meet
              case rel => exact ⟨b20, _, _, _, _, rfl, (HL.out.next hzb hz).set b1 hz, LB.made H23.out hz⟩
        · go_simp
          have Hn := H20.out.mkT
          refine hK9.out _ _ ⟨(Hn.below.cell (by show w.heap.size < _; omega)).trans a0, (Hn.below.cell (by show w.heap.size < _; omega)).trans a1⟩ (fun _ => ?_)
          clear hK9 K9
          (try simp only [Act.put, List.setIfInBounds_toArray, List.set_cons_zero, List.set_cons_succ])
          obtain ⟨gT24, hg⟩ : ∃ g, V20.heap.size = g := ⟨_, rfl⟩
          rw [hg] at Hn
          rw [hg]
          clear hg
          refine wpAnyH_world _ (fun V => LS W0 K T (some gK1) (some gT24) none none (some b20) V ∧ (fun w' => w'.cell? ⟨w.heap.size, 0, none⟩ = some (.slice Ak K.length ck) ∧ w'.cell? ⟨w.heap.size, 1, none⟩ = some (.slice At T.length ct)) V) ⟨Hn, ⟨(Hn.below.cell (by show w.heap.size < _; omega)).trans a0, (Hn.below.cell (by show w.heap.size < _; omega)).trans a1⟩⟩ ?_
          clear Hn
          rintro V24 ⟨h24, _⟩
          have H24 := Lib.hid h24
          clear h24
          clear H20
          refine wpAnyH_ready (rs := [3]) (by kernel_rfl) (by simp) (AllReadyH.cons (o := _) rfl (fun K9 hK9 => ?_) (AllReadyH.nil))
          · refine step_append_rd _ (by rfl) (.tmp 6) (.tmp 8) (by rfl) slInt icell_length icell_one W0.heap.size (.slice (some ⟨gK1, 0, none⟩) 0 0) [] K (by rfl) (Own.blk0 (H24.out.lK _ rfl).1 (H24.out.lK _ rfl).2.1) Ak K.length ck 0 w.heap.size (by rfl) (by rfl) (by exact hK.later (hB.trans (H24.out.below.mono (by omega))) (Nat.le_refl _) (Nat.le_refl _)) (by simp; omega) H24.out.below.size ?_
            intro v1 w1 O1 G1 X1
            rw [List.nil_append] at O1
            obtain ⟨A25, k25, rfl, -, -, -⟩ := O1.rd0 icell_length
            have Hn := H24.out.apK O1 G1 X1
            clear O1 G1 X1
            refine hK9.out _ _ ⟨(Hn.below.cell (by show w.heap.size < _; omega)).trans a0, (Hn.below.cell (by show w.heap.size < _; omega)).trans a1⟩ (fun _ => ?_)
            clear hK9 K9
            (try simp only [Act.put, List.setIfInBounds_toArray, List.set_cons_zero, List.set_cons_succ])
            refine wpAnyH_world _ (fun V => LS W0 K T none (some gT24) (some (.slice A25 K.length k25)) none (some b20) V ∧ (fun w' => w'.cell? ⟨w.heap.size, 0, none⟩ = some (.slice Ak K.length ck) ∧ w'.cell? ⟨w.heap.size, 1, none⟩ = some (.slice At T.length ct)) V) ⟨Hn, ⟨(Hn.below.cell (by show w.heap.size < _; omega)).trans a0, (Hn.below.cell (by show w.heap.size < _; omega)).trans a1⟩⟩ ?_
            clear Hn
            rintro V25 ⟨h25, _⟩
            have H25 := Lib.hid h25
            clear h25
            clear H24
            refine wpAnyH_ready (rs := [7]) (by kernel_rfl) (by simp) (AllReadyH.cons (o := _) rfl (fun K9 hK9 => ?_) (AllReadyH.nil))
            · refine step_append_rd _ (by rfl) (.tmp 10) (.tmp 12) (by rfl) slTag TagD.cells_length TagD.one W0.heap.size (.slice (some ⟨gT24, 0, none⟩) 0 0) [] T (by rfl) (Own.blk0 (H25.out.lT _ rfl).1 (H25.out.lT _ rfl).2.1) At T.length ct 0 w.heap.size (by rfl) (by rfl) (by exact hT.later (hB.trans (H25.out.below.mono (by omega))) (Nat.le_refl _) (Nat.le_refl _)) (by simp; omega) H25.out.below.size ?_
              intro v1 w1 O1 G1 X1
              rw [List.nil_append] at O1
              obtain ⟨A26, k26, rfl, -, -, -⟩ := O1.rd0 TagD.cells_length
              have Hn := H25.out.apT O1 G1 X1
              clear O1 G1 X1
              refine hK9.out _ _ ⟨(Hn.below.cell (by show w.heap.size < _; omega)).trans a0, (Hn.below.cell (by show w.heap.size < _; omega)).trans a1⟩ (fun _ => ?_)
              clear hK9 K9
              (try simp only [Act.put, List.setIfInBounds_toArray, List.set_cons_zero, List.set_cons_succ])
              refine wpAnyH_world _ (fun V => LS W0 K T none none (some (.slice A25 K.length k25)) (some (.slice A26 T.length k26)) (some b20) V ∧ (fun w' => w'.cell? ⟨w.heap.size, 0, none⟩ = some (.slice Ak K.length ck) ∧ w'.cell? ⟨w.heap.size, 1, none⟩ = some (.slice At T.length ct)) V) ⟨Hn, ⟨(Hn.below.cell (by show w.heap.size < _; omega)).trans a0, (Hn.below.cell (by show w.heap.size < _; omega)).trans a1⟩⟩ ?_
              clear Hn
              rintro V26 ⟨h26, _⟩
              have H26 := Lib.hid h26
              clear h26
              clear H25
              refine wpAnyH_take (i := 8) (v := ?_) rfl (by kernel_rfl) (by kernel_rfl) (by kernel_rfl) (fun _ _ _ h => h) (Or.inl ⟨by rfl, ?_⟩) (by assumption) ?_
              rotate_left
              · intro w hSw
                clear hSw
                go_simp
                all_goals (with_reducible rfl)
              change wpAnyH _ _ _ _ _ _ _ (Act.put _ (some 14) _) _
              (try simp only [Act.put, List.setIfInBounds_toArray, List.set_cons_zero, List.set_cons_succ])
              obtain ⟨b1, b2⟩ := H26.out.bX _ rfl
              have z0 : V26.cell? ⟨b20, 0, none⟩ = some (.slice none 0 0) := by rw [cell_of_row _ _ _ _ _ (0, 0) b2]; rfl
              have z1 : V26.cell? ⟨b20, 1, none⟩ = some (.slice none 0 0) := by rw [cell_of_row _ _ _ _ _ (0, 0) b2]; rfl
              have y0 : V26.frozen? ⟨b20, 0, none⟩ = false := frozen_of_row _ _ _ _ _ b2
              have y1 : V26.frozen? ⟨b20, 1, none⟩ = false := frozen_of_row _ _ _ _ _ b2
              have hzb := H26.out.below
              clear b2
              refine wpAnyH_ready (rs := [10]) (by kernel_rfl) (by simp) (AllReadyH.cons (o := _) rfl (fun K hK => ?_) AllReadyH.nil)
              go_simp
              refine hK.out _ _ ⟨(World.cell?_setCell_far _ _ _ _ (by show b20 ≠ w.heap.size; omega)).trans ((World.cell?_setCell_far _ _ _ _ (by show b20 ≠ w.heap.size; omega)).trans (show _ ∧ _ from ⟨(hzb.cell (by show w.heap.size < _; omega)).trans a0, (hzb.cell (by show w.heap.size < _; omega)).trans a1⟩).1), (World.cell?_setCell_far _ _ _ _ (by show b20 ≠ w.heap.size; omega)).trans ((World.cell?_setCell_far _ _ _ _ (by show b20 ≠ w.heap.size; omega)).trans (show _ ∧ _ from ⟨(hzb.cell (by show w.heap.size < _; omega)).trans a0, (hzb.cell (by show w.heap.size < _; omega)).trans a1⟩).2)⟩ (fun _ => ?_)
              clear hK K
              refine wpAnyH_done (by kernel_rfl) ?_ _
              go_wp2_with fail
              go_meet
              case rel => exact ⟨b20, _, _, _, _, rfl, (HL.out.next hzb hz).set b1 hz, LB.made H26.out hz⟩
    · go_simp
      have Hn := H9.out.mkT
      refine hK9.out _ _ ⟨(Hn.below.cell (by show w.heap.size < _; omega)).trans a0, (Hn.below.cell (by show w.heap.size < _; omega)).trans a1⟩ (fun _ => ?_)
      clear hK9 K9
      (try simp only [Act.put, List.setIfInBounds_toArray, List.set_cons_zero, List.set_cons_succ])
      obtain ⟨gT27, hg⟩ : ∃ g, V0.heap.size = g := ⟨_, rfl⟩
      rw [hg] at Hn
      rw [hg]
      clear hg
      refine wpAnyH_world _ (fun V => LS W0 K T none (some gT27) none none none V ∧ (fun w' => w'.cell? ⟨w.heap.size, 0, none⟩ = some (.slice Ak K.length ck) ∧ w'.cell? ⟨w.heap.size, 1, none⟩ = some (.slice At T.length ct)) V) ⟨Hn, ⟨(Hn.below.cell (by show w.heap.size < _; omega)).trans a0, (Hn.below.cell (by show w.heap.size < _; omega)).trans a1⟩⟩ ?_
      clear Hn
      rintro V27 ⟨h27, _⟩
      have H27 := Lib.hid h27
      clear h27
      clear H9
      refine wpAnyH_ready (rs := [0, 9]) (by kernel_rfl) (by simp) (AllReadyH.cons (o := _) rfl (fun K9 hK9 => ?_) (AllReadyH.cons (o := _) rfl (fun K9 hK9 => ?_) (AllReadyH.nil)))
      · go_simp
        have Hn := H27.out.mkK
        refine hK9.out _ _ ⟨(Hn.below.cell (by show w.heap.size < _; omega)).trans a0, (Hn.below.cell (by show w.heap.size < _; omega)).trans a1⟩ (fun _ => ?_)
        clear hK9 K9
        (try simp only [Act.put, List.setIfInBounds_toArray, List.set_cons_zero, List.set_cons_succ])
        obtain ⟨gK28, hg⟩ : ∃ g, V27.heap.size = g := ⟨_, rfl⟩
        rw [hg] at Hn
        rw [hg]
        clear hg
        refine wpAnyH_world _ (fun V => LS W0 K T (some gK28) (some gT27) none none none V ∧ (fun w' => w'.cell? ⟨w.heap.size, 0, none⟩ = some (.slice Ak K.length ck) ∧ w'.cell? ⟨w.heap.size, 1, none⟩ = some (.slice At T.length ct)) V) ⟨Hn, ⟨(Hn.below.cell (by show w.heap.size < _; omega)).trans a0, (Hn.below.cell (by show w.heap.size < _; omega)).trans a1⟩⟩ ?_
        clear Hn
        rintro V28 ⟨h28, _⟩
        have H28 := Lib.hid h28
        clear h28
        clear H27
        refine wpAnyH_ready (rs := [3, 9]) (by kernel_rfl) (by simp) (AllReadyH.cons (o := _) rfl (fun K9 hK9 => ?_) (AllReadyH.cons (o := _) rfl (fun K9 hK9 => ?_) (AllReadyH.nil)))
        · refine step_append_rd _ (by rfl) (.tmp 6) (.tmp 8) (by rfl) slInt icell_length icell_one W0.heap.size (.slice (some ⟨gK28, 0, none⟩) 0 0) [] K (by rfl) (Own.blk0 (H28.out.lK _ rfl).1 (H28.out.lK _ rfl).2.1) Ak K.length ck 0 w.heap.size (by rfl) (by rfl) (by exact hK.later (hB.trans (H28.out.below.mono (by omega))) (Nat.le_refl _) (Nat.le_refl _)) (by simp; omega) H28.out.below.size ?_
          intro v1 w1 O1 G1 X1
          rw [List.nil_append] at O1
          obtain ⟨A29, k29, rfl, -, -, -⟩ := O1.rd0 icell_length
          have Hn := H28.out.apK O1 G1 X1
          clear O1 G1 X1
          refine hK9.out _ _ ⟨(Hn.below.cell (by show w.heap.size < _; omega)).trans a0, (Hn.below.cell (by show w.heap.size < _; omega)).trans a1⟩ (fun _ => ?_)
          clear hK9 K9
          (try simp only [Act.put, List.setIfInBounds_toArray, List.set_cons_zero, List.set_cons_succ])
          refine wpAnyH_world _ (fun V => LS W0 K T none (some gT27) (some (.slice A29 K.length k29)) none none V ∧ (fun w' => w'.cell? ⟨w.heap.size, 0, none⟩ = some (.slice Ak K.length ck) ∧ w'.cell? ⟨w.heap.size, 1, none⟩ = some (.slice At T.length ct)) V) ⟨Hn, ⟨(Hn.below.cell (by show w.heap.size < _; omega)).trans a0, (Hn.below.cell (by show w.heap.size < _; omega)).trans a1⟩⟩ ?_
          clear Hn
          rintro V29 ⟨h29, _⟩
          have H29 := Lib.hid h29
          clear h29
          clear H28
          refine wpAnyH_ready (rs := [7, 9]) (by kernel_rfl) (by simp) (AllReadyH.cons (o := _) rfl (fun K9 hK9 => ?_) (AllReadyH.cons (o := _) rfl (fun K9 hK9 => ?_) (AllReadyH.nil)))
          · refine step_append_rd _ (by rfl) (.tmp 10) (.tmp 12) (by rfl) slTag TagD.cells_length TagD.one W0.heap.size (.slice (some ⟨gT27, 0, none⟩) 0 0) [] T (by rfl) (Own.blk0 (H29.out.lT _ rfl).1 (H29.out.lT _ rfl).2.1) At T.length ct 0 w.heap.size (by rfl) (by rfl) (by exact hT.later (hB.trans (H29.out.below.mono (by omega))) (Nat.le_refl _) (Nat.le_refl _)) (by simp; omega) H29.out.below.size ?_
            intro v1 w1 O1 G1 X1
            rw [List.nil_append] at O1
            obtain ⟨A30, k30, rfl, -, -, -⟩ := O1.rd0 TagD.cells_length
            have Hn := H29.out.apT O1 G1 X1
            clear O1 G1 X1
            refine hK9.out _ _ ⟨(Hn.below.cell (by show w.heap.size < _; omega)).trans a0, (Hn.below.cell (by show w.heap.size < _; omega)).trans a1⟩ (fun _ => ?_)
            clear hK9 K9
            (try simp only [Act.put, List.setIfInBounds_toArray, List.set_cons_zero, List.set_cons_succ])
            refine wpAnyH_world _ (fun V => LS W0 K T none none (some (.slice A29 K.length k29)) (some (.slice A30 T.length k30)) none V ∧ (fun w' => w'.cell? ⟨w.heap.size, 0, none⟩ = some (.slice Ak K.length ck) ∧ w'.cell? ⟨w.heap.size, 1, none⟩ = some (.slice At T.length ct)) V) ⟨Hn, ⟨(Hn.below.cell (by show w.heap.size < _; omega)).trans a0, (Hn.below.cell (by show w.heap.size < _; omega)).trans a1⟩⟩ ?_
            clear Hn
            rintro V30 ⟨h30, _⟩
            have H30 := Lib.hid h30
            clear h30
            clear H29
            refine wpAnyH_take (i := 8) (v := ?_) rfl (by kernel_rfl) (by kernel_rfl) (by kernel_rfl) (fun _ _ _ h => h) (Or.inl ⟨by rfl, ?_⟩) (by assumption) ?_
            rotate_left
            · intro w hSw
              clear hSw
              go_simp
              all_goals (with_reducible rfl)
            change wpAnyH _ _ _ _ _ _ _ (Act.put _ (some 14) _) _
            (try simp only [Act.put, List.setIfInBounds_toArray, List.set_cons_zero, List.set_cons_succ])
            refine wpAnyH_ready (rs := [9]) (by kernel_rfl) (by simp) (AllReadyH.cons (o := _) rfl (fun K9 hK9 => ?_) (AllReadyH.nil))
            · go_simp
              have Hn := H30.out.mkB
              refine hK9.out _ _ ⟨(Hn.below.cell (by show w.heap.size < _; omega)).trans a0, (Hn.below.cell (by show w.heap.size < _; omega)).trans a1⟩ (fun _ => ?_)
              clear hK9 K9
              (try simp only [Act.put, List.setIfInBounds_toArray, List.set_cons_zero, List.set_cons_succ])
              obtain ⟨b31, hg⟩ : ∃ g, V30.heap.size = g := ⟨_, rfl⟩
              rw [hg] at Hn
              rw [hg]
              clear hg
              refine wpAnyH_world _ (fun V => LS W0 K T none none (some (.slice A29 K.length k29)) (some (.slice A30 T.length k30)) (some b31) V ∧ (fun w' => w'.cell? ⟨w.heap.size, 0, none⟩ = some (.slice Ak K.length ck) ∧ w'.cell? ⟨w.heap.size, 1, none⟩ = some (.slice At T.length ct)) V) ⟨Hn, ⟨(Hn.below.cell (by show w.heap.size < _; omega)).trans a0, (Hn.below.cell (by show w.heap.size < _; omega)).trans a1⟩⟩ ?_
              clear Hn
              rintro V31 ⟨h31, _⟩
              have H31 := Lib.hid h31
              clear h31
              clear H30
              obtain ⟨b1, b2⟩ := H31.out.bX _ rfl
              have z0 : V31.cell? ⟨b31, 0, none⟩ = some (.slice none 0 0) := by rw [cell_of_row _ _ _ _ _ (0, 0) b2]; rfl
              have z1 : V31.cell? ⟨b31, 1, none⟩ = some (.slice none 0 0) := by rw [cell_of_row _ _ _ _ _ (0, 0) b2]; rfl
              have y0 : V31.frozen? ⟨b31, 0, none⟩ = false := frozen_of_row _ _ _ _ _ b2
              have y1 : V31.frozen? ⟨b31, 1, none⟩ = false := frozen_of_row _ _ _ _ _ b2
              have hzb := H31.out.below
              clear b2
              refine wpAnyH_ready (rs := [10]) (by kernel_rfl) (by simp) (AllReadyH.cons (o := _) rfl (fun K hK => ?_) AllReadyH.nil)
              go_simp
              refine hK.out _ _ ⟨(World.cell?_setCell_far _ _ _ _ (by show b31 ≠ w.heap.size; omega)).trans ((World.cell?_setCell_far _ _ _ _ (by show b31 ≠ w.heap.size; omega)).trans (show _ ∧ _ from ⟨(hzb.cell (by show w.heap.size < _; omega)).trans a0, (hzb.cell (by show w.heap.size < _; omega)).trans a1⟩).1), (World.cell?_setCell_far _ _ _ _ (by show b31 ≠ w.heap.size; omega)).trans ((World.cell?_setCell_far _ _ _ _ (by show b31 ≠ w.heap.size; omega)).trans (show _ ∧ _ from ⟨(hzb.cell (by show w.heap.size < _; omega)).trans a0, (hzb.cell (by show w.heap.size < _; omega)).trans a1⟩).2)⟩ (fun _ => ?_)
              clear hK K
              refine wpAnyH_done (by kernel_rfl) ?_ _
              go_wp2_with fail
              go_meet
              case rel => exact ⟨b31, _, _, _, _, rfl, (HL.out.next hzb hz).set b1 hz, LB.made H31.out hz⟩
          · go_simp
            have Hn := H29.out.mkB
            refine hK9.out _ _ ⟨(Hn.below.cell (by show w.heap.size < _; omega)).trans a0, (Hn.below.cell (by show w.heap.size < _; omega)).trans a1⟩ (fun _ => ?_)
            clear hK9 K9
            (try simp only [Act.put, List.setIfInBounds_toArray, List.set_cons_zero, List.set_cons_succ])
            obtain ⟨b32, hg⟩ : ∃ g, V29.heap.size = g := ⟨_, rfl⟩
            rw [hg] at Hn
            rw [hg]
            clear hg
            refine wpAnyH_world _ (fun V => LS W0 K T none (some gT27) (some (.slice A29 K.length k29)) none (some b32) V ∧ (fun w' => w'.cell? ⟨w.heap.size, 0, none⟩ = some (.slice Ak K.length ck) ∧ w'.cell? ⟨w.heap.size, 1, none⟩ = some (.slice At T.length ct)) V) ⟨Hn, ⟨(Hn.below.cell (by show w.heap.size < _; omega)).trans a0, (Hn.below.cell (by show w.heap.size < _; omega)).trans a1⟩⟩ ?_
            clear Hn
            rintro V32 ⟨h32, _⟩
            have H32 := Lib.hid h32
            clear h32
            clear H29
            refine wpAnyH_ready (rs := [7]) (by kernel_rfl) (by simp) (AllReadyH.cons (o := _) rfl (fun K9 hK9 => ?_) (AllReadyH.nil))
            · refine step_append_rd _ (by rfl) (.tmp 10) (.tmp 12) (by rfl) slTag TagD.cells_length TagD.one W0.heap.size (.slice (some ⟨gT27, 0, none⟩) 0 0) [] T (by rfl) (Own.blk0 (H32.out.lT _ rfl).1 (H32.out.lT _ rfl).2.1) At T.length ct 0 w.heap.size (by rfl) (by rfl) (by exact hT.later (hB.trans (H32.out.below.mono (by omega))) (Nat.le_refl _) (Nat.le_refl _)) (by simp; omega) H32.out.below.size ?_
              intro v1 w1 O1 G1 X1
              rw [List.nil_append] at O1
              obtain ⟨A33, k33, rfl, -, -, -⟩ := O1.rd0 TagD.cells_length
              have Hn := H32.out.apT O1 G1 X1
              clear O1 G1 X1
              refine hK9.out _ _ ⟨(Hn.below.cell (by show w.heap.size < _; omega)).trans a0, (Hn.below.cell (by show w.heap.size < _; omega)).trans a1⟩ (fun _ => ?_)
              clear hK9 K9
              (try simp only [Act.put, List.setIfInBounds_toArray, List.set_cons_zero, List.set_cons_succ])
              refine wpAnyH_world _ (fun V => LS W0 K T none none (some (.slice A29 K.length k29)) (some (.slice A33 T.length k33)) (some b32) V ∧ (fun w' => w'.cell? ⟨w.heap.size, 0, none⟩ = some (.slice Ak K.length ck) ∧ w'.cell? ⟨w.heap.size, 1, none⟩ = some (.slice At T.length ct)) V) ⟨Hn, ⟨(Hn.below.cell (by show w.heap.size < _; omega)).trans a0, (Hn.below.cell (by show w.heap.size < _; omega)).trans a1⟩⟩ ?_
              clear Hn
              rintro V33 ⟨h33, _⟩
              have H33 := Lib.hid h33
              clear h33
              clear H32
              refine wpAnyH_take (i := 8) (v := ?_) rfl (by kernel_rfl) (by kernel_rfl) (by kernel_rfl) (fun _ _ _ h => h) (Or.inl ⟨by rfl, ?_⟩) (by assumption) ?_
              rotate_left
              · intro w hSw
                clear hSw
                go_simp
                all_goals (with_reducible rfl)
              change wpAnyH _ _ _ _ _ _ _ (Act.put _ (some 14) _) _
              (try simp only [Act.put, List.setIfInBounds_toArray, List.set_cons_zero, List.set_cons_succ])
              obtain ⟨b1, b2⟩ := H33.out.bX _ rfl
              have z0 : V33.cell? ⟨b32, 0, none⟩ = some (.slice none 0 0) := by rw [cell_of_row _ _ _ _ _ (0, 0) b2]; rfl
              have z1 : V33.cell? ⟨b32, 1, none⟩ = some (.slice none 0 0) := by rw [cell_of_row _ _ _ _ _ (0, 0) b2]; rfl
              have y0 : V33.frozen? ⟨b32, 0, none⟩ = false := frozen_of_row _ _ _ _ _ b2
              have y1 : V33.frozen? ⟨b32, 1, none⟩ = false := frozen_of_row _ _ _ _ _ b2
              have hzb := H33.out.below
              clear b2
              refine wpAnyH_ready (rs := [10]) (by kernel_rfl) (by simp) (AllReadyH.cons (o := _) rfl (fun K hK => ?_) AllReadyH.nil)
              go_simp
              refine hK.out _ _ ⟨(World.cell?_setCell_far _ _ _ _ (by show b32 ≠ w.heap.size; omega)).trans ((World.cell?_setCell_far _ _ _ _ (by show b32 ≠ w.heap.size; omega)).trans (show _ ∧ _ from ⟨(hzb.cell (by show w.heap.size < _; omega)).trans a0, (hzb.cell (by show w.heap.size < _; omega)).trans a1⟩).1), (World.cell?_setCell_far _ _ _ _ (by show b32 ≠ w.heap.size; omega)).trans ((World.cell?_setCell_far _ _ _ _ (by show b32 ≠ w.heap.size; omega)).trans (show _ ∧ _ from ⟨(hzb.cell (by show w.heap.size < _; omega)).trans a0, (hzb.cell (by show w.heap.size < _; omega)).trans a1⟩).2)⟩ (fun _ => ?_)
              clear hK K
              refine wpAnyH_done (by kernel_rfl) ?_ _
              go_wp2_with fail
              go_meet
              case rel => exact ⟨b32, _, _, _, _, rfl, (HL.out.next hzb hz).set b1 hz, LB.made H33.out hz⟩
        · go_simp
          have Hn := H28.out.mkB
          refine hK9.out _ _ ⟨(Hn.below.cell (by show w.heap.size < _; omega)).trans a0, (Hn.below.cell (by show w.heap.size < _; omega)).trans a1⟩ (fun _ => ?_)
          clear hK9 K9
          (try simp only [Act.put, List.setIfInBounds_toArray, List.set_cons_zero, List.set_cons_succ])
          obtain ⟨b34, hg⟩ : ∃ g, V28.heap.size = g := ⟨_, rfl⟩
          rw [hg] at Hn
          rw [hg]
          clear hg
          refine wpAnyH_world _ (fun V => LS W0 K T (some gK28) (some gT27) none none (some b34) V ∧ (fun w' => w'.cell? ⟨w.heap.size, 0, none⟩ = some (.slice Ak K.length ck) ∧ w'.cell? ⟨w.heap.size, 1, none⟩ = some (.slice At T.length ct)) V) ⟨Hn, ⟨(Hn.below.cell (by show w.heap.size < _; omega)).trans a0, (Hn.below.cell (by show w.heap.size < _; omega)).trans a1⟩⟩ ?_
          clear Hn
          rintro V34 ⟨h34, _⟩
          have H34 := Lib.hid h34
          clear h34
          clear H28
          refine wpAnyH_ready (rs := [3]) (by kernel_rfl) (by simp) (AllReadyH.cons (o := _) rfl (fun K9 hK9 => ?_) (AllReadyH.nil))
          · refine step_append_rd _ (by rfl) (.tmp 6) (.tmp 8) (by rfl) slInt icell_length icell_one W0.heap.size (.slice (some ⟨gK28, 0, none⟩) 0 0) [] K (by rfl) (Own.blk0 (H34.out.lK _ rfl).1 (H34.out.lK _ rfl).2.1) Ak K.length ck 0 w.heap.size (by rfl) (by rfl) (by exact hK.later (hB.trans (H34.out.below.mono (by omega))) (Nat.le_refl _) (Nat.le_refl _)) (by simp; omega) H34.out.below.size ?_
            intro v1 w1 O1 G1 X1
            rw [List.nil_append] at O1
            obtain ⟨A35, k35, rfl, -, -, -⟩ := O1.rd0 icell_length
            have Hn := H34.out.apK O1 G1 X1
            clear O1 G1 X1
            refine hK9.out _ _ ⟨(Hn.below.cell (by show w.heap.size < _; omega)).trans a0, (Hn.below.cell (by show w.heap.size < _; omega)).trans a1⟩ (fun _ => ?_)
            clear hK9 K9
            (try simp only [Act.put, List.setIfInBounds_toArray, List.set_cons_zero, List.set_cons_succ])
            refine wpAnyH_world _ (fun V => LS W0 K T none (some gT27) (some (.slice A35 K.length k35)) none (some b34) V ∧ (fun w' => w'.cell? ⟨w.heap.size, 0, none⟩ = some (.slice Ak K.length ck) ∧ w'.cell? ⟨w.heap.size, 1, none⟩ = some (.slice At T.length ct)) V) ⟨Hn, ⟨(Hn.below.cell (by show w.heap.size < _; omega)).trans a0, (Hn.below.cell (by show w.heap.size < _; omega)).trans a1⟩⟩ ?_
            clear Hn
            rintro V35 ⟨h35, _⟩
            have H35 := Lib.hid h35
            clear h35
            clear H34
            refine wpAnyH_ready (rs := [7]) (by kernel_rfl) (by simp) (AllReadyH.cons (o := _) rfl (fun K9 hK9 => ?_) (AllReadyH.nil))
            · refine step_append_rd _ (by rfl) (.tmp 10) (.tmp 12) (by rfl) slTag TagD.cells_length TagD.one W0.heap.size (.slice (some ⟨gT27, 0, none⟩) 0 0) [] T (by rfl) (Own.blk0 (H35.out.lT _ rfl).1 (H35.out.lT _ rfl).2.1) At T.length ct 0 w.heap.size (by rfl) (by rfl) (by exact hT.later (hB.trans (H35.out.below.mono (by omega))) (Nat.le_refl _) (Nat.le_refl _)) (by simp; omega) H35.out.below.size ?_
              intro v1 w1 O1 G1 X1
              rw [List.nil_append] at O1
              obtain ⟨A36, k36, rfl, -, -, -⟩ := O1.rd0 TagD.cells_length
              have Hn := H35.out.apT O1 G1 X1
              clear O1 G1 X1
              refine hK9.out _ _ ⟨(Hn.below.cell (by show w.heap.size < _; omega)).trans a0, (Hn.below.cell (by show w.heap.size < _; omega)).trans a1⟩ (fun _ => ?_)
              clear hK9 K9
              (try simp only [Act.put, List.setIfInBounds_toArray, List.set_cons_zero, List.set_cons_succ])
              refine wpAnyH_world _ (fun V => LS W0 K T none none (some (.slice A35 K.length k35)) (some (.slice A36 T.length k36)) (some b34) V ∧ (fun w' => w'.cell? ⟨w.heap.size, 0, none⟩ = some (.slice Ak K.length ck) ∧ w'.cell? ⟨w.heap.size, 1, none⟩ = some (.slice At T.length ct)) V) ⟨Hn, ⟨(Hn.below.cell (by show w.heap.size < _; omega)).trans a0, (Hn.below.cell (by show w.heap.size < _; omega)).trans a1⟩⟩ ?_
              clear Hn
              rintro V36 ⟨h36, _⟩
              have H36 := Lib.hid h36
              clear h36
              clear H35
              refine wpAnyH_take (i := 8) (v := ?_) rfl (by kernel_rfl) (by kernel_rfl) (by kernel_rfl) (fun _ _ _ h => h) (Or.inl ⟨by rfl, ?_⟩) (by assumption) ?_
              rotate_left
              · intro w hSw
                clear hSw
                go_simp
                all_goals (with_reducible rfl)
              change wpAnyH _ _ _ _ _ _ _ (Act.put _ (some 14) _) _
              (try simp only [Act.put, List.setIfInBounds_toArray, List.set_cons_zero, List.set_cons_succ])
              obtain ⟨b1, b2⟩ := H36.out.bX _ rfl
              have z0 : V36.cell? ⟨b34, 0, none⟩ = some (.slice none 0 0) := by rw [cell_of_row _ _ _ _ _ (0, 0) b2]; rfl
              have z1 : V36.cell? ⟨b34, 1, none⟩ = some (.slice none 0 0) := by rw [cell_of_row _ _ _ _ _ (0, 0) b2]; rfl
              have y0 : V36.frozen? ⟨b34, 0, none⟩ = false := frozen_of_row _ _ _ _ _ b2
              have y1 : V36.frozen? ⟨b34, 1, none⟩ = false := frozen_of_row _ _ _ _ _ b2
              have hzb := H36.out.below
              clear b2
              refine wpAnyH_ready (rs := [10]) (by kernel_rfl) (by simp) (AllReadyH.cons (o := _) rfl (fun K hK => ?_) AllReadyH.nil)
              go_simp
              refine hK.out _ _ ⟨(World.cell?_setCell_far _ _ _ _ (by show b34 ≠ w.heap.size; omega)).trans ((World.cell?_setCell_far _ _ _ _ (by show b34 ≠ w.heap.size; omega)).trans (show _ ∧ _ from ⟨(hzb.cell (by show w.heap.size < _; omega)).trans a0, (hzb.cell (by show w.heap.size < _; omega)).trans a1⟩).1), (World.cell?_setCell_far _ _ _ _ (by show b34 ≠ w.heap.size; omega)).trans ((World.cell?_setCell_far _ _ _ _ (by show b34 ≠ w.heap.size; omega)).trans (show _ ∧ _ from ⟨(hzb.cell (by show w.heap.size < _; omega)).trans a0, (hzb.cell (by show w.heap.size < _; omega)).trans a1⟩).2)⟩ (fun _ => ?_)
              clear hK K
              refine wpAnyH_done (by kernel_rfl) ?_ _
              go_wp2_with fail
              go_meet
              case rel => exact ⟨b34, _, _, _, _, rfl, (HL.out.next hzb hz).set b1 hz, LB.made H36.out hz⟩
      · go_simp
        have Hn := H27.out.mkB
        refine hK9.out _ _ ⟨(Hn.below.cell (by show w.heap.size < _; omega)).trans a0, (Hn.below.cell (by show w.heap.size < _; omega)).trans a1⟩ (fun _ => ?_)
        clear hK9 K9
        (try simp only [Act.put, List.setIfInBounds_toArray, List.set_cons_zero, List.set_cons_succ])
        obtain ⟨b37, hg⟩ : ∃ g, V27.heap.size = g := ⟨_, rfl⟩
        rw [hg] at Hn
        rw [hg]
        clear hg
        refine wpAnyH_world _ (fun V => LS W0 K T none (some gT27) none none (some b37) V ∧ (fun w' => w'.cell? ⟨w.heap.size, 0, none⟩ = some (.slice Ak K.length ck) ∧ w'.cell? ⟨w.heap.size, 1, none⟩ = some (.slice At T.length ct)) V) ⟨Hn, ⟨(Hn.below.cell (by show w.heap.size < _; omega)).trans a0, (Hn.below.cell (by show w.heap.size < _; omega)).trans a1⟩⟩ ?_
        clear Hn
        rintro V37 ⟨h37, _⟩
        have H37 := Lib.hid h37
        clear h37
        clear H27
        refine wpAnyH_ready (rs := [0]) (by kernel_rfl) (by simp) (AllReadyH.cons (o := _) rfl (fun K9 hK9 => ?_) (AllReadyH.nil))
        · go_simp
          have Hn := H37.out.mkK
          refine hK9.out _ _ ⟨(Hn.below.cell (by show w.heap.size < _; omega)).trans a0, (Hn.below.cell (by show w.heap.size < _; omega)).trans a1⟩ (fun _ => ?_)
          clear hK9 K9
          (try simp only [Act.put, List.setIfInBounds_toArray, List.set_cons_zero, List.set_cons_succ])
          obtain ⟨gK38, hg⟩ : ∃ g, V37.heap.size = g := ⟨_, rfl⟩
          rw [hg] at Hn
          rw [hg]
          clear hg
          refine wpAnyH_world _ (fun V => LS W0 K T (some gK38) (some gT27) none none (some b37) V ∧ (fun w' => w'.cell? ⟨w.heap.size, 0, none⟩ = some (.slice Ak K.length ck) ∧ w'.cell? ⟨w.heap.size, 1, none⟩ = some (.slice At T.length ct)) V) ⟨Hn, ⟨(Hn.below.cell (by show w.heap.size < _; omega)).trans a0, (Hn.below.cell (by show w.heap.size < _; omega)).trans a1⟩⟩ ?_
          clear Hn
          rintro V38 ⟨h38, _⟩
          have H38 := Lib.hid h38
          clear h38
          clear H37
          refine wpAnyH_ready (rs := [3]) (by kernel_rfl) (by simp) (AllReadyH.cons (o := _) rfl (fun K9 hK9 => ?_) (AllReadyH.nil))
          · refine step_append_rd _ (by rfl) (.tmp 6) (.tmp 8) (by rfl) slInt icell_length icell_one W0.heap.size (.slice (some ⟨gK38, 0, none⟩) 0 0) [] K (by rfl) (Own.blk0 (H38.out.lK _ rfl).1 (H38.out.lK _ rfl).2.1) Ak K.length ck 0 w.heap.size (by rfl) (by rfl) (by exact hK.later (hB.trans (H38.out.below.mono (by omega))) (Nat.le_refl _) (Nat.le_refl _)) (by simp; omega) H38.out.below.size ?_
            intro v1 w1 O1 G1 X1
            rw [List.nil_append] at O1
            obtain ⟨A39, k39, rfl, -, -, -⟩ := O1.rd0 icell_length
            have Hn := H38.out.apK O1 G1 X1
            clear O1 G1 X1
            refine hK9.out _ _ ⟨(Hn.below.cell (by show w.heap.size < _; omega)).trans a0, (Hn.below.cell (by show w.heap.size < _; omega)).trans a1⟩ (fun _ => ?_)
            clear hK9 K9
            (try simp only [Act.put, List.setIfInBounds_toArray, List.set_cons_zero, List.set_cons_succ])
            refine wpAnyH_world _ (fun V => LS W0 K T none (some gT27) (some (.slice A39 K.length k39)) none (some b37) V ∧ (fun w' => w'.cell? ⟨w.heap.size, 0, none⟩ = some (.slice Ak K.length ck) ∧ w'.cell? ⟨w.heap.size, 1, none⟩ = some (.slice At T.length ct)) V) ⟨Hn, ⟨(Hn.below.cell (by show w.heap.size < _; omega)).trans a0, (Hn.below.cell (by show w.heap.size < _; omega)).trans a1⟩⟩ ?_
            clear Hn
            rintro V39 ⟨h39, _⟩
            have H39 := Lib.hid h39
            clear h39
            clear H38
            refine wpAnyH_ready (rs := [7]) (by kernel_rfl) (by simp) (AllReadyH.cons (o := _) rfl (fun K9 hK9 => ?_) (AllReadyH.nil))
            · refine step_append_rd _ (by rfl) (.tmp 10) (.tmp 12) (by rfl) slTag TagD.cells_length TagD.one W0.heap.size (.slice (some ⟨gT27, 0, none⟩) 0 0) [] T (by rfl) (Own.blk0 (H39.out.lT _ rfl).1 (H39.out.lT _ rfl).2.1) At T.length ct 0 w.heap.size (by rfl) (by rfl) (by exact hT.later (hB.trans (H39.out.below.mono (by omega))) (Nat.le_refl _) (Nat.le_refl _)) (by simp; omega) H39.out.below.size ?_
              intro v1 w1 O1 G1 X1
              rw [List.nil_append] at O1
              obtain ⟨A40, k40, rfl, -, -, -⟩ := O1.rd0 TagD.cells_length
              have Hn := H39.out.apT O1 G1 X1
              clear O1 G1 X1
              refine hK9.out _ _ ⟨(Hn.below.cell (by show w.heap.size < _; omega)).trans a0, (Hn.below.cell (by show w.heap.size < _; omega)).trans a1⟩ (fun _ => ?_)
              clear hK9 K9
              (try simp only [Act.put, List.setIfInBounds_toArray, List.set_cons_zero, List.set_cons_succ])
              refine wpAnyH_world _ (fun V => LS W0 K T none none (some (.slice A39 K.length k39)) (some (.slice A40 T.length k40)) (some b37) V ∧ (fun w' => w'.cell? ⟨w.heap.size, 0, none⟩ = some (.slice Ak K.length ck) ∧ w'.cell? ⟨w.heap.size, 1, none⟩ = some (.slice At T.length ct)) V) ⟨Hn, ⟨(Hn.below.cell (by show w.heap.size < _; omega)).trans a0, (Hn.below.cell (by show w.heap.size < _; omega)).trans a1⟩⟩ ?_
              clear Hn
              rintro V40 ⟨h40, _⟩
              have H40 := Lib.hid h40
              clear h40
              clear H39
              refine wpAnyH_take (i := 8) (v := ?_) rfl (by kernel_rfl) (by kernel_rfl) (by kernel_rfl) (fun _ _ _ h => h) (Or.inl ⟨by rfl, ?_⟩) (by assumption) ?_
              rotate_left
              · intro w hSw
                clear hSw
                go_simp
                all_goals (with_reducible rfl)
              change wpAnyH _ _ _ _ _ _ _ (Act.put _ (some 14) _) _
              (try simp only [Act.put, List.setIfInBounds_toArray, List.set_cons_zero, List.set_cons_succ])
              obtain ⟨b1, b2⟩ := H40.out.bX _ rfl
              have z0 : V40.cell? ⟨b37, 0, none⟩ = some (.slice none 0 0) := by rw [cell_of_row _ _ _ _ _ (0, 0) b2]; rfl
              have z1 : V40.cell? ⟨b37, 1, none⟩ = some (.slice none 0 0) := by rw [cell_of_row _ _ _ _ _ (0, 0) b2]; rfl
              have y0 : V40.frozen? ⟨b37, 0, none⟩ = false := frozen_of_row _ _ _ _ _ b2
              have y1 : V40.frozen? ⟨b37, 1, none⟩ = false := frozen_of_row _ _ _ _ _ b2
              have hzb := H40.out.below
              clear b2
              refine wpAnyH_ready (rs := [10]) (by kernel_rfl) (by simp) (AllReadyH.cons (o := _) rfl (fun K hK => ?_) AllReadyH.nil)
              go_simp
              refine hK.out _ _ ⟨(World.cell?_setCell_far _ _ _ _ (by show b37 ≠ w.heap.size; omega)).trans ((World.cell?_setCell_far _ _ _ _ (by show b37 ≠ w.heap.size; omega)).trans (show _ ∧ _ from ⟨(hzb.cell (by show w.heap.size < _; omega)).trans a0, (hzb.cell (by show w.heap.size < _; omega)).trans a1⟩).1), (World.cell?_setCell_far _ _ _ _ (by show b37 ≠ w.heap.size; omega)).trans ((World.cell?_setCell_far _ _ _ _ (by show b37 ≠ w.heap.size; omega)).trans (show _ ∧ _ from ⟨(hzb.cell (by show w.heap.size < _; omega)).trans a0, (hzb.cell (by show w.heap.size < _; omega)).trans a1⟩).2)⟩ (fun _ => ?_)
              clear hK K
              refine wpAnyH_done (by kernel_rfl) ?_ _
              go_wp2_with fail
              go_meet
              case rel => exact ⟨b37, _, _, _, _, rfl, (HL.out.next hzb hz).set b1 hz, LB.made H40.out hz⟩
    · go_simp
      have Hn := H9.out.mkB
      refine hK9.out _ _ ⟨(Hn.below.cell (by show w.heap.size < _; omega)).trans a0, (Hn.below.cell (by show w.heap.size < _; omega)).trans a1⟩ (fun _ => ?_)
      clear hK9 K9
      (try simp only [Act.put, List.setIfInBounds_toArray, List.set_cons_zero, List.set_cons_succ])
      obtain ⟨b41, hg⟩ : ∃ g, V0.heap.size = g := ⟨_, rfl⟩
      rw [hg] at Hn
      rw [hg]
      clear hg
      refine wpAnyH_world _ (fun V => LS W0 K T none none none none (some b41) V ∧ (fun w' => w'.cell? ⟨w.heap.size, 0, none⟩ = some (.slice Ak K.length ck) ∧ w'.cell? ⟨w.heap.size, 1, none⟩ = some (.slice At T.length ct)) V) ⟨Hn, ⟨(Hn.below.cell (by show w.heap.size < _; omega)).trans a0, (Hn.below.cell (by show w.heap.size < _; omega)).trans a1⟩⟩ ?_
      clear Hn
      rintro V41 ⟨h41, _⟩
      have H41 := Lib.hid h41
      clear h41
      clear H9
      refine wpAnyH_ready (rs := [0, 4]) (by kernel_rfl) (by simp) (AllReadyH.cons (o := _) rfl (fun K9 hK9 => ?_) (AllReadyH.cons (o := _) rfl (fun K9 hK9 => ?_) (AllReadyH.nil)))
      · go_simp
        have Hn := H41.out.mkK
        refine hK9.out _ _ ⟨(Hn.below.cell (by show w.heap.size < _; omega)).trans a0, (Hn.below.cell (by show w.heap.size < _; omega)).trans a1⟩ (fun _ => ?_)
        clear hK9 K9
        (try simp only [Act.put, List.setIfInBounds_toArray, List.set_cons_zero, List.set_cons_succ])
        obtain ⟨gK42, hg⟩ : ∃ g, V41.heap.size = g := ⟨_, rfl⟩
        rw [hg] at Hn
        rw [hg]
        clear hg
        refine wpAnyH_world _ (fun V => LS W0 K T (some gK42) none none none (some b41) V ∧ (fun w' => w'.cell? ⟨w.heap.size, 0, none⟩ = some (.slice Ak K.length ck) ∧ w'.cell? ⟨w.heap.size, 1, none⟩ = some (.slice At T.length ct)) V) ⟨Hn, ⟨(Hn.below.cell (by show w.heap.size < _; omega)).trans a0, (Hn.below.cell (by show w.heap.size < _; omega)).trans a1⟩⟩ ?_
        clear Hn
        rintro V42 ⟨h42, _⟩
        have H42 := Lib.hid h42
        clear h42
        clear H41
        refine wpAnyH_ready (rs := [3, 4]) (by kernel_rfl) (by simp) (AllReadyH.cons (o := _) rfl (fun K9 hK9 => ?_) (AllReadyH.cons (o := _) rfl (fun K9 hK9 => ?_) (AllReadyH.nil)))
        · refine step_append_rd _ (by rfl) (.tmp 6) (.tmp 8) (by rfl) slInt icell_length icell_one W0.heap.size (.slice (some ⟨gK42, 0, none⟩) 0 0) [] K (by rfl) (Own.blk0 (H42.out.lK _ rfl).1 (H42.out.lK _ rfl).2.1) Ak K.length ck 0 w.heap.size (by rfl) (by rfl) (by exact hK.later (hB.trans (H42.out.below.mono (by omega))) (Nat.le_refl _) (Nat.le_refl _)) (by simp; omega) H42.out.below.size ?_
          intro v1 w1 O1 G1 X1
          rw [List.nil_append] at O1
          obtain ⟨A43, k43, rfl, -, -, -⟩ := O1.rd0 icell_length
          have Hn := H42.out.apK O1 G1 X1
          clear O1 G1 X1
          refine hK9.out _ _ ⟨(Hn.below.cell (by show w.heap.size < _; omega)).trans a0, (Hn.below.cell (by show w.heap.size < _; omega)).trans a1⟩ (fun _ => ?_)
          clear hK9 K9
          (try simp only [Act.put, List.setIfInBounds_toArray, List.set_cons_zero, List.set_cons_succ])
          refine wpAnyH_world _ (fun V => LS W0 K T none none (some (.slice A43 K.length k43)) none (some b41) V ∧ (fun w' => w'.cell? ⟨w.heap.size, 0, none⟩ = some (.slice Ak K.length ck) ∧ w'.cell? ⟨w.heap.size, 1, none⟩ = some (.slice At T.length ct)) V) ⟨Hn, ⟨(Hn.below.cell (by show w.heap.size < _; omega)).trans a0, (Hn.below.cell (by show w.heap.size < _; omega)).trans a1⟩⟩ ?_
          clear Hn
          rintro V43 ⟨h43, _⟩
          have H43 := Lib.hid h43
          clear h43
          clear H42
          refine wpAnyH_ready (rs := [4]) (by kernel_rfl) (by simp) (AllReadyH.cons (o := _) rfl (fun K9 hK9 => ?_) (AllReadyH.nil))
          · go_simp
            have Hn := H43.out.mkT
            refine hK9.out _ _ ⟨(Hn.below.cell (by show w.heap.size < _; omega)).trans a0, (Hn.below.cell (by show w.heap.size < _; omega)).trans a1⟩ (fun _ => ?_)
            clear hK9 K9
            (try simp only [Act.put, List.setIfInBounds_toArray, List.set_cons_zero, List.set_cons_succ])
            obtain ⟨gT44, hg⟩ : ∃ g, V43.heap.size = g := ⟨_, rfl⟩
            rw [hg] at Hn
            rw [hg]
            clear hg
            refine wpAnyH_world _ (fun V => LS W0 K T none (some gT44) (some (.slice A43 K.length k43)) none (some b41) V ∧ (fun w' => w'.cell? ⟨w.heap.size, 0, none⟩ = some (.slice Ak K.length ck) ∧ w'.cell? ⟨w.heap.size, 1, none⟩ = some (.slice At T.length ct)) V) ⟨Hn, ⟨(Hn.below.cell (by show w.heap.size < _; omega)).trans a0, (Hn.below.cell (by show w.heap.size < _; omega)).trans a1⟩⟩ ?_
            clear Hn
            rintro V44 ⟨h44, _⟩
            have H44 := Lib.hid h44
            clear h44
            clear H43
            refine wpAnyH_ready (rs := [7]) (by kernel_rfl) (by simp) (AllReadyH.cons (o := _) rfl (fun K9 hK9 => ?_) (AllReadyH.nil))
            · refine step_append_rd _ (by rfl) (.tmp 10) (.tmp 12) (by rfl) slTag TagD.cells_length TagD.one W0.heap.size (.slice (some ⟨gT44, 0, none⟩) 0 0) [] T (by rfl) (Own.blk0 (H44.out.lT _ rfl).1 (H44.out.lT _ rfl).2.1) At T.length ct 0 w.heap.size (by rfl) (by rfl) (by exact hT.later (hB.trans (H44.out.below.mono (by omega))) (Nat.le_refl _) (Nat.le_refl _)) (by simp; omega) H44.out.below.size ?_
              intro v1 w1 O1 G1 X1
              rw [List.nil_append] at O1
              obtain ⟨A45, k45, rfl, -, -, -⟩ := O1.rd0 TagD.cells_length
              have Hn := H44.out.apT O1 G1 X1
              clear O1 G1 X1
              refine hK9.out _ _ ⟨(Hn.below.cell (by show w.heap.size < _; omega)).trans a0, (Hn.below.cell (by show w.heap.size < _; omega)).trans a1⟩ (fun _ => ?_)
              clear hK9 K9
              (try simp only [Act.put, List.setIfInBounds_toArray, List.set_cons_zero, List.set_cons_succ])
              refine wpAnyH_world _ (fun V => LS W0 K T none none (some (.slice A43 K.length k43)) (some (.slice A45 T.length k45)) (some b41) V ∧ (fun w' => w'.cell? ⟨w.heap.size, 0, none⟩ = some (.slice Ak K.length ck) ∧ w'.cell? ⟨w.heap.size, 1, none⟩ = some (.slice At T.length ct)) V) ⟨Hn, ⟨(Hn.below.cell (by show w.heap.size < _; omega)).trans a0, (Hn.below.cell (by show w.heap.size < _; omega)).trans a1⟩⟩ ?_
              clear Hn
              rintro V45 ⟨h45, _⟩
              have H45 := Lib.hid h45
              clear h45
              clear H44
              refine wpAnyH_take (i := 8) (v := ?_) rfl (by kernel_rfl) (by kernel_rfl) (by kernel_rfl) (fun _ _ _ h => h) (Or.inl ⟨by rfl, ?_⟩) (by assumption) ?_
              rotate_left
              · intro w hSw
                clear hSw
                go_simp
                all_goals (with_reducible rfl)
              change wpAnyH _ _ _ _ _ _ _ (Act.put _ (some 14) _) _
              (try simp only [Act.put, List.setIfInBounds_toArray, List.set_cons_zero, List.set_cons_succ])
              obtain ⟨b1, b2⟩ := H45.out.bX _ rfl
              have z0 : V45.cell? ⟨b41, 0, none⟩ = some (.slice none 0 0) := by rw [cell_of_row _ _ _ _ _ (0, 0) b2]; rfl
              have z1 : V45.cell? ⟨b41, 1, none⟩ = some (.slice none 0 0) := by rw [cell_of_row _ _ _ _ _ (0, 0) b2]; rfl
              have y0 : V45.frozen? ⟨b41, 0, none⟩ = false := frozen_of_row _ _ _ _ _ b2
              have y1 : V45.frozen? ⟨b41, 1, none⟩ = false := frozen_of_row _ _ _ _ _ b2
              have hzb := H45.out.below
              clear b2
              refine wpAnyH_ready (rs := [10]) (by kernel_rfl) (by simp) (AllReadyH.cons (o := _) rfl (fun K hK => ?_) AllReadyH.nil)
              go_simp
              refine hK.out _ _ ⟨(World.cell?_setCell_far _ _ _ _ (by show b41 ≠ w.heap.size; omega)).trans ((World.cell?_setCell_far _ _ _ _ (by show b41 ≠ w.heap.size; omega)).trans (show _ ∧ _ from ⟨(hzb.cell (by show w.heap.size < _; omega)).trans a0, (hzb.cell (by show w.heap.size < _; omega)).trans a1⟩).1), (World.cell?_setCell_far _ _ _ _ (by show b41 ≠ w.heap.size; omega)).trans ((World.cell?_setCell_far _ _ _ _ (by show b41 ≠ w.heap.size; omega)).trans (show _ ∧ _ from ⟨(hzb.cell (by show w.heap.size < _; omega)).trans a0, (hzb.cell (by show w.heap.size < _; omega)).trans a1⟩).2)⟩ (fun _ => ?_)
              clear hK K
              refine wpAnyH_done (by kernel_rfl) ?_ _
              go_wp2_with fail
              go_meet
              case rel => exact ⟨b41, _, _, _, _, rfl, (HL.out.next hzb hz).set b1 hz, LB.made H45.out hz⟩
        · go_simp
          have Hn := H42.out.mkT
          refine hK9.out _ _ ⟨(Hn.below.cell (by show w.heap.size < _; omega)).trans a0, (Hn.below.cell (by show w.heap.size < _; omega)).trans a1⟩ (fun _ => ?_)
          clear hK9 K9
          (try simp only [Act.put, List.setIfInBounds_toArray, List.set_cons_zero, List.set_cons_succ])
          obtain ⟨gT46, hg⟩ : ∃ g, V42.heap.size = g := ⟨_, rfl⟩
          rw [hg] at Hn
          rw [hg]
          clear hg
          refine wpAnyH_world _ (fun V => LS W0 K T (some gK42) (some gT46) none none (some b41) V ∧ (fun w' => w'.cell? ⟨w.heap.size, 0, none⟩ = some (.slice Ak K.length ck) ∧ w'.cell? ⟨w.heap.size, 1, none⟩ = some (.slice At T.length ct)) V) ⟨Hn, ⟨(Hn.below.cell (by show w.heap.size < _; omega)).trans a0, (Hn.below.cell (by show w.heap.size < _; omega)).trans a1⟩⟩ ?_
          clear Hn
          rintro V46 ⟨h46, _⟩
          have H46 := Lib.hid h46
          clear h46
          clear H42
          refine wpAnyH_ready (rs := [3]) (by kernel_rfl) (by simp) (AllReadyH.cons (o := _) rfl (fun K9 hK9 => ?_) (AllReadyH.nil))
          · refine step_append_rd _ (by rfl) (.tmp 6) (.tmp 8) (by rfl) slInt icell_length icell_one W0.heap.size (.slice (some ⟨gK42, 0, none⟩) 0 0) [] K (by rfl) (Own.blk0 (H46.out.lK _ rfl).1 (H46.out.lK _ rfl).2.1) Ak K.length ck 0 w.heap.size (by rfl) (by rfl) (by exact hK.later (hB.trans (H46.out.below.mono (by omega))) (Nat.le_refl _) (Nat.le_refl _)) (by simp; omega) H46.out.below.size ?_
            intro v1 w1 O1 G1 X1
            rw [List.nil_append] at O1
            obtain ⟨A47, k47, rfl, -, -, -⟩ := O1.rd0 icell_length
            have Hn := H46.out.apK O1 G1 X1
            clear O1 G1 X1
            refine hK9.out _ _ ⟨(Hn.below.cell (by show w.heap.size < _; omega)).trans a0, (Hn.below.cell (by show w.heap.size < _; omega)).trans a1⟩ (fun _ => ?_)
            clear hK9 K9
            (try simp only [Act.put, List.setIfInBounds_toArray, List.set_cons_zero, List.set_cons_succ])
            refine wpAnyH_world _ (fun V => LS W0 K T none (some gT46) (some (.slice A47 K.length k47)) none (some b41) V ∧ (fun w' => w'.cell? ⟨w.heap.size, 0, none⟩ = some (.slice Ak K.length ck) ∧ w'.cell? ⟨w.heap.size, 1, none⟩ = some (.slice At T.length ct)) V) ⟨Hn, ⟨(Hn.below.cell (by show w.heap.size < _; omega)).trans a0, (Hn.below.cell (by show w.heap.size < _; omega)).trans a1⟩⟩ ?_
            clear Hn
            rintro V47 ⟨h47, _⟩
            have H47 := Lib.hid h47
            clear h47
            clear H46
            refine wpAnyH_ready (rs := [7]) (by kernel_rfl) (by simp) (AllReadyH.cons (o := _) rfl (fun K9 hK9 => ?_) (AllReadyH.nil))
            · refine step_append_rd _ (by rfl) (.tmp 10) (.tmp 12) (by rfl) slTag TagD.cells_length TagD.one W0.heap.size (.slice (some ⟨gT46, 0, none⟩) 0 0) [] T (by rfl) (Own.blk0 (H47.out.lT _ rfl).1 (H47.out.lT _ rfl).2.1) At T.length ct 0 w.heap.size (by rfl) (by rfl) (by exact hT.later (hB.trans (H47.out.below.mono (by omega))) (Nat.le_refl _) (Nat.le_refl _)) (by simp; omega) H47.out.below.size ?_
              intro v1 w1 O1 G1 X1
              rw [List.nil_append] at O1
              obtain ⟨A48, k48, rfl, -, -, -⟩ := O1.rd0 TagD.cells_length
              have Hn := H47.out.apT O1 G1 X1
              clear O1 G1 X1
              refine hK9.out _ _ ⟨(Hn.below.cell (by show w.heap.size < _; omega)).trans a0, (Hn.below.cell (by show w.heap.size < _; omega)).trans a1⟩ (fun _ => ?_)
              clear hK9 K9
              (try simp only [Act.put, List.setIfInBounds_toArray, List.set_cons_zero, List.set_cons_succ])
              refine wpAnyH_world _ (fun V => LS W0 K T none none (some (.slice A47 K.length k47)) (some (.slice A48 T.length k48)) (some b41) V ∧ (fun w' => w'.cell? ⟨w.heap.size, 0, none⟩ = some (.slice Ak K.length ck) ∧ w'.cell? ⟨w.heap.size, 1, none⟩ = some (.slice At T.length ct)) V) ⟨Hn, ⟨(Hn.below.cell (by show w.heap.size < _; omega)).trans a0, (Hn.below.cell (by show w.heap.size < _; omega)).trans a1⟩⟩ ?_
              clear Hn
              rintro V48 ⟨h48, _⟩
              have H48 := Lib.hid h48
              clear h48
              clear H47
              refine wpAnyH_take (i := 8) (v := ?_) rfl (by kernel_rfl) (by kernel_rfl) (by kernel_rfl) (fun _ _ _ h => h) (Or.inl ⟨by rfl, ?_⟩) (by assumption) ?_
              rotate_left
              · intro w hSw
                clear hSw
                go_simp
                all_goals (with_reducible rfl)
              change wpAnyH _ _ _ _ _ _ _ (Act.put _ (some 14) _) _
              (try simp only [Act.put, List.setIfInBounds_toArray, List.set_cons_zero, List.set_cons_succ])
              obtain ⟨b1, b2⟩ := H48.out.bX _ rfl
              have z0 : V48.cell? ⟨b41, 0, none⟩ = some (.slice none 0 0) := by rw [cell_of_row _ _ _ _ _ (0, 0) b2]; rfl
              have z1 : V48.cell? ⟨b41, 1, none⟩ = some (.slice none 0 0) := by rw [cell_of_row _ _ _ _ _ (0, 0) b2]; rfl
              have y0 : V48.frozen? ⟨b41, 0, none⟩ = false := frozen_of_row _ _ _ _ _ b2
              have y1 : V48.frozen? ⟨b41, 1, none⟩ = false := frozen_of_row _ _ _ _ _ b2
              have hzb := H48.out.below
              clear b2
              refine wpAnyH_ready (rs := [10]) (by kernel_rfl) (by simp) (AllReadyH.cons (o := _) rfl (fun K hK => ?_) AllReadyH.nil)
              go_simp
              refine hK.out _ _ ⟨(World.cell?_setCell_far _ _ _ _ (by show b41 ≠ w.heap.size; omega)).trans ((World.cell?_setCell_far _ _ _ _ (by show b41 ≠ w.heap.size; omega)).trans (show _ ∧ _ from ⟨(hzb.cell (by show w.heap.size < _; omega)).trans a0, (hzb.cell (by show w.heap.size < _; omega)).trans a1⟩).1), (World.cell?_setCell_far _ _ _ _ (by show b41 ≠ w.heap.size; omega)).trans ((World.cell?_setCell_far _ _ _ _ (by show b41 ≠ w.heap.size; omega)).trans (show _ ∧ _ from ⟨(hzb.cell (by show w.heap.size < _; omega)).trans a0, (hzb.cell (by show w.heap.size < _; omega)).trans a1⟩).2)⟩ (fun _ => ?_)
              clear hK K
              refine wpAnyH_done (by kernel_rfl) ?_ _
              go_wp2_with fail
              go_meet
              case rel => exact ⟨b41, _, _, _, _, rfl, (HL.out.next hzb hz).set b1 hz, LB.made H48.out hz⟩
      · go_simp
        have Hn := H41.out.mkT
        refine hK9.out _ _ ⟨(Hn.below.cell (by show w.heap.size < _; omega)).trans a0, (Hn.below.cell (by show w.heap.size < _; omega)).trans a1⟩ (fun _ => ?_)
        clear hK9 K9
        (try simp only [Act.put, List.setIfInBounds_toArray, List.set_cons_zero, List.set_cons_succ])
        obtain ⟨gT49, hg⟩ : ∃ g, V41.heap.size = g := ⟨_, rfl⟩
        rw [hg] at Hn
        rw [hg]
        clear hg
        refine wpAnyH_world _ (fun V => LS W0 K T none (some gT49) none none (some b41) V ∧ (fun w' => w'.cell? ⟨w.heap.size, 0, none⟩ = some (.slice Ak K.length ck) ∧ w'.cell? ⟨w.heap.size, 1, none⟩ = some (.slice At T.length ct)) V) ⟨Hn, ⟨(Hn.below.cell (by show w.heap.size < _; omega)).trans a0, (Hn.below.cell (by show w.heap.size < _; omega)).trans a1⟩⟩ ?_
        clear Hn
        rintro V49 ⟨h49, _⟩
        have H49 := Lib.hid h49
        clear h49
        clear H41
        refine wpAnyH_ready (rs := [0]) (by kernel_rfl) (by simp) (AllReadyH.cons (o := _) rfl (fun K9 hK9 => ?_) (AllReadyH.nil))
        · go_simp
          have Hn := H49.out.mkK
          refine hK9.out _ _ ⟨(Hn.below.cell (by show w.heap.size < _; omega)).trans a0, (Hn.below.cell (by show w.heap.size < _; omega)).trans a1⟩ (fun _ => ?_)
          clear hK9 K9
          (try simp only [Act.put, List.setIfInBounds_toArray, List.set_cons_zero, List.set_cons_succ])
          obtain ⟨gK50, hg⟩ : ∃ g, V49.heap.size = g := ⟨_, rfl⟩
          rw [hg] at Hn
          rw [hg]
          clear hg
          refine wpAnyH_world _ (fun V => LS W0 K T (some gK50) (some gT49) none none (some b41) V ∧ (fun w' => w'.cell? ⟨w.heap.size, 0, none⟩ = some (.slice Ak K.length ck) ∧ w'.cell? ⟨w.heap.size, 1, none⟩ = some (.slice At T.length ct)) V) ⟨Hn, ⟨(Hn.below.cell (by show w.heap.size < _; omega)).trans a0, (Hn.below.cell (by show w.heap.size < _; omega)).trans a1⟩⟩ ?_
          clear Hn
          rintro V50 ⟨h50, _⟩
          have H50 := Lib.hid h50
          clear h50
          clear H49
          refine wpAnyH_ready (rs := [3]) (by kernel_rfl) (by simp) (AllReadyH.cons (o := _) rfl (fun K9 hK9 => ?_) (AllReadyH.nil))
          · refine step_append_rd _ (by rfl) (.tmp 6) (.tmp 8) (by rfl) slInt icell_length icell_one W0.heap.size (.slice (some ⟨gK50, 0, none⟩) 0 0) [] K (by rfl) (Own.blk0 (H50.out.lK _ rfl).1 (H50.out.lK _ rfl).2.1) Ak K.length ck 0 w.heap.size (by rfl) (by rfl) (by exact hK.later (hB.trans (H50.out.below.mono (by omega))) (Nat.le_refl _) (Nat.le_refl _)) (by simp; omega) H50.out.below.size ?_
            intro v1 w1 O1 G1 X1
            rw [List.nil_append] at O1
            obtain ⟨A51, k51, rfl, -, -, -⟩ := O1.rd0 icell_length
            have Hn := H50.out.apK O1 G1 X1
            clear O1 G1 X1
            refine hK9.out _ _ ⟨(Hn.below.cell (by show w.heap.size < _; omega)).trans a0, (Hn.below.cell (by show w.heap.size < _; omega)).trans a1⟩ (fun _ => ?_)
            clear hK9 K9
            (try simp only [Act.put, List.setIfInBounds_toArray, List.set_cons_zero, List.set_cons_succ])
            refine wpAnyH_world _ (fun V => LS W0 K T none (some gT49) (some (.slice A51 K.length k51)) none (some b41) V ∧ (fun w' => w'.cell? ⟨w.heap.size, 0, none⟩ = some (.slice Ak K.length ck) ∧ w'.cell? ⟨w.heap.size, 1, none⟩ = some (.slice At T.length ct)) V) ⟨Hn, ⟨(Hn.below.cell (by show w.heap.size < _; omega)).trans a0, (Hn.below.cell (by show w.heap.size < _; omega)).trans a1⟩⟩ ?_
            clear Hn
            rintro V51 ⟨h51, _⟩
            have H51 := Lib.hid h51
            clear h51
            clear H50
            refine wpAnyH_ready (rs := [7]) (by kernel_rfl) (by simp) (AllReadyH.cons (o := _) rfl (fun K9 hK9 => ?_) (AllReadyH.nil))
            · refine step_append_rd _ (by rfl) (.tmp 10) (.tmp 12) (by rfl) slTag TagD.cells_length TagD.one W0.heap.size (.slice (some ⟨gT49, 0, none⟩) 0 0) [] T (by rfl) (Own.blk0 (H51.out.lT _ rfl).1 (H51.out.lT _ rfl).2.1) At T.length ct 0 w.heap.size (by rfl) (by rfl) (by exact hT.later (hB.trans (H51.out.below.mono (by omega))) (Nat.le_refl _) (Nat.le_refl _)) (by simp; omega) H51.out.below.size ?_
              intro v1 w1 O1 G1 X1
              rw [List.nil_append] at O1
              obtain ⟨A52, k52, rfl, -, -, -⟩ := O1.rd0 TagD.cells_length
              have Hn := H51.out.apT O1 G1 X1
              clear O1 G1 X1
              refine hK9.out _ _ ⟨(Hn.below.cell (by show w.heap.size < _; omega)).trans a0, (Hn.below.cell (by show w.heap.size < _; omega)).trans a1⟩ (fun _ => ?_)
              clear hK9 K9
              (try simp only [Act.put, List.setIfInBounds_toArray, List.set_cons_zero, List.set_cons_succ])
              refine wpAnyH_world _ (fun V => LS W0 K T none none (some (.slice A51 K.length k51)) (some (.slice A52 T.length k52)) (some b41) V ∧ (fun w' => w'.cell? ⟨w.heap.size, 0, none⟩ = some (.slice Ak K.length ck) ∧ w'.cell? ⟨w.heap.size, 1, none⟩ = some (.slice At T.length ct)) V) ⟨Hn, ⟨(Hn.below.cell (by show w.heap.size < _; omega)).trans a0, (Hn.below.cell (by show w.heap.size < _; omega)).trans a1⟩⟩ ?_
              clear Hn
              rintro V52 ⟨h52, _⟩
              have H52 := Lib.hid h52
              clear h52
              clear H51
              refine wpAnyH_take (i := 8) (v := ?_) rfl (by kernel_rfl) (by kernel_rfl) (by kernel_rfl) (fun _ _ _ h => h) (Or.inl ⟨by rfl, ?_⟩) (by assumption) ?_
              rotate_left
              · intro w hSw
                clear hSw
                go_simp
                all_goals (with_reducible rfl)
              change wpAnyH _ _ _ _ _ _ _ (Act.put _ (some 14) _) _
              (try simp only [Act.put, List.setIfInBounds_toArray, List.set_cons_zero, List.set_cons_succ])
              obtain ⟨b1, b2⟩ := H52.out.bX _ rfl
              have z0 : V52.cell? ⟨b41, 0, none⟩ = some (.slice none 0 0) := by rw [cell_of_row _ _ _ _ _ (0, 0) b2]; rfl
              have z1 : V52.cell? ⟨b41, 1, none⟩ = some (.slice none 0 0) := by rw [cell_of_row _ _ _ _ _ (0, 0) b2]; rfl
              have y0 : V52.frozen? ⟨b41, 0, none⟩ = false := frozen_of_row _ _ _ _ _ b2
              have y1 : V52.frozen? ⟨b41, 1, none⟩ = false := frozen_of_row _ _ _ _ _ b2
              have hzb := H52.out.below
              clear b2
              refine wpAnyH_ready (rs := [10]) (by kernel_rfl) (by simp) (AllReadyH.cons (o := _) rfl (fun K hK => ?_) AllReadyH.nil)
              go_simp
              refine hK.out _ _ ⟨(World.cell?_setCell_far _ _ _ _ (by show b41 ≠ w.heap.size; omega)).trans ((World.cell?_setCell_far _ _ _ _ (by show b41 ≠ w.heap.size; omega)).trans (show _ ∧ _ from ⟨(hzb.cell (by show w.heap.size < _; omega)).trans a0, (hzb.cell (by show w.heap.size < _; omega)).trans a1⟩).1), (World.cell?_setCell_far _ _ _ _ (by show b41 ≠ w.heap.size; omega)).trans ((World.cell?_setCell_far _ _ _ _ (by show b41 ≠ w.heap.size; omega)).trans (show _ ∧ _ from ⟨(hzb.cell (by show w.heap.size < _; omega)).trans a0, (hzb.cell (by show w.heap.size < _; omega)).trans a1⟩).2)⟩ (fun _ => ?_)
              clear hK K
              refine wpAnyH_done (by kernel_rfl) ?_ _
              go_wp2_with fail
              go_meet
              case rel => exact ⟨b41, _, _, _, _, rfl, (HL.out.next hzb hz).set b1 hz, LB.made H52.out hz⟩
  case rest =>
    obtain ⟨b, A1, k1, A2, k2, rfl, hA, hLB⟩ := hcut
    have hBc := hA.below
    have hzc := hA.hz
    have e0 := hA.a0
    have e1 := hA.a1
    have t0 := hA.t0
    have t1 := hA.t1
    have t2 := hA.t2
    have t3 := hA.t3
    have t4 := hA.t4
    have HA := Lib.hid hA
    have HLB := Lib.hid hLB
    clear hA hLB a0 a1 HL
    by_cases hc : canMake K T x = true
    · have hv : Hid (learnT K T x = T) := by unfold Hid learnT; rw [hc]; rfl
      go_wp2_with fail
      refine (sCanMake Ak At ck ct K T x _ (by exact hK.later hBc (Nat.le_refl _) (by omega)) (by exact hT.later hBc (Nat.le_refl _) (by omega)) hmK hmT).mono ?_
      rintro e w1 ⟨rfl, hb1⟩
      rw [hc]
      have HA1 := Lib.hid (HA.out.next hb1 hzc)
      have HB1 := Lib.hid (HLB.out.next hb1)
      have hz1 := HA1.out.hz
      have hlb := HB1.out.lb
      have hlW := HB1.out.lW
      clear e0 e1 t0 t1 t2 t3 t4 hb1 HA HLB hBc hzc
      have p0 := HB1.out.o0
      have p1 := HB1.out.o1
      have q0 := HA1.out.c0
      have q1 := HA1.out.c1
      have q2 := HA1.out.cf 0
      have q3 := HA1.out.cf 1
      go_wp2
      refine bodyPost_ret (v := knv A1 K.length k1 A2 T.length k2) (by simp [results, Try.results15, go_sem, *]) rfl ?_
      have hTo : Touch w.heap.size (w.heap.size + 3) w1 ((w1.setCell ⟨w.heap.size + 1 + 1, 0, none⟩ (.slice A1 K.length k1)).setCell ⟨w.heap.size + 1 + 1, 1, none⟩ (.slice A2 T.length k2)) := by (repeat' (first | (with_reducible exact Touch.refl _ _ _) | (with_reducible assumption) | (with_reducible refine Touch.alloc ?_ _) | (with_reducible refine Touch.drew ?_) | (with_reducible refine Touch.drewN ?_ _) | (with_reducible refine Touch.setCell ?_ ?_ ?_ _) | (with_reducible refine Touch.via ?_ (by with_reducible assumption)) | go_size))
      refine RetKn.of_eq hv.out ⟨A1, k1, A2, k2, rfl, ⟨Own.inn ((HB1.out.oK.keep (fun k _ hk1 hk2 => hTo.block k hk2 (.inr hk1))).up (by omega)), Own.inn ((HB1.out.oT.keep (fun k _ hk1 hk2 => hTo.block k hk2 (.inr hk1))).up (by omega)), HB1.out.dis⟩, by have := HA1.out.below; (repeat' (first | (with_reducible exact Below.refl _ _) | (with_reducible assumption) | (with_reducible refine Below.alloc ?_ ?_ _) | (with_reducible refine Below.drew ?_) | (with_reducible refine below_drewN ?_ _) | (with_reducible refine Below.setCell ?_ ?_ _) | (with_reducible refine bvia ?_ (by with_reducible assumption) ?_) | go_size))⟩
    · have hc : canMake K T x = false := by simpa using hc
      go_wp2_with fail
      refine (sCanMake Ak At ck ct K T x _ (by exact hK.later hBc (Nat.le_refl _) (by omega)) (by exact hT.later hBc (Nat.le_refl _) (by omega)) hmK hmT).mono ?_
      rintro e w1 ⟨rfl, hb1⟩
      rw [hc]
      have HA1 := Lib.hid (HA.out.next hb1 hzc)
      have HB1 := Lib.hid (HLB.out.next hb1)
      have hz1 := HA1.out.hz
      have hlb := HB1.out.lb
      have hlW := HB1.out.lW
      clear e0 e1 t0 t1 t2 t3 t4 hb1 HA HLB hBc hzc
      by_cases h3 : T.length < 300
      · have hv : Hid (learnT K T x = T ++ [x]) := by unfold Hid learnT; rw [hc]; simp [h3]
        have hi3 : decide ((T.length : Int) < 300) = true := decide_eq_true (by omega)
        have p0 := HB1.out.o0
        have p1 := HB1.out.o1
        have q0 := HA1.out.c0
        have q1 := HA1.out.c1
        have q2 := HA1.out.cf 0
        have q3 := HA1.out.cf 1
        have p2 := HB1.out.of 1
        have u0 := HA1.out.t0
        have u1 := HA1.out.t1
        have u2 := HA1.out.t2
        have u3 := HA1.out.t3
        have u4 := HA1.out.t4
        have b1 := HA1.out.a1
        go_wp2_with (at_builtin; refine wpList_append_rd _ rfl (.tmp 26) (.tmp 28) rfl slTag TagD.cells_length TagD.one (w.heap.size + 3) (.slice A2 T.length k2) T [x] rfl (HB1.out.oT.alloc _) (some ⟨w1.heap.size, 0, none⟩) 1 1 0 (w1.heap.size + 1) rfl rfl (rd_one _ x _ _ TagD.cells_length rfl _ rfl _ (by omega)) (by simp; unfold maxLen at hmT; omega) (by simp; omega) ?_; intro v3 w3 O3 G3 X3; obtain ⟨A3, k3, rfl, -, -, -⟩ := O3.rd0 TagD.cells_length; have hz3 := G3.size; (try simp at hz3); have fr : ∀ g o, g < w1.heap.size → (g < w.heap.size + 3 ∨ g = b) → w3.cell? ⟨g, o, none⟩ = w1.cell? ⟨g, o, none⟩ ∧ w3.frozen? ⟨g, o, none⟩ = w1.frozen? ⟨g, o, none⟩ := (fun g o hg hn => ⟨(G3.cell_far _ (by simp; omega) (by intro hh; have h9 := HB1.out.nT _ hh.symm; have h8 := (HB1.out.oT.lt hh.symm).1; simp at h9 h8; omega)).trans (World.cell?_alloc_lt w1 _ _ hg), (G3.frozen_far _ (by simp; omega) (by intro hh; have h9 := HB1.out.nT _ hh.symm; have h8 := (HB1.out.oT.lt hh.symm).1; simp at h9 h8; omega)).trans (by simp [World.frozen?, heap_alloc_at]; rw [if_neg (by omega)])⟩); have p0' := (fr b 0 (by omega) (.inr rfl)).1.trans p0; have p1' := (fr b 1 (by omega) (.inr rfl)).1.trans p1; have p2' := (fr b 1 (by omega) (.inr rfl)).2.trans p2; have q0' := (fr (w.heap.size + 1 + 1) 0 (by omega) (.inl (by omega))).1.trans q0; have q1' := (fr (w.heap.size + 1 + 1) 1 (by omega) (.inl (by omega))).1.trans q1; have q2' := (fr (w.heap.size + 1 + 1) 0 (by omega) (.inl (by omega))).2.trans q2; have q3' := (fr (w.heap.size + 1 + 1) 1 (by omega) (.inl (by omega))).2.trans q3; have HO := Lib.hid O3; have HG := Lib.hid G3; clear O3 G3 fr)
        have hq3 : Below w.heap.size w w3 := Below.grown (by have := HA1.out.below; (repeat' (first | (with_reducible exact Below.refl _ _) | (with_reducible assumption) | (with_reducible refine Below.alloc ?_ ?_ _) | (with_reducible refine Below.drew ?_) | (with_reducible refine below_drewN ?_ _) | (with_reducible refine Below.setCell ?_ ?_ _) | (with_reducible refine bvia ?_ (by with_reducible assumption) ?_) | go_size))) HG.out (by simp; omega) (fun k hk => by have := (HB1.out.oT.lt hk).1; omega)
        refine bodyPost_ret (v := knv A1 K.length k1 A3 (T ++ [x]).length k3) (by simp [results, Try.results15, go_sem, *]) rfl ?_
        have hK3 := (HB1.out.oK.alloc (.cells x.arr 23)).grown HG.out (fun k e1 e2 => HB1.out.dis k e2 e1)
        have n1 : ∀ k, (Value.slice A1 K.length k1).ownBlock = some k → w.heap.size + 3 ≤ k ∧ k < w1.heap.size ∧ k ≠ b := fun k hk => ⟨(HB1.out.oK.lt hk).1, (HB1.out.oK.lt hk).2, HB1.out.nK k hk⟩
        have n2 : ∀ k, (Value.slice A2 T.length k2).ownBlock = some k → w.heap.size + 3 ≤ k ∧ k < w1.heap.size ∧ k ≠ b := fun k hk => ⟨(HB1.out.oT.lt hk).1, (HB1.out.oT.lt hk).2, HB1.out.nT k hk⟩
        have n3 : ∀ k, (Value.slice A3 (T ++ [x]).length k3).ownBlock = some k → w.heap.size + 3 ≤ k ∧ k ≠ b ∧ ∀ j, (Value.slice A1 K.length k1).ownBlock = some j → j ≠ k := fun k hk => by
          rcases X3 with h | h
          · rw [h] at hk; have := n2 k hk; exact ⟨this.1, this.2.2, fun j hj e => HB1.out.dis j hj (e ▸ hk)⟩
          · rw [h] at hk; cases hk; simp; exact ⟨by omega, by omega, fun j hj => by have := n1 j hj; omega⟩
        refine RetKn.of_eq hv.out ⟨A1, k1, A3, k3, rfl, ⟨Own.inn ((hK3.keep (fun k hk _ _ => by have := n1 k hk; repeat (rw [Below.heap_setCell _ _ _ _ (by show _ ≠ _; simp; omega)]))).up (by omega)), Own.inn ((HO.out.keep (fun k hk _ _ => by have := n3 k hk; repeat (rw [Below.heap_setCell _ _ _ _ (by show _ ≠ _; simp; omega)]))).up (by omega)), fun k h1 h2 => (n3 k h2).2.2 k h1 rfl⟩, by (repeat' (first | (with_reducible exact Below.refl _ _) | (with_reducible assumption) | (with_reducible refine Below.alloc ?_ ?_ _) | (with_reducible refine Below.drew ?_) | (with_reducible refine below_drewN ?_ _) | (with_reducible refine Below.setCell ?_ ?_ _) | (with_reducible refine bvia ?_ (by with_reducible assumption) ?_) | go_size))⟩
      · have hv : Hid (learnT K T x = T) := by unfold Hid learnT; rw [hc]; simp [h3]
        have hi3 : decide ((T.length : Int) < 300) = false := decide_eq_false (by omega)
        have b1 := HA1.out.a1
        have p0 := HB1.out.o0
        have p1 := HB1.out.o1
        have q0 := HA1.out.c0
        have q1 := HA1.out.c1
        have q2 := HA1.out.cf 0
        have q3 := HA1.out.cf 1
        go_wp2
        refine bodyPost_ret (v := knv A1 K.length k1 A2 T.length k2) (by simp [results, Try.results15, go_sem, *]) rfl ?_
        have hTo : Touch w.heap.size (w.heap.size + 3) w1 ((w1.setCell ⟨w.heap.size + 1 + 1, 0, none⟩ (.slice A1 K.length k1)).setCell ⟨w.heap.size + 1 + 1, 1, none⟩ (.slice A2 T.length k2)) := by (repeat' (first | (with_reducible exact Touch.refl _ _ _) | (with_reducible assumption) | (with_reducible refine Touch.alloc ?_ _) | (with_reducible refine Touch.drew ?_) | (with_reducible refine Touch.drewN ?_ _) | (with_reducible refine Touch.setCell ?_ ?_ ?_ _) | (with_reducible refine Touch.via ?_ (by with_reducible assumption)) | go_size))
        refine RetKn.of_eq hv.out ⟨A1, k1, A2, k2, rfl, ⟨Own.inn ((HB1.out.oK.keep (fun k _ hk1 hk2 => hTo.block k hk2 (.inr hk1))).up (by omega)), Own.inn ((HB1.out.oT.keep (fun k _ hk1 hk2 => hTo.block k hk2 (.inr hk1))).up (by omega)), HB1.out.dis⟩, by have := HA1.out.below; (repeat' (first | (with_reducible exact Below.refl _ _) | (with_reducible assumption) | (with_reducible refine Below.alloc ?_ ?_ _) | (with_reducible refine Below.drew ?_) | (with_reducible refine below_drewN ?_ _) | (with_reducible refine Below.setCell ?_ ?_ _) | (with_reducible refine bvia ?_ (by with_reducible assumption) ?_) | go_size))⟩
end Go.Proofs.Ytomjfhcfellikaa
