/- DrawBetween: for every input. Written by program (drawbet2.py). -/
import Derived.Test.YtkehjlddbikpbaaDrawBet
import Derived.Test.YtkehjlddbikpbaaMid
namespace Go.Proofs.Ytkehjlddbikpbaa
set_option linter.unusedSimpArgs false
set_option linter.unusedVariables false
open Go.RowKit
set_option maxRecDepth 20000 in
set_option maxHeartbeats 4000000 in
theorem DrawBetween_some (A : Option Addr) (cap : Nat) (B : List Int) (w : World) (hr : Rd bcells 1 w 0 w.heap.size A B) (hm : B.length ≤ 1048576) :
    Calls Try.prog 17 #[.slice A B.length cap] w fun e w' => ∃ (a b c : Int) (x : LetterD), e = .returned (.tuple #[rd a b c, x.val]) ∧ x.fText.size ≤ 21 ∧ Below w.heap.size w w' := by
  go_enter Try.func17, Try.ntmps17
  go_wp2_with fail
  refine (l01New_any A cap B _ (by exact hr.later (by (repeat' (first | (with_reducible exact Below.refl _ _) | (with_reducible assumption) | (with_reducible refine Below.alloc ?_ ?_ _) | (with_reducible refine Below.drew ?_) | (with_reducible refine below_drewN ?_ _) | (with_reducible refine Below.setCell ?_ ?_ _) | (with_reducible refine bvia ?_ (by with_reducible assumption) ?_) | go_size))) (Nat.le_refl _) (by go_size)) hm).mono ?_
  rintro e w1 ⟨rfl, c1, hb1⟩
  obtain ⟨hc, hf⟩ := bcell hb1
  have hc1_0 := fun o => hc (w.heap.size) o (by go_size)
  have hf1_0 := fun o => hf (w.heap.size) o (by go_size)
  have hz1_0 : w.heap.size < w1.heap.size := Nat.lt_of_lt_of_le (by go_size) hb1.size
  clear hc hf
  have hz1 := hb1.size
  try simp at hz1
  simp only [World.size_alloc] at c1
  have hB1 : Below w.heap.size w w1 := by (repeat' (first | (with_reducible exact Below.refl _ _) | (with_reducible assumption) | (with_reducible refine Below.alloc ?_ ?_ _) | (with_reducible refine Below.drew ?_) | (with_reducible refine below_drewN ?_ _) | (with_reducible refine Below.setCell ?_ ?_ _) | (with_reducible refine bvia ?_ (by with_reducible assumption) ?_) | go_size))
  obtain ⟨old, hq0, hro⟩ : ∃ old : Array Value, w1.heap[w.heap.size + 1]? = some (.cells old 33 (0, 0)) ∧ Hid (19 = old.size) := by
    refine ⟨_, (hb1.block (w.heap.size + 1) (by simp)).trans (by rw [heap_alloc_at, if_pos (by simp only [World.size_alloc])]), ?_⟩
    rfl
  have HP1 : Hid (w1.heap[w.heap.size]? = some (.cells #[.int .i64 0, .int .i64 0, .int .i64 0] 29 (0, 0))) := (hb1.block w.heap.size (by simp only [World.size_alloc]; omega)).trans (by rw [heap_alloc_at, if_neg (by simp only [World.size_alloc]; omega)]; exact heap_alloc_new w _)
  have HQ1 := Lib.hid hq0
  clear hq0
  obtain ⟨g, hg⟩ : ∃ g, w.heap.size + 1 + 1 = g := ⟨_, rfl⟩
  rw [hg] at c1
  try simp only [World.size_alloc]
  rw [hg]
  have hgl : w.heap.size + 1 < g := by omega
  clear hg hb1
  have hlt := c1.lt
  go_wp2_with fail
  refine (l12Road_some g _ _ _ c1).mono ?_
  rintro e w2 ⟨v2, s2, rfl, ⟨a, b, c, rfl⟩, c2, t2⟩
  have hc2_0 := fun o => t2.cell (p := ⟨w.heap.size, o, none⟩) (by go_size) (by first | exact .inr (show g + 1 ≤ w.heap.size from by omega) | exact .inl (show w.heap.size < g from by omega))
  have hf2_0 := fun o => t2.frozen (p := ⟨w.heap.size, o, none⟩) (by go_size) (by first | exact .inr (show g + 1 ≤ w.heap.size from by omega) | exact .inl (show w.heap.size < g from by omega))
  have hz2_0 : w.heap.size < w2.heap.size := Nat.lt_of_lt_of_le (by go_size) t2.size
  have hz2 := t2.size
  try simp at hz2
  have hB2 := t2.below hB1 (by omega) (by omega)
  have HQ2 := Lib.hid ((t2.block (w.heap.size + 1) (by omega) (.inl (by omega))).trans HQ1.out)
  have HP2 := Lib.hid ((t2.block w.heap.size (by omega) (.inl (by omega))).trans HP1.out)
  clear t2 c1 HQ1 HP1
  go_wp2_with fail
  refine wp_world _ (fun W => (W.cell? ⟨w2.heap.size, 0, none⟩ = some (.int .i64 a) ∧ W.cell? ⟨w2.heap.size, 1, none⟩ = some (.int .i64 b) ∧ W.cell? ⟨w2.heap.size, 2, none⟩ = some (.int .i64 c)) ∧ W.heap[w.heap.size]? = some (.cells #[.int .i64 0, .int .i64 0, .int .i64 0] 29 (0, 0)) ∧ Cur W g ⟨A, cap, B⟩ s2 ∧ W.heap[w.heap.size + 1]? = some (.cells old 33 (0, 0)) ∧ Below w.heap.size w W ∧ w2.heap.size < W.heap.size) ⟨⟨by simp [go_sem], by simp [go_sem], by simp [go_sem]⟩, (Below.heap_alloc _ _ _ (by omega)).trans HP2.out, c2.below (by (repeat' (first | (with_reducible exact Below.refl _ _) | (with_reducible assumption) | (with_reducible refine Below.alloc ?_ ?_ _) | (with_reducible refine Below.drew ?_) | (with_reducible refine below_drewN ?_ _) | (with_reducible refine Below.setCell ?_ ?_ _) | (with_reducible refine bvia ?_ (by with_reducible assumption) ?_) | go_size))), (Below.heap_alloc _ _ _ (by omega)).trans HQ2.out, by (repeat' (first | (with_reducible exact Below.refl _ _) | (with_reducible assumption) | (with_reducible refine Below.alloc ?_ ?_ _) | (with_reducible refine Below.drew ?_) | (with_reducible refine below_drewN ?_ _) | (with_reducible refine Below.setCell ?_ ?_ _) | (with_reducible refine bvia ?_ (by with_reducible assumption) ?_) | go_size)), by go_size⟩ ?_
  rintro W ⟨⟨a0, a1, a2⟩, hP, cW, hQ, hBW, hWz⟩
  have HP := Lib.hid hP
  have HQ := Lib.hid hQ
  clear hc2_0 hc1_0 hf2_0 hf1_0 c2 HQ2 HP2 hQ hP
  refine wp_region_held_drew (S := (fun w' => w'.cell? ⟨w2.heap.size, 0, none⟩ = some (.int .i64 a) ∧ w'.cell? ⟨w2.heap.size, 1, none⟩ = some (.int .i64 b) ∧ w'.cell? ⟨w2.heap.size, 2, none⟩ = some (.int .i64 c))) (by kernel_rfl) (by exact ⟨a0, a1, a2⟩) (fun hHeld => ?_)
  refine wpAnyH_take (i := 0) (v := ?_) rfl (by kernel_rfl) (by kernel_rfl) (by kernel_rfl) (fun _ _ _ h => h) (Or.inl ⟨by rfl, ?_⟩) (by assumption) ?_
  rotate_left
  · intro w hSw
    (try dsimp only at hSw)
    go_simp
    all_goals (with_reducible rfl)
  change wpAnyH _ _ _ _ _ _ _ (Act.put _ (some 10) _) _
  simp only [Act.put, List.setIfInBounds_toArray, List.set_cons_zero, List.set_cons_succ]
  refine wpAnyH_take (i := 1) (v := ?_) rfl (by kernel_rfl) (by kernel_rfl) (by kernel_rfl) (fun _ _ _ h => h) (Or.inl ⟨by rfl, ?_⟩) (by assumption) ?_
  rotate_left
  · intro w hSw
    (try dsimp only at hSw)
    go_simp
    all_goals (with_reducible rfl)
  change wpAnyH _ _ _ _ _ _ _ (Act.put _ (some 11) _) _
  simp only [Act.put, List.setIfInBounds_toArray, List.set_cons_zero, List.set_cons_succ]
  refine wpAnyH_ready (rs := [2]) (by kernel_rfl) (by simp) (AllReadyH.cons (o := _) rfl (fun K hK => ?_) AllReadyH.nil)
  go_simp
  refine (l16Any_some g ⟨A, cap, B⟩ s2 _ (cW.below (by (repeat' (first | (with_reducible exact Below.refl _ _) | (with_reducible assumption) | (with_reducible refine Below.alloc ?_ ?_ _) | (with_reducible refine Below.drew ?_) | (with_reducible refine below_drewN ?_ _) | (with_reducible refine Below.setCell ?_ ?_ _) | (with_reducible refine bvia ?_ (by with_reducible assumption) ?_) | go_size))))).mono ?_
  rintro e w3 ⟨v3, s3, rfl, ⟨x, rfl, hx⟩, c3, t3⟩
  have U : Touch g (g + 1) W w3 := by (repeat' (first | (with_reducible exact Touch.refl _ _ _) | (with_reducible assumption) | (with_reducible refine Touch.alloc ?_ _) | (with_reducible refine Touch.drew ?_) | (with_reducible refine Touch.drewN ?_ _) | (with_reducible refine Touch.setNew ?_ ?_ _) | (with_reducible refine Touch.trans ?_ (by with_reducible assumption)) | (with_reducible refine Touch.via ?_ (by with_reducible assumption)) | go_size | omega))
  have b0 : w3.cell? ⟨w2.heap.size, 0, none⟩ = some (.int .i64 a) := (U.cell hWz (.inr (by show g + 1 ≤ w2.heap.size; omega))).trans a0
  have b1 : w3.cell? ⟨w2.heap.size, 1, none⟩ = some (.int .i64 b) := (U.cell hWz (.inr (by show g + 1 ≤ w2.heap.size; omega))).trans a1
  have b2 : w3.cell? ⟨w2.heap.size, 2, none⟩ = some (.int .i64 c) := (U.cell hWz (.inr (by show g + 1 ≤ w2.heap.size; omega))).trans a2
  have HP3 := Lib.hid ((U.block w.heap.size (by omega) (.inl (by omega))).trans HP.out)
  have q0 : w3.cell? ⟨w.heap.size, 0, none⟩ = some (.int .i64 0) := by rw [cell_of_row _ _ _ _ _ (0, 0) HP3.out]; rfl
  have q1 : w3.cell? ⟨w.heap.size, 1, none⟩ = some (.int .i64 0) := by rw [cell_of_row _ _ _ _ _ (0, 0) HP3.out]; rfl
  have q2 : w3.cell? ⟨w.heap.size, 2, none⟩ = some (.int .i64 0) := by rw [cell_of_row _ _ _ _ _ (0, 0) HP3.out]; rfl
  have qf0 : w3.frozen? ⟨w.heap.size, 0, none⟩ = false := frozen_of_row _ _ _ _ _ HP3.out
  have qf1 : w3.frozen? ⟨w.heap.size, 1, none⟩ = false := frozen_of_row _ _ _ _ _ HP3.out
  have qf2 : w3.frozen? ⟨w.heap.size, 2, none⟩ = false := frozen_of_row _ _ _ _ _ HP3.out
  have HQ3 := Lib.hid ((U.block (w.heap.size + 1) (by omega) (.inl (by omega))).trans HQ.out)
  have hB3 := U.below hBW (by omega) (by omega)
  have hz3 := U.size
  clear a0 a1 a2 HP HQ c3 t3 U cW
  refine hK.out _ _ ⟨b0, b1, b2⟩ (fun hHeld2 => ?_)
  clear hK K hHeld
  (try simp only [Act.put, List.setIfInBounds_toArray, List.set_cons_zero, List.set_cons_succ])
  refine wpAnyH_ready (rs := [3]) (by kernel_rfl) (by simp) (AllReadyH.cons (o := _) rfl (fun K hK => ?_) AllReadyH.nil)
  go_simp
  refine hK.out _ _ (by refine ⟨?_, ?_, ?_⟩ <;> simp [go_sem, b0, b1, b2] <;> omega) (fun hHeld3 => ?_)
  clear hK K hHeld2
  (try simp only [Act.put, List.setIfInBounds_toArray, List.set_cons_zero, List.set_cons_succ])
  refine wpAnyH_ready (rs := [4]) (by kernel_rfl) (by simp) (AllReadyH.cons (o := _) rfl (fun K hK => ?_) AllReadyH.nil)
  have HR := Lib.hid (row_set (i := 2) (v := .int .i64 c) (row_set (i := 1) (v := .int .i64 b) (row_set (i := 0) (v := .int .i64 a) HP3.out)))
  have HQ4 : Hid ((((w3.setCell ⟨w.heap.size, 0, none⟩ (.int .i64 a)).setCell ⟨w.heap.size, 1, none⟩ (.int .i64 b)).setCell ⟨w.heap.size, 2, none⟩ (.int .i64 c)).heap[w.heap.size + 1]? = some (.cells old 33 (0, 0))) := by
    unfold Hid
    rw [Below.heap_setCell _ _ _ _ (by simp), Below.heap_setCell _ _ _ _ (by simp), Below.heap_setCell _ _ _ _ (by simp)]
    exact HQ3.out
  have hB4 : Below w.heap.size w (((w3.setCell ⟨w.heap.size, 0, none⟩ (.int .i64 a)).setCell ⟨w.heap.size, 1, none⟩ (.int .i64 b)).setCell ⟨w.heap.size, 2, none⟩ (.int .i64 c)) := by (repeat' (first | (with_reducible exact Below.refl _ _) | (with_reducible assumption) | (with_reducible refine Below.alloc ?_ ?_ _) | (with_reducible refine Below.drew ?_) | (with_reducible refine below_drewN ?_ _) | (with_reducible refine Below.setCell ?_ ?_ _) | (with_reducible refine bvia ?_ (by with_reducible assumption) ?_) | go_size))
  refine step_store_row rfl rfl 33 (.tmp 3) (.tmp 12) rfl (w.heap.size + 1) rfl 33 _ _ rfl HQ4.out hro.out (by kernel_rfl) (by simp [Value.oneCell']) ?_
  intro wq hgq hgrq hsq
  clear hsq
  refine hK.out _ _ ⟨(hgrq.cell_far _ (by simp; omega) (by simp; omega)).trans hHeld3.1, (hgrq.cell_far _ (by simp; omega) (by simp; omega)).trans hHeld3.2.1, (hgrq.cell_far _ (by simp; omega) (by simp; omega)).trans hHeld3.2.2⟩ (fun hHeld4 => ?_)
  clear hK K hHeld3
  refine wpAnyH_done (by kernel_rfl) ?_ _
  go_wp2
  refine bodyPost_ret (results_cells2 Try.results17 _ _ w.heap.size (w.heap.size + 1) 29 33 #[.int .i64 a, .int .i64 b, .int .i64 c] _ (0, 0) (0, 0) _ _ rfl ((hgrq.block _ (by simp; omega) (by simp)).trans HR.out) rfl hgq Try.underlying29 rfl (by kernel_rfl) Try.underlying33 rfl (by kernel_rfl)) rfl ⟨a, b, c, x, rfl, hx, hB4.grown hgrq (by first | omega | (simp; omega)) (by rintro k ⟨⟩; omega)⟩
end Go.Proofs.Ytkehjlddbikpbaa
