/- l15Tag, l15Known: for every state of the cursor. -/
import Derived.Test.YtomjfhcfellikaaDraw
import Derived.Test.YtomjfhcfellikaaAgg
import Derived.Test.YtomjfhcfellikaaLearnT
import Derived.Test.YtomjfhcfellikaaLast
import Derived.Deep.RegionHeld3
import Derived.Deep.RegionWith
import Derived.Deep.DrawnRows
namespace Go.Proofs.Ytomjfhcfellikaa
set_option linter.unusedSimpArgs false
set_option linter.unusedVariables false
open Go.RowKit

set_option maxHeartbeats 1000000 in
theorem l15Tag_some (g : Nat) (S : Src) (s : Nat × Int) (w : World) (hc : Cur w g S s) :
    Calls Try.prog 51 #[.pointer (some ⟨g, 0, none⟩)] w (DrawP g S w fun _ v => ∃ x : TagD, v = x.val) := by
  have hlt := hc.lt
  go_enter Try.func51, Try.ntmps51
  go_wp2_with fail
  refine (l01Below_some g S s 4 _ (by decide) (hc.below (by (repeat' (first | (with_reducible exact Below.refl _ _) | (with_reducible assumption) | (with_reducible refine Below.alloc ?_ ?_ _) | (with_reducible refine Below.drew ?_) | (with_reducible refine below_drewN ?_ _) | (with_reducible refine Below.setCell ?_ ?_ _) | (with_reducible refine bvia ?_ (by with_reducible assumption) ?_) | go_size))))).mono ?_
  rintro e w1 ⟨v1, s1, rfl, ⟨x1, rfl, p1, q1⟩, c1, t1⟩
  have hc1_0 := fun o => t1.cell (p := ⟨w.heap.size, o, none⟩) (by go_size) (by first | exact .inr (show g + 1 ≤ w.heap.size from by omega) | exact .inl (show w.heap.size < g from by omega))
  have hf1_0 := fun o => t1.frozen (p := ⟨w.heap.size, o, none⟩) (by go_size) (by first | exact .inr (show g + 1 ≤ w.heap.size from by omega) | exact .inl (show w.heap.size < g from by omega))
  have hz1_0 : w.heap.size < w1.heap.size := Nat.lt_of_lt_of_le (by go_size) t1.size
  have hz1 := t1.size
  try simp at hz1
  go_wp2_with fail
  refine (l01Below_some g S s1 3 _ (by decide) c1).mono ?_
  rintro e w2 ⟨v2, s2, rfl, ⟨x2, rfl, p2, q2⟩, c2, t2⟩
  have hc2_0 := fun o => t2.cell (p := ⟨w.heap.size, o, none⟩) (by go_size) (by first | exact .inr (show g + 1 ≤ w.heap.size from by omega) | exact .inl (show w.heap.size < g from by omega))
  have hf2_0 := fun o => t2.frozen (p := ⟨w.heap.size, o, none⟩) (by go_size) (by first | exact .inr (show g + 1 ≤ w.heap.size from by omega) | exact .inl (show w.heap.size < g from by omega))
  have hz2_0 : w.heap.size < w2.heap.size := Nat.lt_of_lt_of_le (by go_size) t2.size
  have hz2 := t2.size
  try simp at hz2
  go_wp2_with fail
  refine (l01Below_some g S s2 3 _ (by decide) c2).mono ?_
  rintro e w3 ⟨v3, s3, rfl, ⟨x3, rfl, p3, q3⟩, c3, t3⟩
  have hc3_0 := fun o => t3.cell (p := ⟨w.heap.size, o, none⟩) (by go_size) (by first | exact .inr (show g + 1 ≤ w.heap.size from by omega) | exact .inl (show w.heap.size < g from by omega))
  have hf3_0 := fun o => t3.frozen (p := ⟨w.heap.size, o, none⟩) (by go_size) (by first | exact .inr (show g + 1 ≤ w.heap.size from by omega) | exact .inl (show w.heap.size < g from by omega))
  have hz3_0 : w.heap.size < w3.heap.size := Nat.lt_of_lt_of_le (by go_size) t3.size
  have hz3 := t3.size
  try simp at hz3
  go_wp2_with fail
  refine (l01Below_some g S s3 4 _ (by decide) c3).mono ?_
  rintro e w4 ⟨v4, s4, rfl, ⟨x4, rfl, p4, q4⟩, c4, t4⟩
  have hc4_0 := fun o => t4.cell (p := ⟨w.heap.size, o, none⟩) (by go_size) (by first | exact .inr (show g + 1 ≤ w.heap.size from by omega) | exact .inl (show w.heap.size < g from by omega))
  have hf4_0 := fun o => t4.frozen (p := ⟨w.heap.size, o, none⟩) (by go_size) (by first | exact .inr (show g + 1 ≤ w.heap.size from by omega) | exact .inl (show w.heap.size < g from by omega))
  have hz4_0 : w.heap.size < w4.heap.size := Nat.lt_of_lt_of_le (by go_size) t4.size
  have hz4 := t4.size
  try simp at hz4
  go_wp2_with fail
  refine (l01Below_some g S s4 4 _ (by decide) c4).mono ?_
  rintro e w5 ⟨v5, s5, rfl, ⟨x5, rfl, p5, q5⟩, c5, t5⟩
  have hc5_0 := fun o => t5.cell (p := ⟨w.heap.size, o, none⟩) (by go_size) (by first | exact .inr (show g + 1 ≤ w.heap.size from by omega) | exact .inl (show w.heap.size < g from by omega))
  have hf5_0 := fun o => t5.frozen (p := ⟨w.heap.size, o, none⟩) (by go_size) (by first | exact .inr (show g + 1 ≤ w.heap.size from by omega) | exact .inl (show w.heap.size < g from by omega))
  have hz5_0 : w.heap.size < w5.heap.size := Nat.lt_of_lt_of_le (by go_size) t5.size
  have hz5 := t5.size
  try simp at hz5
  go_wp2
  refine bodyPost_ret (v := (⟨x1, 1 + x2, 1 + x3, x4, x5⟩ : TagD).val) (by simp [results, Try.results51, go_sem, *]) rfl ?_
  exact ⟨_, s5, rfl, ⟨⟨x1, 1 + x2, 1 + x3, x4, x5⟩, rfl⟩, c5.keep (lo := w.heap.size) (hi := w.heap.size + 1) (by (repeat' (first | (with_reducible exact Touch.refl _ _ _) | (with_reducible assumption) | (with_reducible refine Touch.alloc ?_ _) | (with_reducible refine Touch.drew ?_) | (with_reducible refine Touch.drewN ?_ _) | (with_reducible refine Touch.setCell ?_ ?_ ?_ _) | (with_reducible refine Touch.via ?_ (by with_reducible assumption)) | go_size))) hlt, by (repeat' (first | (with_reducible exact Touch.refl _ _ _) | (with_reducible assumption) | (with_reducible refine Touch.alloc ?_ _) | (with_reducible refine Touch.drew ?_) | (with_reducible refine Touch.drewN ?_ _) | (with_reducible refine Touch.setNew ?_ ?_ _) | (with_reducible refine Touch.trans ?_ (by with_reducible assumption)) | (with_reducible refine Touch.via ?_ (by with_reducible assumption)) | go_size | omega))⟩
/-- The boxes of l15Known: its result's, and the Known that is laid out. -/
structure KD (w : World) (vK vT : Value) (W : World) : Prop where
  z : w.heap.size + 2 ≤ W.heap.size
  q0 : W.cell? ⟨w.heap.size, 0, none⟩ = some (.slice none 0 0)
  q1 : W.cell? ⟨w.heap.size, 1, none⟩ = some (.slice none 0 0)
  qf : ∀ o, W.frozen? ⟨w.heap.size, o, none⟩ = false
  k0 : W.cell? ⟨w.heap.size + 1, 0, none⟩ = some vK
  k1 : W.cell? ⟨w.heap.size + 1, 1, none⟩ = some vT
  kf : ∀ o, W.frozen? ⟨w.heap.size + 1, o, none⟩ = false
section
variable {w W W' : World} {vK vT : Value}
theorem cellAtB {W W' : World} {b : Nat} (h : W'.heap[b]? = W.heap[b]?) (o : Nat) : W'.cell? ⟨b, o, none⟩ = W.cell? ⟨b, o, none⟩ := by
  unfold World.cell?; rw [show (Addr.mk b o none).block = b from rfl, h]
theorem frozenAtB {W W' : World} {b : Nat} (h : W'.heap[b]? = W.heap[b]?) (o : Nat) : W'.frozen? ⟨b, o, none⟩ = W.frozen? ⟨b, o, none⟩ := by
  unfold World.frozen?; rw [show (Addr.mk b o none).block = b from rfl, h]
theorem KD.keep (h : KD w vK vT W) (hz : W.heap.size ≤ W'.heap.size) (h0 : W'.heap[w.heap.size]? = W.heap[w.heap.size]?) (h1 : W'.heap[w.heap.size + 1]? = W.heap[w.heap.size + 1]?) : KD w vK vT W' :=
  ⟨Nat.le_trans h.z hz, (cellAtB h0 0).trans h.q0, (cellAtB h0 1).trans h.q1, fun o => (frozenAtB h0 o).trans (h.qf o), (cellAtB h1 0).trans h.k0, (cellAtB h1 1).trans h.k1, fun o => (frozenAtB h1 o).trans (h.kf o)⟩
theorem KD.next (h : KD w vK vT W) (hb : Below (w.heap.size + 2) W W') : KD w vK vT W' := h.keep hb.size (hb.block _ (by omega)) (hb.block _ (by omega))
theorem KD.touch (h : KD w vK vT W) {lo hi : Nat} (ht : Touch lo hi W W') (hh : hi ≤ w.heap.size) : KD w vK vT W' := by
  have := h.z
  exact h.keep ht.size (ht.block _ (by omega) (.inr (by omega))) (ht.block _ (by omega) (.inr (by omega)))
theorem KD.grown (h : KD w vK vT W) {row : Option Nat} (G : W.grownBy W' row) (hr : ∀ k, row = some k → w.heap.size + 2 ≤ k) : KD w vK vT W' := by
  have := h.z
  exact h.keep G.size (G.block _ (by omega) (fun e => by have := hr _ e.symm; omega)) (G.block _ (by omega) (fun e => by have := hr _ e.symm; omega))
theorem KD.setK (h : KD w vK vT W) (v : Value) : KD w v vT (W.setCell ⟨w.heap.size + 1, 0, none⟩ v) :=
  ⟨by simpa using h.z, (World.cell?_setCell_far _ _ _ _ (by simp)).trans h.q0, (World.cell?_setCell_far _ _ _ _ (by simp)).trans h.q1, fun o => by rw [World.frozen?_setCell]; exact h.qf o, World.cell?_setCell_same _ _ _ h.k0, (World.cell?_setCell_other _ _ _ _ (by simp)).trans h.k1, fun o => by rw [World.frozen?_setCell]; exact h.kf o⟩
theorem KD.set (h : KD w vK vT W) (v u : Value) : KD w v u ((W.setCell ⟨w.heap.size + 1, 0, none⟩ v).setCell ⟨w.heap.size + 1, 1, none⟩ u) := by
  have h' := h.setK v
  exact ⟨by simpa using h.z, (World.cell?_setCell_far _ _ _ _ (by simp)).trans h'.q0, (World.cell?_setCell_far _ _ _ _ (by simp)).trans h'.q1, fun o => by rw [World.frozen?_setCell]; exact h'.qf o, (World.cell?_setCell_other _ _ _ _ (by simp)).trans h'.k0, World.cell?_setCell_same _ _ _ h'.k1, fun o => by rw [World.frozen?_setCell]; exact h'.kf o⟩
end
theorem Own.setBelow {α : Type} {c : α → List Value} {sz base : Nat} {e : TypeId} {v : Value} {L : List α} {w : World} (h : Own w base e c sz v L) {p : Addr} (hp : p.block < base) (u : Value) : Own (w.setCell p u) base e c sz v L :=
  h.keep fun k _ h1 _ => Below.heap_setCell _ _ _ _ (by omega)
set_option maxHeartbeats 4000000 in
theorem l15Known_some (g : Nat) (S : Src) (s : Nat × Int) (w : World) (hc : Cur w g S s) :
    Calls Try.prog 49 #[.pointer (some ⟨g, 0, none⟩)] w (DrawP g S w fun w' v => ∃ Ak ck At ct K T, v = knv Ak K.length ck At T.length ct ∧ KnV w' w.heap.size w'.heap.size (.slice Ak K.length ck) (.slice At T.length ct) K T ∧ K.length ≤ 2 ∧ T.length ≤ 4) := by
  have hlt := hc.lt
  go_enter Try.func49, Try.ntmps49
  go_wp2_with fail
  go_loopw [4] (fun i wr => ∃ (k : Nat) (K : List Int) (v : Value) (s : Nat × Int), i = .int .i64 k ∧ K.length = k ∧ k ≤ 2 ∧ KD w v (.slice none 0 0) wr ∧ Own wr (w.heap.size + 2) 3 icell 1 v K ∧ Cur wr g S s ∧ Touch g (g + 1) w wr) (fun i _ => 2 - (intOf i).toNat)
  case atStart =>
    refine ⟨0, [], .slice none 0 0, s, rfl, rfl, by omega, ?_, Own.nil _ _ _, hc.below (by (repeat' (first | (with_reducible exact Below.refl _ _) | (with_reducible assumption) | (with_reducible refine Below.alloc ?_ ?_ _) | (with_reducible refine Below.drew ?_) | (with_reducible refine below_drewN ?_ _) | (with_reducible refine Below.setCell ?_ ?_ _) | (with_reducible refine bvia ?_ (by with_reducible assumption) ?_) | go_size))), by (repeat' (first | (with_reducible exact Touch.refl _ _ _) | (with_reducible assumption) | (with_reducible refine Touch.alloc ?_ _) | (with_reducible refine Touch.drew ?_) | (with_reducible refine Touch.drewN ?_ _) | (with_reducible refine Touch.setNew ?_ ?_ _) | (with_reducible refine Touch.trans ?_ (by with_reducible assumption)) | (with_reducible refine Touch.via ?_ (by with_reducible assumption)) | go_size | omega))⟩
    exact ⟨by simp, by simp [go_sem], by simp [go_sem], fun o => by simp [go_sem], by simp [go_sem], by simp [go_sem], fun o => by simp [go_sem]⟩
  case round =>
    obtain ⟨k, K, v, s, rfl, hK, hk2, hD, O, hC, hT⟩ := hrel
    have hz0 := hT.size
    go_wp2_with fail
    refine (l01Below_some g S s 3 _ (by decide) hC).mono ?_
    rintro e w1 ⟨v1, s1, rfl, ⟨x, rfl, p1, q1⟩, c1, t1⟩
    have hz1 := t1.size
    have hK9 : K.length ≤ 2 := by omega
    have O1 := O.touch t1 (by omega)
    have D1 := hD.touch t1 (by omega)
    have hT1 := hT.trans t1
    clear O hT hC t1 hD
    by_cases hlt2 : (k : Int) < x
    · have k0 := D1.k0
      have kf0 := D1.kf 0
      have hD1 := Lib.hid D1
      have HO1 := Lib.hid O1
      have hz2' : w.heap.size + 2 ≤ w1.heap.size := D1.z
      clear D1 O1
      go_wp2_with fail
      have HS0 : (World.drew w1).cell? ⟨w.heap.size + 1, 0, none⟩ = some v := k0
      refine wp_region_but 8 (fun w' => w'.cell? ⟨w.heap.size + 1, 0, none⟩ = some v) (by kernel_rfl) ?_
      refine AnyBut.take (i := 0) (v := ?_) rfl (by kernel_rfl) (by kernel_rfl) (by kernel_rfl) (by kernel_rfl) (fun _ _ _ h => h) (Or.inl ⟨by rfl, ?_⟩) HS0 ?_
      rotate_left
      · intro w' hSw
        obtain q0 := hSw
        go_simp
        all_goals (with_reducible rfl)
      change AnyBut _ _ _ _ _ _ _ _ (Act.put _ (some 13) _) _
      (try simp only [Act.put, List.setIfInBounds_toArray, List.set_cons_zero, List.set_cons_succ])
      refine AnyBut.take (i := 1) (v := ?_) rfl (by kernel_rfl) (by kernel_rfl) (by kernel_rfl) (by kernel_rfl) (fun _ _ _ h => h) (Or.inl ⟨by rfl, ?_⟩) HS0 ?_
      rotate_left
      · intro w' hSw
        obtain q0 := hSw
        go_simp
        all_goals (with_reducible rfl)
      change AnyBut _ _ _ _ _ _ _ _ (Act.put _ (some 14) _) _
      (try simp only [Act.put, List.setIfInBounds_toArray, List.set_cons_zero, List.set_cons_succ])
      refine AnyBut.take (i := 2) (v := ?_) rfl (by kernel_rfl) (by kernel_rfl) (by kernel_rfl) (by kernel_rfl) (fun _ _ _ h => h) (Or.inl ⟨by rfl, ?_⟩) HS0 ?_
      rotate_left
      · intro w' hSw
        obtain q0 := hSw
        go_simp
        all_goals (with_reducible rfl)
      change AnyBut _ _ _ _ _ _ _ _ (Act.put _ (some 15) _) _
      (try simp only [Act.put, List.setIfInBounds_toArray, List.set_cons_zero, List.set_cons_succ])
      refine AnyBut.one (i := 3) rfl (by kernel_rfl) (fun K9 hK9 => ?_)
      go_simp
      refine (l01Below_some g S s1 3 _ (by decide) (c1.below (by (repeat' (first | (with_reducible exact Below.refl _ _) | (with_reducible assumption) | (with_reducible refine Below.alloc ?_ ?_ _) | (with_reducible refine Below.drew ?_) | (with_reducible refine below_drewN ?_ _) | (with_reducible refine Below.setCell ?_ ?_ _) | (with_reducible refine bvia ?_ (by with_reducible assumption) ?_) | go_size))))).mono ?_
      rintro e w2 ⟨v2, s2, rfl, ⟨x2, rfl, p2, q2⟩, c2, t2⟩
      have T2 : Touch g (g + 1) w1 w2 := (Touch.drew (Touch.refl _ _ _)).trans t2
      have hz2 : w1.heap.size ≤ w2.heap.size := T2.size
      have k0' : w2.cell? ⟨w.heap.size + 1, 0, none⟩ = some v := (T2.cell (by show w.heap.size + 1 < _; omega) (.inr (by show g + 1 ≤ w.heap.size + 1; omega))).trans k0
      clear t2
      refine hK9 _ _ (fun h9 => k0') ?_
      clear hK9 K9
      (try simp only [Act.put, List.setIfInBounds_toArray, List.set_cons_zero, List.set_cons_succ])
      refine AnyBut.one (i := 4) rfl (by kernel_rfl) (fun K9 hK9 => ?_)
      go_simp
      
      refine hK9 _ _ (fun h9 => k0') ?_
      clear hK9 K9
      (try simp only [Act.put, List.setIfInBounds_toArray, List.set_cons_zero, List.set_cons_succ])
      refine AnyBut.one (i := 5) rfl (by kernel_rfl) (fun K9 hK9 => ?_)
      go_simp
      
      refine hK9 _ _ (fun h9 => (World.cell?_alloc_lt _ _ _ (by show w.heap.size + 1 < _; omega)).trans k0') ?_
      clear hK9 K9
      (try simp only [Act.put, List.setIfInBounds_toArray, List.set_cons_zero, List.set_cons_succ])
      obtain ⟨x3, hx3⟩ : ∃ x3, IntKind.i64.wrap (1 + x2) = x3 := ⟨_, rfl⟩
      try rw [hx3]
      clear hx3
      refine AnyBut.one (i := 6) rfl (by kernel_rfl) (fun K9 hK9 => ?_)
      refine step_append_rd _ (by rfl) (.tmp 14) (.tmp 18) (by rfl) slInt icell_length icell_one (w.heap.size + 2) v K [x3] (by rfl) ((HO1.out.touch T2 (by omega)).alloc _) (some ⟨w2.heap.size, 0, none⟩) 1 1 0 (w2.heap.size + 1) (by rfl) (by rfl) (rd_one _ (x3) _ _ icell_length rfl _ (by rfl) _ (by omega)) (by simp; omega) (by simp; omega) ?_
      intro v3 w3 O3 G3 X3
      obtain ⟨A3, k3, rfl, -, -, -⟩ := O3.rd0 icell_length
      have hz3 := G3.size
      try simp at hz3
      have hl3 : (K ++ [x3]).length = k + 1 := by rw [List.length_append, hK]; rfl
      rw [hl3] at O3
      have D3 : KD w v (.slice none 0 0) w3 := ((hD1.out.touch T2 (by omega)).keep (W' := w2.alloc _) (by simp) (Below.heap_alloc _ _ _ (by omega)) (Below.heap_alloc _ _ _ (by omega))).grown G3 (fun k hk => (HO1.out.lt hk).1)
      have c3 : Cur w3 g S s2 := (c2.below (by (repeat' (first | (with_reducible exact Below.refl _ _) | (with_reducible assumption) | (with_reducible refine Below.alloc ?_ ?_ _) | (with_reducible refine Below.drew ?_) | (with_reducible refine below_drewN ?_ _) | (with_reducible refine Below.setCell ?_ ?_ _) | (with_reducible refine bvia ?_ (by with_reducible assumption) ?_) | go_size)) : Below w2.heap.size w2 (w2.alloc _))).keep (lo := w.heap.size + 2) (hi := w3.heap.size) ((Touch.refl _ _ _).grown G3 (fun k hk => ⟨(HO1.out.lt hk).1, by have := (HO1.out.lt hk).2; omega⟩)) (by omega)
      have hT3 : Touch g (g + 1) w w3 := (Touch.alloc (hT1.trans T2) _).grownNew G3 (fun k hk => by have := (HO1.out.lt hk).1; omega)
      have hlb3 : w.heap.size + 1 < w3.heap.size := by omega
      have k03 := D3.k0
      have kf3 := D3.kf 0
      have HO3 := Lib.hid O3
      clear O3 G3 X3
      refine hK9 _ _ (fun h9 => k03) ?_
      clear hK9 K9
      (try simp only [Act.put, List.setIfInBounds_toArray, List.set_cons_zero, List.set_cons_succ])
      refine AnyBut.one (i := 7) rfl (by kernel_rfl) (fun K9 hK9 => ?_)
      go_simp
      refine hK9 _ _ (fun h9 => k03) ?_
      clear hK9 K9
      (try simp only [Act.put, List.setIfInBounds_toArray, List.set_cons_zero, List.set_cons_succ])
      refine AnyBut.one (i := 8) rfl (by kernel_rfl) (fun K9 hK9 => ?_)
      go_simp
      
      refine hK9 _ _ (fun h9 => absurd rfl h9) ?_
      clear hK9 K9
      (try simp only [Act.put, List.setIfInBounds_toArray, List.set_cons_zero, List.set_cons_succ])
      refine AnyBut.done (by kernel_rfl) ?_ _
      all_goals (go_wp2; go_roundw; (case rel => exact ⟨k + 1, K ++ [x3], .slice A3 (k + 1) k3, s2, by go_num, hl3, by omega, D3.setK _, HO3.out.setBelow (p := ⟨w.heap.size + 1, 0, none⟩) (by show w.heap.size + 1 < w.heap.size + 2; omega) _, c3.keep (lo := w.heap.size) (hi := w.heap.size + 2) ((Touch.refl _ _ _).setCell (p := ⟨w.heap.size + 1, 0, none⟩) (by show w.heap.size ≤ w.heap.size + 1; omega) (by show w.heap.size + 1 < w.heap.size + 2; omega) _) (by omega), hT3.setNew (p := ⟨w.heap.size + 1, 0, none⟩) (by show w.heap.size ≤ w.heap.size + 1; omega) _⟩); (case measure => (simp [intOf]; omega)))
    · clear hK
      have hKn : KnV w1 (w.heap.size + 2) w1.heap.size v (.slice none 0 0) K [] := ⟨O1.inn, (Own.nil _ _ _).inn, fun _ _ h => by cases h⟩
      have HKN := Lib.hid hKn
      have HD1 := Lib.hid D1
      have hz2' : w.heap.size + 2 ≤ w1.heap.size := D1.z
      clear hKn O1 D1
      go_wp2_with fail
      go_loopw [5] (fun i wr => ∃ (k : Nat) (T : List TagD) (vK vT : Value) (s : Nat × Int), i = .int .i64 k ∧ T.length ≤ k ∧ k ≤ 4 ∧ KD w vK vT wr ∧ KnV wr (w.heap.size + 2) wr.heap.size vK vT K T ∧ Cur wr g S s ∧ Touch g (g + 1) w wr) (fun i _ => 4 - (intOf i).toNat)
      case atStart => exact ⟨0, [], v, .slice none 0 0, s1, rfl, Nat.le_refl _, by omega, HD1.out, HKN.out, c1, hT1⟩
      case round =>
        obtain ⟨k, T, vK, vT, s, rfl, hTl, hk4, hD, hKn, hC, hT⟩ := hrel
        have hzr := hD.z
        go_wp2_with fail
        refine (l01Below_some g S s 5 _ (by decide) hC).mono ?_
        rintro e w4 ⟨v4, s4, rfl, ⟨x4, rfl, p4, q4⟩, c4, t4⟩
        have hz4 := t4.size
        have KN4 := (hKn.keep (w' := w4) (fun k h1 h2 => t4.block k h2 (.inr (by omega)))).wide (Nat.le_refl _) hz4
        have D4 := hD.touch t4 (by omega)
        have hT4 := hT.trans t4
        clear hT hC t4 hD hKn
        obtain ⟨Ak, ck, rfl, -, -, -⟩ := KN4.1.1.rd0 icell_length
        obtain ⟨At, ct, rfl, -, -, -⟩ := KN4.2.1.1.rd0 TagD.cells_length
        have k0 := D4.k0
        have k1 := D4.k1
        have hD4 := Lib.hid D4
        have HKN4 := Lib.hid KN4
        have hz4' : w.heap.size + 2 ≤ w4.heap.size := D4.z
        clear D4 KN4
        by_cases hlt4 : (k : Int) < x4
        · go_wp2_with fail
          have HS0 : (World.drew w4).cell? ⟨w.heap.size + 1, 0, none⟩ = some (.slice Ak K.length ck) ∧ (World.drew w4).cell? ⟨w.heap.size + 1, 1, none⟩ = some (.slice At T.length ct) := ⟨k0, k1⟩
          refine wp_region_but 4 (fun w' => w'.cell? ⟨w.heap.size + 1, 0, none⟩ = some (.slice Ak K.length ck) ∧ w'.cell? ⟨w.heap.size + 1, 1, none⟩ = some (.slice At T.length ct)) (by kernel_rfl) ?_
          refine AnyBut.take (i := 0) (v := ?_) rfl (by kernel_rfl) (by kernel_rfl) (by kernel_rfl) (by kernel_rfl) (fun _ _ _ h => h) (Or.inl ⟨by rfl, ?_⟩) HS0 ?_
          rotate_left
          · intro w' hSw
            obtain ⟨q0, q1⟩ := hSw
            go_simp
            all_goals (with_reducible rfl)
          change AnyBut _ _ _ _ _ _ _ _ (Act.put _ (some 27) _) _
          (try simp only [Act.put, List.setIfInBounds_toArray, List.set_cons_zero, List.set_cons_succ])
          refine AnyBut.take (i := 1) (v := ?_) rfl (by kernel_rfl) (by kernel_rfl) (by kernel_rfl) (by kernel_rfl) (fun _ _ _ h => h) (Or.inl ⟨by rfl, ?_⟩) HS0 ?_
          rotate_left
          · intro w' hSw
            obtain ⟨q0, q1⟩ := hSw
            go_simp
            all_goals (with_reducible rfl)
          change AnyBut _ _ _ _ _ _ _ _ (Act.put _ (some 28) _) _
          (try simp only [Act.put, List.setIfInBounds_toArray, List.set_cons_zero, List.set_cons_succ])
          refine AnyBut.one (i := 2) rfl (by kernel_rfl) (fun K9 hK9 => ?_)
          go_simp
          refine (l15Tag_some g S s4 _ (c4.below (by (repeat' (first | (with_reducible exact Below.refl _ _) | (with_reducible assumption) | (with_reducible refine Below.alloc ?_ ?_ _) | (with_reducible refine Below.drew ?_) | (with_reducible refine below_drewN ?_ _) | (with_reducible refine Below.setCell ?_ ?_ _) | (with_reducible refine bvia ?_ (by with_reducible assumption) ?_) | go_size))))).mono ?_
          rintro e w5 ⟨v5, s5, rfl, ⟨a, rfl⟩, c5, t5⟩
          have T5 : Touch g (g + 1) w4 w5 := (Touch.drew (Touch.refl _ _ _)).trans t5
          have hz5 : w4.heap.size ≤ w5.heap.size := T5.size
          have k0' : w5.cell? ⟨w.heap.size + 1, 0, none⟩ = some (.slice Ak K.length ck) := (T5.cell (by show w.heap.size + 1 < _; omega) (.inr (by show g + 1 ≤ w.heap.size + 1; omega))).trans k0
          have k1' : w5.cell? ⟨w.heap.size + 1, 1, none⟩ = some (.slice At T.length ct) := (T5.cell (by show w.heap.size + 1 < _; omega) (.inr (by show g + 1 ≤ w.heap.size + 1; omega))).trans k1
          have KN5 := Lib.hid ((HKN4.out.keep (w' := w5) (fun k h1 h2 => T5.block k h2 (.inr (by omega)))).wide (Nat.le_refl _) T5.size)
          have D5 := Lib.hid (hD4.out.touch T5 (by omega))
          have hT5 := Lib.hid (hT4.trans T5)
          clear t5 T5
          refine hK9 _ _ (fun h9 => ⟨k0', k1'⟩) ?_
          clear hK9 K9
          (try simp only [Act.put, List.setIfInBounds_toArray, List.set_cons_zero, List.set_cons_succ])
          refine AnyBut.one (i := 3) rfl (by kernel_rfl) (fun K9 hK9 => ?_)
          go_simp
          refine (sLearn Ak At ck ct K T a _ (by exact KN5.out.rdK) (by exact KN5.out.rdT) (by omega) (by omega)).mono ?_
          rintro e w6 ⟨Ak6, ck6, At6, ct6, rfl, V6, hb6⟩
          have hz6 := hb6.size
          have hl6 := learnT_le K T a
          have k0'' : w6.cell? ⟨w.heap.size + 1, 0, none⟩ = some (.slice Ak K.length ck) := (hb6.cell (by show w.heap.size + 1 < _; omega)).trans k0'
          have k1'' : w6.cell? ⟨w.heap.size + 1, 1, none⟩ = some (.slice At T.length ct) := (hb6.cell (by show w.heap.size + 1 < _; omega)).trans k1'
          have D6 := D5.out.next (hb6.mono (by omega))
          have c6 := c5.below hb6
          have hT6 := Lib.hid (hT5.out.via hb6)
          have kf6 := D6.kf 0
          have kg6 := D6.kf 1
          have HD6 := Lib.hid D6
          have HV6 := Lib.hid V6
          have hlb6 : w.heap.size + 1 < w6.heap.size := by omega
          clear hb6 D6 V6
          refine hK9 _ _ (fun h9 => ⟨k0'', k1''⟩) ?_
          clear hK9 K9
          (try simp only [Act.put, List.setIfInBounds_toArray, List.set_cons_zero, List.set_cons_succ])
          refine AnyBut.one (i := 4) rfl (by kernel_rfl) (fun K9 hK9 => ?_)
          go_simp
          
          refine hK9 _ _ (fun h9 => absurd rfl h9) ?_
          clear hK9 K9
          (try simp only [Act.put, List.setIfInBounds_toArray, List.set_cons_zero, List.set_cons_succ])
          refine AnyBut.done (by kernel_rfl) ?_ _
          all_goals (go_wp2; go_roundw; (case rel => exact ⟨k + 1, learnT K T a, .slice Ak6 K.length ck6, .slice At6 (learnT K T a).length ct6, s5, by go_num, by omega, by omega, HD6.out.set _ _, (HV6.out.keep (fun k h1 h2 => (Below.heap_setCell _ _ _ _ (by show k ≠ w.heap.size + 1; omega)).trans (Below.heap_setCell _ _ _ _ (by show k ≠ w.heap.size + 1; omega)))).wide (by omega) (by simp), c6.keep (lo := w.heap.size) (hi := w.heap.size + 2) (((Touch.refl _ _ _).setCell (p := ⟨w.heap.size + 1, 0, none⟩) (by show w.heap.size ≤ w.heap.size + 1; omega) (by show w.heap.size + 1 < w.heap.size + 2; omega) _).setCell (p := ⟨w.heap.size + 1, 1, none⟩) (by show w.heap.size ≤ w.heap.size + 1; omega) (by show w.heap.size + 1 < w.heap.size + 2; omega) _) (by omega), (hT6.out.setNew (p := ⟨w.heap.size + 1, 0, none⟩) (by show w.heap.size ≤ w.heap.size + 1; omega) _).setNew (p := ⟨w.heap.size + 1, 1, none⟩) (by show w.heap.size ≤ w.heap.size + 1; omega) _⟩); (case measure => (simp [intOf]; omega)))
        · have q0 := hD4.out.q0
          have q1 := hD4.out.q1
          have qf0 := hD4.out.qf 0
          have qf1 := hD4.out.qf 1
          have hlt5 : w.heap.size < w4.heap.size := by omega
          go_wp2
          refine bodyPost_ret (v := knv Ak K.length ck At T.length ct) (by simp [results, Try.results49, go_sem, *]) rfl ?_
          have hTo : Touch w.heap.size (w.heap.size + 1) w4 ((w4.setCell ⟨w.heap.size, 0, none⟩ (.slice Ak K.length ck)).setCell ⟨w.heap.size, 1, none⟩ (.slice At T.length ct)) := by (repeat' (first | (with_reducible exact Touch.refl _ _ _) | (with_reducible assumption) | (with_reducible refine Touch.alloc ?_ _) | (with_reducible refine Touch.drew ?_) | (with_reducible refine Touch.drewN ?_ _) | (with_reducible refine Touch.setCell ?_ ?_ ?_ _) | (with_reducible refine Touch.via ?_ (by with_reducible assumption)) | go_size))
          exact ⟨_, s4, rfl, ⟨Ak, ck, At, ct, K, T, rfl, (HKN4.out.keep (fun k h1 h2 => hTo.block k h2 (.inr (by omega)))).wide (by omega) (by simp), by omega, by omega⟩, c4.keep (lo := w.heap.size) (hi := w.heap.size + 1) hTo hlt, (hT4.setNew (Nat.le_refl _) _).setNew (Nat.le_refl _) _⟩
end Go.Proofs.Ytomjfhcfellikaa
