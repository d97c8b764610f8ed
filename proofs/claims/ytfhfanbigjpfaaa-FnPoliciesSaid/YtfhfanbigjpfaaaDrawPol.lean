/- l12Policy, l12Any, DrawWantedOf: for every state of the cursor. Written by program (drawpol.py). -/
import Derived.Test.YtfhfanbigjpfaaaDrawAddr
import Derived.Test.YtfhfanbigjpfaaaPolicy0
import Derived.Deep.RegionHeld3
import Derived.Deep.DrawnRows
namespace Go.Proofs.Ytfhfanbigjpfaaa
set_option linter.unusedSimpArgs false
set_option linter.unusedVariables false
open Go.RowKit

set_option maxHeartbeats 2000000 in
theorem l12Policy_some (g : Nat) (S : Src) (s : Nat × Int) (w : World) (hc : Cur w g S s) :
    Calls Try.prog 40 #[.pointer (some ⟨g, 0, none⟩)] w (DrawP g S w fun _ v => ∃ x : PolicyD, v = x.val) := by
  have hlt := hc.lt
  go_enter Try.func40, Try.ntmps40
  go_wp2_with fail
  refine (l01Below_some g S s 3 _ (by decide) (hc.below (by (repeat' (first | (with_reducible exact Below.refl _ _) | (with_reducible assumption) | (with_reducible refine Below.alloc ?_ ?_ _) | (with_reducible refine Below.drew ?_) | (with_reducible refine below_drewN ?_ _) | (with_reducible refine Below.setCell ?_ ?_ _) | (with_reducible refine bvia ?_ (by with_reducible assumption) ?_) | go_size))))).mono ?_
  rintro e w1 ⟨v1, s1, rfl, ⟨x1, rfl, p1, q1⟩, c1, t1⟩
  have hc1_0 := fun o => t1.cell (p := ⟨w.heap.size, o, none⟩) (by go_size) (by first | exact .inr (show g + 1 ≤ w.heap.size from by omega) | exact .inl (show w.heap.size < g from by omega))
  have hf1_0 := fun o => t1.frozen (p := ⟨w.heap.size, o, none⟩) (by go_size) (by first | exact .inr (show g + 1 ≤ w.heap.size from by omega) | exact .inl (show w.heap.size < g from by omega))
  have hz1_0 : w.heap.size < w1.heap.size := Nat.lt_of_lt_of_le (by go_size) t1.size
  have hz1 := t1.size
  try simp at hz1
  by_cases h0 : x1 = 0
  · subst h0
    go_wp2
    refine bodyPost_ret (v := (⟨1, 0⟩ : PolicyD).val) (by simp [results, Try.results40, go_sem, *]) rfl ?_
    exact ⟨_, s1, rfl, ⟨⟨1, 0⟩, rfl⟩, c1.keep (lo := w.heap.size) (hi := w.heap.size + 1) (by (repeat' (first | (with_reducible exact Touch.refl _ _ _) | (with_reducible assumption) | (with_reducible refine Touch.alloc ?_ _) | (with_reducible refine Touch.drew ?_) | (with_reducible refine Touch.drewN ?_ _) | (with_reducible refine Touch.setCell ?_ ?_ ?_ _) | (with_reducible refine Touch.via ?_ (by with_reducible assumption)) | go_size))) hlt, by (repeat' (first | (with_reducible exact Touch.refl _ _ _) | (with_reducible assumption) | (with_reducible refine Touch.alloc ?_ _) | (with_reducible refine Touch.drew ?_) | (with_reducible refine Touch.drewN ?_ _) | (with_reducible refine Touch.setNew ?_ ?_ _) | (with_reducible refine Touch.trans ?_ (by with_reducible assumption)) | (with_reducible refine Touch.via ?_ (by with_reducible assumption)) | go_size | omega))⟩
  have d0 : (x1 == 0) = false := by simpa using h0
  by_cases h1 : x1 = 1
  · subst h1
    go_wp2_with fail
    refine (l01Below_some g S s1 4 _ (by decide) c1).mono ?_
    rintro e w2 ⟨v2, s2, rfl, ⟨x2, rfl, p2, q2⟩, c2, t2⟩
    have hc2_0 := fun o => t2.cell (p := ⟨w.heap.size, o, none⟩) (by go_size) (by first | exact .inr (show g + 1 ≤ w.heap.size from by omega) | exact .inl (show w.heap.size < g from by omega))
    have hf2_0 := fun o => t2.frozen (p := ⟨w.heap.size, o, none⟩) (by go_size) (by first | exact .inr (show g + 1 ≤ w.heap.size from by omega) | exact .inl (show w.heap.size < g from by omega))
    have hz2_0 : w.heap.size < w2.heap.size := Nat.lt_of_lt_of_le (by go_size) t2.size
    have hz2 := t2.size
    try simp at hz2
    go_wp2
    refine bodyPost_ret (v := (⟨2, 1 + x2⟩ : PolicyD).val) (by simp [results, Try.results40, go_sem, *]) rfl ?_
    exact ⟨_, s2, rfl, ⟨⟨2, 1 + x2⟩, rfl⟩, c2.keep (lo := w.heap.size) (hi := w.heap.size + 1) (by (repeat' (first | (with_reducible exact Touch.refl _ _ _) | (with_reducible assumption) | (with_reducible refine Touch.alloc ?_ _) | (with_reducible refine Touch.drew ?_) | (with_reducible refine Touch.drewN ?_ _) | (with_reducible refine Touch.setCell ?_ ?_ ?_ _) | (with_reducible refine Touch.via ?_ (by with_reducible assumption)) | go_size))) hlt, by (repeat' (first | (with_reducible exact Touch.refl _ _ _) | (with_reducible assumption) | (with_reducible refine Touch.alloc ?_ _) | (with_reducible refine Touch.drew ?_) | (with_reducible refine Touch.drewN ?_ _) | (with_reducible refine Touch.setNew ?_ ?_ _) | (with_reducible refine Touch.trans ?_ (by with_reducible assumption)) | (with_reducible refine Touch.via ?_ (by with_reducible assumption)) | go_size | omega))⟩
  have d1 : (x1 == 1) = false := by simpa using h1
  clear h0 h1
  go_wp2
  refine bodyPost_ret (v := (⟨3, 0⟩ : PolicyD).val) (by simp [results, Try.results40, go_sem, *]) rfl ?_
  exact ⟨_, s1, rfl, ⟨⟨3, 0⟩, rfl⟩, c1.keep (lo := w.heap.size) (hi := w.heap.size + 1) (by (repeat' (first | (with_reducible exact Touch.refl _ _ _) | (with_reducible assumption) | (with_reducible refine Touch.alloc ?_ _) | (with_reducible refine Touch.drew ?_) | (with_reducible refine Touch.drewN ?_ _) | (with_reducible refine Touch.setCell ?_ ?_ ?_ _) | (with_reducible refine Touch.via ?_ (by with_reducible assumption)) | go_size))) hlt, by (repeat' (first | (with_reducible exact Touch.refl _ _ _) | (with_reducible assumption) | (with_reducible refine Touch.alloc ?_ _) | (with_reducible refine Touch.drew ?_) | (with_reducible refine Touch.drewN ?_ _) | (with_reducible refine Touch.setNew ?_ ?_ _) | (with_reducible refine Touch.trans ?_ (by with_reducible assumption)) | (with_reducible refine Touch.via ?_ (by with_reducible assumption)) | go_size | omega))⟩
set_option maxHeartbeats 4000000 in
theorem l12Any_some (g : Nat) (S : Src) (s : Nat × Int) (w : World) (hc : Cur w g S s) :
    Calls Try.prog 38 #[.pointer (some ⟨g, 0, none⟩)] w (DrawP g S w fun _ v => ∃ x : PolicyD, v = x.val) := by
  have hlt := hc.lt
  go_enter Try.func38, Try.ntmps38
  go_wp2_with fail
  refine (l12Policy_some g S s _ (hc.below (by (repeat' (first | (with_reducible exact Below.refl _ _) | (with_reducible assumption) | (with_reducible refine Below.alloc ?_ ?_ _) | (with_reducible refine Below.drew ?_) | (with_reducible refine below_drewN ?_ _) | (with_reducible refine Below.setCell ?_ ?_ _) | (with_reducible refine bvia ?_ (by with_reducible assumption) ?_) | go_size))))).mono ?_
  rintro e w1 ⟨v1, s1, rfl, ⟨p, rfl⟩, c1, t1⟩
  have hc1_0 := fun o => t1.cell (p := ⟨w.heap.size, o, none⟩) (by go_size) (by first | exact .inr (show g + 1 ≤ w.heap.size from by omega) | exact .inl (show w.heap.size < g from by omega))
  have hf1_0 := fun o => t1.frozen (p := ⟨w.heap.size, o, none⟩) (by go_size) (by first | exact .inr (show g + 1 ≤ w.heap.size from by omega) | exact .inl (show w.heap.size < g from by omega))
  have hz1_0 : w.heap.size < w1.heap.size := Nat.lt_of_lt_of_le (by go_size) t1.size
  have hz1 := t1.size
  try simp at hz1
  go_wp2_with fail
  refine (l01Once_some g S s1 6 _ (c1.below (by (repeat' (first | (with_reducible exact Below.refl _ _) | (with_reducible assumption) | (with_reducible refine Below.alloc ?_ ?_ _) | (with_reducible refine Below.drew ?_) | (with_reducible refine below_drewN ?_ _) | (with_reducible refine Below.setCell ?_ ?_ _) | (with_reducible refine bvia ?_ (by with_reducible assumption) ?_) | go_size))))).mono ?_
  rintro e w2 ⟨v2, s2, rfl, ⟨b2, rfl⟩, c2, t2⟩
  have hc2_0 := fun o => t2.cell (p := ⟨w.heap.size, o, none⟩) (by go_size) (by first | exact .inr (show g + 1 ≤ w.heap.size from by omega) | exact .inl (show w.heap.size < g from by omega))
  have hf2_0 := fun o => t2.frozen (p := ⟨w.heap.size, o, none⟩) (by go_size) (by first | exact .inr (show g + 1 ≤ w.heap.size from by omega) | exact .inl (show w.heap.size < g from by omega))
  have hz2_0 : w.heap.size < w2.heap.size := Nat.lt_of_lt_of_le (by go_size) t2.size
  have hc2_1 := fun o => t2.cell (p := ⟨w1.heap.size, o, none⟩) (by go_size) (by first | exact .inr (show g + 1 ≤ w1.heap.size from by omega) | exact .inl (show w1.heap.size < g from by omega))
  have hf2_1 := fun o => t2.frozen (p := ⟨w1.heap.size, o, none⟩) (by go_size) (by first | exact .inr (show g + 1 ≤ w1.heap.size from by omega) | exact .inl (show w1.heap.size < g from by omega))
  have hz2_1 : w1.heap.size < w2.heap.size := Nat.lt_of_lt_of_le (by go_size) t2.size
  have hz2 := t2.size
  try simp at hz2
  cases b2 with
  | false =>
    go_wp2_with fail
    refine (l01Once_some g S s2 12 _ c2).mono ?_
    rintro e w3 ⟨v3, s3, rfl, ⟨b3, rfl⟩, c3, t3⟩
    have hc3_0 := fun o => t3.cell (p := ⟨w.heap.size, o, none⟩) (by go_size) (by first | exact .inr (show g + 1 ≤ w.heap.size from by omega) | exact .inl (show w.heap.size < g from by omega))
    have hf3_0 := fun o => t3.frozen (p := ⟨w.heap.size, o, none⟩) (by go_size) (by first | exact .inr (show g + 1 ≤ w.heap.size from by omega) | exact .inl (show w.heap.size < g from by omega))
    have hz3_0 : w.heap.size < w3.heap.size := Nat.lt_of_lt_of_le (by go_size) t3.size
    have hc3_1 := fun o => t3.cell (p := ⟨w1.heap.size, o, none⟩) (by go_size) (by first | exact .inr (show g + 1 ≤ w1.heap.size from by omega) | exact .inl (show w1.heap.size < g from by omega))
    have hf3_1 := fun o => t3.frozen (p := ⟨w1.heap.size, o, none⟩) (by go_size) (by first | exact .inr (show g + 1 ≤ w1.heap.size from by omega) | exact .inl (show w1.heap.size < g from by omega))
    have hz3_1 : w1.heap.size < w3.heap.size := Nat.lt_of_lt_of_le (by go_size) t3.size
    have hz3 := t3.size
    try simp at hz3
    cases b3 with
    | false =>
      go_wp2
      refine bodyPost_ret (v := p.val) (by simp [results, Try.results38, go_sem, *]) rfl ?_
      exact ⟨_, s3, rfl, ⟨p, rfl⟩, c3.keep (lo := w.heap.size) (hi := w1.heap.size + 1) (by (repeat' (first | (with_reducible exact Touch.refl _ _ _) | (with_reducible assumption) | (with_reducible refine Touch.alloc ?_ _) | (with_reducible refine Touch.drew ?_) | (with_reducible refine Touch.drewN ?_ _) | (with_reducible refine Touch.setCell ?_ ?_ ?_ _) | (with_reducible refine Touch.via ?_ (by with_reducible assumption)) | go_size))) hlt, by (repeat' (first | (with_reducible exact Touch.refl _ _ _) | (with_reducible assumption) | (with_reducible refine Touch.alloc ?_ _) | (with_reducible refine Touch.drew ?_) | (with_reducible refine Touch.drewN ?_ _) | (with_reducible refine Touch.setNew ?_ ?_ _) | (with_reducible refine Touch.trans ?_ (by with_reducible assumption)) | (with_reducible refine Touch.via ?_ (by with_reducible assumption)) | go_size | omega))⟩
    | true =>
      go_wp2_with fail
      refine (l01Below_some g S s3 5 _ (by decide) c3).mono ?_
      rintro e w4 ⟨v4, s4, rfl, ⟨x4, rfl, p4, q4⟩, c4, t4⟩
      have hc4_0 := fun o => t4.cell (p := ⟨w.heap.size, o, none⟩) (by go_size) (by first | exact .inr (show g + 1 ≤ w.heap.size from by omega) | exact .inl (show w.heap.size < g from by omega))
      have hf4_0 := fun o => t4.frozen (p := ⟨w.heap.size, o, none⟩) (by go_size) (by first | exact .inr (show g + 1 ≤ w.heap.size from by omega) | exact .inl (show w.heap.size < g from by omega))
      have hz4_0 : w.heap.size < w4.heap.size := Nat.lt_of_lt_of_le (by go_size) t4.size
      have hc4_1 := fun o => t4.cell (p := ⟨w1.heap.size, o, none⟩) (by go_size) (by first | exact .inr (show g + 1 ≤ w1.heap.size from by omega) | exact .inl (show w1.heap.size < g from by omega))
      have hf4_1 := fun o => t4.frozen (p := ⟨w1.heap.size, o, none⟩) (by go_size) (by first | exact .inr (show g + 1 ≤ w1.heap.size from by omega) | exact .inl (show w1.heap.size < g from by omega))
      have hz4_1 : w1.heap.size < w4.heap.size := Nat.lt_of_lt_of_le (by go_size) t4.size
      have hz4 := t4.size
      try simp at hz4
      go_wp2
      refine bodyPost_ret (v := (⟨x4, p.fMany⟩ : PolicyD).val) (by simp [results, Try.results38, go_sem, *]) rfl ?_
      exact ⟨_, s4, rfl, ⟨⟨x4, p.fMany⟩, rfl⟩, c4.keep (lo := w.heap.size) (hi := w1.heap.size + 1) (by (repeat' (first | (with_reducible exact Touch.refl _ _ _) | (with_reducible assumption) | (with_reducible refine Touch.alloc ?_ _) | (with_reducible refine Touch.drew ?_) | (with_reducible refine Touch.drewN ?_ _) | (with_reducible refine Touch.setCell ?_ ?_ ?_ _) | (with_reducible refine Touch.via ?_ (by with_reducible assumption)) | go_size))) hlt, by (repeat' (first | (with_reducible exact Touch.refl _ _ _) | (with_reducible assumption) | (with_reducible refine Touch.alloc ?_ _) | (with_reducible refine Touch.drew ?_) | (with_reducible refine Touch.drewN ?_ _) | (with_reducible refine Touch.setNew ?_ ?_ _) | (with_reducible refine Touch.trans ?_ (by with_reducible assumption)) | (with_reducible refine Touch.via ?_ (by with_reducible assumption)) | go_size | omega))⟩
  | true =>
    go_wp2_with fail
    refine (l01PickInt_some g S s2 _ _ [0, 8, 9, -1] 4 _ (c2.below (by (repeat' (first | (with_reducible exact Below.refl _ _) | (with_reducible assumption) | (with_reducible refine Below.alloc ?_ ?_ _) | (with_reducible refine Below.drew ?_) | (with_reducible refine below_drewN ?_ _) | (with_reducible refine Below.setCell ?_ ?_ _) | (with_reducible refine bvia ?_ (by with_reducible assumption) ?_) | go_size)))) rfl (Rd_lit _ _ (g + 1) _ _ _ rfl (by omega) (by simp)) (by decide) (by simp [maxLen])).mono ?_
    rintro e w5 ⟨v5, s5, rfl, ⟨x5, rfl, -⟩, c5, t5⟩
    have hc5_0 := fun o => t5.cell (p := ⟨w.heap.size, o, none⟩) (by go_size) (by first | exact .inr (show g + 1 ≤ w.heap.size from by omega) | exact .inl (show w.heap.size < g from by omega))
    have hf5_0 := fun o => t5.frozen (p := ⟨w.heap.size, o, none⟩) (by go_size) (by first | exact .inr (show g + 1 ≤ w.heap.size from by omega) | exact .inl (show w.heap.size < g from by omega))
    have hz5_0 : w.heap.size < w5.heap.size := Nat.lt_of_lt_of_le (by go_size) t5.size
    have hc5_1 := fun o => t5.cell (p := ⟨w1.heap.size, o, none⟩) (by go_size) (by first | exact .inr (show g + 1 ≤ w1.heap.size from by omega) | exact .inl (show w1.heap.size < g from by omega))
    have hf5_1 := fun o => t5.frozen (p := ⟨w1.heap.size, o, none⟩) (by go_size) (by first | exact .inr (show g + 1 ≤ w1.heap.size from by omega) | exact .inl (show w1.heap.size < g from by omega))
    have hz5_1 : w1.heap.size < w5.heap.size := Nat.lt_of_lt_of_le (by go_size) t5.size
    have hz5 := t5.size
    try simp at hz5
    go_wp2_with fail
    refine (l01Once_some g S s5 12 _ (c5.keep (lo := w.heap.size) (hi := w1.heap.size + 1) (by (repeat' (first | (with_reducible exact Touch.refl _ _ _) | (with_reducible assumption) | (with_reducible refine Touch.alloc ?_ _) | (with_reducible refine Touch.drew ?_) | (with_reducible refine Touch.drewN ?_ _) | (with_reducible refine Touch.setCell ?_ ?_ ?_ _) | (with_reducible refine Touch.via ?_ (by with_reducible assumption)) | go_size))) hlt)).mono ?_
    rintro e w6 ⟨v6, s6, rfl, ⟨b6, rfl⟩, c6, t6⟩
    have hc6_0 := fun o => t6.cell (p := ⟨w.heap.size, o, none⟩) (by go_size) (by first | exact .inr (show g + 1 ≤ w.heap.size from by omega) | exact .inl (show w.heap.size < g from by omega))
    have hf6_0 := fun o => t6.frozen (p := ⟨w.heap.size, o, none⟩) (by go_size) (by first | exact .inr (show g + 1 ≤ w.heap.size from by omega) | exact .inl (show w.heap.size < g from by omega))
    have hz6_0 : w.heap.size < w6.heap.size := Nat.lt_of_lt_of_le (by go_size) t6.size
    have hc6_1 := fun o => t6.cell (p := ⟨w1.heap.size, o, none⟩) (by go_size) (by first | exact .inr (show g + 1 ≤ w1.heap.size from by omega) | exact .inl (show w1.heap.size < g from by omega))
    have hf6_1 := fun o => t6.frozen (p := ⟨w1.heap.size, o, none⟩) (by go_size) (by first | exact .inr (show g + 1 ≤ w1.heap.size from by omega) | exact .inl (show w1.heap.size < g from by omega))
    have hz6_1 : w1.heap.size < w6.heap.size := Nat.lt_of_lt_of_le (by go_size) t6.size
    have hz6 := t6.size
    try simp at hz6
    cases b6 with
    | false =>
      go_wp2
      refine bodyPost_ret (v := (⟨p.fKind, x5⟩ : PolicyD).val) (by simp [results, Try.results38, go_sem, *]) rfl ?_
      exact ⟨_, s6, rfl, ⟨⟨p.fKind, x5⟩, rfl⟩, c6.keep (lo := w.heap.size) (hi := w1.heap.size + 1) (by (repeat' (first | (with_reducible exact Touch.refl _ _ _) | (with_reducible assumption) | (with_reducible refine Touch.alloc ?_ _) | (with_reducible refine Touch.drew ?_) | (with_reducible refine Touch.drewN ?_ _) | (with_reducible refine Touch.setCell ?_ ?_ ?_ _) | (with_reducible refine Touch.via ?_ (by with_reducible assumption)) | go_size))) hlt, by (repeat' (first | (with_reducible exact Touch.refl _ _ _) | (with_reducible assumption) | (with_reducible refine Touch.alloc ?_ _) | (with_reducible refine Touch.drew ?_) | (with_reducible refine Touch.drewN ?_ _) | (with_reducible refine Touch.setNew ?_ ?_ _) | (with_reducible refine Touch.trans ?_ (by with_reducible assumption)) | (with_reducible refine Touch.via ?_ (by with_reducible assumption)) | go_size | omega))⟩
    | true =>
      go_wp2_with fail
      refine (l01Below_some g S s6 5 _ (by decide) c6).mono ?_
      rintro e w7 ⟨v7, s7, rfl, ⟨x7, rfl, p7, q7⟩, c7, t7⟩
      have hc7_0 := fun o => t7.cell (p := ⟨w.heap.size, o, none⟩) (by go_size) (by first | exact .inr (show g + 1 ≤ w.heap.size from by omega) | exact .inl (show w.heap.size < g from by omega))
      have hf7_0 := fun o => t7.frozen (p := ⟨w.heap.size, o, none⟩) (by go_size) (by first | exact .inr (show g + 1 ≤ w.heap.size from by omega) | exact .inl (show w.heap.size < g from by omega))
      have hz7_0 : w.heap.size < w7.heap.size := Nat.lt_of_lt_of_le (by go_size) t7.size
      have hc7_1 := fun o => t7.cell (p := ⟨w1.heap.size, o, none⟩) (by go_size) (by first | exact .inr (show g + 1 ≤ w1.heap.size from by omega) | exact .inl (show w1.heap.size < g from by omega))
      have hf7_1 := fun o => t7.frozen (p := ⟨w1.heap.size, o, none⟩) (by go_size) (by first | exact .inr (show g + 1 ≤ w1.heap.size from by omega) | exact .inl (show w1.heap.size < g from by omega))
      have hz7_1 : w1.heap.size < w7.heap.size := Nat.lt_of_lt_of_le (by go_size) t7.size
      have hz7 := t7.size
      try simp at hz7
      go_wp2
      refine bodyPost_ret (v := (⟨x7, x5⟩ : PolicyD).val) (by simp [results, Try.results38, go_sem, *]) rfl ?_
      exact ⟨_, s7, rfl, ⟨⟨x7, x5⟩, rfl⟩, c7.keep (lo := w.heap.size) (hi := w1.heap.size + 1) (by (repeat' (first | (with_reducible exact Touch.refl _ _ _) | (with_reducible assumption) | (with_reducible refine Touch.alloc ?_ _) | (with_reducible refine Touch.drew ?_) | (with_reducible refine Touch.drewN ?_ _) | (with_reducible refine Touch.setCell ?_ ?_ ?_ _) | (with_reducible refine Touch.via ?_ (by with_reducible assumption)) | go_size))) hlt, by (repeat' (first | (with_reducible exact Touch.refl _ _ _) | (with_reducible assumption) | (with_reducible refine Touch.alloc ?_ _) | (with_reducible refine Touch.drew ?_) | (with_reducible refine Touch.drewN ?_ _) | (with_reducible refine Touch.setNew ?_ ?_ _) | (with_reducible refine Touch.trans ?_ (by with_reducible assumption)) | (with_reducible refine Touch.via ?_ (by with_reducible assumption)) | go_size | omega))⟩
/-- What DrawWantedOf says. -/
def DrewWantedOf (w : World) (e : Ending) (w' : World) : Prop :=
  ∃ (p : PolicyD) (v1 : Value) (O : List AddrD) (v2 : Value) (F : List AddrD), e = .returned (.tuple #[p.val, v1, v2]) ∧ Own w' w.heap.size 56 AddrD.cells 4 v1 O ∧ O.length ≤ 9 ∧ Own w' w.heap.size 56 AddrD.cells 4 v2 F ∧ F.length ≤ 9 ∧ Below w.heap.size w w'
set_option maxHeartbeats 4000000 in
theorem DrawWantedOf_some (A : Option Addr) (cap : Nat) (B : List Int) (w : World) (hr : Rd bcells 1 w 0 w.heap.size A B) (hm : B.length ≤ 1048576) :
    Calls Try.prog 29 #[.slice A B.length cap] w (DrewWantedOf w) := by
  go_enter Try.func29, Try.ntmps29
  go_wp2_with fail
  refine (l01New_any A cap B _ (by exact hr.later (by (repeat' (first | (with_reducible exact Below.refl _ _) | (with_reducible assumption) | (with_reducible refine Below.alloc ?_ ?_ _) | (with_reducible refine Below.drew ?_) | (with_reducible refine below_drewN ?_ _) | (with_reducible refine Below.setCell ?_ ?_ _) | (with_reducible refine bvia ?_ (by with_reducible assumption) ?_) | go_size))) (Nat.le_refl _) (by go_size)) hm).mono ?_
  rintro e w1 ⟨rfl, c1, hb1⟩
  obtain ⟨hc, hf⟩ := bcell hb1
  have hc1_0 := fun o => hc (w.heap.size) o (by go_size)
  have hf1_0 := fun o => hf (w.heap.size) o (by go_size)
  have hz1_0 : w.heap.size < w1.heap.size := Nat.lt_of_lt_of_le (by go_size) hb1.size
  clear hc hf
  have hz1 := hb1.size
  try simp at hz1
  simp only [World.size_alloc] at c1
  have hB1 : Below w.heap.size w w1 := by (repeat' (first | (with_reducible exact Below.refl _ _) | (with_reducible assumption) | (with_reducible refine Below.alloc ?_ ?_ _) | (with_reducible refine Below.drew ?_) | (with_reducible refine below_drewN ?_ _) | (with_reducible refine Below.setCell ?_ ?_ _) | (with_reducible refine bvia ?_ (by with_reducible assumption) ?_) | go_size))
  obtain ⟨g, hg⟩ : ∃ g, w.heap.size + 1 = g := ⟨_, rfl⟩
  rw [hg] at c1
  try simp only [World.size_alloc]
  rw [hg]
  have hgl : w.heap.size < g := by omega
  clear hg hb1
  have hlt := c1.lt
  go_wp2_with fail
  refine (l12Any_some g _ _ _ c1).mono ?_
  rintro e w2 ⟨v2, s2, rfl, ⟨p, rfl⟩, c2, t2⟩
  have hc2_0 := fun o => t2.cell (p := ⟨w.heap.size, o, none⟩) (by go_size) (by first | exact .inr (show g + 1 ≤ w.heap.size from by omega) | exact .inl (show w.heap.size < g from by omega))
  have hf2_0 := fun o => t2.frozen (p := ⟨w.heap.size, o, none⟩) (by go_size) (by first | exact .inr (show g + 1 ≤ w.heap.size from by omega) | exact .inl (show w.heap.size < g from by omega))
  have hz2_0 : w.heap.size < w2.heap.size := Nat.lt_of_lt_of_le (by go_size) t2.size
  have hz2 := t2.size
  try simp at hz2
  have hB2 := t2.below hB1 (by omega) (by omega)
  clear t2 c1
  go_wp2_with fail
  refine (l11Any_some g _ s2 _ (c2.below (by (repeat' (first | (with_reducible exact Below.refl _ _) | (with_reducible assumption) | (with_reducible refine Below.alloc ?_ ?_ _) | (with_reducible refine Below.drew ?_) | (with_reducible refine below_drewN ?_ _) | (with_reducible refine Below.setCell ?_ ?_ _) | (with_reducible refine bvia ?_ (by with_reducible assumption) ?_) | go_size))))).mono ?_
  rintro e w3 ⟨v3, s3, rfl, ⟨O, O3, hO⟩, c3, t3⟩
  have hc3_0 := fun o => t3.cell (p := ⟨w.heap.size, o, none⟩) (by go_size) (by first | exact .inr (show g + 1 ≤ w.heap.size from by omega) | exact .inl (show w.heap.size < g from by omega))
  have hf3_0 := fun o => t3.frozen (p := ⟨w.heap.size, o, none⟩) (by go_size) (by first | exact .inr (show g + 1 ≤ w.heap.size from by omega) | exact .inl (show w.heap.size < g from by omega))
  have hz3_0 : w.heap.size < w3.heap.size := Nat.lt_of_lt_of_le (by go_size) t3.size
  have hc3_1 := fun o => t3.cell (p := ⟨w2.heap.size, o, none⟩) (by go_size) (by first | exact .inr (show g + 1 ≤ w2.heap.size from by omega) | exact .inl (show w2.heap.size < g from by omega))
  have hf3_1 := fun o => t3.frozen (p := ⟨w2.heap.size, o, none⟩) (by go_size) (by first | exact .inr (show g + 1 ≤ w2.heap.size from by omega) | exact .inl (show w2.heap.size < g from by omega))
  have hz3_1 : w2.heap.size < w3.heap.size := Nat.lt_of_lt_of_le (by go_size) t3.size
  have hz3 := t3.size
  try simp at hz3
  have hB3 := t3.below (by (repeat' (first | (with_reducible exact Below.refl _ _) | (with_reducible assumption) | (with_reducible refine Below.alloc ?_ ?_ _) | (with_reducible refine Below.drew ?_) | (with_reducible refine below_drewN ?_ _) | (with_reducible refine Below.setCell ?_ ?_ _) | (with_reducible refine bvia ?_ (by with_reducible assumption) ?_) | go_size)) : Below w.heap.size w _) (by omega) (by go_size)
  have hgz := c3.lt
  have O3' := O3.up (base' := w2.heap.size + 1) (by simp)
  have hv3 : Hid (∀ k, v3.ownBlock = some k → k < w3.heap.size) := fun k hk => (O3.lt hk).2
  clear t3 c2 O3
  have x0 : w3.cell? ⟨w2.heap.size, 0, none⟩ = some (.int .i64 p.fKind) := by rw [hc3_1]; simp
  have x1 : w3.cell? ⟨w2.heap.size, 1, none⟩ = some (.int .i64 p.fMany) := by rw [hc3_1]; simp
  have z0 : w3.cell? ⟨w.heap.size, 0, none⟩ = some (.int .i64 0) := by simp [go_sem, hc3_0, hc2_0, hc1_0, cal, hz2_0]
  have z1 : w3.cell? ⟨w.heap.size, 1, none⟩ = some (.int .i64 0) := by simp [go_sem, hc3_0, hc2_0, hc1_0, cal, hz2_0]
  have y0 : w3.frozen? ⟨w.heap.size, 0, none⟩ = false := by simp [go_sem, hf3_0, hf2_0, hf1_0, fal, hz2_0]
  have y1 : w3.frozen? ⟨w.heap.size, 1, none⟩ = false := by simp [go_sem, hf3_0, hf2_0, hf1_0, fal, hz2_0]
  clear hc3_0 hc3_1 hf3_0 hf3_1 hc2_0 hf2_0 hc1_0 hf1_0
  have hne1 : ¬ w.heap.size = w2.heap.size := by omega
  have hne2 : ¬ w2.heap.size = w.heap.size := by omega
  go_wp2_with fail
  go_region_held3 (fun w' => w'.cell? ⟨w2.heap.size, 0, none⟩ = some (.int .i64 p.fKind) ∧ w'.cell? ⟨w2.heap.size, 1, none⟩ = some (.int .i64 p.fMany)) (first | (refine ⟨?_, ?_⟩ <;> assumption) | go_keep)
    (first
      | (go_at_call 39; refine (l11Any_some g _ s3 _ (by exact c3.below (by (repeat' (first | (with_reducible exact Below.refl _ _) | (with_reducible assumption) | (with_reducible refine Below.alloc ?_ ?_ _) | (with_reducible refine Below.drew ?_) | (with_reducible refine below_drewN ?_ _) | (with_reducible refine Below.setCell ?_ ?_ _) | (with_reducible refine bvia ?_ (by with_reducible assumption) ?_) | go_size))))).mono ?_; rintro e w4 ⟨v4, s4, rfl, ⟨F, O4, hF⟩, c4, t4⟩; have hz4 := t4.size; (try simp at hz4); have hT : Touch g (g + 1) w3 w4 := (by first | exact t4 | exact Touch.trans (Touch.drew (Touch.refl _ _ _)) t4); have x0_4 : w4.cell? ⟨w2.heap.size, 0, none⟩ = some (.int .i64 p.fKind) := (hT.cell (by show w2.heap.size < _; omega) (.inr (by show g + 1 ≤ w2.heap.size; omega))).trans x0; have x1_4 : w4.cell? ⟨w2.heap.size, 1, none⟩ = some (.int .i64 p.fMany) := (hT.cell (by show w2.heap.size < _; omega) (.inr (by show g + 1 ≤ w2.heap.size; omega))).trans x1; have z0_4 : w4.cell? ⟨w.heap.size, 0, none⟩ = some (.int .i64 0) := (hT.cell (by show w.heap.size < _; omega) (.inl hgl)).trans z0; have z1_4 : w4.cell? ⟨w.heap.size, 1, none⟩ = some (.int .i64 0) := (hT.cell (by show w.heap.size < _; omega) (.inl hgl)).trans z1; have y0_4 : w4.frozen? ⟨w.heap.size, 0, none⟩ = false := (hT.frozen (by show w.heap.size < _; omega) (.inl hgl)).trans y0; have y1_4 : w4.frozen? ⟨w.heap.size, 1, none⟩ = false := (hT.frozen (by show w.heap.size < _; omega) (.inl hgl)).trans y1)
      | fail)
  have hB4 : Below w.heap.size w w4 := hT.below hB3 (by omega) (by omega)
  have OO := O3'.touch hT (by omega)
  have OF := O4.up (base' := w2.heap.size + 1) (by first | omega | (simp; omega))
  go_wp2
  refine bodyPost_ret (v := .tuple #[p.val, v3, v4]) (by simp [results, Try.results29, go_sem, *]) rfl ?_
  exact ⟨p, v3, O, v4, F, rfl, (OO.keep (fun k hk h1 _ => by repeat (first | rw [show ∀ W : World, W.drew.heap = W.heap from fun _ => rfl] | rw [Below.heap_setCell _ _ _ _ (by first | omega | (simp; omega))] | rfl))).up (by omega), hO, (OF.keep (fun k hk h1 _ => by repeat (first | rw [show ∀ W : World, W.drew.heap = W.heap from fun _ => rfl] | rw [Below.heap_setCell _ _ _ _ (by first | omega | (simp; omega))] | rfl))).up (by omega), hF, by (repeat' (first | (with_reducible exact Below.refl _ _) | (with_reducible assumption) | (with_reducible refine Below.alloc ?_ ?_ _) | (with_reducible refine Below.drew ?_) | (with_reducible refine below_drewN ?_ _) | (with_reducible refine Below.setCell ?_ ?_ _) | (with_reducible refine bvia ?_ (by with_reducible assumption) ?_) | go_size))⟩
end Go.Proofs.Ytfhfanbigjpfaaa
