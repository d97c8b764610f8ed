/- l13Bucket, l13Any, l13Asks, DrawRunBucket: for every state of the cursor. Written by program (drawbucket.py). -/
import Derived.Test.YtkeldhffhiekpaaDraw
import Derived.Test.YtkeldhffhiekpaaIntS
import Derived.Test.YtkeldhffhiekpaaRunB
namespace Go.Proofs.Ytkeldhffhiekpaa
set_option linter.unusedSimpArgs false
set_option linter.unusedVariables false
open Go.RowKit

set_option maxHeartbeats 2000000 in
theorem l13Bucket_some (g : Nat) (S : Src) (s : Nat × Int) (w : World) (hc : Cur w g S s) :
    Calls Try.prog 42 #[.pointer (some ⟨g, 0, none⟩)] w (DrawP g S w fun _ v => ∃ r b h : Int, v = bkt r b h) := by
  have hlt := hc.lt
  go_enter Try.func42, Try.ntmps42
  go_wp2_with fail
  refine (l01Below_some g S s 4 _ (by decide) (hc.below (by (repeat' (first | (with_reducible exact Below.refl _ _) | (with_reducible assumption) | (with_reducible refine Below.alloc ?_ ?_ _) | (with_reducible refine Below.drew ?_) | (with_reducible refine below_drewN ?_ _) | (with_reducible refine Below.setCell ?_ ?_ _) | (with_reducible refine bvia ?_ (by with_reducible assumption) ?_) | go_size))))).mono ?_
  rintro e w1 ⟨v1, s1, rfl, ⟨x1, rfl, p1, q1⟩, c1, t1⟩
  have hc1_0 := fun o => t1.cell (p := ⟨w.heap.size, o, none⟩) (by go_size) (by first | exact .inr (show g + 1 ≤ w.heap.size from by omega) | exact .inl (show w.heap.size < g from by omega))
  have hf1_0 := fun o => t1.frozen (p := ⟨w.heap.size, o, none⟩) (by go_size) (by first | exact .inr (show g + 1 ≤ w.heap.size from by omega) | exact .inl (show w.heap.size < g from by omega))
  have hz1_0 : w.heap.size < w1.heap.size := Nat.lt_of_lt_of_le (by go_size) t1.size
  have hz1 := t1.size
  try simp at hz1
  go_wp2_with fail
  refine (l01Below_some g S s1 6 _ (by decide) c1).mono ?_
  rintro e w2 ⟨v2, s2, rfl, ⟨x2, rfl, p2, q2⟩, c2, t2⟩
  have hc2_0 := fun o => t2.cell (p := ⟨w.heap.size, o, none⟩) (by go_size) (by first | exact .inr (show g + 1 ≤ w.heap.size from by omega) | exact .inl (show w.heap.size < g from by omega))
  have hf2_0 := fun o => t2.frozen (p := ⟨w.heap.size, o, none⟩) (by go_size) (by first | exact .inr (show g + 1 ≤ w.heap.size from by omega) | exact .inl (show w.heap.size < g from by omega))
  have hz2_0 : w.heap.size < w2.heap.size := Nat.lt_of_lt_of_le (by go_size) t2.size
  have hz2 := t2.size
  try simp at hz2
  go_wp2_with fail
  refine (l01Below_some g S s2 (1 + x2 + 1) _ (by omega) (c2.below (by (repeat' (first | (with_reducible exact Below.refl _ _) | (with_reducible assumption) | (with_reducible refine Below.alloc ?_ ?_ _) | (with_reducible refine Below.drew ?_) | (with_reducible refine below_drewN ?_ _) | (with_reducible refine Below.setCell ?_ ?_ _) | (with_reducible refine bvia ?_ (by with_reducible assumption) ?_) | go_size))))).mono ?_
  rintro e w3 ⟨v3, s3, rfl, ⟨x3, rfl, p3, q3⟩, c3, t3⟩
  have hc3_0 := fun o => t3.cell (p := ⟨w.heap.size, o, none⟩) (by go_size) (by first | exact .inr (show g + 1 ≤ w.heap.size from by omega) | exact .inl (show w.heap.size < g from by omega))
  have hf3_0 := fun o => t3.frozen (p := ⟨w.heap.size, o, none⟩) (by go_size) (by first | exact .inr (show g + 1 ≤ w.heap.size from by omega) | exact .inl (show w.heap.size < g from by omega))
  have hz3_0 : w.heap.size < w3.heap.size := Nat.lt_of_lt_of_le (by go_size) t3.size
  have hc3_1 := fun o => t3.cell (p := ⟨w2.heap.size, o, none⟩) (by go_size) (by first | exact .inr (show g + 1 ≤ w2.heap.size from by omega) | exact .inl (show w2.heap.size < g from by omega))
  have hf3_1 := fun o => t3.frozen (p := ⟨w2.heap.size, o, none⟩) (by go_size) (by first | exact .inr (show g + 1 ≤ w2.heap.size from by omega) | exact .inl (show w2.heap.size < g from by omega))
  have hz3_1 : w2.heap.size < w3.heap.size := Nat.lt_of_lt_of_le (by go_size) t3.size
  have hz3 := t3.size
  try simp at hz3
  go_wp2
  refine bodyPost_ret (v := bkt x1 (1 + x2) x3) (by simp [results, Try.results42, go_sem, *]) rfl ?_
  exact ⟨_, s3, rfl, ⟨x1, 1 + x2, x3, rfl⟩, c3.keep (lo := w.heap.size) (hi := w2.heap.size + 1) (by (repeat' (first | (with_reducible exact Touch.refl _ _ _) | (with_reducible assumption) | (with_reducible refine Touch.alloc ?_ _) | (with_reducible refine Touch.drew ?_) | (with_reducible refine Touch.drewN ?_ _) | (with_reducible refine Touch.setCell ?_ ?_ ?_ _) | (with_reducible refine Touch.via ?_ (by with_reducible assumption)) | go_size))) hlt, by (repeat' (first | (with_reducible exact Touch.refl _ _ _) | (with_reducible assumption) | (with_reducible refine Touch.alloc ?_ _) | (with_reducible refine Touch.drew ?_) | (with_reducible refine Touch.drewN ?_ _) | (with_reducible refine Touch.setNew ?_ ?_ _) | (with_reducible refine Touch.trans ?_ (by with_reducible assumption)) | (with_reducible refine Touch.via ?_ (by with_reducible assumption)) | go_size | omega))⟩
set_option maxHeartbeats 4000000 in
theorem l13Any_some (g : Nat) (S : Src) (s : Nat × Int) (w : World) (hc : Cur w g S s) :
    Calls Try.prog 38 #[.pointer (some ⟨g, 0, none⟩)] w (DrawP g S w fun _ v => ∃ r b h : Int, v = bkt r b h) := by
  have hlt := hc.lt
  go_enter Try.func38, Try.ntmps38
  go_wp2_with fail
  refine (l13Bucket_some g S s _ (hc.below (by (repeat' (first | (with_reducible exact Below.refl _ _) | (with_reducible assumption) | (with_reducible refine Below.alloc ?_ ?_ _) | (with_reducible refine Below.drew ?_) | (with_reducible refine below_drewN ?_ _) | (with_reducible refine Below.setCell ?_ ?_ _) | (with_reducible refine bvia ?_ (by with_reducible assumption) ?_) | go_size))))).mono ?_
  rintro e w1 ⟨v1, s1, rfl, ⟨r, b, h, rfl⟩, c1, t1⟩
  have hc1_0 := fun o => t1.cell (p := ⟨w.heap.size, o, none⟩) (by go_size) (by first | exact .inr (show g + 1 ≤ w.heap.size from by omega) | exact .inl (show w.heap.size < g from by omega))
  have hf1_0 := fun o => t1.frozen (p := ⟨w.heap.size, o, none⟩) (by go_size) (by first | exact .inr (show g + 1 ≤ w.heap.size from by omega) | exact .inl (show w.heap.size < g from by omega))
  have hz1_0 : w.heap.size < w1.heap.size := Nat.lt_of_lt_of_le (by go_size) t1.size
  have hz1 := t1.size
  try simp at hz1
  go_wp2_with fail
  refine (l01Below_some g S s1 10 _ (by decide) (c1.below (by (repeat' (first | (with_reducible exact Below.refl _ _) | (with_reducible assumption) | (with_reducible refine Below.alloc ?_ ?_ _) | (with_reducible refine Below.drew ?_) | (with_reducible refine below_drewN ?_ _) | (with_reducible refine Below.setCell ?_ ?_ _) | (with_reducible refine bvia ?_ (by with_reducible assumption) ?_) | go_size))))).mono ?_
  rintro e w2 ⟨v2, s2, rfl, ⟨x, rfl, p2, q2⟩, c2, t2⟩
  have hc2_0 := fun o => t2.cell (p := ⟨w.heap.size, o, none⟩) (by go_size) (by first | exact .inr (show g + 1 ≤ w.heap.size from by omega) | exact .inl (show w.heap.size < g from by omega))
  have hf2_0 := fun o => t2.frozen (p := ⟨w.heap.size, o, none⟩) (by go_size) (by first | exact .inr (show g + 1 ≤ w.heap.size from by omega) | exact .inl (show w.heap.size < g from by omega))
  have hz2_0 : w.heap.size < w2.heap.size := Nat.lt_of_lt_of_le (by go_size) t2.size
  have hc2_1 := fun o => t2.cell (p := ⟨w1.heap.size, o, none⟩) (by go_size) (by first | exact .inr (show g + 1 ≤ w1.heap.size from by omega) | exact .inl (show w1.heap.size < g from by omega))
  have hf2_1 := fun o => t2.frozen (p := ⟨w1.heap.size, o, none⟩) (by go_size) (by first | exact .inr (show g + 1 ≤ w1.heap.size from by omega) | exact .inl (show w1.heap.size < g from by omega))
  have hz2_1 : w1.heap.size < w2.heap.size := Nat.lt_of_lt_of_le (by go_size) t2.size
  have hz2 := t2.size
  try simp at hz2
  by_cases h0 : x = 0
  · subst h0
    go_wp2_with fail
    go_wp2_with fail
    refine (l01PickInt_some g S s2 _ _ [-1, 100, 101] 3 _ (c2.below (by (repeat' (first | (with_reducible exact Below.refl _ _) | (with_reducible assumption) | (with_reducible refine Below.alloc ?_ ?_ _) | (with_reducible refine Below.drew ?_) | (with_reducible refine below_drewN ?_ _) | (with_reducible refine Below.setCell ?_ ?_ _) | (with_reducible refine bvia ?_ (by with_reducible assumption) ?_) | go_size)))) rfl (Rd_lit _ _ (g + 1) _ _ _ rfl (by omega) (by simp)) (by decide) (by simp [maxLen])).mono ?_
    rintro e w3 ⟨v3, s3, rfl, ⟨x3, rfl, -⟩, c3, t3⟩
    have hc3_0 := fun o => t3.cell (p := ⟨w.heap.size, o, none⟩) (by go_size) (by first | exact .inr (show g + 1 ≤ w.heap.size from by omega) | exact .inl (show w.heap.size < g from by omega))
    have hf3_0 := fun o => t3.frozen (p := ⟨w.heap.size, o, none⟩) (by go_size) (by first | exact .inr (show g + 1 ≤ w.heap.size from by omega) | exact .inl (show w.heap.size < g from by omega))
    have hz3_0 : w.heap.size < w3.heap.size := Nat.lt_of_lt_of_le (by go_size) t3.size
    have hc3_1 := fun o => t3.cell (p := ⟨w1.heap.size, o, none⟩) (by go_size) (by first | exact .inr (show g + 1 ≤ w1.heap.size from by omega) | exact .inl (show w1.heap.size < g from by omega))
    have hf3_1 := fun o => t3.frozen (p := ⟨w1.heap.size, o, none⟩) (by go_size) (by first | exact .inr (show g + 1 ≤ w1.heap.size from by omega) | exact .inl (show w1.heap.size < g from by omega))
    have hz3_1 : w1.heap.size < w3.heap.size := Nat.lt_of_lt_of_le (by go_size) t3.size
    have hz3 := t3.size
    try simp at hz3
    go_wp2
    refine bodyPost_ret (v := bkt x3 b h) (by simp [results, Try.results38, go_sem, *]) rfl ?_
    exact ⟨_, s3, rfl, ⟨x3, b, h, rfl⟩, c3.keep (lo := w.heap.size) (hi := w1.heap.size + 1) (by (repeat' (first | (with_reducible exact Touch.refl _ _ _) | (with_reducible assumption) | (with_reducible refine Touch.alloc ?_ _) | (with_reducible refine Touch.drew ?_) | (with_reducible refine Touch.drewN ?_ _) | (with_reducible refine Touch.setCell ?_ ?_ ?_ _) | (with_reducible refine Touch.via ?_ (by with_reducible assumption)) | go_size))) hlt, by (repeat' (first | (with_reducible exact Touch.refl _ _ _) | (with_reducible assumption) | (with_reducible refine Touch.alloc ?_ _) | (with_reducible refine Touch.drew ?_) | (with_reducible refine Touch.drewN ?_ _) | (with_reducible refine Touch.setNew ?_ ?_ _) | (with_reducible refine Touch.trans ?_ (by with_reducible assumption)) | (with_reducible refine Touch.via ?_ (by with_reducible assumption)) | go_size | omega))⟩
  have d0 : (x == 0) = false := by simpa using h0
  by_cases h1 : x = 1
  · subst h1
    go_wp2_with fail
    go_wp2_with fail
    refine (l01PickInt_some g S s2 _ _ [-1, 101, 7] 3 _ (c2.below (by (repeat' (first | (with_reducible exact Below.refl _ _) | (with_reducible assumption) | (with_reducible refine Below.alloc ?_ ?_ _) | (with_reducible refine Below.drew ?_) | (with_reducible refine below_drewN ?_ _) | (with_reducible refine Below.setCell ?_ ?_ _) | (with_reducible refine bvia ?_ (by with_reducible assumption) ?_) | go_size)))) rfl (Rd_lit _ _ (g + 1) _ _ _ rfl (by omega) (by simp)) (by decide) (by simp [maxLen])).mono ?_
    rintro e w3 ⟨v3, s3, rfl, ⟨x3, rfl, -⟩, c3, t3⟩
    have hc3_0 := fun o => t3.cell (p := ⟨w.heap.size, o, none⟩) (by go_size) (by first | exact .inr (show g + 1 ≤ w.heap.size from by omega) | exact .inl (show w.heap.size < g from by omega))
    have hf3_0 := fun o => t3.frozen (p := ⟨w.heap.size, o, none⟩) (by go_size) (by first | exact .inr (show g + 1 ≤ w.heap.size from by omega) | exact .inl (show w.heap.size < g from by omega))
    have hz3_0 : w.heap.size < w3.heap.size := Nat.lt_of_lt_of_le (by go_size) t3.size
    have hc3_1 := fun o => t3.cell (p := ⟨w1.heap.size, o, none⟩) (by go_size) (by first | exact .inr (show g + 1 ≤ w1.heap.size from by omega) | exact .inl (show w1.heap.size < g from by omega))
    have hf3_1 := fun o => t3.frozen (p := ⟨w1.heap.size, o, none⟩) (by go_size) (by first | exact .inr (show g + 1 ≤ w1.heap.size from by omega) | exact .inl (show w1.heap.size < g from by omega))
    have hz3_1 : w1.heap.size < w3.heap.size := Nat.lt_of_lt_of_le (by go_size) t3.size
    have hz3 := t3.size
    try simp at hz3
    go_wp2
    refine bodyPost_ret (v := bkt r b x3) (by simp [results, Try.results38, go_sem, *]) rfl ?_
    exact ⟨_, s3, rfl, ⟨r, b, x3, rfl⟩, c3.keep (lo := w.heap.size) (hi := w1.heap.size + 1) (by (repeat' (first | (with_reducible exact Touch.refl _ _ _) | (with_reducible assumption) | (with_reducible refine Touch.alloc ?_ _) | (with_reducible refine Touch.drew ?_) | (with_reducible refine Touch.drewN ?_ _) | (with_reducible refine Touch.setCell ?_ ?_ ?_ _) | (with_reducible refine Touch.via ?_ (by with_reducible assumption)) | go_size))) hlt, by (repeat' (first | (with_reducible exact Touch.refl _ _ _) | (with_reducible assumption) | (with_reducible refine Touch.alloc ?_ _) | (with_reducible refine Touch.drew ?_) | (with_reducible refine Touch.drewN ?_ _) | (with_reducible refine Touch.setNew ?_ ?_ _) | (with_reducible refine Touch.trans ?_ (by with_reducible assumption)) | (with_reducible refine Touch.via ?_ (by with_reducible assumption)) | go_size | omega))⟩
  have d1 : (x == 1) = false := by simpa using h1
  by_cases h2 : x = 2
  · subst h2
    go_wp2_with fail
    go_wp2_with fail
    refine (l01PickInt_some g S s2 _ _ [0, 100, 101] 3 _ (c2.below (by (repeat' (first | (with_reducible exact Below.refl _ _) | (with_reducible assumption) | (with_reducible refine Below.alloc ?_ ?_ _) | (with_reducible refine Below.drew ?_) | (with_reducible refine below_drewN ?_ _) | (with_reducible refine Below.setCell ?_ ?_ _) | (with_reducible refine bvia ?_ (by with_reducible assumption) ?_) | go_size)))) rfl (Rd_lit _ _ (g + 1) _ _ _ rfl (by omega) (by simp)) (by decide) (by simp [maxLen])).mono ?_
    rintro e w3 ⟨v3, s3, rfl, ⟨x3, rfl, -⟩, c3, t3⟩
    have hc3_0 := fun o => t3.cell (p := ⟨w.heap.size, o, none⟩) (by go_size) (by first | exact .inr (show g + 1 ≤ w.heap.size from by omega) | exact .inl (show w.heap.size < g from by omega))
    have hf3_0 := fun o => t3.frozen (p := ⟨w.heap.size, o, none⟩) (by go_size) (by first | exact .inr (show g + 1 ≤ w.heap.size from by omega) | exact .inl (show w.heap.size < g from by omega))
    have hz3_0 : w.heap.size < w3.heap.size := Nat.lt_of_lt_of_le (by go_size) t3.size
    have hc3_1 := fun o => t3.cell (p := ⟨w1.heap.size, o, none⟩) (by go_size) (by first | exact .inr (show g + 1 ≤ w1.heap.size from by omega) | exact .inl (show w1.heap.size < g from by omega))
    have hf3_1 := fun o => t3.frozen (p := ⟨w1.heap.size, o, none⟩) (by go_size) (by first | exact .inr (show g + 1 ≤ w1.heap.size from by omega) | exact .inl (show w1.heap.size < g from by omega))
    have hz3_1 : w1.heap.size < w3.heap.size := Nat.lt_of_lt_of_le (by go_size) t3.size
    have hz3 := t3.size
    try simp at hz3
    go_wp2
    refine bodyPost_ret (v := bkt r x3 h) (by simp [results, Try.results38, go_sem, *]) rfl ?_
    exact ⟨_, s3, rfl, ⟨r, x3, h, rfl⟩, c3.keep (lo := w.heap.size) (hi := w1.heap.size + 1) (by (repeat' (first | (with_reducible exact Touch.refl _ _ _) | (with_reducible assumption) | (with_reducible refine Touch.alloc ?_ _) | (with_reducible refine Touch.drew ?_) | (with_reducible refine Touch.drewN ?_ _) | (with_reducible refine Touch.setCell ?_ ?_ ?_ _) | (with_reducible refine Touch.via ?_ (by with_reducible assumption)) | go_size))) hlt, by (repeat' (first | (with_reducible exact Touch.refl _ _ _) | (with_reducible assumption) | (with_reducible refine Touch.alloc ?_ _) | (with_reducible refine Touch.drew ?_) | (with_reducible refine Touch.drewN ?_ _) | (with_reducible refine Touch.setNew ?_ ?_ _) | (with_reducible refine Touch.trans ?_ (by with_reducible assumption)) | (with_reducible refine Touch.via ?_ (by with_reducible assumption)) | go_size | omega))⟩
  have d2 : (x == 2) = false := by simpa using h2
  clear h0 h1 h2
  go_wp2
  refine bodyPost_ret (v := bkt r b h) (by simp [results, Try.results38, go_sem, *]) rfl ?_
  exact ⟨_, s2, rfl, ⟨r, b, h, rfl⟩, c2.keep (lo := w.heap.size) (hi := w1.heap.size + 1) (by (repeat' (first | (with_reducible exact Touch.refl _ _ _) | (with_reducible assumption) | (with_reducible refine Touch.alloc ?_ _) | (with_reducible refine Touch.drew ?_) | (with_reducible refine Touch.drewN ?_ _) | (with_reducible refine Touch.setCell ?_ ?_ ?_ _) | (with_reducible refine Touch.via ?_ (by with_reducible assumption)) | go_size))) hlt, by (repeat' (first | (with_reducible exact Touch.refl _ _ _) | (with_reducible assumption) | (with_reducible refine Touch.alloc ?_ _) | (with_reducible refine Touch.drew ?_) | (with_reducible refine Touch.drewN ?_ _) | (with_reducible refine Touch.setNew ?_ ?_ _) | (with_reducible refine Touch.trans ?_ (by with_reducible assumption)) | (with_reducible refine Touch.via ?_ (by with_reducible assumption)) | go_size | omega))⟩
set_option maxHeartbeats 2000000 in
theorem l13Asks_some (g : Nat) (S : Src) (s : Nat × Int) (w : World) (hc : Cur w g S s) :
    Calls Try.prog 39 #[.pointer (some ⟨g, 0, none⟩)] w (DrawP g S w fun w' v => ∃ L : List Int, Own w' w.heap.size 3 icell 1 v L ∧ L.length ≤ 12) := by
  have hlt := hc.lt
  go_enter Try.func39, Try.ntmps39
  go_wp2_with fail
  go_loopw [3, 4] (fun v i wr => ∃ (k : Nat) (L : List Int) (s : Nat × Int), i = .int .i64 k ∧ Own wr w.heap.size 3 icell 1 v L ∧ L.length ≤ k ∧ k ≤ 12 ∧ Cur wr g S s ∧ Touch g (g + 1) w wr) (fun _ i _ => 12 - (intOf i).toNat)
  case atStart => exact ⟨0, [], s, rfl, Own.empty _ _ _ (Nat.le_refl _), Nat.le_refl _, by omega, hc.below (by (repeat' (first | (with_reducible exact Below.refl _ _) | (with_reducible assumption) | (with_reducible refine Below.alloc ?_ ?_ _) | (with_reducible refine Below.drew ?_) | (with_reducible refine below_drewN ?_ _) | (with_reducible refine Below.setCell ?_ ?_ _) | (with_reducible refine bvia ?_ (by with_reducible assumption) ?_) | go_size))), by (repeat' (first | (with_reducible exact Touch.refl _ _ _) | (with_reducible assumption) | (with_reducible refine Touch.alloc ?_ _) | (with_reducible refine Touch.drew ?_) | (with_reducible refine Touch.drewN ?_ _) | (with_reducible refine Touch.setNew ?_ ?_ _) | (with_reducible refine Touch.trans ?_ (by with_reducible assumption)) | (with_reducible refine Touch.via ?_ (by with_reducible assumption)) | go_size | omega))⟩
  case round =>
    obtain ⟨k, L, s, rfl, O, hLk, hk8, hC, hT⟩ := hrel
    have hz0 := hT.size
    go_wp2_with fail
    refine (l01Below_some g S s 12 _ (by decide) hC).mono ?_
    rintro e w1 ⟨v1, s1, rfl, ⟨x, rfl, p1, q1⟩, c1, t1⟩
    have hz1 := t1.size
    have O1 := O.touch t1 hlt
    have hT1 := hT.trans t1
    clear O hT hC t1
    by_cases hlt2 : (k : Int) < x
    · go_wp2_with fail
      refine (l01Below_some g S s1 5 _ (by decide) c1).mono ?_
      rintro e w2 ⟨v2, s2, rfl, ⟨n, rfl, p2, q2⟩, c2, t2⟩
      have hz2 := t2.size
      have O2 := O1.touch t2 hlt
      have hT2 := hT1.trans t2
      clear hT1 c1 t2 O1
      go_wp2_with (at_builtin; refine wpList_append_rd _ rfl (.tmp 12) (.tmp 15) rfl slInt icell_length icell_one w.heap.size _ L [n] rfl (O2.alloc _) (some ⟨w2.heap.size, 0, none⟩) 1 1 0 (w2.heap.size + 1) rfl rfl (rd_one _ (n : Int) _ _ icell_length rfl _ rfl _ (by omega)) (by simp; omega) (by simp; omega) ?_; intro v5 w5 O5 G5 X5; have hz5 := G5.size; (try simp at hz5); have c5 : Cur w5 g S s2 := (c2.below (by (repeat' (first | (with_reducible exact Below.refl _ _) | (with_reducible assumption) | (with_reducible refine Below.alloc ?_ ?_ _) | (with_reducible refine Below.drew ?_) | (with_reducible refine below_drewN ?_ _) | (with_reducible refine Below.setCell ?_ ?_ _) | (with_reducible refine bvia ?_ (by with_reducible assumption) ?_) | go_size)) : Below _ _ (w2.alloc _))).keep (lo := w.heap.size) (hi := w5.heap.size) ((Touch.refl _ _ _).grown G5 (fun k hk => ⟨(O2.lt hk).1, by have := (O2.lt hk).2; omega⟩)) hlt; have hT5 := (Touch.alloc hT2 _).grownNew G5 (fun k hk => (O2.lt hk).1); have hl5 : (L ++ [(n : Int)]).length ≤ k + 1 := (by simp; omega); clear O2 hT2 c2 G5 X5)
      go_roundw
      case rel => exact ⟨k + 1, _, s2, by go_num, O5, hl5, by omega, c5, hT5⟩
      case measure => simp [intOf]; omega
    · have hx : x ≤ (k : Int) := by omega
      go_wp2
      go_ret
      exact ⟨_, s1, rfl, ⟨L, O1, by omega⟩, c1, hT1⟩
/-- What DrawRunBucket says. -/
def DrewRunBucket (w : World) (e : Ending) (w' : World) : Prop :=
  ∃ (v : Value) (L : List Int) (r b h : Int), e = .returned (.tuple #[bkt r b h, v]) ∧ Own w' w.heap.size 3 icell 1 v L ∧ L.length ≤ 13 ∧ Below w.heap.size w w'
set_option maxHeartbeats 4000000 in
theorem DrawRunBucket_some (A : Option Addr) (cap : Nat) (B : List Int) (w : World) (hr : Rd bcells 1 w 0 w.heap.size A B) (hm : B.length ≤ 1048576) :
    Calls Try.prog 31 #[.slice A B.length cap] w (DrewRunBucket w) := by
  go_enter Try.func31, Try.ntmps31
  go_wp2_with fail
  refine (l01New_any A cap B _ (by exact hr.later (by (repeat' (first | (with_reducible exact Below.refl _ _) | (with_reducible assumption) | (with_reducible refine Below.alloc ?_ ?_ _) | (with_reducible refine Below.drew ?_) | (with_reducible refine below_drewN ?_ _) | (with_reducible refine Below.setCell ?_ ?_ _) | (with_reducible refine bvia ?_ (by with_reducible assumption) ?_) | go_size))) (Nat.le_refl _) (by go_size)) hm).mono ?_
  rintro e w1 ⟨rfl, c1, hb1⟩
  obtain ⟨hc, hf⟩ := bcell hb1
  have hc1_0 := fun o => hc (w.heap.size) o (by go_size)
  have hf1_0 := fun o => hf (w.heap.size) o (by go_size)
  have hz1_0 : w.heap.size < w1.heap.size := Nat.lt_of_lt_of_le (by go_size) hb1.size
  clear hc hf
  have hz1 := hb1.size
  try simp at hz1
  simp only [World.size_alloc] at c1
  have hB1 : Below w.heap.size w w1 := by (repeat' (first | (with_reducible exact Below.refl _ _) | (with_reducible assumption) | (with_reducible refine Below.alloc ?_ ?_ _) | (with_reducible refine Below.drew ?_) | (with_reducible refine below_drewN ?_ _) | (with_reducible refine Below.setCell ?_ ?_ _) | (with_reducible refine bvia ?_ (by with_reducible assumption) ?_) | go_size))
  obtain ⟨g, hg⟩ : ∃ g, w.heap.size + 1 = g := ⟨_, rfl⟩
  rw [hg] at c1
  try simp only [World.size_alloc]
  rw [hg]
  have hgl : w.heap.size < g := by omega
  clear hg hb1
  have hlt := c1.lt
  go_wp2_with fail
  refine (l13Any_some g _ _ _ c1).mono ?_
  rintro e w2 ⟨v2, s2, rfl, ⟨r, b, h, rfl⟩, c2, t2⟩
  have hc2_0 := fun o => t2.cell (p := ⟨w.heap.size, o, none⟩) (by go_size) (by first | exact .inr (show g + 1 ≤ w.heap.size from by omega) | exact .inl (show w.heap.size < g from by omega))
  have hf2_0 := fun o => t2.frozen (p := ⟨w.heap.size, o, none⟩) (by go_size) (by first | exact .inr (show g + 1 ≤ w.heap.size from by omega) | exact .inl (show w.heap.size < g from by omega))
  have hz2_0 : w.heap.size < w2.heap.size := Nat.lt_of_lt_of_le (by go_size) t2.size
  have hz2 := t2.size
  try simp at hz2
  have hB2 := t2.below hB1 (by omega) (by omega)
  clear t2 c1
  go_wp2_with fail
  refine (l13Asks_some g _ s2 _ (c2.below (by (repeat' (first | (with_reducible exact Below.refl _ _) | (with_reducible assumption) | (with_reducible refine Below.alloc ?_ ?_ _) | (with_reducible refine Below.drew ?_) | (with_reducible refine below_drewN ?_ _) | (with_reducible refine Below.setCell ?_ ?_ _) | (with_reducible refine bvia ?_ (by with_reducible assumption) ?_) | go_size))))).mono ?_
  rintro e w3 ⟨v, s3, rfl, ⟨L, O3, hL⟩, c3, t3⟩
  have hc3_0 := fun o => t3.cell (p := ⟨w.heap.size, o, none⟩) (by go_size) (by first | exact .inr (show g + 1 ≤ w.heap.size from by omega) | exact .inl (show w.heap.size < g from by omega))
  have hf3_0 := fun o => t3.frozen (p := ⟨w.heap.size, o, none⟩) (by go_size) (by first | exact .inr (show g + 1 ≤ w.heap.size from by omega) | exact .inl (show w.heap.size < g from by omega))
  have hz3_0 : w.heap.size < w3.heap.size := Nat.lt_of_lt_of_le (by go_size) t3.size
  have hc3_1 := fun o => t3.cell (p := ⟨w2.heap.size, o, none⟩) (by go_size) (by first | exact .inr (show g + 1 ≤ w2.heap.size from by omega) | exact .inl (show w2.heap.size < g from by omega))
  have hf3_1 := fun o => t3.frozen (p := ⟨w2.heap.size, o, none⟩) (by go_size) (by first | exact .inr (show g + 1 ≤ w2.heap.size from by omega) | exact .inl (show w2.heap.size < g from by omega))
  have hz3_1 : w2.heap.size < w3.heap.size := Nat.lt_of_lt_of_le (by go_size) t3.size
  have hz3 := t3.size
  try simp at hz3
  have hB3 := t3.below (by (repeat' (first | (with_reducible exact Below.refl _ _) | (with_reducible assumption) | (with_reducible refine Below.alloc ?_ ?_ _) | (with_reducible refine Below.drew ?_) | (with_reducible refine below_drewN ?_ _) | (with_reducible refine Below.setCell ?_ ?_ _) | (with_reducible refine bvia ?_ (by with_reducible assumption) ?_) | go_size)) : Below w.heap.size w _) (by omega) (by go_size)
  have hlt3 := c3.lt
  clear t3 c2
  go_wp2_with fail
  refine (l01Once_some g _ s3 8 _ c3).mono ?_
  rintro e w4 ⟨v4, s4, rfl, ⟨b4, rfl⟩, c4, t4⟩
  have hc4_0 := fun o => t4.cell (p := ⟨w.heap.size, o, none⟩) (by go_size) (by first | exact .inr (show g + 1 ≤ w.heap.size from by omega) | exact .inl (show w.heap.size < g from by omega))
  have hf4_0 := fun o => t4.frozen (p := ⟨w.heap.size, o, none⟩) (by go_size) (by first | exact .inr (show g + 1 ≤ w.heap.size from by omega) | exact .inl (show w.heap.size < g from by omega))
  have hz4_0 : w.heap.size < w4.heap.size := Nat.lt_of_lt_of_le (by go_size) t4.size
  have hc4_1 := fun o => t4.cell (p := ⟨w2.heap.size, o, none⟩) (by go_size) (by first | exact .inr (show g + 1 ≤ w2.heap.size from by omega) | exact .inl (show w2.heap.size < g from by omega))
  have hf4_1 := fun o => t4.frozen (p := ⟨w2.heap.size, o, none⟩) (by go_size) (by first | exact .inr (show g + 1 ≤ w2.heap.size from by omega) | exact .inl (show w2.heap.size < g from by omega))
  have hz4_1 : w2.heap.size < w4.heap.size := Nat.lt_of_lt_of_le (by go_size) t4.size
  have hz4 := t4.size
  try simp at hz4
  have hB4 := t4.below hB3 (by omega) (by omega)
  have O4 := O3.touch t4 (by simp; omega)
  have O4' := O4.up (base' := w2.heap.size + 1) (by simp)
  clear t4 c3 O3 O4
  cases b4 with
  | false =>
    go_wp2
    refine bodyPost_ret (v := .tuple #[bkt r b h, v]) (by simp [results, Try.results31, go_sem, *]) rfl ?_
    exact ⟨v, L, r, b, h, rfl, (O4'.keep (fun k hk h1 _ => by repeat (first | rw [show ∀ W : World, W.drew.heap = W.heap from fun _ => rfl] | rw [Below.heap_setCell _ _ _ _ (by first | omega | (simp; omega))] | rfl))).up (by omega), by omega, by (repeat' (first | (with_reducible exact Below.refl _ _) | (with_reducible assumption) | (with_reducible refine Below.alloc ?_ ?_ _) | (with_reducible refine Below.drew ?_) | (with_reducible refine below_drewN ?_ _) | (with_reducible refine Below.setCell ?_ ?_ _) | (with_reducible refine bvia ?_ (by with_reducible assumption) ?_) | go_size))⟩
  | true =>
    go_wp2_with fail
    refine (l01PickInt_some g _ s4 _ _ [-1, 20, 21, 9223372036854775807] 4 _ (c4.below (by (repeat' (first | (with_reducible exact Below.refl _ _) | (with_reducible assumption) | (with_reducible refine Below.alloc ?_ ?_ _) | (with_reducible refine Below.drew ?_) | (with_reducible refine below_drewN ?_ _) | (with_reducible refine Below.setCell ?_ ?_ _) | (with_reducible refine bvia ?_ (by with_reducible assumption) ?_) | go_size)))) rfl (Rd_lit _ _ (g + 1) _ _ _ rfl (by omega) (by simp)) (by decide) (by simp [maxLen])).mono ?_
    rintro e w5 ⟨v5, s5, rfl, ⟨x5, rfl, -⟩, c5, t5⟩
    have hc5_0 := fun o => t5.cell (p := ⟨w.heap.size, o, none⟩) (by go_size) (by first | exact .inr (show g + 1 ≤ w.heap.size from by omega) | exact .inl (show w.heap.size < g from by omega))
    have hf5_0 := fun o => t5.frozen (p := ⟨w.heap.size, o, none⟩) (by go_size) (by first | exact .inr (show g + 1 ≤ w.heap.size from by omega) | exact .inl (show w.heap.size < g from by omega))
    have hz5_0 : w.heap.size < w5.heap.size := Nat.lt_of_lt_of_le (by go_size) t5.size
    have hc5_1 := fun o => t5.cell (p := ⟨w2.heap.size, o, none⟩) (by go_size) (by first | exact .inr (show g + 1 ≤ w2.heap.size from by omega) | exact .inl (show w2.heap.size < g from by omega))
    have hf5_1 := fun o => t5.frozen (p := ⟨w2.heap.size, o, none⟩) (by go_size) (by first | exact .inr (show g + 1 ≤ w2.heap.size from by omega) | exact .inl (show w2.heap.size < g from by omega))
    have hz5_1 : w2.heap.size < w5.heap.size := Nat.lt_of_lt_of_le (by go_size) t5.size
    have hz5 := t5.size
    try simp at hz5
    have hB5 := t5.below (by (repeat' (first | (with_reducible exact Below.refl _ _) | (with_reducible assumption) | (with_reducible refine Below.alloc ?_ ?_ _) | (with_reducible refine Below.drew ?_) | (with_reducible refine below_drewN ?_ _) | (with_reducible refine Below.setCell ?_ ?_ _) | (with_reducible refine bvia ?_ (by with_reducible assumption) ?_) | go_size)) : Below w.heap.size w _) (by omega) (by go_size)
    have O5 := (O4'.alloc _).touch t5 (by omega)
    clear t5 c4 O4'
    have xc : ∀ o, w5.cell? ⟨w.heap.size, o, none⟩ = (w4.alloc (.cells #[.int .i64 (-1), .int .i64 20, .int .i64 21, .int .i64 9223372036854775807] 3)).cell? ⟨w.heap.size, o, none⟩ := hc5_0
    go_wp2_with (at_builtin; refine wpList_append_rd _ rfl (.tmp 15) (.tmp 19) rfl slInt icell_length icell_one (w2.heap.size + 1) _ L [x5] rfl (O5.alloc _) (some ⟨w5.heap.size, 0, none⟩) 1 1 0 (w5.heap.size + 1) rfl rfl (rd_one _ (x5 : Int) _ _ icell_length rfl _ rfl _ (by omega)) (by simp; omega) (by simp; omega) ?_; intro v6 w6 O6 G6 X6; have hz6 := G6.size; (try simp at hz6); have fr : ∀ b' o, b' < w2.heap.size + 1 → w6.cell? ⟨b', o, none⟩ = w5.cell? ⟨b', o, none⟩ ∧ w6.frozen? ⟨b', o, none⟩ = w5.frozen? ⟨b', o, none⟩ := (fun b' o hb' => ⟨(G6.cell_far _ (by simp; omega) (by intro hh; have h8 := (O5.lt hh.symm).1; simp at h8; omega)).trans (World.cell?_alloc_lt w5 _ _ (by show b' < _; omega)), (G6.frozen_far _ (by simp; omega) (by intro hh; have h8 := (O5.lt hh.symm).1; simp at h8; omega)).trans (fal w5 _ b' o (by omega))⟩); have hc6_0 := fun o => (fr w.heap.size o (by omega)).1; have hc6_1 := fun o => (fr w2.heap.size o (by omega)).1; have hf6_0 := fun o => (fr w.heap.size o (by omega)).2; have hB6 : Below w.heap.size w w6 := Below.grown (by (repeat' (first | (with_reducible exact Below.refl _ _) | (with_reducible assumption) | (with_reducible refine Below.alloc ?_ ?_ _) | (with_reducible refine Below.drew ?_) | (with_reducible refine below_drewN ?_ _) | (with_reducible refine Below.setCell ?_ ?_ _) | (with_reducible refine bvia ?_ (by with_reducible assumption) ?_) | go_size))) G6 (by simp; omega) (fun k hk => by have := (O5.lt hk).1; omega); clear fr O5 G6 X6)
    refine bodyPost_ret (v := .tuple #[bkt r b h, v6]) (by simp [results, Try.results31, go_sem, *]) rfl ?_
    exact ⟨v6, L ++ [x5], r, b, h, rfl, (O6.keep (fun k hk h1 _ => by repeat (first | rw [show ∀ W : World, W.drew.heap = W.heap from fun _ => rfl] | rw [Below.heap_setCell _ _ _ _ (by first | omega | (simp; omega))] | rfl))).up (by omega), by simp; omega, by (repeat' (first | (with_reducible exact Below.refl _ _) | (with_reducible assumption) | (with_reducible refine Below.alloc ?_ ?_ _) | (with_reducible refine Below.drew ?_) | (with_reducible refine below_drewN ?_ _) | (with_reducible refine Below.setCell ?_ ?_ _) | (with_reducible refine bvia ?_ (by with_reducible assumption) ?_) | go_size))⟩
end Go.Proofs.Ytkeldhffhiekpaa
