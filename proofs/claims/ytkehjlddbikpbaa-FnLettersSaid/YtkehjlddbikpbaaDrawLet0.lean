/- l12Road, l15Tag, l01Pick: for every state of the cursor. -/
import Derived.Test.YtkehjlddbikpbaaDraw
import Derived.Test.YtkehjlddbikpbaaLetters1
import Derived.Test.YtkehjlddbikpbaaAgg
import Derived.Deep.RegionHeld3
import Derived.Deep.DrawnRows
namespace Go.Proofs.Ytkehjlddbikpbaa
set_option linter.unusedSimpArgs false
set_option linter.unusedVariables false
open Go.RowKit

set_option maxHeartbeats 1000000 in
theorem l12Road_some (g : Nat) (S : Src) (s : Nat × Int) (w : World) (hc : Cur w g S s) :
    Calls Try.prog 26 #[.pointer (some ⟨g, 0, none⟩)] w (DrawP g S w fun _ v => ∃ a b c : Int, v = rd a b c) := by
  have hlt := hc.lt
  go_enter Try.func26, Try.ntmps26
  go_wp2_with fail
  refine (l01Below_some g S s 3 _ (by decide) (hc.below (by (repeat' (first | (with_reducible exact Below.refl _ _) | (with_reducible assumption) | (with_reducible refine Below.alloc ?_ ?_ _) | (with_reducible refine Below.drew ?_) | (with_reducible refine below_drewN ?_ _) | (with_reducible refine Below.setCell ?_ ?_ _) | (with_reducible refine bvia ?_ (by with_reducible assumption) ?_) | go_size))))).mono ?_
  rintro e w1 ⟨v1, s1, rfl, ⟨x1, rfl, p1, q1⟩, c1, t1⟩
  have hc1_0 := fun o => t1.cell (p := ⟨w.heap.size, o, none⟩) (by go_size) (by first | exact .inr (show g + 1 ≤ w.heap.size from by omega) | exact .inl (show w.heap.size < g from by omega))
  have hf1_0 := fun o => t1.frozen (p := ⟨w.heap.size, o, none⟩) (by go_size) (by first | exact .inr (show g + 1 ≤ w.heap.size from by omega) | exact .inl (show w.heap.size < g from by omega))
  have hz1_0 : w.heap.size < w1.heap.size := Nat.lt_of_lt_of_le (by go_size) t1.size
  have hz1 := t1.size
  try simp at hz1
  go_wp2_with fail
  refine (l01Below_some g S s1 3 _ (by decide) c1).mono ?_
  rintro e w2 ⟨v2, s2, rfl, ⟨x2, rfl, p2, q2⟩, c2, t2⟩
  have hc2_0 := fun o => t2.cell (p := ⟨w.heap.size, o, none⟩) (by go_size) (by first | exact .inr (show g + 1 ≤ w.heap.size from by omega) | exact .inl (show w.heap.size < g from by omega))
  have hf2_0 := fun o => t2.frozen (p := ⟨w.heap.size, o, none⟩) (by go_size) (by first | exact .inr (show g + 1 ≤ w.heap.size from by omega) | exact .inl (show w.heap.size < g from by omega))
  have hz2_0 : w.heap.size < w2.heap.size := Nat.lt_of_lt_of_le (by go_size) t2.size
  have hz2 := t2.size
  try simp at hz2
  go_wp2_with fail
  refine (l01Below_some g S s2 3 _ (by decide) c2).mono ?_
  rintro e w3 ⟨v3, s3, rfl, ⟨x3, rfl, p3, q3⟩, c3, t3⟩
  have hc3_0 := fun o => t3.cell (p := ⟨w.heap.size, o, none⟩) (by go_size) (by first | exact .inr (show g + 1 ≤ w.heap.size from by omega) | exact .inl (show w.heap.size < g from by omega))
  have hf3_0 := fun o => t3.frozen (p := ⟨w.heap.size, o, none⟩) (by go_size) (by first | exact .inr (show g + 1 ≤ w.heap.size from by omega) | exact .inl (show w.heap.size < g from by omega))
  have hz3_0 : w.heap.size < w3.heap.size := Nat.lt_of_lt_of_le (by go_size) t3.size
  have hz3 := t3.size
  try simp at hz3
  go_wp2
  refine bodyPost_ret (v := rd (11 + x1) (21 + x2) x3) (by simp [results, Try.results26, go_sem, *]) rfl ?_
  exact ⟨_, s3, rfl, ⟨11 + x1, 21 + x2, x3, rfl⟩, c3.keep (lo := w.heap.size) (hi := w.heap.size + 1) (by (repeat' (first | (with_reducible exact Touch.refl _ _ _) | (with_reducible assumption) | (with_reducible refine Touch.alloc ?_ _) | (with_reducible refine Touch.drew ?_) | (with_reducible refine Touch.drewN ?_ _) | (with_reducible refine Touch.setCell ?_ ?_ ?_ _) | (with_reducible refine Touch.via ?_ (by with_reducible assumption)) | go_size))) hlt, by (repeat' (first | (with_reducible exact Touch.refl _ _ _) | (with_reducible assumption) | (with_reducible refine Touch.alloc ?_ _) | (with_reducible refine Touch.drew ?_) | (with_reducible refine Touch.drewN ?_ _) | (with_reducible refine Touch.setNew ?_ ?_ _) | (with_reducible refine Touch.trans ?_ (by with_reducible assumption)) | (with_reducible refine Touch.via ?_ (by with_reducible assumption)) | go_size | omega))⟩
set_option maxHeartbeats 1000000 in
theorem l15Tag_some (g : Nat) (S : Src) (s : Nat × Int) (w : World) (hc : Cur w g S s) :
    Calls Try.prog 34 #[.pointer (some ⟨g, 0, none⟩)] w (DrawP g S w fun _ v => ∃ x : TagD, v = x.val) := by
  have hlt := hc.lt
  go_enter Try.func34, Try.ntmps34
  go_wp2_with fail
  refine (l01Below_some g S s 4 _ (by decide) (hc.below (by (repeat' (first | (with_reducible exact Below.refl _ _) | (with_reducible assumption) | (with_reducible refine Below.alloc ?_ ?_ _) | (with_reducible refine Below.drew ?_) | (with_reducible refine below_drewN ?_ _) | (with_reducible refine Below.setCell ?_ ?_ _) | (with_reducible refine bvia ?_ (by with_reducible assumption) ?_) | go_size))))).mono ?_
  rintro e w1 ⟨v1, s1, rfl, ⟨x1, rfl, p1, q1⟩, c1, t1⟩
  have hc1_0 := fun o => t1.cell (p := ⟨w.heap.size, o, none⟩) (by go_size) (by first | exact .inr (show g + 1 ≤ w.heap.size from by omega) | exact .inl (show w.heap.size < g from by omega))
  have hf1_0 := fun o => t1.frozen (p := ⟨w.heap.size, o, none⟩) (by go_size) (by first | exact .inr (show g + 1 ≤ w.heap.size from by omega) | exact .inl (show w.heap.size < g from by omega))
  have hz1_0 : w.heap.size < w1.heap.size := Nat.lt_of_lt_of_le (by go_size) t1.size
  have hz1 := t1.size
  try simp at hz1
  go_wp2_with fail
  refine (l01Below_some g S s1 3 _ (by decide) c1).mono ?_
  rintro e w2 ⟨v2, s2, rfl, ⟨x2, rfl, p2, q2⟩, c2, t2⟩
  have hc2_0 := fun o => t2.cell (p := ⟨w.heap.size, o, none⟩) (by go_size) (by first | exact .inr (show g + 1 ≤ w.heap.size from by omega) | exact .inl (show w.heap.size < g from by omega))
  have hf2_0 := fun o => t2.frozen (p := ⟨w.heap.size, o, none⟩) (by go_size) (by first | exact .inr (show g + 1 ≤ w.heap.size from by omega) | exact .inl (show w.heap.size < g from by omega))
  have hz2_0 : w.heap.size < w2.heap.size := Nat.lt_of_lt_of_le (by go_size) t2.size
  have hz2 := t2.size
  try simp at hz2
  go_wp2_with fail
  refine (l01Below_some g S s2 3 _ (by decide) c2).mono ?_
  rintro e w3 ⟨v3, s3, rfl, ⟨x3, rfl, p3, q3⟩, c3, t3⟩
  have hc3_0 := fun o => t3.cell (p := ⟨w.heap.size, o, none⟩) (by go_size) (by first | exact .inr (show g + 1 ≤ w.heap.size from by omega) | exact .inl (show w.heap.size < g from by omega))
  have hf3_0 := fun o => t3.frozen (p := ⟨w.heap.size, o, none⟩) (by go_size) (by first | exact .inr (show g + 1 ≤ w.heap.size from by omega) | exact .inl (show w.heap.size < g from by omega))
  have hz3_0 : w.heap.size < w3.heap.size := Nat.lt_of_lt_of_le (by go_size) t3.size
  have hz3 := t3.size
  try simp at hz3
  go_wp2_with fail
  refine (l01Below_some g S s3 4 _ (by decide) c3).mono ?_
  rintro e w4 ⟨v4, s4, rfl, ⟨x4, rfl, p4, q4⟩, c4, t4⟩
  have hc4_0 := fun o => t4.cell (p := ⟨w.heap.size, o, none⟩) (by go_size) (by first | exact .inr (show g + 1 ≤ w.heap.size from by omega) | exact .inl (show w.heap.size < g from by omega))
  have hf4_0 := fun o => t4.frozen (p := ⟨w.heap.size, o, none⟩) (by go_size) (by first | exact .inr (show g + 1 ≤ w.heap.size from by omega) | exact .inl (show w.heap.size < g from by omega))
  have hz4_0 : w.heap.size < w4.heap.size := Nat.lt_of_lt_of_le (by go_size) t4.size
  have hz4 := t4.size
  try simp at hz4
  go_wp2_with fail
  refine (l01Below_some g S s4 4 _ (by decide) c4).mono ?_
  rintro e w5 ⟨v5, s5, rfl, ⟨x5, rfl, p5, q5⟩, c5, t5⟩
  have hc5_0 := fun o => t5.cell (p := ⟨w.heap.size, o, none⟩) (by go_size) (by first | exact .inr (show g + 1 ≤ w.heap.size from by omega) | exact .inl (show w.heap.size < g from by omega))
  have hf5_0 := fun o => t5.frozen (p := ⟨w.heap.size, o, none⟩) (by go_size) (by first | exact .inr (show g + 1 ≤ w.heap.size from by omega) | exact .inl (show w.heap.size < g from by omega))
  have hz5_0 : w.heap.size < w5.heap.size := Nat.lt_of_lt_of_le (by go_size) t5.size
  have hz5 := t5.size
  try simp at hz5
  go_wp2
  refine bodyPost_ret (v := (⟨x1, 1 + x2, 1 + x3, x4, x5⟩ : TagD).val) (by simp [results, Try.results34, go_sem, *]) rfl ?_
  exact ⟨_, s5, rfl, ⟨⟨x1, 1 + x2, 1 + x3, x4, x5⟩, rfl⟩, c5.keep (lo := w.heap.size) (hi := w.heap.size + 1) (by (repeat' (first | (with_reducible exact Touch.refl _ _ _) | (with_reducible assumption) | (with_reducible refine Touch.alloc ?_ _) | (with_reducible refine Touch.drew ?_) | (with_reducible refine Touch.drewN ?_ _) | (with_reducible refine Touch.setCell ?_ ?_ ?_ _) | (with_reducible refine Touch.via ?_ (by with_reducible assumption)) | go_size))) hlt, by (repeat' (first | (with_reducible exact Touch.refl _ _ _) | (with_reducible assumption) | (with_reducible refine Touch.alloc ?_ _) | (with_reducible refine Touch.drew ?_) | (with_reducible refine Touch.drewN ?_ _) | (with_reducible refine Touch.setNew ?_ ?_ _) | (with_reducible refine Touch.trans ?_ (by with_reducible assumption)) | (with_reducible refine Touch.via ?_ (by with_reducible assumption)) | go_size | omega))⟩
abbrev scell (x : ByteArray) : List Value := [.string x]
/-- A list of strings that a literal lays in a new block. -/
theorem RdS_lit (w : World) (g lo : Nat) (L : List ByteArray) (arr : Array Value) (t : TypeId) (hg : g = w.heap.size) (hl : lo ≤ w.heap.size) (h : arr = (L.map Value.string).toArray) :
    Rd scell 1 (w.alloc (.cells arr t)) lo (w.alloc (.cells arr t)).heap.size (some ⟨g, 0, none⟩) L := by
  subst hg
  subst h
  refine .inr ⟨w.heap.size, 0, rfl, hl, by simp, fun k hk j hj => ?_⟩
  obtain rfl : j = 0 := by omega
  rw [cell_of_row _ w.heap.size _ _ t (0, 0) (heap_alloc_new w _)]
  simp [hk]
def pickS (B : List Int) (s : Nat × Int) (L : List ByteArray) : ByteArray := L[(belowV B s L.length).toNat]?.getD ⟨#[]⟩
theorem pickS_mem (B : List Int) (s : Nat × Int) (L : List ByteArray) (h : 0 < L.length) : pickS B s L ∈ L := by
  have hr := belowV_range B s L.length
  have := hr.2.1 (by omega)
  unfold pickS
  rw [List.getElem?_eq_getElem (by omega)]
  exact List.getElem_mem _
set_option maxHeartbeats 1000000 in
theorem l01Pick_any (g : Nat) (S : Src) (s : Nat × Int) (A : Option Addr) (cap : Nat) (L : List ByteArray) (n : Nat) (w : World) (hc : Cur w g S s) (hn : n = L.length) (hr : Rd scell 1 w (g + 1) w.heap.size A L) (hL : 0 < L.length) (hm : L.length ≤ maxLen) :
    Calls Try.prog 35 #[.pointer (some ⟨g, 0, none⟩), .slice A n cap] w fun e w' => e = .returned (.string (pickS S.B s L)) ∧ Cur w' g S (belowS S.B s L.length) ∧ Touch g (g + 1) w w' := by
  subst hn
  have hb := belowV_range S.B s L.length
  have hb2 := hb.2.1 (by omega)
  obtain ⟨k, hk⟩ : ∃ k : Nat, belowV S.B s L.length = k := ⟨(belowV S.B s L.length).toNat, by omega⟩
  rw [hk] at hb2
  have hkl : k < L.length := by omega
  have hV : Hid (pickS S.B s L = L[k]) := by unfold Hid pickS; rw [hk]; simp [hkl]
  have HK := Lib.hid hk
  clear hk hb
  unfold maxLen at hm
  obtain ⟨g', o, rfl, hlo, hg, hcell⟩ := hr.at_ hL
  have a0 : w.cell? ⟨g', o + k, none⟩ = some (.string L[k]) := by have := hcell k hkl 0 (by decide); simpa using this
  clear hcell hr
  go_enter Try.func35, Try.ntmps35
  go_wp2_with fail
  refine (l01Below_any g S s L.length w hc).mono ?_
  rintro e w1 ⟨rfl, c1, t1⟩
  rw [HK.out]
  have a1 := (t1.cell (p := ⟨g', o + k, none⟩) hg (.inr hlo)).trans a0
  clear a0
  go_wp2
  go_ret
  exact ⟨by rw [hV.out]; rfl, c1, t1⟩
theorem l01Pick_some (g : Nat) (S : Src) (s : Nat × Int) (A : Option Addr) (cap : Nat) (L : List ByteArray) (n : Nat) (w : World) (hc : Cur w g S s) (hn : n = L.length) (hr : Rd scell 1 w (g + 1) w.heap.size A L) (hL : 0 < L.length) (hm : L.length ≤ maxLen) (hb : ∀ x ∈ L, x.size ≤ 21) :
    Calls Try.prog 35 #[.pointer (some ⟨g, 0, none⟩), .slice A n cap] w (DrawP g S w fun _ v => ∃ x : ByteArray, v = .string x ∧ x.size ≤ 21) :=
  (l01Pick_any g S s A cap L n w hc hn hr hL hm).mono fun e w' ⟨h, c, t⟩ => ⟨_, _, h, ⟨_, rfl, hb _ (pickS_mem S.B s L hL)⟩, c, t⟩
end Go.Proofs.Ytkehjlddbikpbaa
