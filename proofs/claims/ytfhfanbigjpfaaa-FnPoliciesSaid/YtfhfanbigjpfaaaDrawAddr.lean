/- l11Addr, l11List, l11Any: for every state of the cursor. -/
import Derived.Test.YtfhfanbigjpfaaaDraw
import Derived.Test.YtfhfanbigjpfaaaPut
import Derived.Test.YtfhfanbigjpfaaaAddrO
namespace Go.Proofs.Ytfhfanbigjpfaaa
set_option linter.unusedSimpArgs false
set_option linter.unusedVariables false
open Go.RowKit

set_option maxHeartbeats 1000000 in
theorem l11Addr_some (g : Nat) (S : Src) (s : Nat × Int) (w : World) (hc : Cur w g S s) :
    Calls Try.prog 45 #[.pointer (some ⟨g, 0, none⟩)] w (DrawP g S w fun _ v => ∃ x : AddrD, v = x.val) := by
  have hlt := hc.lt
  go_enter Try.func45, Try.ntmps45
  go_wp2_with fail
  refine (l01Below_some g S s 7 _ (by decide) (hc.below (by (repeat' (first | (with_reducible exact Below.refl _ _) | (with_reducible assumption) | (with_reducible refine Below.alloc ?_ ?_ _) | (with_reducible refine Below.drew ?_) | (with_reducible refine below_drewN ?_ _) | (with_reducible refine Below.setCell ?_ ?_ _) | (with_reducible refine bvia ?_ (by with_reducible assumption) ?_) | go_size))))).mono ?_
  rintro e w1 ⟨v1, s1, rfl, ⟨x1, rfl, p1, q1⟩, c1, t1⟩
  have hc1_0 := fun o => t1.cell (p := ⟨w.heap.size, o, none⟩) (by go_size) (by first | exact .inr (show g + 1 ≤ w.heap.size from by omega) | exact .inl (show w.heap.size < g from by omega))
  have hf1_0 := fun o => t1.frozen (p := ⟨w.heap.size, o, none⟩) (by go_size) (by first | exact .inr (show g + 1 ≤ w.heap.size from by omega) | exact .inl (show w.heap.size < g from by omega))
  have hz1_0 : w.heap.size < w1.heap.size := Nat.lt_of_lt_of_le (by go_size) t1.size
  have hz1 := t1.size
  try simp at hz1
  go_wp2_with fail
  refine (l01Below_some g S s1 9 _ (by decide) c1).mono ?_
  rintro e w2 ⟨v2, s2, rfl, ⟨x2, rfl, p2, q2⟩, c2, t2⟩
  have hc2_0 := fun o => t2.cell (p := ⟨w.heap.size, o, none⟩) (by go_size) (by first | exact .inr (show g + 1 ≤ w.heap.size from by omega) | exact .inl (show w.heap.size < g from by omega))
  have hf2_0 := fun o => t2.frozen (p := ⟨w.heap.size, o, none⟩) (by go_size) (by first | exact .inr (show g + 1 ≤ w.heap.size from by omega) | exact .inl (show w.heap.size < g from by omega))
  have hz2_0 : w.heap.size < w2.heap.size := Nat.lt_of_lt_of_le (by go_size) t2.size
  have hz2 := t2.size
  try simp at hz2
  go_wp2_with fail
  refine (l01Once_some g S s2 4 _ c2).mono ?_
  rintro e w3 ⟨v3, s3, rfl, ⟨x3, rfl⟩, c3, t3⟩
  have hc3_0 := fun o => t3.cell (p := ⟨w.heap.size, o, none⟩) (by go_size) (by first | exact .inr (show g + 1 ≤ w.heap.size from by omega) | exact .inl (show w.heap.size < g from by omega))
  have hf3_0 := fun o => t3.frozen (p := ⟨w.heap.size, o, none⟩) (by go_size) (by first | exact .inr (show g + 1 ≤ w.heap.size from by omega) | exact .inl (show w.heap.size < g from by omega))
  have hz3_0 : w.heap.size < w3.heap.size := Nat.lt_of_lt_of_le (by go_size) t3.size
  have hz3 := t3.size
  try simp at hz3
  go_wp2_with fail
  refine (l01Once_some g S s3 2 _ c3).mono ?_
  rintro e w4 ⟨v4, s4, rfl, ⟨x4, rfl⟩, c4, t4⟩
  have hc4_0 := fun o => t4.cell (p := ⟨w.heap.size, o, none⟩) (by go_size) (by first | exact .inr (show g + 1 ≤ w.heap.size from by omega) | exact .inl (show w.heap.size < g from by omega))
  have hf4_0 := fun o => t4.frozen (p := ⟨w.heap.size, o, none⟩) (by go_size) (by first | exact .inr (show g + 1 ≤ w.heap.size from by omega) | exact .inl (show w.heap.size < g from by omega))
  have hz4_0 : w.heap.size < w4.heap.size := Nat.lt_of_lt_of_le (by go_size) t4.size
  have hz4 := t4.size
  try simp at hz4
  go_wp2
  refine bodyPost_ret (v := (⟨x1, 11 + x2, x3, x4⟩ : AddrD).val) (by simp [results, Try.results45, go_sem, *]) rfl ?_
  exact ⟨_, s4, rfl, ⟨⟨x1, 11 + x2, x3, x4⟩, rfl⟩, c4.keep (lo := w.heap.size) (hi := w.heap.size + 1) (by (repeat' (first | (with_reducible exact Touch.refl _ _ _) | (with_reducible assumption) | (with_reducible refine Touch.alloc ?_ _) | (with_reducible refine Touch.drew ?_) | (with_reducible refine Touch.drewN ?_ _) | (with_reducible refine Touch.setCell ?_ ?_ ?_ _) | (with_reducible refine Touch.via ?_ (by with_reducible assumption)) | go_size))) hlt, by (repeat' (first | (with_reducible exact Touch.refl _ _ _) | (with_reducible assumption) | (with_reducible refine Touch.alloc ?_ _) | (with_reducible refine Touch.drew ?_) | (with_reducible refine Touch.drewN ?_ _) | (with_reducible refine Touch.setNew ?_ ?_ _) | (with_reducible refine Touch.trans ?_ (by with_reducible assumption)) | (with_reducible refine Touch.via ?_ (by with_reducible assumption)) | go_size | omega))⟩
set_option maxHeartbeats 1000000 in
theorem l11List_some (g : Nat) (S : Src) (s : Nat × Int) (w : World) (hc : Cur w g S s) :
    Calls Try.prog 44 #[.pointer (some ⟨g, 0, none⟩)] w (DrawP g S w fun w' v => ∃ L : List AddrD, Own w' w.heap.size 56 AddrD.cells 4 v L ∧ L.length ≤ 8) := by
  have hlt := hc.lt
  go_enter Try.func44, Try.ntmps44
  go_wp2_with fail
  go_loopw [3, 4] (fun v i wr => ∃ (k : Nat) (L : List AddrD) (s : Nat × Int), i = .int .i64 k ∧ Own wr w.heap.size 56 AddrD.cells 4 v L ∧ L.length ≤ k ∧ k ≤ 8 ∧ Cur wr g S s ∧ Touch g (g + 1) w wr) (fun _ i _ => 8 - (intOf i).toNat)
  case atStart => exact ⟨0, [], s, rfl, Own.empty _ _ _ (Nat.le_refl _), Nat.le_refl _, by omega, hc.below (by (repeat' (first | (with_reducible exact Below.refl _ _) | (with_reducible assumption) | (with_reducible refine Below.alloc ?_ ?_ _) | (with_reducible refine Below.drew ?_) | (with_reducible refine below_drewN ?_ _) | (with_reducible refine Below.setCell ?_ ?_ _) | (with_reducible refine bvia ?_ (by with_reducible assumption) ?_) | go_size))), by (repeat' (first | (with_reducible exact Touch.refl _ _ _) | (with_reducible assumption) | (with_reducible refine Touch.alloc ?_ _) | (with_reducible refine Touch.drew ?_) | (with_reducible refine Touch.drewN ?_ _) | (with_reducible refine Touch.setNew ?_ ?_ _) | (with_reducible refine Touch.trans ?_ (by with_reducible assumption)) | (with_reducible refine Touch.via ?_ (by with_reducible assumption)) | go_size | omega))⟩
  case round =>
    obtain ⟨k, L, s, rfl, O, hLk, hk8, hC, hT⟩ := hrel
    have hz0 := hT.size
    go_wp2_with fail
    refine (l01Below_some g S s 8 _ (by decide) hC).mono ?_
    rintro e w1 ⟨v1, s1, rfl, ⟨x, rfl, p1, q1⟩, c1, t1⟩
    have hz1 := t1.size
    have O1 := O.touch t1 hlt
    have hT1 := hT.trans t1
    clear O hT hC t1
    obtain ⟨A, cap, rfl, hle, hcm, -⟩ := O1.rd0 AddrD.cells_length
    have HO1 := Lib.hid O1
    clear O1
    by_cases hlt2 : (k : Int) < x
    · go_wp2_with fail
      refine (l11Addr_some g S s1 _ c1).mono ?_
      rintro e w2 ⟨v2, s2, rfl, ⟨a, rfl⟩, c2, t2⟩
      have hz2 := t2.size
      have O2 := HO1.out.touch t2 hlt
      have hT2 := hT1.trans t2
      clear hT1 c1 t2 HO1
      go_wp2_with fail
      refine (sPutAddr A cap L a _ (O2.rdv AddrD.cells_length) hle hcm (by omega)).mono ?_
      rintro e w3 ⟨v3, rfl, O3, hb3⟩
      have c3 := c2.below hb3
      have hT3 := hT2.trans (Touch.ofBelow hb3 : Touch g (g + 1) _ _)
      have hl3 := putR_le L a
      have O3' := O3.up (base' := w.heap.size) (by omega)
      clear hT2 c2 O2 O3 hb3
      go_wp2
      go_roundw
      case rel => exact ⟨k + 1, _, s2, by go_num, O3', by omega, by omega, c3, hT3⟩
      case measure => simp [intOf]; omega
    · have hx : x ≤ (k : Int) := by omega
      go_wp2
      go_ret
      exact ⟨_, s1, rfl, ⟨L, HO1.out, by omega⟩, c1, hT1⟩
set_option maxHeartbeats 1000000 in
theorem l11Any_some (g : Nat) (S : Src) (s : Nat × Int) (w : World) (hc : Cur w g S s) :
    Calls Try.prog 39 #[.pointer (some ⟨g, 0, none⟩)] w (DrawP g S w fun w' v => ∃ L : List AddrD, Own w' w.heap.size 56 AddrD.cells 4 v L ∧ L.length ≤ 9) := by
  have hlt := hc.lt
  go_enter Try.func39, Try.ntmps39
  go_wp2_with fail
  refine (l11List_some g S s _ hc).mono ?_
  rintro e w1 ⟨v, s1, rfl, ⟨L, O1, hL⟩, c1, t1⟩
  have hz1 := t1.size
  go_wp2_with fail
  refine (l01Below_some g S s1 12 _ (by decide) c1).mono ?_
  rintro e w2 ⟨v2, s2, rfl, ⟨x, rfl, p2, q2⟩, c2, t2⟩
  have hz2 := t2.size
  have O2 := O1.touch t2 hlt
  have hT2 := t1.trans t2
  clear O1 t1 t2 c1
  by_cases h0 : x = 0
  · subst h0
    go_wp2_with fail
    refine (l11Addr_some g S s2 _ c2).mono ?_
    rintro e w3 ⟨v3, s3, rfl, ⟨a, rfl⟩, c3, t3⟩
    have hz3 := t3.size
    have O3 := O2.touch t3 hlt
    have hT3 := hT2.trans t3
    clear O2 hT2 t3 c2
    go_wp2_with (at_builtin; refine wpList_append_rd _ rfl (.tmp 10) (.tmp 13) rfl slAddr AddrD.cells_length AddrD.one w.heap.size v L [a] rfl (O3.alloc _) (some ⟨w3.heap.size, 0, none⟩) 1 1 0 (w3.heap.size + 1) rfl rfl (rd_one _ (a) _ _ AddrD.cells_length rfl _ rfl _ (by omega)) (by simp; omega) (by simp; omega) ?_; intro v5 w5 O5 G5 X5)
    go_ret
    exact ⟨_, s3, rfl, ⟨_, O5, by simp; omega⟩, (c3.below (by (repeat' (first | (with_reducible exact Below.refl _ _) | (with_reducible assumption) | (with_reducible refine Below.alloc ?_ ?_ _) | (with_reducible refine Below.drew ?_) | (with_reducible refine below_drewN ?_ _) | (with_reducible refine Below.setCell ?_ ?_ _) | (with_reducible refine bvia ?_ (by with_reducible assumption) ?_) | go_size)) : Below _ _ (w3.alloc _))).keep (lo := w.heap.size) (hi := w5.heap.size) ((Touch.refl _ _ _).grown G5 (fun k hk => ⟨(O3.lt hk).1, by have := (O3.lt hk).2; have := G5.size; simp at this; omega⟩)) hlt, (Touch.alloc hT3 _).grownNew G5 (fun k hk => (O3.lt hk).1)⟩
  · have d0 : (x == 0) = false := by simpa using h0
    by_cases h1 : x = 1
    · subst h1
      go_wp2_with fail
      refine (l01PickInt_some g S s2 _ _ [-1, 256, 255] 3 _ (c2.below (by (repeat' (first | (with_reducible exact Below.refl _ _) | (with_reducible assumption) | (with_reducible refine Below.alloc ?_ ?_ _) | (with_reducible refine Below.drew ?_) | (with_reducible refine below_drewN ?_ _) | (with_reducible refine Below.setCell ?_ ?_ _) | (with_reducible refine bvia ?_ (by with_reducible assumption) ?_) | go_size)))) rfl (Rd_lit _ _ (g + 1) _ _ _ rfl (by omega) (by simp)) (by decide) (by simp [maxLen])).mono ?_
      rintro e w3 ⟨v3, s3, rfl, ⟨x3, rfl, -⟩, c3, t3⟩
      have hz3 := t3.size
      simp at hz3
      have O3 := (O2.alloc _).touch t3 hlt
      have hT3 := (hT2.alloc _).trans t3
      clear O2 hT2 t3 c2
      go_wp2_with fail
      refine (l01PickInt_some g S s3 _ _ [0, 65536, 500] 3 _ (c3.below (by (repeat' (first | (with_reducible exact Below.refl _ _) | (with_reducible assumption) | (with_reducible refine Below.alloc ?_ ?_ _) | (with_reducible refine Below.drew ?_) | (with_reducible refine below_drewN ?_ _) | (with_reducible refine Below.setCell ?_ ?_ _) | (with_reducible refine bvia ?_ (by with_reducible assumption) ?_) | go_size)))) rfl (Rd_lit _ _ (g + 1) _ _ _ rfl (by omega) (by simp)) (by decide) (by simp [maxLen])).mono ?_
      rintro e w4 ⟨v4, s4, rfl, ⟨x4, rfl, -⟩, c4, t4⟩
      have hz4 := t4.size
      simp at hz4
      have O4 := (O3.alloc _).touch t4 hlt
      have hT4 := (hT3.alloc _).trans t4
      clear O3 hT3 t4 c3
      go_wp2_with (at_builtin; refine wpList_append_rd _ rfl (.tmp 17) (.tmp 25) rfl slAddr AddrD.cells_length AddrD.one w.heap.size v L [⟨x3, x4, false, false⟩] rfl (O4.alloc _) (some ⟨w4.heap.size, 0, none⟩) 1 1 0 (w4.heap.size + 1) rfl rfl (rd_one _ (⟨x3, x4, false, false⟩) _ _ AddrD.cells_length rfl _ rfl _ (by omega)) (by simp; omega) (by simp; omega) ?_; intro v5 w5 O5 G5 X5)
      go_ret
      exact ⟨_, s4, rfl, ⟨_, O5, by simp; omega⟩, (c4.below (by (repeat' (first | (with_reducible exact Below.refl _ _) | (with_reducible assumption) | (with_reducible refine Below.alloc ?_ ?_ _) | (with_reducible refine Below.drew ?_) | (with_reducible refine below_drewN ?_ _) | (with_reducible refine Below.setCell ?_ ?_ _) | (with_reducible refine bvia ?_ (by with_reducible assumption) ?_) | go_size)) : Below _ _ (w4.alloc _))).keep (lo := w.heap.size) (hi := w5.heap.size) ((Touch.refl _ _ _).grown G5 (fun k hk => ⟨(O4.lt hk).1, by have := (O4.lt hk).2; have := G5.size; simp at this; omega⟩)) hlt, (Touch.alloc hT4 _).grownNew G5 (fun k hk => (O4.lt hk).1)⟩
    · have d1 : (x == 1) = false := by simpa using h1
      go_wp2
      go_ret
      exact ⟨_, s2, rfl, ⟨L, O2, by omega⟩, c2, hT2⟩
end Go.Proofs.Ytfhfanbigjpfaaa
