/- l08Maps, l08Any, l08Map, DrawPutMap: for every state of the cursor. Written by program (drawmap.py). -/
import Derived.Test.YtofeiadogdhngaaDraw
import Derived.Test.YtofeiadogdhngaaMapO
import Derived.Test.YtofeiadogdhngaaTy
namespace Go.Proofs.Ytofeiadogdhngaa
set_option linter.unusedSimpArgs false
set_option linter.unusedVariables false
open Go.RowKit

set_option maxRecDepth 100000 in
set_option maxHeartbeats 2000000 in
theorem l08Maps_some (g : Nat) (S : Src) (s : Nat × Int) (w : World) (hc : Cur w g S s) :
    Calls Try.prog 31 #[.pointer (some ⟨g, 0, none⟩)] w (DrawP g S w fun w' v => ∃ L : List MapD, Own w' w.heap.size 30 MapD.cells 3 v L ∧ L.length ≤ 7) := by
  have hlt := hc.lt
  go_enter Try.func31, Try.ntmps31
  go_wp2_with fail
  refine (l01Below_some g S s 9 _ (by decide) (hc.below (by (repeat' (first | (with_reducible exact Below.refl _ _) | (with_reducible assumption) | (with_reducible refine Below.alloc ?_ ?_ _) | (with_reducible refine Below.drew ?_) | (with_reducible refine below_drewN ?_ _) | (with_reducible refine Below.setCell ?_ ?_ _) | (with_reducible refine bvia ?_ (by with_reducible assumption) ?_) | go_size))))).mono ?_
  rintro e w1 ⟨v1, s1, rfl, ⟨x1, rfl, -, -⟩, c1, t1⟩
  have O1 := (Own.empty (c := MapD.cells) (sz := 3) w w.heap.size 30 (Nat.le_refl _)).touch t1 hlt
  have hT1 := (Touch.alloc (Touch.refl g (g + 1) w) _).trans t1
  clear t1
  go_wp2_with fail
  refine (l01Below_some g S s1 50 _ (by decide) c1).mono ?_
  rintro e w2 ⟨v2, s2, rfl, ⟨x2, rfl, -, -⟩, c2, t2⟩
  have O2 := O1.touch t2 hlt
  have hT2 := hT1.trans t2
  clear O1 hT1 t2 c1
  go_wp2_with fail
  go_loopw [3, 4, 5, 6] (fun v x y i wr => ∃ (k : Nat) (L : List MapD) (s : Nat × Int) (a b : Int), i = .int .i64 k ∧ x = .int .i64 a ∧ y = .int .i64 b ∧ Own wr w.heap.size 30 MapD.cells 3 v L ∧ L.length ≤ k ∧ k ≤ 7 ∧ Cur wr g S s ∧ Touch g (g + 1) w wr) (fun _ _ _ i _ => 7 - (intOf i).toNat)
  case atStart => exact ⟨0, [], s2, x1, x2, rfl, rfl, rfl, O2, Nat.le_refl _, by omega, c2, hT2⟩
  case round =>
    obtain ⟨k, L, s, a, b, rfl, rfl, rfl, O, hLk, hk7, hC, hT⟩ := hrel
    have hz0 := hT.size
    go_wp2_with fail
    refine (l01Below_some g S s 7 _ (by decide) hC).mono ?_
    rintro e w1 ⟨v1, s1, rfl, ⟨x, rfl, p1, q1⟩, c1, t1⟩
    have hz1 := t1.size
    have O1 := O.touch t1 hlt
    have hT1 := hT.trans t1
    clear O hT hC t1
    by_cases hlt2 : (k : Int) < x
    · go_wp2_with fail
      refine (l01Below_some g S s1 9 _ (by decide) c1).mono ?_
      rintro e w2 ⟨v2, s2, rfl, ⟨n, rfl, p2, q2⟩, c2, t2⟩
      have hz2 := t2.size
      have O2 := O1.touch t2 hlt
      have hT2 := hT1.trans t2
      clear hT1 c1 t2 O1
      go_wp2_with (at_builtin; refine wpList_append_rd _ rfl (.tmp 22) (.tmp 27) rfl slMap MapD.cells_length MapD.one w.heap.size _ L [⟨a, b, 1 + n⟩] rfl (O2.alloc _) (some ⟨w2.heap.size, 0, none⟩) 1 1 0 (w2.heap.size + 1) rfl rfl (rd_one _ (⟨a, b, 1 + n⟩ : MapD) _ _ MapD.cells_length rfl _ rfl _ (by omega)) (by simp; omega) (by simp; omega) ?_; intro v5 w5 O5 G5 X5; have hz5 := G5.size; (try simp at hz5); have c5 : Cur w5 g S s2 := (c2.below (by (repeat' (first | (with_reducible exact Below.refl _ _) | (with_reducible assumption) | (with_reducible refine Below.alloc ?_ ?_ _) | (with_reducible refine Below.drew ?_) | (with_reducible refine below_drewN ?_ _) | (with_reducible refine Below.setCell ?_ ?_ _) | (with_reducible refine bvia ?_ (by with_reducible assumption) ?_) | go_size)) : Below _ _ (w2.alloc _))).keep (lo := w.heap.size) (hi := w5.heap.size) ((Touch.refl _ _ _).grown G5 (fun k hk => ⟨(O2.lt hk).1, by have := (O2.lt hk).2; omega⟩)) hlt; have hT5 := (Touch.alloc hT2 _).grownNew G5 (fun k hk => (O2.lt hk).1); have hl5 : (L ++ [(⟨a, b, 1 + n⟩ : MapD)]).length ≤ k + 1 := (by simp; omega); clear O2 hT2 c2 G5 X5)
      refine (l01Once_some g S s2 2 _ c5).mono ?_
      rintro e w6 ⟨v6, s6, rfl, ⟨b6, rfl⟩, c6, t6⟩
      have hz6 := t6.size
      have O6 := O5.touch t6 hlt
      have hT6 := hT5.trans t6
      clear O5 hT5 c5 t6
      cases b6 with
      | false =>
        go_wp2
        go_roundw
        case rel => exact ⟨k + 1, _, s6, _, _, by go_num, rfl, rfl, O6, hl5, by omega, c6, hT6⟩
        case measure => simp [intOf]; omega
      | true =>
        go_wp2_with fail
        refine (l01Below_some g S s6 5 _ (by decide) c6).mono ?_
        rintro e w7 ⟨v7, s7, rfl, ⟨n7, rfl, p7, q7⟩, c7, t7⟩
        have O7 := O6.touch t7 hlt
        have hT7 := hT6.trans t7
        clear O6 hT6 c6 t7
        go_wp2_with fail
        refine (l01Below_some g S s7 60 _ (by decide) c7).mono ?_
        rintro e w8 ⟨v8, s8, rfl, ⟨n8, rfl, p8, q8⟩, c8, t8⟩
        have O8 := O7.touch t8 hlt
        have hT8 := hT7.trans t8
        clear O7 hT7 c7 t8
        go_wp2
        go_roundw
        case rel => exact ⟨k + 1, _, s8, _, _, by go_num, rfl, rfl, O8, hl5, by omega, c8, hT8⟩
        case measure => simp [intOf]; omega
    · have hx : x ≤ (k : Int) := by omega
      go_wp2
      go_ret
      exact ⟨_, s1, rfl, ⟨L, O1, by omega⟩, c1, hT1⟩
set_option maxRecDepth 100000 in
set_option maxHeartbeats 4000000 in
theorem l08Any_some (g : Nat) (S : Src) (s : Nat × Int) (w : World) (hc : Cur w g S s) :
    Calls Try.prog 26 #[.pointer (some ⟨g, 0, none⟩)] w (DrawP g S w fun w' v => ∃ L : List MapD, Own w' w.heap.size 30 MapD.cells 3 v L ∧ L.length ≤ 43) := by
  have hlt := hc.lt
  go_enter Try.func26, Try.ntmps26
  go_wp2_with fail
  refine (l08Maps_some g S s _ hc).mono ?_
  rintro e w1 ⟨v, s1, rfl, ⟨L, O1, hL⟩, c1, t1⟩
  have hz1 := t1.size
  obtain ⟨A, cap, rfl, hle, hcm, -⟩ := O1.rd0 MapD.cells_length
  by_cases hp : 0 < L.length
  · have dp : (0 : Int) < (L.length : Int) := by omega
    have HO := Lib.hid O1
    clear O1
    go_wp2_with fail
    refine (l01Once_some g S s1 8 _ c1).mono ?_
    rintro e w2 ⟨v2, s2, rfl, ⟨b, rfl⟩, c2, t2⟩
    have hz2 := t2.size
    have O2 := HO.out.touch t2 hlt
    have hT2 := t1.trans t2
    clear HO t1 t2 c1
    cases b with
    | false =>
      go_wp2
      go_ret
      exact ⟨_, s2, rfl, ⟨L, O2, by omega⟩, c2, hT2⟩
    | true =>
      go_wp2_with fail
      refine (l01Below_some g S s2 L.length _ (by omega) c2).mono ?_
      rintro e w3 ⟨v3, s3, rfl, ⟨x3, rfl, p3, q3⟩, c3, t3⟩
      obtain ⟨kk, rfl⟩ : ∃ kk : Nat, x3 = kk := ⟨x3.toNat, by omega⟩
      have hkk : kk < L.length := by omega
      have hz3 := t3.size
      have O3 := O2.touch t3 hlt
      have hT3 := hT2.trans t3
      clear O2 hT2 t3 c2
      go_wp2_with fail
      refine (l01Below_some g S s3 4 _ (by decide) c3).mono ?_
      rintro e w5 ⟨v5, s5, rfl, ⟨x5, rfl, p5, q5⟩, c5, t5⟩
      have hz5 := t5.size
      have O5 := O3.touch t5 hlt
      have hT5 := hT3.trans t5
      clear O3 hT3 t5 c3
      by_cases h0 : x5 = 0
      · subst h0
        go_wp2_with fail
        refine (l01PickInt_some g S s5 _ _ [0, -1, 50, 100001] 4 _ (c5.below (by (repeat' (first | (with_reducible exact Below.refl _ _) | (with_reducible assumption) | (with_reducible refine Below.alloc ?_ ?_ _) | (with_reducible refine Below.drew ?_) | (with_reducible refine below_drewN ?_ _) | (with_reducible refine Below.setCell ?_ ?_ _) | (with_reducible refine bvia ?_ (by with_reducible assumption) ?_) | go_size)))) rfl (Rd_lit _ _ (g + 1) _ _ _ rfl (by omega) (by simp)) (by decide) (by simp [maxLen])).mono ?_
        rintro e w6 ⟨v6, s6, rfl, ⟨x6, rfl, -⟩, c6, t6⟩
        have O6 := (O5.alloc _).touch t6 hlt
        have hT6 := (hT5.alloc _).trans t6
        clear O5 hT5 t6 c5
        rcases O6.form with ⟨h1, h2⟩ | ⟨gg, cp, cur, h1, hgg, -⟩
        · rw [h2] at hp; simp at hp
        · cases h1
          have f9 := O6.free (kk * 3 + 2)
          have u9 : w6.cell? ⟨gg, kk * 3 + 2, none⟩ = some (.int .i64 (L[kk]'hkk).fLen) := by have := O6.cellAt MapD.cells_length kk hkk 2 (by decide); simpa [MapD.cells] using this
          have O10 := Lib.hid (O6.set1 (k := kk) (j := 2) (u := .int .i64 x6) (x := { (L[kk]'hkk) with fLen := x6 }) MapD.cells_length hkk (by decide) rfl)
          have hgz := (O6.lt rfl).2
          clear O6
          go_wp2
          go_ret
          exact ⟨_, s6, rfl, ⟨_, by simpa using O10.out, by simp; omega⟩, c6.keep (lo := w.heap.size) (hi := gg + 1) (by (repeat' (first | (with_reducible exact Touch.refl _ _ _) | (with_reducible assumption) | (with_reducible refine Touch.alloc ?_ _) | (with_reducible refine Touch.drew ?_) | (with_reducible refine Touch.drewN ?_ _) | (with_reducible refine Touch.setCell ?_ ?_ ?_ _) | (with_reducible refine Touch.via ?_ (by with_reducible assumption)) | go_size))) hlt, Touch.setNew hT6 hgg _⟩
      have d0 : (x5 == 0) = false := by simpa using h0
      by_cases h1 : x5 = 1
      · subst h1
        go_wp2_with fail
        refine (l01Below_some g S s5 9 _ (by decide) c5).mono ?_
        rintro e w6 ⟨v6, s6, rfl, ⟨x6, rfl, p6, q6⟩, c6, t6⟩
        have O6 := O5.touch t6 hlt
        have hT6 := hT5.trans t6
        clear O5 hT5 t6 c5
        rcases O6.form with ⟨h1, h2⟩ | ⟨gg, cp, cur, h1, hgg, -⟩
        · rw [h2] at hp; simp at hp
        · cases h1
          have f9 := O6.free (kk * 3)
          have u9 : w6.cell? ⟨gg, kk * 3, none⟩ = some (.int .i64 (L[kk]'hkk).fSub) := by have := O6.cellAt MapD.cells_length kk hkk 0 (by decide); simpa [MapD.cells] using this
          have O10 := Lib.hid (O6.set1 (k := kk) (j := 0) (u := .int .i64 x6) (x := { (L[kk]'hkk) with fSub := x6 }) MapD.cells_length hkk (by decide) rfl)
          have hgz := (O6.lt rfl).2
          clear O6
          go_wp2
          go_ret
          exact ⟨_, s6, rfl, ⟨_, by simpa using O10.out, by simp; omega⟩, c6.keep (lo := w.heap.size) (hi := gg + 1) (by (repeat' (first | (with_reducible exact Touch.refl _ _ _) | (with_reducible assumption) | (with_reducible refine Touch.alloc ?_ _) | (with_reducible refine Touch.drew ?_) | (with_reducible refine Touch.drewN ?_ _) | (with_reducible refine Touch.setCell ?_ ?_ ?_ _) | (with_reducible refine Touch.via ?_ (by with_reducible assumption)) | go_size))) hlt, Touch.setNew hT6 hgg _⟩
      have d1 : (x5 == 1) = false := by simpa using h1
      by_cases h2 : x5 = 2
      · subst h2
        go_wp2_with fail
        refine (l01PickInt_some g S s5 _ _ [-1, 1000000001] 2 _ (c5.below (by (repeat' (first | (with_reducible exact Below.refl _ _) | (with_reducible assumption) | (with_reducible refine Below.alloc ?_ ?_ _) | (with_reducible refine Below.drew ?_) | (with_reducible refine below_drewN ?_ _) | (with_reducible refine Below.setCell ?_ ?_ _) | (with_reducible refine bvia ?_ (by with_reducible assumption) ?_) | go_size)))) rfl (Rd_lit _ _ (g + 1) _ _ _ rfl (by omega) (by simp)) (by decide) (by simp [maxLen])).mono ?_
        rintro e w6 ⟨v6, s6, rfl, ⟨x6, rfl, -⟩, c6, t6⟩
        have O6 := (O5.alloc _).touch t6 hlt
        have hT6 := (hT5.alloc _).trans t6
        clear O5 hT5 t6 c5
        rcases O6.form with ⟨h1, h2⟩ | ⟨gg, cp, cur, h1, hgg, -⟩
        · rw [h2] at hp; simp at hp
        · cases h1
          have f9 := O6.free (kk * 3 + 1)
          have u9 : w6.cell? ⟨gg, kk * 3 + 1, none⟩ = some (.int .i64 (L[kk]'hkk).fSeq) := by have := O6.cellAt MapD.cells_length kk hkk 1 (by decide); simpa [MapD.cells] using this
          have O10 := Lib.hid (O6.set1 (k := kk) (j := 1) (u := .int .i64 x6) (x := { (L[kk]'hkk) with fSeq := x6 }) MapD.cells_length hkk (by decide) rfl)
          have hgz := (O6.lt rfl).2
          clear O6
          go_wp2
          go_ret
          exact ⟨_, s6, rfl, ⟨_, by simpa using O10.out, by simp; omega⟩, c6.keep (lo := w.heap.size) (hi := gg + 1) (by (repeat' (first | (with_reducible exact Touch.refl _ _ _) | (with_reducible assumption) | (with_reducible refine Touch.alloc ?_ _) | (with_reducible refine Touch.drew ?_) | (with_reducible refine Touch.drewN ?_ _) | (with_reducible refine Touch.setCell ?_ ?_ ?_ _) | (with_reducible refine Touch.via ?_ (by with_reducible assumption)) | go_size))) hlt, Touch.setNew hT6 hgg _⟩
      have d2 : (x5 == 2) = false := by simpa using h2
      clear h0 h1 h2
      go_wp2_with fail
      go_loopw [3, 5] (fun v i wr => ∃ (k : Nat) (L : List MapD), i = .int .i64 k ∧ Own wr w.heap.size 30 MapD.cells 3 v L ∧ L.length ≤ 7 + k ∧ k ≤ 36 ∧ Cur wr g S s5 ∧ Touch g (g + 1) w wr) (fun _ i _ => 36 - (intOf i).toNat)
      case atStart => exact ⟨0, L, rfl, O5, by omega, by omega, c5, hT5⟩
      case round =>
        obtain ⟨k, L, rfl, O, hLk, hk36, hC, hT⟩ := hrel
        have hz0 := hT.size
        by_cases hlt2 : k < 36
        · have hki : (k : Int) < 36 := by omega
          go_wp2_with (at_builtin; refine wpList_append_rd _ rfl (.tmp 25) (.tmp 29) rfl slMap MapD.cells_length MapD.one w.heap.size _ L [⟨1000 + k, 5, 1⟩] rfl (O.alloc _) (some ⟨wr.heap.size, 0, none⟩) 1 1 0 (wr.heap.size + 1) rfl rfl (rd_one _ (⟨1000 + k, 5, 1⟩ : MapD) _ _ MapD.cells_length rfl _ rfl _ (by omega)) (by simp; omega) (by simp; omega) ?_; intro v6 w6 O6 G6 X6; have hz6 := G6.size; (try simp at hz6); have c6 : Cur w6 g S s5 := (hC.below (by (repeat' (first | (with_reducible exact Below.refl _ _) | (with_reducible assumption) | (with_reducible refine Below.alloc ?_ ?_ _) | (with_reducible refine Below.drew ?_) | (with_reducible refine below_drewN ?_ _) | (with_reducible refine Below.setCell ?_ ?_ _) | (with_reducible refine bvia ?_ (by with_reducible assumption) ?_) | go_size)) : Below _ _ (wr.alloc _))).keep (lo := w.heap.size) (hi := w6.heap.size) ((Touch.refl _ _ _).grown G6 (fun k hk => ⟨(O.lt hk).1, by have := (O.lt hk).2; omega⟩)) hlt; have hT6 := (Touch.alloc hT _).grownNew G6 (fun k hk => (O.lt hk).1); have hl6 : (L ++ [(⟨1000 + k, 5, 1⟩ : MapD)]).length ≤ 7 + (k + 1) := (by simp; omega); clear O hT hC G6 X6)
          go_roundw
          case rel => exact ⟨k + 1, _, by go_num, O6, hl6, by omega, c6, hT6⟩
          case measure => simp [intOf]; omega
        · obtain rfl : k = 36 := by omega
          go_wp2
          go_ret
          exact ⟨_, s5, rfl, ⟨L, O, by omega⟩, hC, hT⟩
  · have h0 : L.length = 0 := by omega
    have dp : decide ((0 : Int) < (L.length : Int)) = false := by rw [h0]; rfl
    have dp2 : decide (0 < L.length) = false := by rw [h0]; rfl
    have HO := Lib.hid O1
    clear O1 h0 hp
    go_wp2
    go_ret
    exact ⟨_, s1, rfl, ⟨L, HO.out, by omega⟩, c1, t1⟩
set_option maxHeartbeats 2000000 in
theorem l08Map_some (g : Nat) (S : Src) (s : Nat × Int) (w : World) (hc : Cur w g S s) :
    Calls Try.prog 27 #[.pointer (some ⟨g, 0, none⟩)] w (DrawP g S w fun _ v => ∃ x : MapD, v = x.val) := by
  have hlt := hc.lt
  go_enter Try.func27, Try.ntmps27
  go_wp2_with fail
  refine (l01Below_some g S s 60 _ (by decide) (hc.below (by (repeat' (first | (with_reducible exact Below.refl _ _) | (with_reducible assumption) | (with_reducible refine Below.alloc ?_ ?_ _) | (with_reducible refine Below.drew ?_) | (with_reducible refine below_drewN ?_ _) | (with_reducible refine Below.setCell ?_ ?_ _) | (with_reducible refine bvia ?_ (by with_reducible assumption) ?_) | go_size))))).mono ?_
  rintro e w1 ⟨v1, s1, rfl, ⟨x1, rfl, p1, q1⟩, c1, t1⟩
  have hc1_0 := fun o => t1.cell (p := ⟨w.heap.size, o, none⟩) (by go_size) (by first | exact .inr (show g + 1 ≤ w.heap.size from by omega) | exact .inl (show w.heap.size < g from by omega))
  have hf1_0 := fun o => t1.frozen (p := ⟨w.heap.size, o, none⟩) (by go_size) (by first | exact .inr (show g + 1 ≤ w.heap.size from by omega) | exact .inl (show w.heap.size < g from by omega))
  have hz1_0 : w.heap.size < w1.heap.size := Nat.lt_of_lt_of_le (by go_size) t1.size
  have hz1 := t1.size
  try simp at hz1
  go_wp2_with fail
  refine (l01Below_some g S s1 60 _ (by decide) c1).mono ?_
  rintro e w2 ⟨v2, s2, rfl, ⟨x2, rfl, p2, q2⟩, c2, t2⟩
  have hc2_0 := fun o => t2.cell (p := ⟨w.heap.size, o, none⟩) (by go_size) (by first | exact .inr (show g + 1 ≤ w.heap.size from by omega) | exact .inl (show w.heap.size < g from by omega))
  have hf2_0 := fun o => t2.frozen (p := ⟨w.heap.size, o, none⟩) (by go_size) (by first | exact .inr (show g + 1 ≤ w.heap.size from by omega) | exact .inl (show w.heap.size < g from by omega))
  have hz2_0 : w.heap.size < w2.heap.size := Nat.lt_of_lt_of_le (by go_size) t2.size
  have hz2 := t2.size
  try simp at hz2
  go_wp2_with fail
  refine (l01PickInt_some g S s2 _ _ [1, 2, 3, 1, 0, 9] 6 _ (c2.below (by (repeat' (first | (with_reducible exact Below.refl _ _) | (with_reducible assumption) | (with_reducible refine Below.alloc ?_ ?_ _) | (with_reducible refine Below.drew ?_) | (with_reducible refine below_drewN ?_ _) | (with_reducible refine Below.setCell ?_ ?_ _) | (with_reducible refine bvia ?_ (by with_reducible assumption) ?_) | go_size)))) rfl (Rd_lit _ _ (g + 1) _ _ _ rfl (by omega) (by simp)) (by decide) (by simp [maxLen])).mono ?_
  rintro e w3 ⟨v3, s3, rfl, ⟨x3, rfl, -⟩, c3, t3⟩
  have hc3_0 := fun o => t3.cell (p := ⟨w.heap.size, o, none⟩) (by go_size) (by first | exact .inr (show g + 1 ≤ w.heap.size from by omega) | exact .inl (show w.heap.size < g from by omega))
  have hf3_0 := fun o => t3.frozen (p := ⟨w.heap.size, o, none⟩) (by go_size) (by first | exact .inr (show g + 1 ≤ w.heap.size from by omega) | exact .inl (show w.heap.size < g from by omega))
  have hz3_0 : w.heap.size < w3.heap.size := Nat.lt_of_lt_of_le (by go_size) t3.size
  have hz3 := t3.size
  try simp at hz3
  go_wp2
  refine bodyPost_ret (v := (⟨x1, x2, x3⟩ : MapD).val) (by simp [results, Try.results27, go_sem, *]) rfl ?_
  exact ⟨_, s3, rfl, ⟨⟨x1, x2, x3⟩, rfl⟩, c3.keep (lo := w.heap.size) (hi := w.heap.size + 1) (by (repeat' (first | (with_reducible exact Touch.refl _ _ _) | (with_reducible assumption) | (with_reducible refine Touch.alloc ?_ _) | (with_reducible refine Touch.drew ?_) | (with_reducible refine Touch.drewN ?_ _) | (with_reducible refine Touch.setCell ?_ ?_ ?_ _) | (with_reducible refine Touch.via ?_ (by with_reducible assumption)) | go_size))) hlt, by (repeat' (first | (with_reducible exact Touch.refl _ _ _) | (with_reducible assumption) | (with_reducible refine Touch.alloc ?_ _) | (with_reducible refine Touch.drew ?_) | (with_reducible refine Touch.drewN ?_ _) | (with_reducible refine Touch.setNew ?_ ?_ _) | (with_reducible refine Touch.trans ?_ (by with_reducible assumption)) | (with_reducible refine Touch.via ?_ (by with_reducible assumption)) | go_size | omega))⟩
/-- What DrawPutMap says. -/
def DrewPutMap (w : World) (e : Ending) (w' : World) : Prop :=
  ∃ (v : Value) (L : List MapD) (x : MapD), e = .returned (.tuple #[v, x.val]) ∧ Own w' w.heap.size 30 MapD.cells 3 v L ∧ L.length ≤ 43 ∧ Below w.heap.size w w'
set_option maxHeartbeats 2000000 in
theorem DrawPutMap_some (A : Option Addr) (cap : Nat) (B : List Int) (w : World) (hr : Rd bcells 1 w 0 w.heap.size A B) (hm : B.length ≤ 1048576) :
    Calls Try.prog 17 #[.slice A B.length cap] w (DrewPutMap w) := by
  go_enter Try.func17, Try.ntmps17
  go_wp2_with fail
  refine (l01New_any A cap B _ (by exact hr.later (by (repeat' (first | (with_reducible exact Below.refl _ _) | (with_reducible assumption) | (with_reducible refine Below.alloc ?_ ?_ _) | (with_reducible refine Below.drew ?_) | (with_reducible refine below_drewN ?_ _) | (with_reducible refine Below.setCell ?_ ?_ _) | (with_reducible refine bvia ?_ (by with_reducible assumption) ?_) | go_size))) (Nat.le_refl _) (by go_size)) hm).mono ?_
  rintro e w1 ⟨rfl, c1, hb1⟩
  obtain ⟨hc, hf⟩ := bcell hb1
  have hc1_0 := fun o => hc (w.heap.size) o (by go_size)
  have hf1_0 := fun o => hf (w.heap.size) o (by go_size)
  have hz1_0 : w.heap.size < w1.heap.size := Nat.lt_of_lt_of_le (by go_size) hb1.size
  clear hc hf
  have hz1 := hb1.size
  try simp at hz1
  simp only [World.size_alloc] at c1
  have hB1 : Below w.heap.size w w1 := by (repeat' (first | (with_reducible exact Below.refl _ _) | (with_reducible assumption) | (with_reducible refine Below.alloc ?_ ?_ _) | (with_reducible refine Below.drew ?_) | (with_reducible refine below_drewN ?_ _) | (with_reducible refine Below.setCell ?_ ?_ _) | (with_reducible refine bvia ?_ (by with_reducible assumption) ?_) | go_size))
  obtain ⟨g, hg⟩ : ∃ g, w.heap.size + 1 = g := ⟨_, rfl⟩
  rw [hg] at c1
  try simp only [World.size_alloc]
  rw [hg]
  have hgl : w.heap.size < g := by omega
  clear hg hb1
  have hlt := c1.lt
  go_wp2_with fail
  refine (l08Any_some g _ _ _ c1).mono ?_
  rintro e w2 ⟨v, s2, rfl, ⟨L, O2, hL⟩, c2, t2⟩
  have hc2_0 := fun o => t2.cell (p := ⟨w.heap.size, o, none⟩) (by go_size) (by first | exact .inr (show g + 1 ≤ w.heap.size from by omega) | exact .inl (show w.heap.size < g from by omega))
  have hf2_0 := fun o => t2.frozen (p := ⟨w.heap.size, o, none⟩) (by go_size) (by first | exact .inr (show g + 1 ≤ w.heap.size from by omega) | exact .inl (show w.heap.size < g from by omega))
  have hz2_0 : w.heap.size < w2.heap.size := Nat.lt_of_lt_of_le (by go_size) t2.size
  have hz2 := t2.size
  try simp at hz2
  have hB2 := t2.below hB1 (by omega) (by omega)
  clear t2 c1
  go_wp2_with fail
  refine (l08Map_some g _ s2 _ c2).mono ?_
  rintro e w3 ⟨v3, s3, rfl, ⟨a, rfl⟩, c3, t3⟩
  have hc3_0 := fun o => t3.cell (p := ⟨w.heap.size, o, none⟩) (by go_size) (by first | exact .inr (show g + 1 ≤ w.heap.size from by omega) | exact .inl (show w.heap.size < g from by omega))
  have hf3_0 := fun o => t3.frozen (p := ⟨w.heap.size, o, none⟩) (by go_size) (by first | exact .inr (show g + 1 ≤ w.heap.size from by omega) | exact .inl (show w.heap.size < g from by omega))
  have hz3_0 : w.heap.size < w3.heap.size := Nat.lt_of_lt_of_le (by go_size) t3.size
  have hz3 := t3.size
  try simp at hz3
  have hB3 := t3.below hB2 (by omega) (by omega)
  have O3 := O2.touch t3 hlt
  clear t3 c2 O2
  go_wp2
  refine bodyPost_ret (v := .tuple #[v, a.val]) (by simp [results, Try.results17, go_sem, *]) rfl ?_
  exact ⟨v, L, a, rfl, (O3.keep (fun k hk h1 _ => by repeat (first | rw [show ∀ W : World, W.drew.heap = W.heap from fun _ => rfl] | rw [Below.heap_setCell _ _ _ _ (by first | omega | (simp; omega))] | rfl))).up (by omega), hL, by (repeat' (first | (with_reducible exact Below.refl _ _) | (with_reducible assumption) | (with_reducible refine Below.alloc ?_ ?_ _) | (with_reducible refine Below.drew ?_) | (with_reducible refine below_drewN ?_ _) | (with_reducible refine Below.setCell ?_ ?_ _) | (with_reducible refine bvia ?_ (by with_reducible assumption) ?_) | go_size))⟩
end Go.Proofs.Ytofeiadogdhngaa
