/- l14Half, l14List, l14Any, DrawPutHalf: for every state of the cursor. Written by program (drawhalf.py). -/
import Derived.Test.YtcnklfddokpbiaaDrawRoad
import Derived.Test.YtcnklfddokpbiaaPutHalf
import Derived.Test.YtcnklfddokpbiaaHalfO
namespace Go.Proofs.Ytcnklfddokpbiaa
set_option linter.unusedSimpArgs false
set_option linter.unusedVariables false
open Go.RowKit

set_option maxHeartbeats 2000000 in
theorem l14Half_some (g : Nat) (S : Src) (s : Nat × Int) (w : World) (hc : Cur w g S s) :
    Calls Try.prog 37 #[.pointer (some ⟨g, 0, none⟩)] w (DrawP g S w fun _ v => ∃ x : HalfD, v = x.val) := by
  have hlt := hc.lt
  go_enter Try.func37, Try.ntmps37
  go_wp2_with fail
  refine (l12Road_some g S s _ (hc.below (by (repeat' (first | (with_reducible exact Below.refl _ _) | (with_reducible assumption) | (with_reducible refine Below.alloc ?_ ?_ _) | (with_reducible refine Below.drew ?_) | (with_reducible refine below_drewN ?_ _) | (with_reducible refine Below.setCell ?_ ?_ _) | (with_reducible refine bvia ?_ (by with_reducible assumption) ?_) | go_size))))).mono ?_
  rintro e w1 ⟨v1, s1, rfl, ⟨r, rfl⟩, c1, t1⟩
  have hc1_0 := fun o => t1.cell (p := ⟨w.heap.size, o, none⟩) (by go_size) (by first | exact .inr (show g + 1 ≤ w.heap.size from by omega) | exact .inl (show w.heap.size < g from by omega))
  have hf1_0 := fun o => t1.frozen (p := ⟨w.heap.size, o, none⟩) (by go_size) (by first | exact .inr (show g + 1 ≤ w.heap.size from by omega) | exact .inl (show w.heap.size < g from by omega))
  have hz1_0 : w.heap.size < w1.heap.size := Nat.lt_of_lt_of_le (by go_size) t1.size
  have hz1 := t1.size
  try simp at hz1
  go_wp2_with fail
  refine (l01Below_some g S s1 9 _ (by decide) c1).mono ?_
  rintro e w2 ⟨v2, s2, rfl, ⟨x2, rfl, p2, q2⟩, c2, t2⟩
  have hc2_0 := fun o => t2.cell (p := ⟨w.heap.size, o, none⟩) (by go_size) (by first | exact .inr (show g + 1 ≤ w.heap.size from by omega) | exact .inl (show w.heap.size < g from by omega))
  have hf2_0 := fun o => t2.frozen (p := ⟨w.heap.size, o, none⟩) (by go_size) (by first | exact .inr (show g + 1 ≤ w.heap.size from by omega) | exact .inl (show w.heap.size < g from by omega))
  have hz2_0 : w.heap.size < w2.heap.size := Nat.lt_of_lt_of_le (by go_size) t2.size
  have hz2 := t2.size
  try simp at hz2
  go_wp2_with fail
  refine (l01Below_some g S s2 9 _ (by decide) c2).mono ?_
  rintro e w3 ⟨v3, s3, rfl, ⟨x3, rfl, p3, q3⟩, c3, t3⟩
  have hc3_0 := fun o => t3.cell (p := ⟨w.heap.size, o, none⟩) (by go_size) (by first | exact .inr (show g + 1 ≤ w.heap.size from by omega) | exact .inl (show w.heap.size < g from by omega))
  have hf3_0 := fun o => t3.frozen (p := ⟨w.heap.size, o, none⟩) (by go_size) (by first | exact .inr (show g + 1 ≤ w.heap.size from by omega) | exact .inl (show w.heap.size < g from by omega))
  have hz3_0 : w.heap.size < w3.heap.size := Nat.lt_of_lt_of_le (by go_size) t3.size
  have hz3 := t3.size
  try simp at hz3
  go_wp2_with fail
  refine (l01Below_some g S s3 9 _ (by decide) c3).mono ?_
  rintro e w4 ⟨v4, s4, rfl, ⟨x4, rfl, p4, q4⟩, c4, t4⟩
  have hc4_0 := fun o => t4.cell (p := ⟨w.heap.size, o, none⟩) (by go_size) (by first | exact .inr (show g + 1 ≤ w.heap.size from by omega) | exact .inl (show w.heap.size < g from by omega))
  have hf4_0 := fun o => t4.frozen (p := ⟨w.heap.size, o, none⟩) (by go_size) (by first | exact .inr (show g + 1 ≤ w.heap.size from by omega) | exact .inl (show w.heap.size < g from by omega))
  have hz4_0 : w.heap.size < w4.heap.size := Nat.lt_of_lt_of_le (by go_size) t4.size
  have hz4 := t4.size
  try simp at hz4
  go_wp2_with fail
  refine (l01Below_some g S s4 9 _ (by decide) c4).mono ?_
  rintro e w5 ⟨v5, s5, rfl, ⟨x5, rfl, p5, q5⟩, c5, t5⟩
  have hc5_0 := fun o => t5.cell (p := ⟨w.heap.size, o, none⟩) (by go_size) (by first | exact .inr (show g + 1 ≤ w.heap.size from by omega) | exact .inl (show w.heap.size < g from by omega))
  have hf5_0 := fun o => t5.frozen (p := ⟨w.heap.size, o, none⟩) (by go_size) (by first | exact .inr (show g + 1 ≤ w.heap.size from by omega) | exact .inl (show w.heap.size < g from by omega))
  have hz5_0 : w.heap.size < w5.heap.size := Nat.lt_of_lt_of_le (by go_size) t5.size
  have hz5 := t5.size
  try simp at hz5
  go_wp2_with fail
  refine (l01Below_some g S s5 9 _ (by decide) c5).mono ?_
  rintro e w6 ⟨v6, s6, rfl, ⟨x6, rfl, p6, q6⟩, c6, t6⟩
  have hc6_0 := fun o => t6.cell (p := ⟨w.heap.size, o, none⟩) (by go_size) (by first | exact .inr (show g + 1 ≤ w.heap.size from by omega) | exact .inl (show w.heap.size < g from by omega))
  have hf6_0 := fun o => t6.frozen (p := ⟨w.heap.size, o, none⟩) (by go_size) (by first | exact .inr (show g + 1 ≤ w.heap.size from by omega) | exact .inl (show w.heap.size < g from by omega))
  have hz6_0 : w.heap.size < w6.heap.size := Nat.lt_of_lt_of_le (by go_size) t6.size
  have hz6 := t6.size
  try simp at hz6
  go_wp2
  refine bodyPost_ret (v := (⟨r.fOwn, r.fFar, r.fPort, x2, 1000 + x3, 1000 + x4, x5, x6⟩ : HalfD).val) (by simp [results, Try.results37, go_sem, *]) rfl ?_
  exact ⟨_, s6, rfl, ⟨⟨r.fOwn, r.fFar, r.fPort, x2, 1000 + x3, 1000 + x4, x5, x6⟩, rfl⟩, c6.keep (lo := w.heap.size) (hi := w.heap.size + 1) (by (repeat' (first | (with_reducible exact Touch.refl _ _ _) | (with_reducible assumption) | (with_reducible refine Touch.alloc ?_ _) | (with_reducible refine Touch.drew ?_) | (with_reducible refine Touch.drewN ?_ _) | (with_reducible refine Touch.setCell ?_ ?_ ?_ _) | (with_reducible refine Touch.via ?_ (by with_reducible assumption)) | go_size))) hlt, by (repeat' (first | (with_reducible exact Touch.refl _ _ _) | (with_reducible assumption) | (with_reducible refine Touch.alloc ?_ _) | (with_reducible refine Touch.drew ?_) | (with_reducible refine Touch.drewN ?_ _) | (with_reducible refine Touch.setNew ?_ ?_ _) | (with_reducible refine Touch.trans ?_ (by with_reducible assumption)) | (with_reducible refine Touch.via ?_ (by with_reducible assumption)) | go_size | omega))⟩
set_option maxHeartbeats 1000000 in
theorem l14List_some (g : Nat) (S : Src) (s : Nat × Int) (w : World) (hc : Cur w g S s) :
    Calls Try.prog 41 #[.pointer (some ⟨g, 0, none⟩)] w (DrawP g S w fun w' v => ∃ L : List HalfD, Own w' w.heap.size 42 HalfD.cells 8 v L ∧ L.length ≤ 6) := by
  have hlt := hc.lt
  go_enter Try.func41, Try.ntmps41
  go_wp2_with fail
  go_loopw [3, 4] (fun v i wr => ∃ (k : Nat) (L : List HalfD) (s : Nat × Int), i = .int .i64 k ∧ Own wr w.heap.size 42 HalfD.cells 8 v L ∧ L.length ≤ k ∧ k ≤ 6 ∧ Cur wr g S s ∧ Touch g (g + 1) w wr) (fun _ i _ => 6 - (intOf i).toNat)
  case atStart => exact ⟨0, [], s, rfl, Own.empty _ _ _ (Nat.le_refl _), Nat.le_refl _, by omega, hc.below (by (repeat' (first | (with_reducible exact Below.refl _ _) | (with_reducible assumption) | (with_reducible refine Below.alloc ?_ ?_ _) | (with_reducible refine Below.drew ?_) | (with_reducible refine below_drewN ?_ _) | (with_reducible refine Below.setCell ?_ ?_ _) | (with_reducible refine bvia ?_ (by with_reducible assumption) ?_) | go_size))), by (repeat' (first | (with_reducible exact Touch.refl _ _ _) | (with_reducible assumption) | (with_reducible refine Touch.alloc ?_ _) | (with_reducible refine Touch.drew ?_) | (with_reducible refine Touch.drewN ?_ _) | (with_reducible refine Touch.setNew ?_ ?_ _) | (with_reducible refine Touch.trans ?_ (by with_reducible assumption)) | (with_reducible refine Touch.via ?_ (by with_reducible assumption)) | go_size | omega))⟩
  case round =>
    obtain ⟨k, L, s, rfl, O, hLk, hk6, hC, hT⟩ := hrel
    have hz0 := hT.size
    go_wp2_with fail
    refine (l01Below_some g S s 6 _ (by decide) hC).mono ?_
    rintro e w1 ⟨v1, s1, rfl, ⟨x, rfl, p1, q1⟩, c1, t1⟩
    have hz1 := t1.size
    have O1 := O.touch t1 hlt
    have hT1 := hT.trans t1
    clear O hT hC t1
    obtain ⟨A, cap, rfl, hle, hcm, -⟩ := O1.rd0 HalfD.cells_length
    have HO1 := Lib.hid O1
    clear O1
    by_cases hlt2 : (k : Int) < x
    · go_wp2_with fail
      refine (l14Half_some g S s1 _ c1).mono ?_
      rintro e w2 ⟨v2, s2, rfl, ⟨a, rfl⟩, c2, t2⟩
      have hz2 := t2.size
      have O2 := HO1.out.touch t2 hlt
      have hT2 := hT1.trans t2
      clear hT1 c1 t2 HO1
      go_wp2_with fail
      refine (sPutHalf A cap L a _ (O2.rdv HalfD.cells_length) hle hcm (by omega)).mono ?_
      rintro e w3 ⟨v3, rfl, O3, hb3⟩
      have c3 := c2.below hb3
      have hT3 := hT2.trans (Touch.ofBelow hb3 : Touch g (g + 1) _ _)
      have hl3 := putHR_le L a
      have O3' := O3.up (base' := w.heap.size) (by omega)
      clear hT2 c2 O2 O3 hb3
      go_wp2
      go_roundw
      case rel => exact ⟨k + 1, _, s2, by go_num, O3', by omega, by omega, c3, hT3⟩
      case measure => simp [intOf]; omega
    · have hx : x ≤ (k : Int) := by omega
      go_wp2
      go_ret
      exact ⟨_, s1, rfl, ⟨L, HO1.out, by omega⟩, c1, hT1⟩
set_option maxHeartbeats 2000000 in
theorem l14Any_some (g : Nat) (S : Src) (s : Nat × Int) (w : World) (hc : Cur w g S s) :
    Calls Try.prog 36 #[.pointer (some ⟨g, 0, none⟩)] w (DrawP g S w fun w' v => ∃ L : List HalfD, Own w' w.heap.size 42 HalfD.cells 8 v L ∧ L.length ≤ 7) := by
  have hlt := hc.lt
  go_enter Try.func36, Try.ntmps36
  go_wp2_with fail
  refine (l14List_some g S s _ hc).mono ?_
  rintro e w1 ⟨v, s1, rfl, ⟨L, O1, hL⟩, c1, t1⟩
  have hz1 := t1.size
  go_wp2_with fail
  refine (l01Once_some g S s1 8 _ c1).mono ?_
  rintro e w2 ⟨v2, s2, rfl, ⟨b, rfl⟩, c2, t2⟩
  have hz2 := t2.size
  have O2 := O1.touch t2 hlt
  have hT2 := t1.trans t2
  clear O1 t1 t2 c1
  cases b with
  | false =>
    obtain ⟨A, cap, rfl, hle, hcm, -⟩ := O2.rd0 HalfD.cells_length
    by_cases hp : 0 < (L).length
    · have dp : (0 : Int) < ((L).length : Int) := by omega
      have HO := Lib.hid O2
      clear O2
      go_wp2_with fail
      refine (l01Once_some g S s2 10 _ c2).mono ?_
      rintro e w8 ⟨v8, s8, rfl, ⟨b, rfl⟩, c8, t8⟩
      have hz8 := t8.size
      have O8 := HO.out.touch t8 hlt
      have hT8 := hT2.trans t8
      clear HO hT2 t8 c2
      cases b with
      | false =>
        go_wp2
        go_ret
        exact ⟨_, s8, rfl, ⟨_, O8, by first | omega | (simp; omega)⟩, c8, hT8⟩
      | true =>
        go_wp2_with fail
        refine (l01PickInt_some g S s8 _ _ [-1, 1000000001] 2 _ (c8.below (by (repeat' (first | (with_reducible exact Below.refl _ _) | (with_reducible assumption) | (with_reducible refine Below.alloc ?_ ?_ _) | (with_reducible refine Below.drew ?_) | (with_reducible refine below_drewN ?_ _) | (with_reducible refine Below.setCell ?_ ?_ _) | (with_reducible refine bvia ?_ (by with_reducible assumption) ?_) | go_size)))) rfl (Rd_lit _ _ (g + 1) _ _ _ rfl (by omega) (by simp)) (by decide) (by simp [maxLen])).mono ?_
        rintro e w9 ⟨v9, s9, rfl, ⟨x9, rfl, -⟩, c9, t9⟩
        have O9 := (O8.alloc _).touch t9 hlt
        have hT9 := (hT8.alloc _).trans t9
        clear O8 hT8 t9 c8
        rcases O9.form with ⟨h1, h2⟩ | ⟨gg, cp, cur, h1, hgg, -⟩
        · rw [h2] at hp; simp at hp
        · cases h1
          have f9 := O9.free 7
          have u9 : w9.cell? ⟨gg, 7, none⟩ = some (.int .i64 ((L)[0]'hp).fUntil) := by have := O9.cellAt HalfD.cells_length 0 hp 7 (by decide); simpa [HalfD.cells] using this
          have O10 := Lib.hid (O9.set1 (k := 0) (j := 7) (u := .int .i64 x9) (x := { (L)[0]'hp with fUntil := x9 }) HalfD.cells_length hp (by decide) rfl)
          have hgz := (O9.lt rfl).2
          clear O9
          go_wp2
          go_ret
          exact ⟨_, s9, rfl, ⟨_, by simpa using O10.out, by first | omega | (simp; omega)⟩, c9.keep (lo := w.heap.size) (hi := gg + 1) (by (repeat' (first | (with_reducible exact Touch.refl _ _ _) | (with_reducible assumption) | (with_reducible refine Touch.alloc ?_ _) | (with_reducible refine Touch.drew ?_) | (with_reducible refine Touch.drewN ?_ _) | (with_reducible refine Touch.setCell ?_ ?_ ?_ _) | (with_reducible refine Touch.via ?_ (by with_reducible assumption)) | go_size))) hlt, Touch.setNew hT9 hgg _⟩
    · have h0 : (L).length = 0 := by omega
      have dp : decide ((0 : Int) < ((L).length : Int)) = false := by rw [h0]; rfl
      have dp2 : decide (0 < (L).length) = false := by rw [h0]; rfl
      have HO := Lib.hid O2
      clear O2 h0 hp
      go_wp2
      go_ret
      exact ⟨_, s2, rfl, ⟨L, HO.out, by omega⟩, c2, hT2⟩
  | true =>
    go_wp2_with fail
    refine (l14Half_some g S s2 _ c2).mono ?_
    rintro e w3 ⟨v3, s3, rfl, ⟨a, rfl⟩, c3, t3⟩
    have hz3 := t3.size
    have O3 := O2.touch t3 hlt
    have hT3 := hT2.trans t3
    clear O2 hT2 t3 c2
    go_wp2_with (at_builtin; refine wpList_append_rd _ rfl (.tmp 8) (.tmp 11) rfl slHalf HalfD.cells_length HalfD.one w.heap.size v L [a] rfl (O3.alloc _) (some ⟨w3.heap.size, 0, none⟩) 1 1 0 (w3.heap.size + 1) rfl rfl (rd_one _ a _ _ HalfD.cells_length rfl _ rfl _ (by omega)) (by simp; omega) (by simp; omega) ?_; intro v5 w5 O5 G5 X5; have hz5 := G5.size; (try simp at hz5); have c5 : Cur w5 g S s3 := (c3.below (by (repeat' (first | (with_reducible exact Below.refl _ _) | (with_reducible assumption) | (with_reducible refine Below.alloc ?_ ?_ _) | (with_reducible refine Below.drew ?_) | (with_reducible refine below_drewN ?_ _) | (with_reducible refine Below.setCell ?_ ?_ _) | (with_reducible refine bvia ?_ (by with_reducible assumption) ?_) | go_size)) : Below _ _ (w3.alloc _))).keep (lo := w.heap.size) (hi := w5.heap.size) ((Touch.refl _ _ _).grown G5 (fun k hk => ⟨(O3.lt hk).1, by have := (O3.lt hk).2; omega⟩)) hlt; have hT5 := (Touch.alloc hT3 _).grownNew G5 (fun k hk => (O3.lt hk).1); clear O3 hT3 c3 G5 X5; obtain ⟨A5, cap5, rfl, -, -, -⟩ := O5.rd0 HalfD.cells_length; have HO5 := Lib.hid O5; clear O5; have hl5 : (L ++ [a]).length ≤ 7 := (by simp; omega); obtain ⟨L5, hL5⟩ : ∃ L5, L5 = L ++ [a] := ⟨_, rfl⟩; rw [← hL5] at HO5 hl5; rw [← hL5]; have hp : 0 < L5.length := (by rw [hL5]; simp); clear hL5; have dp : (0 : Int) < (L5.length : Int) := (by omega))
    have O5 := HO5.out
    clear HO5
    have HO := Lib.hid O5
    clear O5
    go_wp2_with fail
    refine (l01Once_some g S s3 10 _ c5).mono ?_
    rintro e w8 ⟨v8, s8, rfl, ⟨b, rfl⟩, c8, t8⟩
    have hz8 := t8.size
    have O8 := HO.out.touch t8 hlt
    have hT8 := hT5.trans t8
    clear HO hT5 t8 c5
    cases b with
    | false =>
      go_wp2
      go_ret
      exact ⟨_, s8, rfl, ⟨_, O8, by first | omega | (simp; omega)⟩, c8, hT8⟩
    | true =>
      go_wp2_with fail
      refine (l01PickInt_some g S s8 _ _ [-1, 1000000001] 2 _ (c8.below (by (repeat' (first | (with_reducible exact Below.refl _ _) | (with_reducible assumption) | (with_reducible refine Below.alloc ?_ ?_ _) | (with_reducible refine Below.drew ?_) | (with_reducible refine below_drewN ?_ _) | (with_reducible refine Below.setCell ?_ ?_ _) | (with_reducible refine bvia ?_ (by with_reducible assumption) ?_) | go_size)))) rfl (Rd_lit _ _ (g + 1) _ _ _ rfl (by omega) (by simp)) (by decide) (by simp [maxLen])).mono ?_
      rintro e w9 ⟨v9, s9, rfl, ⟨x9, rfl, -⟩, c9, t9⟩
      have O9 := (O8.alloc _).touch t9 hlt
      have hT9 := (hT8.alloc _).trans t9
      clear O8 hT8 t9 c8
      rcases O9.form with ⟨h1, h2⟩ | ⟨gg, cp, cur, h1, hgg, -⟩
      · rw [h2] at hp; simp at hp
      · cases h1
        have f9 := O9.free 7
        have u9 : w9.cell? ⟨gg, 7, none⟩ = some (.int .i64 ((L5)[0]'hp).fUntil) := by have := O9.cellAt HalfD.cells_length 0 hp 7 (by decide); simpa [HalfD.cells] using this
        have O10 := Lib.hid (O9.set1 (k := 0) (j := 7) (u := .int .i64 x9) (x := { (L5)[0]'hp with fUntil := x9 }) HalfD.cells_length hp (by decide) rfl)
        have hgz := (O9.lt rfl).2
        clear O9
        go_wp2
        go_ret
        exact ⟨_, s9, rfl, ⟨_, by simpa using O10.out, by first | omega | (simp; omega)⟩, c9.keep (lo := w.heap.size) (hi := gg + 1) (by (repeat' (first | (with_reducible exact Touch.refl _ _ _) | (with_reducible assumption) | (with_reducible refine Touch.alloc ?_ _) | (with_reducible refine Touch.drew ?_) | (with_reducible refine Touch.drewN ?_ _) | (with_reducible refine Touch.setCell ?_ ?_ ?_ _) | (with_reducible refine Touch.via ?_ (by with_reducible assumption)) | go_size))) hlt, Touch.setNew hT9 hgg _⟩
/-- What DrawPutHalf says. -/
def DrewPutHalf (w : World) (e : Ending) (w' : World) : Prop :=
  ∃ (v : Value) (L : List HalfD) (x : HalfD), e = .returned (.tuple #[v, x.val]) ∧ Own w' w.heap.size 42 HalfD.cells 8 v L ∧ L.length ≤ 7 ∧ Below w.heap.size w w'
set_option maxHeartbeats 2000000 in
theorem DrawPutHalf_some (A : Option Addr) (cap : Nat) (B : List Int) (w : World) (hr : Rd bcells 1 w 0 w.heap.size A B) (hm : B.length ≤ 1048576) :
    Calls Try.prog 24 #[.slice A B.length cap] w (DrewPutHalf w) := by
  go_enter Try.func24, Try.ntmps24
  go_wp2_with fail
  refine (l01New_any A cap B _ (by exact hr.later (by (repeat' (first | (with_reducible exact Below.refl _ _) | (with_reducible assumption) | (with_reducible refine Below.alloc ?_ ?_ _) | (with_reducible refine Below.drew ?_) | (with_reducible refine below_drewN ?_ _) | (with_reducible refine Below.setCell ?_ ?_ _) | (with_reducible refine bvia ?_ (by with_reducible assumption) ?_) | go_size))) (Nat.le_refl _) (by go_size)) hm).mono ?_
  rintro e w1 ⟨rfl, c1, hb1⟩
  obtain ⟨hc, hf⟩ := bcell hb1
  have hc1_0 := fun o => hc (w.heap.size) o (by go_size)
  have hf1_0 := fun o => hf (w.heap.size) o (by go_size)
  have hz1_0 : w.heap.size < w1.heap.size := Nat.lt_of_lt_of_le (by go_size) hb1.size
  clear hc hf
  have hz1 := hb1.size
  try simp at hz1
  simp only [World.size_alloc] at c1
  have hB1 : Below w.heap.size w w1 := by (repeat' (first | (with_reducible exact Below.refl _ _) | (with_reducible assumption) | (with_reducible refine Below.alloc ?_ ?_ _) | (with_reducible refine Below.drew ?_) | (with_reducible refine below_drewN ?_ _) | (with_reducible refine Below.setCell ?_ ?_ _) | (with_reducible refine bvia ?_ (by with_reducible assumption) ?_) | go_size))
  obtain ⟨g, hg⟩ : ∃ g, w.heap.size + 1 = g := ⟨_, rfl⟩
  rw [hg] at c1
  try simp only [World.size_alloc]
  rw [hg]
  have hgl : w.heap.size < g := by omega
  clear hg hb1
  have hlt := c1.lt
  go_wp2_with fail
  refine (l14Any_some g _ _ _ c1).mono ?_
  rintro e w2 ⟨v, s2, rfl, ⟨L, O2, hL⟩, c2, t2⟩
  have hc2_0 := fun o => t2.cell (p := ⟨w.heap.size, o, none⟩) (by go_size) (by first | exact .inr (show g + 1 ≤ w.heap.size from by omega) | exact .inl (show w.heap.size < g from by omega))
  have hf2_0 := fun o => t2.frozen (p := ⟨w.heap.size, o, none⟩) (by go_size) (by first | exact .inr (show g + 1 ≤ w.heap.size from by omega) | exact .inl (show w.heap.size < g from by omega))
  have hz2_0 : w.heap.size < w2.heap.size := Nat.lt_of_lt_of_le (by go_size) t2.size
  have hz2 := t2.size
  try simp at hz2
  have hB2 := t2.below hB1 (by omega) (by omega)
  clear t2 c1
  go_wp2_with fail
  refine (l14Half_some g _ s2 _ c2).mono ?_
  rintro e w3 ⟨v3, s3, rfl, ⟨a, rfl⟩, c3, t3⟩
  have hc3_0 := fun o => t3.cell (p := ⟨w.heap.size, o, none⟩) (by go_size) (by first | exact .inr (show g + 1 ≤ w.heap.size from by omega) | exact .inl (show w.heap.size < g from by omega))
  have hf3_0 := fun o => t3.frozen (p := ⟨w.heap.size, o, none⟩) (by go_size) (by first | exact .inr (show g + 1 ≤ w.heap.size from by omega) | exact .inl (show w.heap.size < g from by omega))
  have hz3_0 : w.heap.size < w3.heap.size := Nat.lt_of_lt_of_le (by go_size) t3.size
  have hz3 := t3.size
  try simp at hz3
  have hB3 := t3.below hB2 (by omega) (by omega)
  have O3 := O2.touch t3 hlt
  clear t3 c2 O2
  go_wp2
  refine bodyPost_ret (v := .tuple #[v, a.val]) (by simp [results, Try.results24, go_sem, *]) rfl ?_
  exact ⟨v, L, a, rfl, (O3.keep (fun k hk h1 _ => by repeat (first | rw [show ∀ W : World, W.drew.heap = W.heap from fun _ => rfl] | rw [Below.heap_setCell _ _ _ _ (by first | omega | (simp; omega))] | rfl))).up (by omega), hL, by (repeat' (first | (with_reducible exact Below.refl _ _) | (with_reducible assumption) | (with_reducible refine Below.alloc ?_ ?_ _) | (with_reducible refine Below.drew ?_) | (with_reducible refine below_drewN ?_ _) | (with_reducible refine Below.setCell ?_ ?_ _) | (with_reducible refine bvia ?_ (by with_reducible assumption) ?_) | go_size))⟩
end Go.Proofs.Ytcnklfddokpbiaa
