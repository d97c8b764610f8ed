/- l16Letter: for every state of the cursor. Written by program (drawlet.py). -/
import Derived.Test.YtkehjlddbikpbaaDrawLet1
import Derived.Test.YtkehjlddbikpbaaDrawLong
namespace Go.Proofs.Ytkehjlddbikpbaa
set_option linter.unusedSimpArgs false
set_option linter.unusedVariables false
open Go.RowKit

set_option maxRecDepth 20000 in
set_option maxHeartbeats 40000000 in
theorem l16Letter_some (g : Nat) (S : Src) (s : Nat × Int) (w : World) (hc : Cur w g S s) :
    Calls Try.prog 29 #[.pointer (some ⟨g, 0, none⟩)] w (DrawP g S w fun _ v => ∃ x : LetterD, v = x.val ∧ x.fText.size ≤ 21) := by
  have hlt := hc.lt
  go_enter Try.func29, Try.ntmps29
  go_wp2_with fail
  refine (l01Below_some g S s 13 _ (by decide) (hc.below (by (repeat' (first | (with_reducible exact Below.refl _ _) | (with_reducible assumption) | (with_reducible refine Below.alloc ?_ ?_ _) | (with_reducible refine Below.drew ?_) | (with_reducible refine below_drewN ?_ _) | (with_reducible refine Below.setCell ?_ ?_ _) | (with_reducible refine bvia ?_ (by with_reducible assumption) ?_) | go_size))))).mono ?_
  rintro e w1 ⟨v1, s1, rfl, ⟨x1, rfl, -, -⟩, c1, t1⟩
  have T1 : Touch g (g + 1) w w1 := by (repeat' (first | (with_reducible exact Touch.refl _ _ _) | (with_reducible assumption) | (with_reducible refine Touch.alloc ?_ _) | (with_reducible refine Touch.drew ?_) | (with_reducible refine Touch.drewN ?_ _) | (with_reducible refine Touch.setNew ?_ ?_ _) | (with_reducible refine Touch.trans ?_ (by with_reducible assumption)) | (with_reducible refine Touch.via ?_ (by with_reducible assumption)) | go_size | omega))
  have hz1 : w.heap.size < w1.heap.size := Nat.lt_of_lt_of_le (by go_size) t1.size
  have HX1 := Lib.hid ((t1.block w.heap.size (by go_size) (.inr (by omega))).trans (heap_alloc_new w _))
  clear t1
  go_wp2_with fail
  refine (l01PickInt_some g S s1 _ _ [11, 12, 21, 22, 31] 5 _ (c1.below (by (repeat' (first | (with_reducible exact Below.refl _ _) | (with_reducible assumption) | (with_reducible refine Below.alloc ?_ ?_ _) | (with_reducible refine Below.drew ?_) | (with_reducible refine below_drewN ?_ _) | (with_reducible refine Below.setCell ?_ ?_ _) | (with_reducible refine bvia ?_ (by with_reducible assumption) ?_) | go_size)))) rfl (Rd_lit _ _ (g + 1) _ _ _ rfl (by omega) (by simp)) (by decide) (by simp [maxLen])).mono ?_
  rintro e w2 ⟨v2, s2, rfl, ⟨x2, rfl, -⟩, c2, t2⟩
  have U : Touch g (g + 1) w1 w2 := by (repeat' (first | (with_reducible exact Touch.refl _ _ _) | (with_reducible assumption) | (with_reducible refine Touch.alloc ?_ _) | (with_reducible refine Touch.drew ?_) | (with_reducible refine Touch.drewN ?_ _) | (with_reducible refine Touch.setNew ?_ ?_ _) | (with_reducible refine Touch.trans ?_ (by with_reducible assumption)) | (with_reducible refine Touch.via ?_ (by with_reducible assumption)) | go_size | omega))
  have hz2 : w.heap.size < w2.heap.size := Nat.lt_of_lt_of_le hz1 U.size
  have HX2 := Lib.hid ((U.block w.heap.size hz1 (.inr (by omega))).trans HX1.out)
  have T2 := T1.trans U
  clear U t2 c1 HX1 T1 hz1
  go_wp2_with fail
  refine (l01PickInt_some g S s2 _ _ [11, 12, 21, 22, 31] 5 _ (c2.below (by (repeat' (first | (with_reducible exact Below.refl _ _) | (with_reducible assumption) | (with_reducible refine Below.alloc ?_ ?_ _) | (with_reducible refine Below.drew ?_) | (with_reducible refine below_drewN ?_ _) | (with_reducible refine Below.setCell ?_ ?_ _) | (with_reducible refine bvia ?_ (by with_reducible assumption) ?_) | go_size)))) rfl (Rd_lit _ _ (g + 1) _ _ _ rfl (by omega) (by simp)) (by decide) (by simp [maxLen])).mono ?_
  rintro e w3 ⟨v3, s3, rfl, ⟨x3, rfl, -⟩, c3, t3⟩
  have U : Touch g (g + 1) w2 w3 := by (repeat' (first | (with_reducible exact Touch.refl _ _ _) | (with_reducible assumption) | (with_reducible refine Touch.alloc ?_ _) | (with_reducible refine Touch.drew ?_) | (with_reducible refine Touch.drewN ?_ _) | (with_reducible refine Touch.setNew ?_ ?_ _) | (with_reducible refine Touch.trans ?_ (by with_reducible assumption)) | (with_reducible refine Touch.via ?_ (by with_reducible assumption)) | go_size | omega))
  have hz3 : w.heap.size < w3.heap.size := Nat.lt_of_lt_of_le hz2 U.size
  have HX3 := Lib.hid ((U.block w.heap.size hz2 (.inr (by omega))).trans HX2.out)
  have T3 := T2.trans U
  clear U t3 c2 HX2 T2 hz2
  go_wp2_with fail
  refine (l01Below_some g S s3 3 _ (by decide) (c3.below (by (repeat' (first | (with_reducible exact Below.refl _ _) | (with_reducible assumption) | (with_reducible refine Below.alloc ?_ ?_ _) | (with_reducible refine Below.drew ?_) | (with_reducible refine below_drewN ?_ _) | (with_reducible refine Below.setCell ?_ ?_ _) | (with_reducible refine bvia ?_ (by with_reducible assumption) ?_) | go_size))))).mono ?_
  rintro e w4 ⟨v4, s4, rfl, ⟨x4, rfl, -, -⟩, c4, t4⟩
  have U : Touch g (g + 1) w3 w4 := by (repeat' (first | (with_reducible exact Touch.refl _ _ _) | (with_reducible assumption) | (with_reducible refine Touch.alloc ?_ _) | (with_reducible refine Touch.drew ?_) | (with_reducible refine Touch.drewN ?_ _) | (with_reducible refine Touch.setNew ?_ ?_ _) | (with_reducible refine Touch.trans ?_ (by with_reducible assumption)) | (with_reducible refine Touch.via ?_ (by with_reducible assumption)) | go_size | omega))
  have hz4 : w.heap.size < w4.heap.size := Nat.lt_of_lt_of_le hz3 U.size
  have HX4 := Lib.hid ((U.block w.heap.size hz3 (.inr (by omega))).trans HX3.out)
  have T4 := T3.trans U
  clear U t4 c3 HX3 T3 hz3
  go_wp2_with fail
  refine (l01Below_some g S s4 3 _ (by decide) (c4.below (by (repeat' (first | (with_reducible exact Below.refl _ _) | (with_reducible assumption) | (with_reducible refine Below.alloc ?_ ?_ _) | (with_reducible refine Below.drew ?_) | (with_reducible refine below_drewN ?_ _) | (with_reducible refine Below.setCell ?_ ?_ _) | (with_reducible refine bvia ?_ (by with_reducible assumption) ?_) | go_size))))).mono ?_
  rintro e w5 ⟨v5, s5, rfl, ⟨x5, rfl, -, -⟩, c5, t5⟩
  have U : Touch g (g + 1) w4 w5 := by (repeat' (first | (with_reducible exact Touch.refl _ _ _) | (with_reducible assumption) | (with_reducible refine Touch.alloc ?_ _) | (with_reducible refine Touch.drew ?_) | (with_reducible refine Touch.drewN ?_ _) | (with_reducible refine Touch.setNew ?_ ?_ _) | (with_reducible refine Touch.trans ?_ (by with_reducible assumption)) | (with_reducible refine Touch.via ?_ (by with_reducible assumption)) | go_size | omega))
  have hz5 : w.heap.size < w5.heap.size := Nat.lt_of_lt_of_le hz4 U.size
  have HX5 := Lib.hid ((U.block w.heap.size hz4 (.inr (by omega))).trans HX4.out)
  have T5 := T4.trans U
  clear U t5 c4 HX4 T4 hz4
  go_wp2_with fail
  refine (l01PickInt_some g S s5 _ _ [101, 102, 7] 3 _ (c5.below (by (repeat' (first | (with_reducible exact Below.refl _ _) | (with_reducible assumption) | (with_reducible refine Below.alloc ?_ ?_ _) | (with_reducible refine Below.drew ?_) | (with_reducible refine below_drewN ?_ _) | (with_reducible refine Below.setCell ?_ ?_ _) | (with_reducible refine bvia ?_ (by with_reducible assumption) ?_) | go_size)))) rfl (Rd_lit _ _ (g + 1) _ _ _ rfl (by omega) (by simp)) (by decide) (by simp [maxLen])).mono ?_
  rintro e w6 ⟨v6, s6, rfl, ⟨x6, rfl, -⟩, c6, t6⟩
  have U : Touch g (g + 1) w5 w6 := by (repeat' (first | (with_reducible exact Touch.refl _ _ _) | (with_reducible assumption) | (with_reducible refine Touch.alloc ?_ _) | (with_reducible refine Touch.drew ?_) | (with_reducible refine Touch.drewN ?_ _) | (with_reducible refine Touch.setNew ?_ ?_ _) | (with_reducible refine Touch.trans ?_ (by with_reducible assumption)) | (with_reducible refine Touch.via ?_ (by with_reducible assumption)) | go_size | omega))
  have hz6 : w.heap.size < w6.heap.size := Nat.lt_of_lt_of_le hz5 U.size
  have HX6 := Lib.hid ((U.block w.heap.size hz5 (.inr (by omega))).trans HX5.out)
  have T6 := T5.trans U
  clear U t6 c5 HX5 T5 hz5
  go_wp2_with fail
  refine (l01Below_some g S s6 9 _ (by decide) (c6.below (by (repeat' (first | (with_reducible exact Below.refl _ _) | (with_reducible assumption) | (with_reducible refine Below.alloc ?_ ?_ _) | (with_reducible refine Below.drew ?_) | (with_reducible refine below_drewN ?_ _) | (with_reducible refine Below.setCell ?_ ?_ _) | (with_reducible refine bvia ?_ (by with_reducible assumption) ?_) | go_size))))).mono ?_
  rintro e w7 ⟨v7, s7, rfl, ⟨x7, rfl, -, -⟩, c7, t7⟩
  have U : Touch g (g + 1) w6 w7 := by (repeat' (first | (with_reducible exact Touch.refl _ _ _) | (with_reducible assumption) | (with_reducible refine Touch.alloc ?_ _) | (with_reducible refine Touch.drew ?_) | (with_reducible refine Touch.drewN ?_ _) | (with_reducible refine Touch.setNew ?_ ?_ _) | (with_reducible refine Touch.trans ?_ (by with_reducible assumption)) | (with_reducible refine Touch.via ?_ (by with_reducible assumption)) | go_size | omega))
  have hz7 : w.heap.size < w7.heap.size := Nat.lt_of_lt_of_le hz6 U.size
  have HX7 := Lib.hid ((U.block w.heap.size hz6 (.inr (by omega))).trans HX6.out)
  have T7 := T6.trans U
  clear U t7 c6 HX6 T6 hz6
  go_wp2_with fail
  refine (l01Below_some g S s7 9 _ (by decide) (c7.below (by (repeat' (first | (with_reducible exact Below.refl _ _) | (with_reducible assumption) | (with_reducible refine Below.alloc ?_ ?_ _) | (with_reducible refine Below.drew ?_) | (with_reducible refine below_drewN ?_ _) | (with_reducible refine Below.setCell ?_ ?_ _) | (with_reducible refine bvia ?_ (by with_reducible assumption) ?_) | go_size))))).mono ?_
  rintro e w8 ⟨v8, s8, rfl, ⟨x8, rfl, -, -⟩, c8, t8⟩
  have U : Touch g (g + 1) w7 w8 := by (repeat' (first | (with_reducible exact Touch.refl _ _ _) | (with_reducible assumption) | (with_reducible refine Touch.alloc ?_ _) | (with_reducible refine Touch.drew ?_) | (with_reducible refine Touch.drewN ?_ _) | (with_reducible refine Touch.setNew ?_ ?_ _) | (with_reducible refine Touch.trans ?_ (by with_reducible assumption)) | (with_reducible refine Touch.via ?_ (by with_reducible assumption)) | go_size | omega))
  have hz8 : w.heap.size < w8.heap.size := Nat.lt_of_lt_of_le hz7 U.size
  have HX8 := Lib.hid ((U.block w.heap.size hz7 (.inr (by omega))).trans HX7.out)
  have T8 := T7.trans U
  clear U t8 c7 HX7 T7 hz7
  go_wp2_with fail
  refine (l01Below_some g S s8 9 _ (by decide) (c8.below (by (repeat' (first | (with_reducible exact Below.refl _ _) | (with_reducible assumption) | (with_reducible refine Below.alloc ?_ ?_ _) | (with_reducible refine Below.drew ?_) | (with_reducible refine below_drewN ?_ _) | (with_reducible refine Below.setCell ?_ ?_ _) | (with_reducible refine bvia ?_ (by with_reducible assumption) ?_) | go_size))))).mono ?_
  rintro e w9 ⟨v9, s9, rfl, ⟨x9, rfl, -, -⟩, c9, t9⟩
  have U : Touch g (g + 1) w8 w9 := by (repeat' (first | (with_reducible exact Touch.refl _ _ _) | (with_reducible assumption) | (with_reducible refine Touch.alloc ?_ _) | (with_reducible refine Touch.drew ?_) | (with_reducible refine Touch.drewN ?_ _) | (with_reducible refine Touch.setNew ?_ ?_ _) | (with_reducible refine Touch.trans ?_ (by with_reducible assumption)) | (with_reducible refine Touch.via ?_ (by with_reducible assumption)) | go_size | omega))
  have hz9 : w.heap.size < w9.heap.size := Nat.lt_of_lt_of_le hz8 U.size
  have HX9 := Lib.hid ((U.block w.heap.size hz8 (.inr (by omega))).trans HX8.out)
  have T9 := T8.trans U
  clear U t9 c8 HX8 T8 hz8
  go_wp2_with fail
  refine (l01Below_some g S s9 4 _ (by decide) (c9.below (by (repeat' (first | (with_reducible exact Below.refl _ _) | (with_reducible assumption) | (with_reducible refine Below.alloc ?_ ?_ _) | (with_reducible refine Below.drew ?_) | (with_reducible refine below_drewN ?_ _) | (with_reducible refine Below.setCell ?_ ?_ _) | (with_reducible refine bvia ?_ (by with_reducible assumption) ?_) | go_size))))).mono ?_
  rintro e w10 ⟨v10, s10, rfl, ⟨x10, rfl, -, -⟩, c10, t10⟩
  have U : Touch g (g + 1) w9 w10 := by (repeat' (first | (with_reducible exact Touch.refl _ _ _) | (with_reducible assumption) | (with_reducible refine Touch.alloc ?_ _) | (with_reducible refine Touch.drew ?_) | (with_reducible refine Touch.drewN ?_ _) | (with_reducible refine Touch.setNew ?_ ?_ _) | (with_reducible refine Touch.trans ?_ (by with_reducible assumption)) | (with_reducible refine Touch.via ?_ (by with_reducible assumption)) | go_size | omega))
  have hz10 : w.heap.size < w10.heap.size := Nat.lt_of_lt_of_le hz9 U.size
  have HX10 := Lib.hid ((U.block w.heap.size hz9 (.inr (by omega))).trans HX9.out)
  have T10 := T9.trans U
  clear U t10 c9 HX9 T9 hz9
  go_wp2_with fail
  refine (l01PickInt_some g S s10 _ _ [11, 12, 13, 21, 22, 23, 31] 7 _ (c10.below (by (repeat' (first | (with_reducible exact Below.refl _ _) | (with_reducible assumption) | (with_reducible refine Below.alloc ?_ ?_ _) | (with_reducible refine Below.drew ?_) | (with_reducible refine below_drewN ?_ _) | (with_reducible refine Below.setCell ?_ ?_ _) | (with_reducible refine bvia ?_ (by with_reducible assumption) ?_) | go_size)))) rfl (Rd_lit _ _ (g + 1) _ _ _ rfl (by omega) (by simp)) (by decide) (by simp [maxLen])).mono ?_
  rintro e w11 ⟨v11, s11, rfl, ⟨x11, rfl, -⟩, c11, t11⟩
  have U : Touch g (g + 1) w10 w11 := by (repeat' (first | (with_reducible exact Touch.refl _ _ _) | (with_reducible assumption) | (with_reducible refine Touch.alloc ?_ _) | (with_reducible refine Touch.drew ?_) | (with_reducible refine Touch.drewN ?_ _) | (with_reducible refine Touch.setNew ?_ ?_ _) | (with_reducible refine Touch.trans ?_ (by with_reducible assumption)) | (with_reducible refine Touch.via ?_ (by with_reducible assumption)) | go_size | omega))
  have hz11 : w.heap.size < w11.heap.size := Nat.lt_of_lt_of_le hz10 U.size
  have HX11 := Lib.hid ((U.block w.heap.size hz10 (.inr (by omega))).trans HX10.out)
  have T11 := T10.trans U
  clear U t11 c10 HX10 T10 hz10
  go_wp2_with fail
  refine (l01Below_some g S s11 30 _ (by decide) (c11.below (by (repeat' (first | (with_reducible exact Below.refl _ _) | (with_reducible assumption) | (with_reducible refine Below.alloc ?_ ?_ _) | (with_reducible refine Below.drew ?_) | (with_reducible refine below_drewN ?_ _) | (with_reducible refine Below.setCell ?_ ?_ _) | (with_reducible refine bvia ?_ (by with_reducible assumption) ?_) | go_size))))).mono ?_
  rintro e w12 ⟨v12, s12, rfl, ⟨x12, rfl, -, -⟩, c12, t12⟩
  have U : Touch g (g + 1) w11 w12 := by (repeat' (first | (with_reducible exact Touch.refl _ _ _) | (with_reducible assumption) | (with_reducible refine Touch.alloc ?_ _) | (with_reducible refine Touch.drew ?_) | (with_reducible refine Touch.drewN ?_ _) | (with_reducible refine Touch.setNew ?_ ?_ _) | (with_reducible refine Touch.trans ?_ (by with_reducible assumption)) | (with_reducible refine Touch.via ?_ (by with_reducible assumption)) | go_size | omega))
  have hz12 : w.heap.size < w12.heap.size := Nat.lt_of_lt_of_le hz11 U.size
  have HX12 := Lib.hid ((U.block w.heap.size hz11 (.inr (by omega))).trans HX11.out)
  have T12 := T11.trans U
  clear U t12 c11 HX11 T11 hz11
  obtain ⟨k1, hk1⟩ : ∃ k, wrap64 (1 + x1) = k := ⟨_, rfl⟩
  rw [hk1]
  clear hk1
  go_wp2_with (refine wpList_store_row rfl rfl 33 (.tmp 3) (.tmp 33) rfl w12.heap.size rfl 33 _ _ rfl (heap_alloc_new w12 _) rfl (by kernel_rfl) (by simp [Value.oneCell']) ?_; intro wz hgz hgr hsz)
  obtain ⟨y, hy, L⟩ : ∃ y : LetterD, y.fText.size ≤ 21 ∧ Hid (LSt w wz g S s12 w12.heap.size y) := ⟨⟨k1, x2, x3, x4, x5, x6, x7, x8, x9, 0, 0, 0, 0, 0, x10, x11, false, x12, ⟨#[]⟩⟩, (by show (0 : Nat) ≤ 21; omega), Lib.hid (LSt.new T12 c12 hlt hz12 ⟨_, HX12.out, rfl⟩ hgz hgr)⟩
  clear T12 c12 HX12 hgz hgr hsz
  refine (l01Once_some g S s12 3 _ L.out.c).mono ?_
  rintro e w13 ⟨v13, s13, rfl, ⟨b13, rfl⟩, c13, t13⟩
  have L13 := Lib.hid (L.out.step t13 c13)
  clear L t13 c13
  cases b13 with
  | false =>
    have a0 := L13.out.cell 0 _ rfl
    have hW : w12.heap.size < w13.heap.size := (Array.getElem?_eq_some_iff.1 L13.out.row).1
    by_cases hk : y.fKind = 11
    · have d0 : (y.fKind == 11) = true := by simpa using hk
      clear hk
      go_wp2_with fail
      refine (l01Pick_some g S s13 _ _ [⟨#[97]⟩, ⟨#[101, 118, 105, 108]⟩, ⟨#[122, 122]⟩, ⟨#[]⟩] 4 _ (L13.out.c.below (by (repeat' (first | (with_reducible exact Below.refl _ _) | (with_reducible assumption) | (with_reducible refine Below.alloc ?_ ?_ _) | (with_reducible refine Below.drew ?_) | (with_reducible refine below_drewN ?_ _) | (with_reducible refine Below.setCell ?_ ?_ _) | (with_reducible refine bvia ?_ (by with_reducible assumption) ?_) | go_size)))) rfl (RdS_lit _ _ (g + 1) _ _ _ rfl (by omega) (by simp)) (by decide) (by simp [maxLen]) (by decide)).mono ?_
      rintro e w20 ⟨v20, s20, rfl, ⟨tx, rfl, htx⟩, c20, t20⟩
      have U : Touch g (g + 1) w13 w20 := by (repeat' (first | (with_reducible exact Touch.refl _ _ _) | (with_reducible assumption) | (with_reducible refine Touch.alloc ?_ _) | (with_reducible refine Touch.drew ?_) | (with_reducible refine Touch.drewN ?_ _) | (with_reducible refine Touch.setNew ?_ ?_ _) | (with_reducible refine Touch.trans ?_ (by with_reducible assumption)) | (with_reducible refine Touch.via ?_ (by with_reducible assumption)) | go_size | omega))
      have L20 := Lib.hid (L13.out.step U c20)
      clear U c20 t20 L13 a0
      have a18 := L20.out.cell 18 _ rfl
      have f18 := L20.out.free 18
      have L21 := Lib.hid (L20.out.set 18 (.string tx) { y with fText := tx } rfl)
      obtain ⟨old, hres, hro⟩ := L21.out.res
      go_wp2_with (first | (refine wpList_load_row rfl 33 (.tmp 3) rfl w12.heap.size rfl 33 _ (0, 0) _ L21.out.row Try.underlying33 rfl (by kernel_rfl) ?_) | (refine wpList_store_row rfl rfl 33 (.tmp 2) (.tmp 46) rfl w.heap.size rfl 33 _ _ rfl hres hro (by kernel_rfl) (by simp [Value.oneCell']) ?_; intro wq hgq hgrq hsq))
      exact bodyPost_ret (results_cell_row Try.results29 _ _ w.heap.size 33 _ (0, 0) _ rfl hgq Try.underlying33 rfl (by kernel_rfl)) rfl ⟨_, _, rfl, ⟨{ y with fText := tx }, rfl, htx⟩, (L21.out.done hgrq).1, (L21.out.done hgrq).2⟩
    · have d0 : (y.fKind == 11) = false := by simpa using hk
      clear hk
      obtain ⟨old, hres, hro⟩ := L13.out.res
      go_wp2_with (first | (refine wpList_load_row rfl 33 (.tmp 3) rfl w12.heap.size rfl 33 _ (0, 0) _ L13.out.row Try.underlying33 rfl (by kernel_rfl) ?_) | (refine wpList_store_row rfl rfl 33 (.tmp 2) (.tmp 46) rfl w.heap.size rfl 33 _ _ rfl hres hro (by kernel_rfl) (by simp [Value.oneCell']) ?_; intro wq hgq hgrq hsq))
      exact bodyPost_ret (results_cell_row Try.results29 _ _ w.heap.size 33 _ (0, 0) _ rfl hgq Try.underlying33 rfl (by kernel_rfl)) rfl ⟨_, _, rfl, ⟨y, rfl, hy⟩, (L13.out.done hgrq).1, (L13.out.done hgrq).2⟩
  | true =>
    by_cases hk : y.fKind = 11
    · have d0 : (y.fKind == 11) = true := by simpa using hk
      clear hk
      go_wp2_with fail
      refine (l15Tag_some g S s13 _ L13.out.c).mono ?_
      rintro e w14 ⟨v14, s14, rfl, ⟨tg, rfl⟩, c14, t14⟩
      have L14 := Lib.hid (L13.out.step t14 c14)
      clear L13 t14 c14
      go_wp2_with (refine wpList_store_part rfl rfl 31 (.tmp 38) (.tmp 37) rfl w12.heap.size 9 rfl 33 _ _ rfl L14.out.row (by simp) (by kernel_rfl) (by simp [Value.oneCell']) ?_; intro wy hgy hgr hsy; have L15 := Lib.hid (L14.out.put (y' := (y.tagged tg)) (hgy.trans (congrArg (fun a => some (Obj.cells a 33 (0, 0))) (tagged_arr y tg _ rfl))) hgr); obtain ⟨y2, hy2⟩ : ∃ y2 : LetterD, y.tagged tg = y2 := ⟨_, rfl⟩; have ht2 : y2.fText.size ≤ 21 := (hy2 ▸ hy); have hk2 : y2.fKind = y.fKind := (hy2 ▸ rfl); rw [hy2] at L15; clear hy2 L14 hgy hgr hsy; have a0 : wy.cell? ⟨w12.heap.size, 0, none⟩ = some (.int .i64 y.fKind) := (hk2 ▸ L15.out.cell 0 _ rfl); obtain ⟨old, hres, hro⟩ := L15.out.res)
      have hW : w12.heap.size < wy.heap.size := (Array.getElem?_eq_some_iff.1 L15.out.row).1
      clear hres
      refine (l01Pick_some g S s14 _ _ [⟨#[97]⟩, ⟨#[101, 118, 105, 108]⟩, ⟨#[122, 122]⟩, ⟨#[]⟩] 4 _ (L15.out.c.below (by (repeat' (first | (with_reducible exact Below.refl _ _) | (with_reducible assumption) | (with_reducible refine Below.alloc ?_ ?_ _) | (with_reducible refine Below.drew ?_) | (with_reducible refine below_drewN ?_ _) | (with_reducible refine Below.setCell ?_ ?_ _) | (with_reducible refine bvia ?_ (by with_reducible assumption) ?_) | go_size)))) rfl (RdS_lit _ _ (g + 1) _ _ _ rfl (by omega) (by simp)) (by decide) (by simp [maxLen]) (by decide)).mono ?_
      rintro e w20 ⟨v20, s20, rfl, ⟨tx, rfl, htx⟩, c20, t20⟩
      have U : Touch g (g + 1) wy w20 := by (repeat' (first | (with_reducible exact Touch.refl _ _ _) | (with_reducible assumption) | (with_reducible refine Touch.alloc ?_ _) | (with_reducible refine Touch.drew ?_) | (with_reducible refine Touch.drewN ?_ _) | (with_reducible refine Touch.setNew ?_ ?_ _) | (with_reducible refine Touch.trans ?_ (by with_reducible assumption)) | (with_reducible refine Touch.via ?_ (by with_reducible assumption)) | go_size | omega))
      have L20 := Lib.hid (L15.out.step U c20)
      clear U c20 t20 L15 a0
      have a18 := L20.out.cell 18 _ rfl
      have f18 := L20.out.free 18
      have L21 := Lib.hid (L20.out.set 18 (.string tx) { y2 with fText := tx } rfl)
      obtain ⟨old, hres, hro⟩ := L21.out.res
      go_wp2_with (first | (refine wpList_load_row rfl 33 (.tmp 3) rfl w12.heap.size rfl 33 _ (0, 0) _ L21.out.row Try.underlying33 rfl (by kernel_rfl) ?_) | (refine wpList_store_row rfl rfl 33 (.tmp 2) (.tmp 46) rfl w.heap.size rfl 33 _ _ rfl hres hro (by kernel_rfl) (by simp [Value.oneCell']) ?_; intro wq hgq hgrq hsq))
      exact bodyPost_ret (results_cell_row Try.results29 _ _ w.heap.size 33 _ (0, 0) _ rfl hgq Try.underlying33 rfl (by kernel_rfl)) rfl ⟨_, _, rfl, ⟨{ y2 with fText := tx }, rfl, htx⟩, (L21.out.done hgrq).1, (L21.out.done hgrq).2⟩
    · have d0 : (y.fKind == 11) = false := by simpa using hk
      clear hk
      go_wp2_with fail
      refine (l15Tag_some g S s13 _ L13.out.c).mono ?_
      rintro e w14 ⟨v14, s14, rfl, ⟨tg, rfl⟩, c14, t14⟩
      have L14 := Lib.hid (L13.out.step t14 c14)
      clear L13 t14 c14
      go_wp2_with (first | (refine wpList_store_part rfl rfl 31 (.tmp 38) (.tmp 37) rfl w12.heap.size 9 rfl 33 _ _ rfl L14.out.row (by simp) (by kernel_rfl) (by simp [Value.oneCell']) ?_; intro wy hgy hgr hsy; have L15 := Lib.hid (L14.out.put (y' := (y.tagged tg)) (hgy.trans (congrArg (fun a => some (Obj.cells a 33 (0, 0))) (tagged_arr y tg _ rfl))) hgr); obtain ⟨y2, hy2⟩ : ∃ y2 : LetterD, y.tagged tg = y2 := ⟨_, rfl⟩; have ht2 : y2.fText.size ≤ 21 := (hy2 ▸ hy); have hk2 : y2.fKind = y.fKind := (hy2 ▸ rfl); rw [hy2] at L15; clear hy2 L14 hgy hgr hsy; have a0 : wy.cell? ⟨w12.heap.size, 0, none⟩ = some (.int .i64 y.fKind) := (hk2 ▸ L15.out.cell 0 _ rfl); obtain ⟨old, hres, hro⟩ := L15.out.res) | (refine wpList_load_row rfl 33 (.tmp 3) rfl w12.heap.size rfl 33 _ (0, 0) _ L15.out.row Try.underlying33 rfl (by kernel_rfl) ?_) | (refine wpList_store_row rfl rfl 33 (.tmp 2) (.tmp 46) rfl w.heap.size rfl 33 _ _ rfl hres hro (by kernel_rfl) (by simp [Value.oneCell']) ?_; intro wq hgq hgrq hsq))
      exact bodyPost_ret (results_cell_row Try.results29 _ _ w.heap.size 33 _ (0, 0) _ rfl hgq Try.underlying33 rfl (by kernel_rfl)) rfl ⟨_, _, rfl, ⟨y2, rfl, ht2⟩, (L15.out.done hgrq).1, (L15.out.done hgrq).2⟩
end Go.Proofs.Ytkehjlddbikpbaa
