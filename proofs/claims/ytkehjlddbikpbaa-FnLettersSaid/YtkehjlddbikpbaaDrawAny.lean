/- l16Any: for every state of the cursor. Written by program (drawany.py). -/
import Derived.Test.YtkehjlddbikpbaaDrawLetter
namespace Go.Proofs.Ytkehjlddbikpbaa
set_option linter.unusedSimpArgs false
set_option linter.unusedVariables false
open Go.RowKit

set_option maxRecDepth 20000 in
set_option maxHeartbeats 40000000 in
theorem l16Any_some (g : Nat) (S : Src) (s : Nat × Int) (w : World) (hc : Cur w g S s) :
    Calls Try.prog 27 #[.pointer (some ⟨g, 0, none⟩)] w (DrawP g S w fun _ v => ∃ x : LetterD, v = x.val ∧ x.fText.size ≤ 21) := by
  have hlt := hc.lt
  go_enter Try.func27, Try.ntmps27
  go_wp2_with fail
  refine (l16Letter_some g S s _ (hc.below (by (repeat' (first | (with_reducible exact Below.refl _ _) | (with_reducible assumption) | (with_reducible refine Below.alloc ?_ ?_ _) | (with_reducible refine Below.drew ?_) | (with_reducible refine below_drewN ?_ _) | (with_reducible refine Below.setCell ?_ ?_ _) | (with_reducible refine bvia ?_ (by with_reducible assumption) ?_) | go_size))))).mono ?_
  rintro e w1 ⟨v1, s1, rfl, ⟨y, rfl, hy⟩, c1, t1⟩
  have T1 : Touch g (g + 1) w w1 := by (repeat' (first | (with_reducible exact Touch.refl _ _ _) | (with_reducible assumption) | (with_reducible refine Touch.alloc ?_ _) | (with_reducible refine Touch.drew ?_) | (with_reducible refine Touch.drewN ?_ _) | (with_reducible refine Touch.setNew ?_ ?_ _) | (with_reducible refine Touch.trans ?_ (by with_reducible assumption)) | (with_reducible refine Touch.via ?_ (by with_reducible assumption)) | go_size | omega))
  have hz1 : w.heap.size < w1.heap.size := Nat.lt_of_lt_of_le (by go_size) t1.size
  have HX1 := Lib.hid ((t1.block w.heap.size (by go_size) (.inr (by omega))).trans (heap_alloc_new w _))
  clear t1
  go_wp2_with (refine wpList_store_row rfl rfl 33 (.tmp 3) (.tmp 5) rfl w1.heap.size rfl 33 _ _ rfl (heap_alloc_new w1 _) rfl (by kernel_rfl) (by simp [Value.oneCell']) ?_; intro wz hgz hgr hsz)
  have L := Lib.hid (LSt.new T1 c1 hlt hz1 ⟨_, HX1.out, rfl⟩ hgz hgr)
  clear T1 c1 HX1 hgz hgr hsz
  obtain ⟨b, hb⟩ : ∃ b, w1.heap.size = b := ⟨_, rfl⟩
  rw [hb] at L hz1
  rw [hb]
  clear hb
  refine (l01Below_some g S s1 12 _ (by decide) L.out.c).mono ?_
  rintro e w2 ⟨v2, s2, rfl, ⟨k, rfl, -, -⟩, c2, t2⟩
  have L2 := Lib.hid (L.out.step t2 c2)
  clear L t2 c2
  by_cases k0 : k = 0
  · subst k0
    have hW : b < w2.heap.size := (Array.getElem?_eq_some_iff.1 L2.out.row).1
    go_wp2_with fail
    refine (l01PickInt_some g S s2 _ _ [0, 14, 13] 3 _ (L2.out.c.below (by (repeat' (first | (with_reducible exact Below.refl _ _) | (with_reducible assumption) | (with_reducible refine Below.alloc ?_ ?_ _) | (with_reducible refine Below.drew ?_) | (with_reducible refine below_drewN ?_ _) | (with_reducible refine Below.setCell ?_ ?_ _) | (with_reducible refine bvia ?_ (by with_reducible assumption) ?_) | go_size)))) rfl (Rd_lit _ _ (g + 1) _ _ _ rfl (by omega) (by simp)) (by decide) (by simp [maxLen])).mono ?_
    rintro e w3 ⟨v3, s3, rfl, ⟨z, rfl, hz⟩, c3, t3⟩
    have U : Touch g (g + 1) w2 w3 := by (repeat' (first | (with_reducible exact Touch.refl _ _ _) | (with_reducible assumption) | (with_reducible refine Touch.alloc ?_ _) | (with_reducible refine Touch.drew ?_) | (with_reducible refine Touch.drewN ?_ _) | (with_reducible refine Touch.setNew ?_ ?_ _) | (with_reducible refine Touch.trans ?_ (by with_reducible assumption)) | (with_reducible refine Touch.via ?_ (by with_reducible assumption)) | go_size | omega))
    have L3 := Lib.hid (L2.out.step U c3)
    clear U c3 t3 L2
    clear hz
    have ac := L3.out.cell 0 _ rfl
    have fc := L3.out.free 0
    have L5 := Lib.hid (L3.out.set 0 (.int .i64 z) { y with fKind := z } rfl)
    obtain ⟨old, hres, hro⟩ := L5.out.res
    have HRO := Lib.hid hro
    clear hro
    go_wp2_with (first | (refine wpList_load_row rfl 33 (.tmp 3) rfl b rfl 33 _ (0, 0) _ L5.out.row Try.underlying33 rfl (by kernel_rfl) ?_) | (refine wpList_store_row rfl rfl 33 (.tmp 2) (.tmp 31) rfl w.heap.size rfl 33 _ _ rfl hres HRO.out (by kernel_rfl) (by simp [Value.oneCell']) ?_; intro wq hgq hgrq hsq))
    exact bodyPost_ret (results_cell_row Try.results27 _ _ w.heap.size 33 _ (0, 0) _ rfl hgq Try.underlying33 rfl (by kernel_rfl)) rfl ⟨_, _, rfl, ⟨{ y with fKind := z }, rfl, hy⟩, (L5.out.done hgrq).1, (L5.out.done hgrq).2⟩
  by_cases k1 : k = 1
  · subst k1
    have hW : b < w2.heap.size := (Array.getElem?_eq_some_iff.1 L2.out.row).1
    go_wp2_with fail
    refine (l01PickInt_some g S s2 _ _ [20, 21] 2 _ (L2.out.c.below (by (repeat' (first | (with_reducible exact Below.refl _ _) | (with_reducible assumption) | (with_reducible refine Below.alloc ?_ ?_ _) | (with_reducible refine Below.drew ?_) | (with_reducible refine below_drewN ?_ _) | (with_reducible refine Below.setCell ?_ ?_ _) | (with_reducible refine bvia ?_ (by with_reducible assumption) ?_) | go_size)))) rfl (Rd_lit _ _ (g + 1) _ _ _ rfl (by omega) (by simp)) (by decide) (by simp [maxLen])).mono ?_
    rintro e w3 ⟨v3, s3, rfl, ⟨z, rfl, hz⟩, c3, t3⟩
    have U : Touch g (g + 1) w2 w3 := by (repeat' (first | (with_reducible exact Touch.refl _ _ _) | (with_reducible assumption) | (with_reducible refine Touch.alloc ?_ _) | (with_reducible refine Touch.drew ?_) | (with_reducible refine Touch.drewN ?_ _) | (with_reducible refine Touch.setNew ?_ ?_ _) | (with_reducible refine Touch.trans ?_ (by with_reducible assumption)) | (with_reducible refine Touch.via ?_ (by with_reducible assumption)) | go_size | omega))
    have L3 := Lib.hid (L2.out.step U c3)
    clear U c3 t3 L2
    obtain ⟨zn, rfl⟩ : ∃ n : Nat, z = n := ⟨z.toNat, by simp at hz; omega⟩
    have hzn : zn ≤ 21 := by simp at hz; omega
    clear hz
    go_wp2_with fail
    refine (l01Long_some zn 97 hzn _).mono ?_
    rintro e w4 ⟨tx, rfl, htx, hb4⟩
    have L4 := Lib.hid (L3.out.step (Touch.ofBelow hb4) (L3.out.c.below hb4))
    clear hb4 L3
    have a18 := L4.out.cell 18 _ rfl
    have f18 := L4.out.free 18
    have L5 := Lib.hid (L4.out.set 18 (.string tx) { y with fText := tx } rfl)
    obtain ⟨old, hres, hro⟩ := L5.out.res
    have HRO := Lib.hid hro
    clear hro
    go_wp2_with (first | (refine wpList_load_row rfl 33 (.tmp 3) rfl b rfl 33 _ (0, 0) _ L5.out.row Try.underlying33 rfl (by kernel_rfl) ?_) | (refine wpList_store_row rfl rfl 33 (.tmp 2) (.tmp 31) rfl w.heap.size rfl 33 _ _ rfl hres HRO.out (by kernel_rfl) (by simp [Value.oneCell']) ?_; intro wq hgq hgrq hsq))
    exact bodyPost_ret (results_cell_row Try.results27 _ _ w.heap.size 33 _ (0, 0) _ rfl hgq Try.underlying33 rfl (by kernel_rfl)) rfl ⟨_, _, rfl, ⟨{ y with fText := tx }, rfl, htx⟩, (L5.out.done hgrq).1, (L5.out.done hgrq).2⟩
  by_cases k2 : k = 2
  · subst k2
    have hW : b < w2.heap.size := (Array.getElem?_eq_some_iff.1 L2.out.row).1
    go_wp2_with fail
    refine (l01PickInt_some g S s2 _ _ [-1, 1000000001] 2 _ (L2.out.c.below (by (repeat' (first | (with_reducible exact Below.refl _ _) | (with_reducible assumption) | (with_reducible refine Below.alloc ?_ ?_ _) | (with_reducible refine Below.drew ?_) | (with_reducible refine below_drewN ?_ _) | (with_reducible refine Below.setCell ?_ ?_ _) | (with_reducible refine bvia ?_ (by with_reducible assumption) ?_) | go_size)))) rfl (Rd_lit _ _ (g + 1) _ _ _ rfl (by omega) (by simp)) (by decide) (by simp [maxLen])).mono ?_
    rintro e w3 ⟨v3, s3, rfl, ⟨z, rfl, hz⟩, c3, t3⟩
    have U : Touch g (g + 1) w2 w3 := by (repeat' (first | (with_reducible exact Touch.refl _ _ _) | (with_reducible assumption) | (with_reducible refine Touch.alloc ?_ _) | (with_reducible refine Touch.drew ?_) | (with_reducible refine Touch.drewN ?_ _) | (with_reducible refine Touch.setNew ?_ ?_ _) | (with_reducible refine Touch.trans ?_ (by with_reducible assumption)) | (with_reducible refine Touch.via ?_ (by with_reducible assumption)) | go_size | omega))
    have L3 := Lib.hid (L2.out.step U c3)
    clear U c3 t3 L2
    clear hz
    have ac := L3.out.cell 8 _ rfl
    have fc := L3.out.free 8
    have L5 := Lib.hid (L3.out.set 8 (.int .i64 z) { y with fSign := z } rfl)
    obtain ⟨old, hres, hro⟩ := L5.out.res
    have HRO := Lib.hid hro
    clear hro
    go_wp2_with (first | (refine wpList_load_row rfl 33 (.tmp 3) rfl b rfl 33 _ (0, 0) _ L5.out.row Try.underlying33 rfl (by kernel_rfl) ?_) | (refine wpList_store_row rfl rfl 33 (.tmp 2) (.tmp 31) rfl w.heap.size rfl 33 _ _ rfl hres HRO.out (by kernel_rfl) (by simp [Value.oneCell']) ?_; intro wq hgq hgrq hsq))
    exact bodyPost_ret (results_cell_row Try.results27 _ _ w.heap.size 33 _ (0, 0) _ rfl hgq Try.underlying33 rfl (by kernel_rfl)) rfl ⟨_, _, rfl, ⟨{ y with fSign := z }, rfl, hy⟩, (L5.out.done hgrq).1, (L5.out.done hgrq).2⟩
  by_cases k3 : k = 3
  · subst k3
    have a12 := L2.out.cell 12 _ rfl
    have f12 := L2.out.free 12
    have L5 := Lib.hid (L2.out.set 12 (.int .i64 (-1)) { y with fTagA := -1 } rfl)
    obtain ⟨old, hres, hro⟩ := L5.out.res
    have HRO := Lib.hid hro
    clear hro
    go_wp2_with (first | (refine wpList_load_row rfl 33 (.tmp 3) rfl b rfl 33 _ (0, 0) _ L5.out.row Try.underlying33 rfl (by kernel_rfl) ?_) | (refine wpList_store_row rfl rfl 33 (.tmp 2) (.tmp 31) rfl w.heap.size rfl 33 _ _ rfl hres HRO.out (by kernel_rfl) (by simp [Value.oneCell']) ?_; intro wq hgq hgrq hsq))
    exact bodyPost_ret (results_cell_row Try.results27 _ _ w.heap.size 33 _ (0, 0) _ rfl hgq Try.underlying33 rfl (by kernel_rfl)) rfl ⟨_, _, rfl, ⟨{ y with fTagA := -1 }, rfl, hy⟩, (L5.out.done hgrq).1, (L5.out.done hgrq).2⟩
  have d0 : (k == 0) = false := by simpa using k0
  have d1 : (k == 1) = false := by simpa using k1
  have d2 : (k == 2) = false := by simpa using k2
  have d3 : (k == 3) = false := by simpa using k3
  obtain ⟨old, hres, hro⟩ := L2.out.res
  have HRO := Lib.hid hro
  clear hro
  go_wp2_with (first | (refine wpList_load_row rfl 33 (.tmp 3) rfl b rfl 33 _ (0, 0) _ L2.out.row Try.underlying33 rfl (by kernel_rfl) ?_) | (refine wpList_store_row rfl rfl 33 (.tmp 2) (.tmp 31) rfl w.heap.size rfl 33 _ _ rfl hres HRO.out (by kernel_rfl) (by simp [Value.oneCell']) ?_; intro wq hgq hgrq hsq))
  exact bodyPost_ret (results_cell_row Try.results27 _ _ w.heap.size 33 _ (0, 0) _ rfl hgq Try.underlying33 rfl (by kernel_rfl)) rfl ⟨_, _, rfl, ⟨y, rfl, hy⟩, (L2.out.done hgrq).1, (L2.out.done hgrq).2⟩
end Go.Proofs.Ytkehjlddbikpbaa
