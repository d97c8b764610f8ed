/- l10Out, l10Any, DrawAccept: for every state of the cursor. Written by program (drawout.py). -/
import Derived.Test.YtddpgdgpicamiaaSendLaw
import Derived.Test.YtddpgdgpicamiaaText
import Derived.Test.YtddpgdgpicamiaaMid
import Derived.Deep.RegionHeld3
import Derived.Deep.DrawnRows
import Derived.StillTailTactics
namespace Go.Proofs.Ytddpgdgpicamiaa
set_option linter.unusedSimpArgs false
set_option linter.unusedVariables false
open Go.RowKit

/-- Box b holds an Out. -/
structure OX (W : World) (b : Nat) (s : ByteArray) (a n r : Int) : Prop where
  lt : b < W.heap.size
  c0 : W.cell? ⟨b, 0, none⟩ = some (.string s)
  c1 : W.cell? ⟨b, 1, none⟩ = some (.int .i64 a)
  c2 : W.cell? ⟨b, 2, none⟩ = some (.int .i64 n)
  c3 : W.cell? ⟨b, 3, none⟩ = some (.int .i64 r)
  fr : ∀ o, W.frozen? ⟨b, o, none⟩ = false
section
variable {W W' : World} {b : Nat} {s : ByteArray} {a n r : Int}
theorem OX.keep (h : OX W b s a n r) (hz : W.heap.size ≤ W'.heap.size) (hk : W'.heap[b]? = W.heap[b]?) : OX W' b s a n r := by
  have hc : ∀ o, W'.cell? ⟨b, o, none⟩ = W.cell? ⟨b, o, none⟩ := fun o => by unfold World.cell?; rw [show (Addr.mk b o none).block = b from rfl, hk]
  have hf : ∀ o, W'.frozen? ⟨b, o, none⟩ = W.frozen? ⟨b, o, none⟩ := fun o => by unfold World.frozen?; rw [show (Addr.mk b o none).block = b from rfl, hk]
  exact ⟨Nat.lt_of_lt_of_le h.lt hz, (hc 0).trans h.c0, (hc 1).trans h.c1, (hc 2).trans h.c2, (hc 3).trans h.c3, fun o => (hf o).trans (h.fr o)⟩
theorem OX.next (h : OX W b s a n r) (hb : Below W.heap.size W W') : OX W' b s a n r := h.keep hb.size (hb.block b h.lt)
theorem OX.touch (h : OX W b s a n r) {lo hi : Nat} (ht : Touch lo hi W W') (hn : b < lo ∨ hi ≤ b) : OX W' b s a n r := h.keep ht.size (ht.block b h.lt hn)
theorem OX.drew (h : OX W b s a n r) : OX W.drew b s a n r := ⟨h.lt, h.c0, h.c1, h.c2, h.c3, h.fr⟩
theorem OX.other (h : OX W b s a n r) {p : Addr} (hp : b ≠ p.block) (v : Value) : OX (W.setCell p v) b s a n r := h.keep (by simp) (Below.heap_setCell _ _ _ _ hp)
theorem OX.new (w : World) (t : TypeId) : OX (w.alloc (.cells #[.string s, .int .i64 a, .int .i64 n, .int .i64 r] t)) w.heap.size s a n r :=
  ⟨by simp, by simp [go_sem], by simp [go_sem], by simp [go_sem], by simp [go_sem], fun o => by simp [go_sem]⟩
theorem OX.set (h : OX W b s a n r) (s' : ByteArray) (a' n' r' : Int) : OX ((((W.setCell ⟨b, 0, none⟩ (.string s')).setCell ⟨b, 1, none⟩ (.int .i64 a')).setCell ⟨b, 2, none⟩ (.int .i64 n')).setCell ⟨b, 3, none⟩ (.int .i64 r')) b s' a' n' r' := by
  refine ⟨by simpa using h.lt, ?_, ?_, ?_, ?_, fun o => by simp only [World.frozen?_setCell]; exact h.fr o⟩
  · exact (World.cell?_setCell_other _ _ _ _ (by simp)).trans ((World.cell?_setCell_other _ _ _ _ (by simp)).trans ((World.cell?_setCell_other _ _ _ _ (by simp)).trans (World.cell?_setCell_same _ _ _ h.c0)))
  · exact (World.cell?_setCell_other _ _ _ _ (by simp)).trans ((World.cell?_setCell_other _ _ _ _ (by simp)).trans (World.cell?_setCell_same _ _ _ ((World.cell?_setCell_other _ _ _ _ (by simp)).trans h.c1)))
  · exact (World.cell?_setCell_other _ _ _ _ (by simp)).trans (World.cell?_setCell_same _ _ _ ((World.cell?_setCell_other _ _ _ _ (by simp)).trans ((World.cell?_setCell_other _ _ _ _ (by simp)).trans h.c2)))
  · exact World.cell?_setCell_same _ _ _ ((World.cell?_setCell_other _ _ _ _ (by simp)).trans ((World.cell?_setCell_other _ _ _ _ (by simp)).trans ((World.cell?_setCell_other _ _ _ _ (by simp)).trans h.c3)))
theorem OX.set2 (h : OX W b s a n r) (n' : Int) : OX (W.setCell ⟨b, 2, none⟩ (.int .i64 n')) b s a n' r :=
  ⟨by simpa using h.lt, (World.cell?_setCell_other _ _ _ _ (by simp)).trans h.c0, (World.cell?_setCell_other _ _ _ _ (by simp)).trans h.c1, World.cell?_setCell_same _ _ _ h.c2, (World.cell?_setCell_other _ _ _ _ (by simp)).trans h.c3, fun o => by simp only [World.frozen?_setCell]; exact h.fr o⟩
end
set_option maxHeartbeats 8000000 in
theorem l10Out_some (g : Nat) (S : Src) (s : Nat × Int) (w : World) (hc : Cur w g S s) :
    Calls Try.prog 35 #[.pointer (some ⟨g, 0, none⟩)] w (DrawP g S w fun _ v => ∃ (t : ByteArray) (b n r : Int), v = ou t b n r ∧ OutIn t b n r 150) := by
  have hlt := hc.lt
  go_enter Try.func35, Try.ntmps35
  go_wp2_with fail
  refine (l01Below_some g S s 50 _ (by decide) (hc.below (by (repeat' (first | (with_reducible exact Below.refl _ _) | (with_reducible assumption) | (with_reducible refine Below.alloc ?_ ?_ _) | (with_reducible refine Below.drew ?_) | (with_reducible refine below_drewN ?_ _) | (with_reducible refine Below.setCell ?_ ?_ _) | (with_reducible refine bvia ?_ (by with_reducible assumption) ?_) | go_size))))).mono ?_
  rintro e w1 ⟨v1, s1, rfl, ⟨x1, rfl, p1, q1⟩, c1, t1⟩
  have Z1 := (OX.new w 26 (s := ⟨#[]⟩) (a := 0) (n := 0) (r := 0)).touch t1 (.inr (by omega))
  have T1 : Touch g (g + 1) w w1 := by (repeat' (first | (with_reducible exact Touch.refl _ _ _) | (with_reducible assumption) | (with_reducible refine Touch.alloc ?_ _) | (with_reducible refine Touch.drew ?_) | (with_reducible refine Touch.drewN ?_ _) | (with_reducible refine Touch.setNew ?_ ?_ _) | (with_reducible refine Touch.trans ?_ (by with_reducible assumption)) | (with_reducible refine Touch.via ?_ (by with_reducible assumption)) | go_size | omega))
  clear t1
  go_wp2_with fail
  refine (l01PickInt_some g S s1 _ _ [200, 60, 10, 1] 4 _ (c1.below (by (repeat' (first | (with_reducible exact Below.refl _ _) | (with_reducible assumption) | (with_reducible refine Below.alloc ?_ ?_ _) | (with_reducible refine Below.drew ?_) | (with_reducible refine below_drewN ?_ _) | (with_reducible refine Below.setCell ?_ ?_ _) | (with_reducible refine bvia ?_ (by with_reducible assumption) ?_) | go_size)))) rfl (Rd_lit _ _ (g + 1) _ _ _ rfl (by have := Z1.lt; omega) (by simp)) (by decide) (by simp [maxLen])).mono ?_
  rintro e w2 ⟨v2, s2, rfl, ⟨x2, rfl, m2⟩, c2, t2⟩
  have hx2 : 1 ≤ x2 ∧ x2 ≤ 200 := by simp at m2; omega
  have Z2 := (Z1.next (by (repeat' (first | (with_reducible exact Below.refl _ _) | (with_reducible assumption) | (with_reducible refine Below.alloc ?_ ?_ _) | (with_reducible refine Below.drew ?_) | (with_reducible refine below_drewN ?_ _) | (with_reducible refine Below.setCell ?_ ?_ _) | (with_reducible refine bvia ?_ (by with_reducible assumption) ?_) | go_size)) : Below w1.heap.size w1 (w1.alloc _))).touch t2 (.inr (by omega))
  have T2 : Touch g (g + 1) w w2 := T1.trans (by (repeat' (first | (with_reducible exact Touch.refl _ _ _) | (with_reducible assumption) | (with_reducible refine Touch.alloc ?_ _) | (with_reducible refine Touch.drew ?_) | (with_reducible refine Touch.drewN ?_ _) | (with_reducible refine Touch.setNew ?_ ?_ _) | (with_reducible refine Touch.trans ?_ (by with_reducible assumption)) | (with_reducible refine Touch.via ?_ (by with_reducible assumption)) | go_size | omega)))
  clear t2 c1 Z1 T1 m2
  have hz2 := T2.size
  obtain ⟨bo, hbo⟩ : ∃ b, w2.heap.size = b := ⟨_, rfl⟩
  have hbo1 : w2.heap.size ≤ bo := by omega
  have hbo2 : bo ≤ w2.heap.size := by omega
  have hzb : w.heap.size < bo := by have := Z2.lt; omega
  go_upto_region 3 with (fail)
  refine wp_world _ (fun W => OX W bo ⟨#[]⟩ x1 x1 x2 ∧ OX W w.heap.size ⟨#[]⟩ 0 0 0 ∧ Cur W g S s2 ∧ Touch g (g + 1) w W) ?_ ?_
  · rw [← hbo]
    exact ⟨OX.new w2 26, Z2.next (by (repeat' (first | (with_reducible exact Below.refl _ _) | (with_reducible assumption) | (with_reducible refine Below.alloc ?_ ?_ _) | (with_reducible refine Below.drew ?_) | (with_reducible refine below_drewN ?_ _) | (with_reducible refine Below.setCell ?_ ?_ _) | (with_reducible refine bvia ?_ (by with_reducible assumption) ?_) | go_size)) : Below w2.heap.size w2 (w2.alloc _)), c2.below (by (repeat' (first | (with_reducible exact Below.refl _ _) | (with_reducible assumption) | (with_reducible refine Below.alloc ?_ ?_ _) | (with_reducible refine Below.drew ?_) | (with_reducible refine below_drewN ?_ _) | (with_reducible refine Below.setCell ?_ ?_ _) | (with_reducible refine bvia ?_ (by with_reducible assumption) ?_) | go_size))), T2.alloc _⟩
  clear Z2 c2 T2 hbo hbo1 hbo2 hz2
  rintro W0 ⟨hO, hZ, hC, hT⟩
  have HO := Lib.hid hO
  have HZ := Lib.hid hZ
  clear hO hZ
  go_wp2_with fail
  go_loopw [4] (fun i wr => ∃ (k : Nat) (t : ByteArray) (b n r : Int) (s : Nat × Int), i = .int .i64 k ∧ k ≤ 4 ∧ OutIn t b n r (50 + 20 * k) ∧ OX wr bo t b n r ∧ OX wr w.heap.size ⟨#[]⟩ 0 0 0 ∧ Cur wr g S s ∧ Touch g (g + 1) w wr) (fun i _ => 8 - (intOf i).toNat)
  case atStart => exact ⟨0, ⟨#[]⟩, x1, x1, x2, s2, rfl, by omega, ⟨by omega, by omega, by omega, by omega, by show ((0 : Nat) : Int) ≤ x2; omega, by omega, by show x1 ≤ x1 + ((0 : Nat) : Int); omega⟩, HO.out, HZ.out, hC, hT⟩
  case round =>
    clear HO HZ hC hT
    obtain ⟨k, t, b, n, r, s, rfl, hk, hI, hO, hZ, hC, hT⟩ := hrel
    have HO := Lib.hid hO
    have HZ := Lib.hid hZ
    have hI' := hI
    obtain ⟨i1, i2, i3, i4, i5, i6, i7⟩ := hI'
    have HI := Lib.hid hI
    clear hO hZ hI
    have hz0 := hT.size
    go_wp2_with fail
    refine (l01Below_some g S s 5 _ (by decide) hC).mono ?_
    rintro e w1 ⟨v1, s1, rfl, ⟨x, rfl, p1, q1⟩, c1, t1⟩
    have HO1 := Lib.hid (HO.out.touch t1 (.inr (by omega)))
    have HZ1 := Lib.hid (HZ.out.touch t1 (.inr (by omega)))
    have hT1 := hT.trans t1
    clear t1 hT hC HO HZ
    by_cases hlt2 : (k : Int) < x
    · have hk3 : k ≤ 3 := by omega
      have hm : 50 + 20 * (k : Int) ≤ 300 := by omega
      go_wp2_with fail
      refine (l01Below_some g S s1 4 _ (by decide) c1).mono ?_
      rintro e w2 ⟨v2, s2, rfl, ⟨y, rfl, p2, q2⟩, c2, t2⟩
      have HO := Lib.hid (HO1.out.touch t2 (.inr (by omega)))
      have HZ := Lib.hid (HZ1.out.touch t2 (.inr (by omega)))
      have hT2 := hT1.trans t2
      have hlb := HO.out.lt
      clear t2 hT1 c1 HO1 HZ1
      have e0 := HO.out.c0
      have e1 := HO.out.c1
      have e2 := HO.out.c2
      have e3 := HO.out.c3
      have fe0 := HO.out.fr 0
      have fe1 := HO.out.fr 1
      have fe2 := HO.out.fr 2
      have fe3 := HO.out.fr 3
      by_cases h0 : y = 0
      · subst h0
        go_wp2_with fail
        go_region_with (first
          | (go_at_call 34; refine (l01Below_some g S s2 40 _ (by decide) (c2.below (by (repeat' (first | (with_reducible exact Below.refl _ _) | (with_reducible assumption) | (with_reducible refine Below.alloc ?_ ?_ _) | (with_reducible refine Below.drew ?_) | (with_reducible refine below_drewN ?_ _) | (with_reducible refine Below.setCell ?_ ?_ _) | (with_reducible refine bvia ?_ (by with_reducible assumption) ?_) | go_size))))).mono ?_; rintro e w3 ⟨v3, s3, rfl, ⟨z, rfl, p3, q3⟩, c3, t3⟩; obtain ⟨m, hmz⟩ : ∃ m : Nat, z = m := ⟨z.toNat, by omega⟩; subst hmz; have HA3 := HO.out.drew.touch t3 (.inr (by omega)); have e0_3 := HA3.c0; have e1_3 := HA3.c1; have e2_3 := HA3.c2; have e3_3 := HA3.c3)
          | (go_at_call 33; refine (l01Text_any g S s3 m (by omega) _ c3).mono ?_; rintro e w4 ⟨rfl, c4, t4⟩; obtain ⟨s3T, hs3T⟩ : ∃ q, textS S.B s3 m = q := ⟨_, rfl⟩; rw [hs3T] at c4; clear hs3T; have hts := textV_size S.B s3 m; obtain ⟨T, hT⟩ : ∃ T, textV S.B s3 m = T := ⟨_, rfl⟩; rw [hT] at hts ⊢; have hTl : T.size ≤ 1048576 := (by omega); clear hT hts; have HA4 := HA3.touch t4 (.inr (by omega)); have e0_4 := HA4.c0; have e1_4 := HA4.c1; have e2_4 := HA4.c2; have e3_4 := HA4.c3)
          | (go_at_call 22; refine (sAccept t T b n r _ (by unfold maxLen; omega) hTl).mono ?_; rintro e w5 ⟨rfl, hb5⟩; have HO5 := HA4.next hb5; have g0 := HO5.c0; have g1 := HO5.c1; have g2 := HO5.c2; have g3 := HO5.c3; have fg0 := HO5.fr 0; have fg1 := HO5.fr 1; have fg2 := HO5.fr 2; have fg3 := HO5.fr 3)
          | fail)
        all_goals (go_wp2; go_roundw; (case rel => exact ⟨k + 1, accT t T b n r, b, n, r, s3T, by go_num, by omega, (HI.out.acc hm T).more (by omega), HO5.set (accT t T b n r) b n r, ((((HZ.out.drew.touch t3 (.inr (by omega))).touch t4 (.inr (by omega))).next hb5).other (by show w.heap.size ≠ bo; omega) _ |>.other (by show w.heap.size ≠ bo; omega) _ |>.other (by show w.heap.size ≠ bo; omega) _ |>.other (by show w.heap.size ≠ bo; omega) _), (c4.below hb5).keep (lo := bo) (hi := bo + 1) (by (repeat' (first | (with_reducible exact Touch.refl _ _ _) | (with_reducible assumption) | (with_reducible refine Touch.alloc ?_ _) | (with_reducible refine Touch.drew ?_) | (with_reducible refine Touch.drewN ?_ _) | (with_reducible refine Touch.setCell ?_ ?_ ?_ _) | (with_reducible refine Touch.via ?_ (by with_reducible assumption)) | go_size))) (by omega), by (repeat' (first | (with_reducible exact Touch.refl _ _ _) | (with_reducible assumption) | (with_reducible refine Touch.alloc ?_ _) | (with_reducible refine Touch.drew ?_) | (with_reducible refine Touch.drewN ?_ _) | (with_reducible refine Touch.setNew ?_ ?_ _) | (with_reducible refine Touch.trans ?_ (by with_reducible assumption)) | (with_reducible refine Touch.via ?_ (by with_reducible assumption)) | go_size | omega))⟩); (case measure => (simp [intOf]; omega)))
      have d0 : (y == 0) = false := by simpa using h0
      by_cases h1 : y = 1
      · subst h1
        go_wp2_with fail
        refine (sWasSent t b n r _ (by unfold maxLen; omega) (by omega)).mono ?_
        rintro e w3 ⟨rfl, hb3⟩
        have HO3 := HO.out.next hb3
        have HZ3 := Lib.hid (HZ.out.next hb3)
        have c3 := c2.below hb3
        have hT3 := hT2.trans (Touch.ofBelow hb3 : Touch g (g + 1) _ _)
        have hI3 : OutIn (t) (b) (sentN t b n r) (r) (50 + 20 * ((k + 1 : Nat) : Int)) := (HI.out.sent hm).more (by omega)
        have g0 := HO3.c0
        have g1 := HO3.c1
        have g2 := HO3.c2
        have g3 := HO3.c3
        have fg0 := HO3.fr 0
        have fg1 := HO3.fr 1
        have fg2 := HO3.fr 2
        have fg3 := HO3.fr 3
        clear e0 e1 e2 e3 fe0 fe1 fe2 fe3 hb3 HO HZ c2 hT2
        go_wp2
        go_roundw
        case rel => exact ⟨k + 1, t, b, sentN t b n r, r, s2, by go_num, by omega, hI3, HO3.set (t) (b) (sentN t b n r) (r), (((HZ3.out.other (by show w.heap.size ≠ bo; omega) _).other (by show w.heap.size ≠ bo; omega) _).other (by show w.heap.size ≠ bo; omega) _).other (by show w.heap.size ≠ bo; omega) _, c3.keep (lo := bo) (hi := bo + 1) (by (repeat' (first | (with_reducible exact Touch.refl _ _ _) | (with_reducible assumption) | (with_reducible refine Touch.alloc ?_ _) | (with_reducible refine Touch.drew ?_) | (with_reducible refine Touch.drewN ?_ _) | (with_reducible refine Touch.setCell ?_ ?_ ?_ _) | (with_reducible refine Touch.via ?_ (by with_reducible assumption)) | go_size))) (by omega), by (repeat' (first | (with_reducible exact Touch.refl _ _ _) | (with_reducible assumption) | (with_reducible refine Touch.alloc ?_ _) | (with_reducible refine Touch.drew ?_) | (with_reducible refine Touch.drewN ?_ _) | (with_reducible refine Touch.setNew ?_ ?_ _) | (with_reducible refine Touch.trans ?_ (by with_reducible assumption)) | (with_reducible refine Touch.via ?_ (by with_reducible assumption)) | go_size | omega))⟩
        case measure => simp [intOf]; omega
      have d1 : (y == 1) = false := by simpa using h1
      by_cases h2 : y = 2
      · subst h2
        go_wp2_with fail
        go_region_with (first
          | (go_at_call 34; refine (l01Below_some g S s2 20 _ (by decide) (c2.below (by (repeat' (first | (with_reducible exact Below.refl _ _) | (with_reducible assumption) | (with_reducible refine Below.alloc ?_ ?_ _) | (with_reducible refine Below.drew ?_) | (with_reducible refine below_drewN ?_ _) | (with_reducible refine Below.setCell ?_ ?_ _) | (with_reducible refine bvia ?_ (by with_reducible assumption) ?_) | go_size))))).mono ?_; rintro e w3 ⟨v3, s3, rfl, ⟨z, rfl, p3, q3⟩, c3, t3⟩; have hwz : IntKind.i64.wrap (b + z) = b + z := IntWalk.i64_in _ (by omega); have HA3 := HO.out.drew.touch t3 (.inr (by omega)); have e0_3 := HA3.c0; have e1_3 := HA3.c1; have e2_3 := HA3.c2; have e3_3 := HA3.c3)
          | (go_at_call 20; refine (sCame t b n r (b + z) _ (by unfold maxLen; omega)).mono ?_; rintro e w5 ⟨rfl, hb5⟩; have HO5 := HA3.next hb5; have g0 := HO5.c0; have g1 := HO5.c1; have g2 := HO5.c2; have g3 := HO5.c3; have fg0 := HO5.fr 0; have fg1 := HO5.fr 1; have fg2 := HO5.fr 2; have fg3 := HO5.fr 3)
          | fail)
        all_goals (go_wp2; go_roundw; (case rel => exact ⟨k + 1, cameT t b n r (b + z), cameB t b n r (b + z), cameN t b n r (b + z), r, s3, by go_num, by omega, (HI.out.came hm (by omega)).more (by omega), HO5.set _ _ _ _, (((HZ.out.drew.touch t3 (.inr (by omega))).next hb5).other (by show w.heap.size ≠ bo; omega) _ |>.other (by show w.heap.size ≠ bo; omega) _ |>.other (by show w.heap.size ≠ bo; omega) _ |>.other (by show w.heap.size ≠ bo; omega) _), (c3.below hb5).keep (lo := bo) (hi := bo + 1) (by (repeat' (first | (with_reducible exact Touch.refl _ _ _) | (with_reducible assumption) | (with_reducible refine Touch.alloc ?_ _) | (with_reducible refine Touch.drew ?_) | (with_reducible refine Touch.drewN ?_ _) | (with_reducible refine Touch.setCell ?_ ?_ ?_ _) | (with_reducible refine Touch.via ?_ (by with_reducible assumption)) | go_size))) (by omega), by (repeat' (first | (with_reducible exact Touch.refl _ _ _) | (with_reducible assumption) | (with_reducible refine Touch.alloc ?_ _) | (with_reducible refine Touch.drew ?_) | (with_reducible refine Touch.drewN ?_ _) | (with_reducible refine Touch.setNew ?_ ?_ _) | (with_reducible refine Touch.trans ?_ (by with_reducible assumption)) | (with_reducible refine Touch.via ?_ (by with_reducible assumption)) | go_size | omega))⟩); (case measure => (simp [intOf]; omega)))
      have d2 : (y == 2) = false := by simpa using h2
      clear h0 h1 h2
      go_wp2_with fail
      refine (sAnew t b n r _ (by unfold maxLen; omega)).mono ?_
      rintro e w3 ⟨rfl, hb3⟩
      have HO3 := HO.out.next hb3
      have HZ3 := Lib.hid (HZ.out.next hb3)
      have c3 := c2.below hb3
      have hT3 := hT2.trans (Touch.ofBelow hb3 : Touch g (g + 1) _ _)
      have hI3 : OutIn (t) (b) (anewN t b n r) (r) (50 + 20 * ((k + 1 : Nat) : Int)) := (HI.out.anew hm).more (by omega)
      have g0 := HO3.c0
      have g1 := HO3.c1
      have g2 := HO3.c2
      have g3 := HO3.c3
      have fg0 := HO3.fr 0
      have fg1 := HO3.fr 1
      have fg2 := HO3.fr 2
      have fg3 := HO3.fr 3
      clear e0 e1 e2 e3 fe0 fe1 fe2 fe3 hb3 HO HZ c2 hT2
      go_wp2
      go_roundw
      case rel => exact ⟨k + 1, t, b, anewN t b n r, r, s2, by go_num, by omega, hI3, HO3.set (t) (b) (anewN t b n r) (r), (((HZ3.out.other (by show w.heap.size ≠ bo; omega) _).other (by show w.heap.size ≠ bo; omega) _).other (by show w.heap.size ≠ bo; omega) _).other (by show w.heap.size ≠ bo; omega) _, c3.keep (lo := bo) (hi := bo + 1) (by (repeat' (first | (with_reducible exact Touch.refl _ _ _) | (with_reducible assumption) | (with_reducible refine Touch.alloc ?_ _) | (with_reducible refine Touch.drew ?_) | (with_reducible refine Touch.drewN ?_ _) | (with_reducible refine Touch.setCell ?_ ?_ ?_ _) | (with_reducible refine Touch.via ?_ (by with_reducible assumption)) | go_size))) (by omega), by (repeat' (first | (with_reducible exact Touch.refl _ _ _) | (with_reducible assumption) | (with_reducible refine Touch.alloc ?_ _) | (with_reducible refine Touch.drew ?_) | (with_reducible refine Touch.drewN ?_ _) | (with_reducible refine Touch.setNew ?_ ?_ _) | (with_reducible refine Touch.trans ?_ (by with_reducible assumption)) | (with_reducible refine Touch.via ?_ (by with_reducible assumption)) | go_size | omega))⟩
      case measure => simp [intOf]; omega
    · have hx : x ≤ (k : Int) := by omega
      have e0 := HO1.out.c0
      have e1 := HO1.out.c1
      have e2 := HO1.out.c2
      have e3 := HO1.out.c3
      have g0 := HZ1.out.c0
      have g1 := HZ1.out.c1
      have g2 := HZ1.out.c2
      have g3 := HZ1.out.c3
      have fg0 := HZ1.out.fr 0
      have fg1 := HZ1.out.fr 1
      have fg2 := HZ1.out.fr 2
      have fg3 := HZ1.out.fr 3
      have hlz := HZ1.out.lt
      go_wp2
      refine bodyPost_ret (v := ou t b n r) (by simp [results, Try.results35, go_sem, *]) rfl ?_
      exact ⟨_, s1, rfl, ⟨t, b, n, r, rfl, HI.out.more (by omega)⟩, c1.keep (lo := w.heap.size) (hi := w.heap.size + 1) (by (repeat' (first | (with_reducible exact Touch.refl _ _ _) | (with_reducible assumption) | (with_reducible refine Touch.alloc ?_ _) | (with_reducible refine Touch.drew ?_) | (with_reducible refine Touch.drewN ?_ _) | (with_reducible refine Touch.setCell ?_ ?_ ?_ _) | (with_reducible refine Touch.via ?_ (by with_reducible assumption)) | go_size))) hlt, by (repeat' (first | (with_reducible exact Touch.refl _ _ _) | (with_reducible assumption) | (with_reducible refine Touch.alloc ?_ _) | (with_reducible refine Touch.drew ?_) | (with_reducible refine Touch.drewN ?_ _) | (with_reducible refine Touch.setNew ?_ ?_ _) | (with_reducible refine Touch.trans ?_ (by with_reducible assumption)) | (with_reducible refine Touch.via ?_ (by with_reducible assumption)) | go_size | omega))⟩
set_option maxHeartbeats 4000000 in
theorem l10Any_some (g : Nat) (S : Src) (s : Nat × Int) (w : World) (hc : Cur w g S s) :
    Calls Try.prog 32 #[.pointer (some ⟨g, 0, none⟩)] w (DrawP g S w fun _ v => ∃ (t : ByteArray) (b n r : Int), v = ou t b n r ∧ t.size ≤ 200 ∧ -1 ≤ n ∧ n ≤ 500) := by
  have hlt := hc.lt
  go_enter Try.func32, Try.ntmps32
  go_wp2_with fail
  refine (l10Out_some g S s _ (hc.below (by (repeat' (first | (with_reducible exact Below.refl _ _) | (with_reducible assumption) | (with_reducible refine Below.alloc ?_ ?_ _) | (with_reducible refine Below.drew ?_) | (with_reducible refine below_drewN ?_ _) | (with_reducible refine Below.setCell ?_ ?_ _) | (with_reducible refine bvia ?_ (by with_reducible assumption) ?_) | go_size))))).mono ?_
  rintro e w1 ⟨v1, s1, rfl, ⟨t, b, n, r, rfl, hI⟩, c1, t1⟩
  have hc1_0 := fun o => t1.cell (p := ⟨w.heap.size, o, none⟩) (by go_size) (by first | exact .inr (show g + 1 ≤ w.heap.size from by omega) | exact .inl (show w.heap.size < g from by omega))
  have hf1_0 := fun o => t1.frozen (p := ⟨w.heap.size, o, none⟩) (by go_size) (by first | exact .inr (show g + 1 ≤ w.heap.size from by omega) | exact .inl (show w.heap.size < g from by omega))
  have hz1_0 : w.heap.size < w1.heap.size := Nat.lt_of_lt_of_le (by go_size) t1.size
  have hz1 := t1.size
  try simp at hz1
  obtain ⟨i1, i2, i3, i4, i5, i6, i7⟩ := hI
  go_wp2_with fail
  refine (l01Below_some g S s1 12 _ (by decide) (c1.below (by (repeat' (first | (with_reducible exact Below.refl _ _) | (with_reducible assumption) | (with_reducible refine Below.alloc ?_ ?_ _) | (with_reducible refine Below.drew ?_) | (with_reducible refine below_drewN ?_ _) | (with_reducible refine Below.setCell ?_ ?_ _) | (with_reducible refine bvia ?_ (by with_reducible assumption) ?_) | go_size))))).mono ?_
  rintro e w2 ⟨v2, s2, rfl, ⟨x, rfl, p2, q2⟩, c2, t2⟩
  have hc2_0 := fun o => t2.cell (p := ⟨w.heap.size, o, none⟩) (by go_size) (by first | exact .inr (show g + 1 ≤ w.heap.size from by omega) | exact .inl (show w.heap.size < g from by omega))
  have hf2_0 := fun o => t2.frozen (p := ⟨w.heap.size, o, none⟩) (by go_size) (by first | exact .inr (show g + 1 ≤ w.heap.size from by omega) | exact .inl (show w.heap.size < g from by omega))
  have hz2_0 : w.heap.size < w2.heap.size := Nat.lt_of_lt_of_le (by go_size) t2.size
  have hc2_1 := fun o => t2.cell (p := ⟨w1.heap.size, o, none⟩) (by go_size) (by first | exact .inr (show g + 1 ≤ w1.heap.size from by omega) | exact .inl (show w1.heap.size < g from by omega))
  have hf2_1 := fun o => t2.frozen (p := ⟨w1.heap.size, o, none⟩) (by go_size) (by first | exact .inr (show g + 1 ≤ w1.heap.size from by omega) | exact .inl (show w1.heap.size < g from by omega))
  have hz2_1 : w1.heap.size < w2.heap.size := Nat.lt_of_lt_of_le (by go_size) t2.size
  have hz2 := t2.size
  try simp at hz2
  by_cases h0 : x = 0
  · subst h0
    go_wp2_with fail
    go_wp2_with fail
    refine (l01PickInt_some g S s2 _ _ [-1, 1000000000, 1000000001, 3] 4 _ (c2.below (by (repeat' (first | (with_reducible exact Below.refl _ _) | (with_reducible assumption) | (with_reducible refine Below.alloc ?_ ?_ _) | (with_reducible refine Below.drew ?_) | (with_reducible refine below_drewN ?_ _) | (with_reducible refine Below.setCell ?_ ?_ _) | (with_reducible refine bvia ?_ (by with_reducible assumption) ?_) | go_size)))) rfl (Rd_lit _ _ (g + 1) _ _ _ rfl (by omega) (by simp)) (by decide) (by simp [maxLen])).mono ?_
    rintro e w3 ⟨v3, s3, rfl, ⟨x3, rfl, m3⟩, c3, t3⟩
    have hc3_0 := fun o => t3.cell (p := ⟨w.heap.size, o, none⟩) (by go_size) (by first | exact .inr (show g + 1 ≤ w.heap.size from by omega) | exact .inl (show w.heap.size < g from by omega))
    have hf3_0 := fun o => t3.frozen (p := ⟨w.heap.size, o, none⟩) (by go_size) (by first | exact .inr (show g + 1 ≤ w.heap.size from by omega) | exact .inl (show w.heap.size < g from by omega))
    have hz3_0 : w.heap.size < w3.heap.size := Nat.lt_of_lt_of_le (by go_size) t3.size
    have hc3_1 := fun o => t3.cell (p := ⟨w1.heap.size, o, none⟩) (by go_size) (by first | exact .inr (show g + 1 ≤ w1.heap.size from by omega) | exact .inl (show w1.heap.size < g from by omega))
    have hf3_1 := fun o => t3.frozen (p := ⟨w1.heap.size, o, none⟩) (by go_size) (by first | exact .inr (show g + 1 ≤ w1.heap.size from by omega) | exact .inl (show w1.heap.size < g from by omega))
    have hz3_1 : w1.heap.size < w3.heap.size := Nat.lt_of_lt_of_le (by go_size) t3.size
    have hz3 := t3.size
    try simp at hz3
    go_wp2
    refine bodyPost_ret (v := ou t x3 n r) (by simp [results, Try.results32, go_sem, *]) rfl ?_
    exact ⟨_, s3, rfl, ⟨t, x3, n, r, rfl, by omega, by omega, by omega⟩, c3.keep (lo := w.heap.size) (hi := w1.heap.size + 1) (by (repeat' (first | (with_reducible exact Touch.refl _ _ _) | (with_reducible assumption) | (with_reducible refine Touch.alloc ?_ _) | (with_reducible refine Touch.drew ?_) | (with_reducible refine Touch.drewN ?_ _) | (with_reducible refine Touch.setCell ?_ ?_ ?_ _) | (with_reducible refine Touch.via ?_ (by with_reducible assumption)) | go_size))) hlt, by (repeat' (first | (with_reducible exact Touch.refl _ _ _) | (with_reducible assumption) | (with_reducible refine Touch.alloc ?_ _) | (with_reducible refine Touch.drew ?_) | (with_reducible refine Touch.drewN ?_ _) | (with_reducible refine Touch.setNew ?_ ?_ _) | (with_reducible refine Touch.trans ?_ (by with_reducible assumption)) | (with_reducible refine Touch.via ?_ (by with_reducible assumption)) | go_size | omega))⟩
  have d0 : (x == 0) = false := by simpa using h0
  by_cases h1 : x = 1
  · subst h1
    go_wp2_with fail
    go_wp2_with fail
    refine (l01PickInt_some g S s2 _ _ [-1, 0, 500] 3 _ (c2.below (by (repeat' (first | (with_reducible exact Below.refl _ _) | (with_reducible assumption) | (with_reducible refine Below.alloc ?_ ?_ _) | (with_reducible refine Below.drew ?_) | (with_reducible refine below_drewN ?_ _) | (with_reducible refine Below.setCell ?_ ?_ _) | (with_reducible refine bvia ?_ (by with_reducible assumption) ?_) | go_size)))) rfl (Rd_lit _ _ (g + 1) _ _ _ rfl (by omega) (by simp)) (by decide) (by simp [maxLen])).mono ?_
    rintro e w3 ⟨v3, s3, rfl, ⟨x3, rfl, m3⟩, c3, t3⟩
    have hc3_0 := fun o => t3.cell (p := ⟨w.heap.size, o, none⟩) (by go_size) (by first | exact .inr (show g + 1 ≤ w.heap.size from by omega) | exact .inl (show w.heap.size < g from by omega))
    have hf3_0 := fun o => t3.frozen (p := ⟨w.heap.size, o, none⟩) (by go_size) (by first | exact .inr (show g + 1 ≤ w.heap.size from by omega) | exact .inl (show w.heap.size < g from by omega))
    have hz3_0 : w.heap.size < w3.heap.size := Nat.lt_of_lt_of_le (by go_size) t3.size
    have hc3_1 := fun o => t3.cell (p := ⟨w1.heap.size, o, none⟩) (by go_size) (by first | exact .inr (show g + 1 ≤ w1.heap.size from by omega) | exact .inl (show w1.heap.size < g from by omega))
    have hf3_1 := fun o => t3.frozen (p := ⟨w1.heap.size, o, none⟩) (by go_size) (by first | exact .inr (show g + 1 ≤ w1.heap.size from by omega) | exact .inl (show w1.heap.size < g from by omega))
    have hz3_1 : w1.heap.size < w3.heap.size := Nat.lt_of_lt_of_le (by go_size) t3.size
    have hz3 := t3.size
    try simp at hz3
    go_wp2
    refine bodyPost_ret (v := ou t b x3 r) (by simp [results, Try.results32, go_sem, *]) rfl ?_
    exact ⟨_, s3, rfl, ⟨t, b, x3, r, rfl, by omega, by simp at m3; omega, by simp at m3; omega⟩, c3.keep (lo := w.heap.size) (hi := w1.heap.size + 1) (by (repeat' (first | (with_reducible exact Touch.refl _ _ _) | (with_reducible assumption) | (with_reducible refine Touch.alloc ?_ _) | (with_reducible refine Touch.drew ?_) | (with_reducible refine Touch.drewN ?_ _) | (with_reducible refine Touch.setCell ?_ ?_ ?_ _) | (with_reducible refine Touch.via ?_ (by with_reducible assumption)) | go_size))) hlt, by (repeat' (first | (with_reducible exact Touch.refl _ _ _) | (with_reducible assumption) | (with_reducible refine Touch.alloc ?_ _) | (with_reducible refine Touch.drew ?_) | (with_reducible refine Touch.drewN ?_ _) | (with_reducible refine Touch.setNew ?_ ?_ _) | (with_reducible refine Touch.trans ?_ (by with_reducible assumption)) | (with_reducible refine Touch.via ?_ (by with_reducible assumption)) | go_size | omega))⟩
  have d1 : (x == 1) = false := by simpa using h1
  by_cases h2 : x = 2
  · subst h2
    go_wp2_with fail
    go_wp2_with fail
    refine (l01PickInt_some g S s2 _ _ [0, 201, 1, -1] 4 _ (c2.below (by (repeat' (first | (with_reducible exact Below.refl _ _) | (with_reducible assumption) | (with_reducible refine Below.alloc ?_ ?_ _) | (with_reducible refine Below.drew ?_) | (with_reducible refine below_drewN ?_ _) | (with_reducible refine Below.setCell ?_ ?_ _) | (with_reducible refine bvia ?_ (by with_reducible assumption) ?_) | go_size)))) rfl (Rd_lit _ _ (g + 1) _ _ _ rfl (by omega) (by simp)) (by decide) (by simp [maxLen])).mono ?_
    rintro e w3 ⟨v3, s3, rfl, ⟨x3, rfl, m3⟩, c3, t3⟩
    have hc3_0 := fun o => t3.cell (p := ⟨w.heap.size, o, none⟩) (by go_size) (by first | exact .inr (show g + 1 ≤ w.heap.size from by omega) | exact .inl (show w.heap.size < g from by omega))
    have hf3_0 := fun o => t3.frozen (p := ⟨w.heap.size, o, none⟩) (by go_size) (by first | exact .inr (show g + 1 ≤ w.heap.size from by omega) | exact .inl (show w.heap.size < g from by omega))
    have hz3_0 : w.heap.size < w3.heap.size := Nat.lt_of_lt_of_le (by go_size) t3.size
    have hc3_1 := fun o => t3.cell (p := ⟨w1.heap.size, o, none⟩) (by go_size) (by first | exact .inr (show g + 1 ≤ w1.heap.size from by omega) | exact .inl (show w1.heap.size < g from by omega))
    have hf3_1 := fun o => t3.frozen (p := ⟨w1.heap.size, o, none⟩) (by go_size) (by first | exact .inr (show g + 1 ≤ w1.heap.size from by omega) | exact .inl (show w1.heap.size < g from by omega))
    have hz3_1 : w1.heap.size < w3.heap.size := Nat.lt_of_lt_of_le (by go_size) t3.size
    have hz3 := t3.size
    try simp at hz3
    go_wp2
    refine bodyPost_ret (v := ou t b n x3) (by simp [results, Try.results32, go_sem, *]) rfl ?_
    exact ⟨_, s3, rfl, ⟨t, b, n, x3, rfl, by omega, by omega, by omega⟩, c3.keep (lo := w.heap.size) (hi := w1.heap.size + 1) (by (repeat' (first | (with_reducible exact Touch.refl _ _ _) | (with_reducible assumption) | (with_reducible refine Touch.alloc ?_ _) | (with_reducible refine Touch.drew ?_) | (with_reducible refine Touch.drewN ?_ _) | (with_reducible refine Touch.setCell ?_ ?_ ?_ _) | (with_reducible refine Touch.via ?_ (by with_reducible assumption)) | go_size))) hlt, by (repeat' (first | (with_reducible exact Touch.refl _ _ _) | (with_reducible assumption) | (with_reducible refine Touch.alloc ?_ _) | (with_reducible refine Touch.drew ?_) | (with_reducible refine Touch.drewN ?_ _) | (with_reducible refine Touch.setNew ?_ ?_ _) | (with_reducible refine Touch.trans ?_ (by with_reducible assumption)) | (with_reducible refine Touch.via ?_ (by with_reducible assumption)) | go_size | omega))⟩
  have d2 : (x == 2) = false := by simpa using h2
  clear h0 h1 h2
  go_wp2
  refine bodyPost_ret (v := ou t b n r) (by simp [results, Try.results32, go_sem, *]) rfl ?_
  exact ⟨_, s2, rfl, ⟨t, b, n, r, rfl, by omega, by omega, by omega⟩, c2.keep (lo := w.heap.size) (hi := w1.heap.size + 1) (by (repeat' (first | (with_reducible exact Touch.refl _ _ _) | (with_reducible assumption) | (with_reducible refine Touch.alloc ?_ _) | (with_reducible refine Touch.drew ?_) | (with_reducible refine Touch.drewN ?_ _) | (with_reducible refine Touch.setCell ?_ ?_ ?_ _) | (with_reducible refine Touch.via ?_ (by with_reducible assumption)) | go_size))) hlt, by (repeat' (first | (with_reducible exact Touch.refl _ _ _) | (with_reducible assumption) | (with_reducible refine Touch.alloc ?_ _) | (with_reducible refine Touch.drew ?_) | (with_reducible refine Touch.drewN ?_ _) | (with_reducible refine Touch.setNew ?_ ?_ _) | (with_reducible refine Touch.trans ?_ (by with_reducible assumption)) | (with_reducible refine Touch.via ?_ (by with_reducible assumption)) | go_size | omega))⟩
/-- What DrawAccept says. -/
def DrewAccept (w : World) (e : Ending) (w' : World) : Prop :=
  ∃ (t : ByteArray) (b n r : Int) (u : ByteArray), e = .returned (.tuple #[ou t b n r, .string u]) ∧ t.size ≤ 200 ∧ -1 ≤ n ∧ n ≤ 500 ∧ u.size ≤ 60 ∧ Below w.heap.size w w'
set_option maxHeartbeats 4000000 in
theorem DrawAccept_some (A : Option Addr) (cap : Nat) (B : List Int) (w : World) (hr : Rd bcells 1 w 0 w.heap.size A B) (hm : B.length ≤ 1048576) :
    Calls Try.prog 27 #[.slice A B.length cap] w (DrewAccept w) := by
  go_enter Try.func27, Try.ntmps27
  go_wp2_with fail
  refine (l01New_any A cap B _ (by exact hr.later (by (repeat' (first | (with_reducible exact Below.refl _ _) | (with_reducible assumption) | (with_reducible refine Below.alloc ?_ ?_ _) | (with_reducible refine Below.drew ?_) | (with_reducible refine below_drewN ?_ _) | (with_reducible refine Below.setCell ?_ ?_ _) | (with_reducible refine bvia ?_ (by with_reducible assumption) ?_) | go_size))) (Nat.le_refl _) (by go_size)) hm).mono ?_
  rintro e w1 ⟨rfl, c1, hb1⟩
  obtain ⟨hc, hf⟩ := bcell hb1
  have hc1_0 := fun o => hc (w.heap.size) o (by go_size)
  have hf1_0 := fun o => hf (w.heap.size) o (by go_size)
  have hz1_0 : w.heap.size < w1.heap.size := Nat.lt_of_lt_of_le (by go_size) hb1.size
  clear hc hf
  have hz1 := hb1.size
  try simp at hz1
  simp only [World.size_alloc] at c1
  have hB1 : Below w.heap.size w w1 := by (repeat' (first | (with_reducible exact Below.refl _ _) | (with_reducible assumption) | (with_reducible refine Below.alloc ?_ ?_ _) | (with_reducible refine Below.drew ?_) | (with_reducible refine below_drewN ?_ _) | (with_reducible refine Below.setCell ?_ ?_ _) | (with_reducible refine bvia ?_ (by with_reducible assumption) ?_) | go_size))
  obtain ⟨g, hg⟩ : ∃ g, w.heap.size + 1 = g := ⟨_, rfl⟩
  rw [hg] at c1
  try simp only [World.size_alloc]
  rw [hg]
  have hgl : w.heap.size < g := by omega
  clear hg hb1
  have hlt := c1.lt
  go_wp2_with fail
  refine (l10Any_some g _ _ _ c1).mono ?_
  rintro e w2 ⟨v2, s2, rfl, ⟨t, b, n, r, rfl, k1, k2, k3⟩, c2, t2⟩
  have hc2_0 := fun o => t2.cell (p := ⟨w.heap.size, o, none⟩) (by go_size) (by first | exact .inr (show g + 1 ≤ w.heap.size from by omega) | exact .inl (show w.heap.size < g from by omega))
  have hf2_0 := fun o => t2.frozen (p := ⟨w.heap.size, o, none⟩) (by go_size) (by first | exact .inr (show g + 1 ≤ w.heap.size from by omega) | exact .inl (show w.heap.size < g from by omega))
  have hz2_0 : w.heap.size < w2.heap.size := Nat.lt_of_lt_of_le (by go_size) t2.size
  have hz2 := t2.size
  try simp at hz2
  have hB2 := t2.below hB1 (by omega) (by omega)
  clear t2 c1
  go_wp2_with fail
  refine (l01Below_some g _ s2 60 _ (by decide) c2).mono ?_
  rintro e w3 ⟨v3, s3, rfl, ⟨x, rfl, p3, q3⟩, c3, t3⟩
  have hc3_0 := fun o => t3.cell (p := ⟨w.heap.size, o, none⟩) (by go_size) (by first | exact .inr (show g + 1 ≤ w.heap.size from by omega) | exact .inl (show w.heap.size < g from by omega))
  have hf3_0 := fun o => t3.frozen (p := ⟨w.heap.size, o, none⟩) (by go_size) (by first | exact .inr (show g + 1 ≤ w.heap.size from by omega) | exact .inl (show w.heap.size < g from by omega))
  have hz3_0 : w.heap.size < w3.heap.size := Nat.lt_of_lt_of_le (by go_size) t3.size
  have hz3 := t3.size
  try simp at hz3
  have hB3 := t3.below hB2 (by omega) (by omega)
  clear t3 c2
  obtain ⟨m, hmx⟩ : ∃ m : Nat, x = m := ⟨x.toNat, by omega⟩
  subst hmx
  go_wp2_with fail
  refine (l01Text_any g _ s3 m (by omega) _ c3).mono ?_
  rintro e w4 ⟨rfl, c4, t4⟩
  have hc4_0 := fun o => t4.cell (p := ⟨w.heap.size, o, none⟩) (by go_size) (by first | exact .inr (show g + 1 ≤ w.heap.size from by omega) | exact .inl (show w.heap.size < g from by omega))
  have hf4_0 := fun o => t4.frozen (p := ⟨w.heap.size, o, none⟩) (by go_size) (by first | exact .inr (show g + 1 ≤ w.heap.size from by omega) | exact .inl (show w.heap.size < g from by omega))
  have hz4_0 : w.heap.size < w4.heap.size := Nat.lt_of_lt_of_le (by go_size) t4.size
  have hz4 := t4.size
  try simp at hz4
  have hB4 := t4.below hB3 (by omega) (by omega)
  have hts := textV_size B s3 m
  simp only
  obtain ⟨u, hu⟩ : ∃ u, textV B s3 m = u := ⟨_, rfl⟩
  rw [hu] at hts ⊢
  clear t4 c3 c4 hu
  go_wp2
  refine bodyPost_ret (v := .tuple #[ou t b n r, .string u]) (by simp [results, Try.results27, go_sem, *]) rfl ?_
  exact ⟨t, b, n, r, u, rfl, k1, k2, k3, by omega, by (repeat' (first | (with_reducible exact Below.refl _ _) | (with_reducible assumption) | (with_reducible refine Below.alloc ?_ ?_ _) | (with_reducible refine Below.drew ?_) | (with_reducible refine below_drewN ?_ _) | (with_reducible refine Below.setCell ?_ ?_ _) | (with_reducible refine bvia ?_ (by with_reducible assumption) ?_) | go_size))⟩
end Go.Proofs.Ytddpgdgpicamiaa
