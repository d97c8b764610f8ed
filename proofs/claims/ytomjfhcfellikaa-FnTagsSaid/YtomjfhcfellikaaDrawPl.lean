/- DrawLearn, DrawPlaces: for every slice of bytes. -/
import Derived.Test.YtomjfhcfellikaaDrawCase2
namespace Go.Proofs.Ytomjfhcfellikaa
set_option linter.unusedSimpArgs false
set_option linter.unusedVariables false
open Go.RowKit
set_option maxHeartbeats 2000000 in
theorem DrawLearn_some (A : Option Addr) (cap : Nat) (B : List Int) (w : World) (hr : Rd bcells 1 w 0 w.heap.size A B) (hm : B.length ≤ 1048576) :
    Calls Try.prog 27 #[.slice A B.length cap] w (DrewKT w) := by
  go_enter Try.func27, Try.ntmps27
  go_wp2_with fail
  refine (l15Case_some A cap B _ (by exact hr.later (by (repeat' (first | (with_reducible exact Below.refl _ _) | (with_reducible assumption) | (with_reducible refine Below.alloc ?_ ?_ _) | (with_reducible refine Below.drew ?_) | (with_reducible refine below_drewN ?_ _) | (with_reducible refine Below.setCell ?_ ?_ _) | (with_reducible refine bvia ?_ (by with_reducible assumption) ?_) | go_size))) (Nat.le_refl _) (by go_size)) hm).mono ?_
  rintro e w1 ⟨Ak, ck, At, ct, K, T, x, rfl, KN, hK2, hT4, hb1⟩
  obtain ⟨hc, hf⟩ := bcell hb1
  have hc1_0 := fun o => hc (w.heap.size) o (by go_size)
  have hf1_0 := fun o => hf (w.heap.size) o (by go_size)
  have hz1_0 : w.heap.size < w1.heap.size := Nat.lt_of_lt_of_le (by go_size) hb1.size
  have hc1_1 := fun o => hc (w.heap.size + 1) o (by go_size)
  have hf1_1 := fun o => hf (w.heap.size + 1) o (by go_size)
  have hz1_1 : w.heap.size + 1 < w1.heap.size := Nat.lt_of_lt_of_le (by go_size) hb1.size
  clear hc hf
  have hz1 := hb1.size
  try simp at hz1
  simp only [World.size_alloc] at KN
  have HKN := Lib.hid KN
  have hB1 : Below w.heap.size w w1 := by (repeat' (first | (with_reducible exact Below.refl _ _) | (with_reducible assumption) | (with_reducible refine Below.alloc ?_ ?_ _) | (with_reducible refine Below.drew ?_) | (with_reducible refine below_drewN ?_ _) | (with_reducible refine Below.setCell ?_ ?_ _) | (with_reducible refine bvia ?_ (by with_reducible assumption) ?_) | go_size))
  clear KN
  go_wp2
  refine bodyPost_ret (v := .tuple #[knv Ak K.length ck At T.length ct, (x : TagD).val]) (by simp [results, Try.results27, go_sem, *]) rfl ?_
  refine ⟨Ak, ck, At, ct, K, T, x, rfl, (HKN.out.keep (fun k a b => (by (repeat' (first | (with_reducible exact Touch.refl _ _ _) | (with_reducible assumption) | (with_reducible refine Touch.alloc ?_ _) | (with_reducible refine Touch.drew ?_) | (with_reducible refine Touch.drewN ?_ _) | (with_reducible refine Touch.setCell ?_ ?_ ?_ _) | (with_reducible refine Touch.via ?_ (by with_reducible assumption)) | go_size)) : Touch w.heap.size (w.heap.size + 2) w1 _).block k b (.inr (by omega)))).wide (by omega) (by simp), hK2, hT4, (by (repeat' (first | (with_reducible exact Touch.refl _ _ _) | (with_reducible assumption) | (with_reducible refine Touch.alloc ?_ _) | (with_reducible refine Touch.drew ?_) | (with_reducible refine Touch.drewN ?_ _) | (with_reducible refine Touch.setCell ?_ ?_ ?_ _) | (with_reducible refine Touch.via ?_ (by with_reducible assumption)) | go_size)) : Touch w.heap.size (w.heap.size + 2) w1 _).below hB1 (Nat.le_refl _) (by omega)⟩
/-- What DrawPlaces says. -/
def DrewPl (w : World) (e : Ending) (w' : World) : Prop :=
  ∃ (v : Value) (L : List Int), e = .returned v ∧ Own w' w.heap.size 3 icell 1 v L ∧ L.length = 12 ∧ (∀ x ∈ L, 0 ≤ x ∧ x < 10000) ∧ Below w.heap.size w w'
set_option maxHeartbeats 2000000 in
theorem DrawPlaces_some (A : Option Addr) (cap : Nat) (B : List Int) (w : World) (hr : Rd bcells 1 w 0 w.heap.size A B) (hm : B.length ≤ 1048576) :
    Calls Try.prog 28 #[.slice A B.length cap] w (DrewPl w) := by
  go_enter Try.func28, Try.ntmps28
  go_wp2_with fail
  refine (l01New_any A cap B _ hr hm).mono ?_
  rintro e w1 ⟨rfl, c1, hb1⟩
  obtain ⟨g, hg⟩ : ∃ g, w.heap.size = g := ⟨_, rfl⟩
  have hgl : g ≤ w.heap.size := Nat.le_of_eq hg.symm
  have hgr : w.heap.size ≤ g := Nat.le_of_eq hg
  rw [hg] at c1
  rw [hg]
  have hlt := c1.lt
  have hz1 := hb1.size
  clear hg
  go_wp2_with fail
  go_loopw [4, 5] (fun v i wr => ∃ (k : Nat) (L : List Int) (s : Nat × Int), k ≤ 12 ∧ i = .int .i64 k ∧ Own wr (g + 1) 3 icell 1 v L ∧ L.length = k ∧ (∀ x ∈ L, 0 ≤ x ∧ x < 10000) ∧ Cur wr g ⟨A, cap, B⟩ s ∧ Below w.heap.size w wr ∧ w1.heap.size ≤ wr.heap.size) (fun _ i _ => 12 - (intOf i).toNat)
  case atStart => exact ⟨0, [], _, Nat.zero_le _, rfl, Own.emptyAt _ _ _ _ rfl (by omega), rfl, by simp, c1.below (by (repeat' (first | (with_reducible exact Below.refl _ _) | (with_reducible assumption) | (with_reducible refine Below.alloc ?_ ?_ _) | (with_reducible refine Below.drew ?_) | (with_reducible refine below_drewN ?_ _) | (with_reducible refine Below.setCell ?_ ?_ _) | (with_reducible refine bvia ?_ (by with_reducible assumption) ?_) | go_size))), by (repeat' (first | (with_reducible exact Below.refl _ _) | (with_reducible assumption) | (with_reducible refine Below.alloc ?_ ?_ _) | (with_reducible refine Below.drew ?_) | (with_reducible refine below_drewN ?_ _) | (with_reducible refine Below.setCell ?_ ?_ _) | (with_reducible refine bvia ?_ (by with_reducible assumption) ?_) | go_size)), by simp⟩
  case round =>
    obtain ⟨k, L, s, hk, rfl, O, hL, hLx, hC, hB, hzr⟩ := hrel
    by_cases hlt2 : k < 12
    · have hki : (k : Int) < 12 := by omega
      go_wp2_with fail
      refine (l01Below_some g _ s 10000 _ (by decide) hC).mono ?_
      rintro e w2 ⟨v2, s2, rfl, ⟨x, rfl, p2, q2⟩, c2, t2⟩
      have hz2 := t2.size
      have O2 := O.touch t2 (by omega)
      have hB2 := t2.below hB (by omega) (by omega)
      clear O hB hC t2
      go_wp2_with (at_builtin; refine wpList_append_rd _ rfl (.tmp 13) (.tmp 16) rfl slInt icell_length icell_one (g + 1) _ L [x] rfl (O2.alloc _) (some ⟨w2.heap.size, 0, none⟩) 1 1 0 (w2.heap.size + 1) rfl rfl (rd_one _ (x : Int) _ _ icell_length rfl _ rfl _ (by omega)) (by simp; omega) (by simp; omega) ?_; intro v5 w5 O5 G5 X5; have hz5 := G5.size; (try simp at hz5); have c5 : Cur w5 g ⟨A, cap, B⟩ s2 := (c2.below (by (repeat' (first | (with_reducible exact Below.refl _ _) | (with_reducible assumption) | (with_reducible refine Below.alloc ?_ ?_ _) | (with_reducible refine Below.drew ?_) | (with_reducible refine below_drewN ?_ _) | (with_reducible refine Below.setCell ?_ ?_ _) | (with_reducible refine bvia ?_ (by with_reducible assumption) ?_) | go_size)) : Below w2.heap.size w2 (w2.alloc _))).keep (lo := g + 1) (hi := w5.heap.size) ((Touch.refl _ _ _).grown G5 (fun k hk => ⟨(O2.lt hk).1, by have := (O2.lt hk).2; omega⟩)) (by omega); have hB5 : Below w.heap.size w w5 := Below.grown (by (repeat' (first | (with_reducible exact Below.refl _ _) | (with_reducible assumption) | (with_reducible refine Below.alloc ?_ ?_ _) | (with_reducible refine Below.drew ?_) | (with_reducible refine below_drewN ?_ _) | (with_reducible refine Below.setCell ?_ ?_ _) | (with_reducible refine bvia ?_ (by with_reducible assumption) ?_) | go_size))) G5 (by first | omega | go_size) (fun k hk => by have := (O2.lt hk).1; omega))
      go_roundw
      case rel => exact ⟨k + 1, L ++ [x], s2, by omega, by go_num, O5, by rw [List.length_append, hL]; rfl, fun y hy => by rcases List.mem_append.1 hy with h | h; exact hLx y h; (rw [List.mem_singleton] at h; subst h; exact ⟨p2, q2⟩), c5, hB5, by omega⟩
      case measure => simp [intOf]; omega
    · obtain rfl : k = 12 := by omega
      go_wp2
      go_ret
      exact ⟨_, L, rfl, O.up (by omega), hL, hLx, hB⟩
end Go.Proofs.Ytomjfhcfellikaa
