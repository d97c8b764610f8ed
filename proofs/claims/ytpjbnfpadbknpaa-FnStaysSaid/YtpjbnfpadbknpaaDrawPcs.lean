/- l09Pieces: for every state of the cursor, exact. -/
import Derived.Test.YtpjbnfpadbknpaaAnyModel
import Derived.Test.YtpjbnfpadbknpaaSPut3
import Derived.Test.YtpjbnfpadbknpaaLast
import Derived.Deep.DrawnRows
namespace Go.Proofs.Ytpjbnfpadbknpaa
set_option linter.unusedSimpArgs false
set_option linter.unusedVariables false
open Go.RowKit

/-- The boxes of a draw: its result's, and the Pieces (box b) that is laid out. -/
structure PD (w : World) (b : Nat) (r : Int) (S : ByteArray) (v : Value) (W : World) : Prop where
  hb : w.heap.size < b
  z : b < W.heap.size
  q0 : W.cell? ⟨w.heap.size, 0, none⟩ = some (.int .i64 0)
  q1 : W.cell? ⟨w.heap.size, 1, none⟩ = some (.string ⟨#[]⟩)
  q2 : W.cell? ⟨w.heap.size, 2, none⟩ = some (.slice none 0 0)
  qf : ∀ o, W.frozen? ⟨w.heap.size, o, none⟩ = false
  p0 : W.cell? ⟨b, 0, none⟩ = some (.int .i64 r)
  p1 : W.cell? ⟨b, 1, none⟩ = some (.string S)
  p2 : W.cell? ⟨b, 2, none⟩ = some v
  pf : ∀ o, W.frozen? ⟨b, o, none⟩ = false
section
variable {w W W' : World} {b : Nat} {r : Int} {S : ByteArray} {v : Value}
theorem PD.keep (h : PD w b r S v W) (hz : W.heap.size ≤ W'.heap.size) (h0 : W'.heap[w.heap.size]? = W.heap[w.heap.size]?) (h1 : W'.heap[b]? = W.heap[b]?) : PD w b r S v W' :=
  ⟨h.hb, Nat.lt_of_lt_of_le h.z hz, (cellAtB h0 0).trans h.q0, (cellAtB h0 1).trans h.q1, (cellAtB h0 2).trans h.q2, fun o => (frozenAtB h0 o).trans (h.qf o), (cellAtB h1 0).trans h.p0, (cellAtB h1 1).trans h.p1, (cellAtB h1 2).trans h.p2, fun o => (frozenAtB h1 o).trans (h.pf o)⟩
theorem PD.next (h : PD w b r S v W) (hb : Below (b + 1) W W') : PD w b r S v W' := by
  have := h.hb
  exact h.keep hb.size (hb.block _ (by omega)) (hb.block _ (by omega))
theorem PD.touch (h : PD w b r S v W) {lo hi : Nat} (ht : Touch lo hi W W') (hh : hi ≤ w.heap.size) : PD w b r S v W' := by
  have := h.z
  have := h.hb
  exact h.keep ht.size (ht.block _ (by omega) (.inr (by omega))) (ht.block _ (by omega) (.inr (by omega)))
theorem PD.grown (h : PD w b r S v W) {row : Option Nat} (G : W.grownBy W' row) (hr : ∀ k, row = some k → b + 1 ≤ k) : PD w b r S v W' := by
  have := h.z
  have := h.hb
  exact h.keep G.size (G.block _ (by omega) (fun e => by have := hr _ e.symm; omega)) (G.block _ (by omega) (fun e => by have := hr _ e.symm; omega))
theorem PD.set0 (h : PD w b r S v W) (r' : Int) : PD w b r' S v (W.setCell ⟨b, 0, none⟩ (.int .i64 r')) := by
  have hn : b ≠ w.heap.size := by have := h.hb; omega
  exact ⟨h.hb, by simpa using h.z, (World.cell?_setCell_far _ _ _ _ hn).trans h.q0, (World.cell?_setCell_far _ _ _ _ hn).trans h.q1, (World.cell?_setCell_far _ _ _ _ hn).trans h.q2, fun o => by rw [World.frozen?_setCell]; exact h.qf o, World.cell?_setCell_same _ _ _ h.p0, (World.cell?_setCell_other _ _ _ _ (by simp)).trans h.p1, (World.cell?_setCell_other _ _ _ _ (by simp)).trans h.p2, fun o => by rw [World.frozen?_setCell]; exact h.pf o⟩
theorem PD.set1 (h : PD w b r S v W) (S' : ByteArray) : PD w b r S' v (W.setCell ⟨b, 1, none⟩ (.string S')) := by
  have hn : b ≠ w.heap.size := by have := h.hb; omega
  exact ⟨h.hb, by simpa using h.z, (World.cell?_setCell_far _ _ _ _ hn).trans h.q0, (World.cell?_setCell_far _ _ _ _ hn).trans h.q1, (World.cell?_setCell_far _ _ _ _ hn).trans h.q2, fun o => by rw [World.frozen?_setCell]; exact h.qf o, (World.cell?_setCell_other _ _ _ _ (by simp)).trans h.p0, World.cell?_setCell_same _ _ _ h.p1, (World.cell?_setCell_other _ _ _ _ (by simp)).trans h.p2, fun o => by rw [World.frozen?_setCell]; exact h.pf o⟩
theorem PD.set2 (h : PD w b r S v W) (v' : Value) : PD w b r S v' (W.setCell ⟨b, 2, none⟩ v') := by
  have hn : b ≠ w.heap.size := by have := h.hb; omega
  exact ⟨h.hb, by simpa using h.z, (World.cell?_setCell_far _ _ _ _ hn).trans h.q0, (World.cell?_setCell_far _ _ _ _ hn).trans h.q1, (World.cell?_setCell_far _ _ _ _ hn).trans h.q2, fun o => by rw [World.frozen?_setCell]; exact h.qf o, (World.cell?_setCell_other _ _ _ _ (by simp)).trans h.p0, (World.cell?_setCell_other _ _ _ _ (by simp)).trans h.p1, World.cell?_setCell_same _ _ _ h.p2, fun o => by rw [World.frozen?_setCell]; exact h.pf o⟩
theorem PD.set (h : PD w b r S v W) (r' : Int) (S' : ByteArray) (v' : Value) : PD w b r' S' v' (((W.setCell ⟨b, 0, none⟩ (.int .i64 r')).setCell ⟨b, 1, none⟩ (.string S')).setCell ⟨b, 2, none⟩ v') := ((h.set0 r').set1 S').set2 v'
end
theorem OwnO.setBelow {α : Type} {c : α → List Value} {sz base : Nat} {v : Value} {L : List α} {w : World} (h : OwnO w base c sz v L) {p : Addr} (hp : p.block < base) (u : Value) : OwnO (w.setCell p u) base c sz v L :=
  h.keep (by simp) fun k _ h1 _ => Below.heap_setCell _ _ _ _ (by omega)
/-- The three cells of box b were written. -/
theorem touch3 (w : World) (b : Nat) (x y z : Value) : Touch b (b + 1) w (((w.setCell ⟨b, 0, none⟩ x).setCell ⟨b, 1, none⟩ y).setCell ⟨b, 2, none⟩ z) :=
  (((Touch.refl _ _ _).setCell (p := ⟨b, 0, none⟩) (Nat.le_refl _) (Nat.lt_succ_self _) _).setCell (p := ⟨b, 1, none⟩) (Nat.le_refl _) (Nat.lt_succ_self _) _).setCell (p := ⟨b, 2, none⟩) (Nat.le_refl _) (Nat.lt_succ_self _) _
/-- What a draw of a Pieces says: the Pieces, its list in new memory. -/
def DrewP (g : Nat) (S : Src) (w : World) (x : (Int × ByteArray × List PieceD) × (Nat × Int)) (e : Ending) (w' : World) : Prop :=
  ∃ A k, e = .returned (pv x.1.1 x.1.2.1 A x.1.2.2.length k) ∧ OwnO w' w.heap.size PieceD.cells 2 (.slice A x.1.2.2.length k) x.1.2.2 ∧ Cur w' g S x.2 ∧ Touch g (g + 1) w w'
set_option maxRecDepth 20000 in
set_option maxHeartbeats 8000000 in
theorem l09Pieces_any (g : Nat) (S : Src) (s : Nat × Int) (w : World) (hc : Cur w g S s) :
    Calls Try.prog 47 #[.pointer (some ⟨g, 0, none⟩)] w fun e w' => piecesOk (belowV S.B s 9) (piecesV S.B s).1.1 (piecesV S.B s).1.2 = true ∧ DrewP g S w ((belowV S.B s 9, (piecesV S.B s).1), (piecesV S.B s).2) e w' := by
  have hlt := hc.lt
  have hr0 := belowV_range S.B s 9
  have hr9 := hr0.2.1 (by decide)
  obtain ⟨F, hF⟩ : ∃ F, piecesV S.B s = F := ⟨_, rfl⟩
  have hF1 : roundsV S.B (belowV S.B s 9) 6 0 ⟨#[]⟩ [] (belowS S.B s 9) = F := hF
  rw [hF]
  obtain ⟨r, hr⟩ : ∃ r, belowV S.B s 9 = r := ⟨_, rfl⟩
  obtain ⟨s1, hs1⟩ : ∃ s1, belowS S.B s 9 = s1 := ⟨_, rfl⟩
  rw [hr] at hr0 hr9 hF1 ⊢
  rw [hs1] at hF1
  have HF := Lib.hid hF1
  have HR := Lib.hid hr
  have HS1 := Lib.hid hs1
  have hr00 := hr0.1
  clear hF hF1 hr hs1 hr0
  go_enter Try.func47, Try.ntmps47
  go_wp2_with fail
  refine (l01Below_any g S s 9 _ (hc.below (by (repeat' (first | (with_reducible exact Below.refl _ _) | (with_reducible assumption) | (with_reducible refine Below.alloc ?_ ?_ _) | (with_reducible refine Below.drew ?_) | (with_reducible refine below_drewN ?_ _) | (with_reducible refine Below.setCell ?_ ?_ _) | (with_reducible refine bvia ?_ (by with_reducible assumption) ?_) | go_size))))).mono ?_
  rintro e w1 ⟨rfl, c1, t1⟩
  rw [HS1.out] at c1
  rw [HR.out]
  clear HR HS1
  have T1 : Touch g (g + 1) w w1 := by (repeat' (first | (with_reducible exact Touch.refl _ _ _) | (with_reducible assumption) | (with_reducible refine Touch.alloc ?_ _) | (with_reducible refine Touch.drew ?_) | (with_reducible refine Touch.drewN ?_ _) | (with_reducible refine Touch.setNew ?_ ?_ _) | (with_reducible refine Touch.trans ?_ (by with_reducible assumption)) | (with_reducible refine Touch.via ?_ (by with_reducible assumption)) | go_size | omega))
  have hq1 := (t1.block w.heap.size (by simp) (.inr (by omega))).trans (heap_alloc_new w _)
  have hz1 : w.heap.size < w1.heap.size := Nat.lt_of_lt_of_le (by simp) t1.size
  obtain ⟨b, hb⟩ : ∃ b, w1.heap.size = b := ⟨_, rfl⟩
  have hb1 : w1.heap.size ≤ b := Nat.le_of_eq hb
  have hb2 : b ≤ w1.heap.size := Nat.le_of_eq hb.symm
  have hok0 : piecesOk r ⟨#[]⟩ [] = true := by
    unfold piecesOk winB heldV
    simp [chainOk, sumT, show (ByteArray.mk #[]).size = 0 from rfl]
    omega
  go_wp2_with fail
  go_loopw [4] (fun i wr => ∃ (k : Nat) (S' : ByteArray) (L : List PieceD) (v : Value) (s : Nat × Int), i = .int .i64 k ∧ k ≤ 5 ∧ PD w b r S' v wr ∧ OwnO wr (b + 1) PieceD.cells 2 v L ∧ piecesOk r S' L = true ∧ Cur wr g S s ∧ Touch g (g + 1) w wr ∧ Hid (roundsV S.B r (6 - k) k S' L s = F)) (fun i _ => 6 - (intOf i).toNat)
  case atStart =>
    refine ⟨0, ⟨#[]⟩, [], .slice none 0 0, s1, rfl, by omega, ⟨by omega, by simp; omega, ?_, ?_, ?_, fun o => ?_, ?_, ?_, ?_, fun o => ?_⟩, OwnO.nil _ _, hok0, c1.below (by (repeat' (first | (with_reducible exact Below.refl _ _) | (with_reducible assumption) | (with_reducible refine Below.alloc ?_ ?_ _) | (with_reducible refine Below.drew ?_) | (with_reducible refine below_drewN ?_ _) | (with_reducible refine Below.setCell ?_ ?_ _) | (with_reducible refine bvia ?_ (by with_reducible assumption) ?_) | go_size))), by (repeat' (first | (with_reducible exact Touch.refl _ _ _) | (with_reducible assumption) | (with_reducible refine Touch.alloc ?_ _) | (with_reducible refine Touch.drew ?_) | (with_reducible refine Touch.drewN ?_ _) | (with_reducible refine Touch.setNew ?_ ?_ _) | (with_reducible refine Touch.trans ?_ (by with_reducible assumption)) | (with_reducible refine Touch.via ?_ (by with_reducible assumption)) | go_size | omega)), HF⟩
    · rw [World.cell?_alloc_lt _ _ _ hz1, cell_of_row _ _ _ _ _ (0, 0) hq1]; rfl
    · rw [World.cell?_alloc_lt _ _ _ hz1, cell_of_row _ _ _ _ _ (0, 0) hq1]; rfl
    · rw [World.cell?_alloc_lt _ _ _ hz1, cell_of_row _ _ _ _ _ (0, 0) hq1]; rfl
    · rw [fal _ _ _ _ hz1]; exact frozen_of_row _ _ _ _ _ hq1
    · rw [← hb]; simp [go_sem]
    · rw [← hb]; simp [go_sem]
    · rw [← hb]; simp [go_sem]
    · rw [← hb]; simp [go_sem]
  case round =>
    clear HF c1 hq1 T1 t1 hb1 hb2 hok0
    obtain ⟨k, S', L, v, s, rfl, hk5, hD, O, hok, hC, hT, hF⟩ := hrel
    have hzr := hD.z
    have hbw := hD.hb
    go_wp2_with fail
    refine (l01Below_any g S s 6 _ hC).mono ?_
    rintro e w2 ⟨rfl, c2, t2⟩
    have h6 := (belowV_range S.B s 6).2.1 (by decide)
    obtain ⟨x, hx⟩ : ∃ x, belowV S.B s 6 = x := ⟨_, rfl⟩
    obtain ⟨s2, hs2⟩ : ∃ x, belowS S.B s 6 = x := ⟨_, rfl⟩
    rw [hx] at h6 ⊢
    rw [hs2] at c2
    have HX := Lib.hid hx
    have HS2 := Lib.hid hs2
    clear hx hs2
    have hz2 := t2.size
    have O2 := O.touch t2 (by omega)
    have D2 := hD.touch t2 (by omega)
    have hT2 := hT.trans t2
    clear O hT hC t2 hD
    obtain ⟨A, cp, rfl, -, -, -⟩ := O2.rd
    by_cases hlt2 : (k : Int) < x
    · have p0 := D2.p0
      have p1 := D2.p1
      have p2 := D2.p2
      have pf0 := D2.pf 0
      have pf1 := D2.pf 1
      have pf2 := D2.pf 2
      have hD2 := Lib.hid D2
      have HO2 := Lib.hid O2
      have HT2 := Lib.hid hT2
      have hz2' : b < w2.heap.size := D2.z
      clear D2 O2 hT2
      go_wp2_with fail
      have HS0 : (World.drew w2).cell? ⟨b, 0, none⟩ = some (.int .i64 r) ∧ (World.drew w2).cell? ⟨b, 1, none⟩ = some (.string S') ∧ (World.drew w2).cell? ⟨b, 2, none⟩ = some (.slice A L.length cp) := ⟨p0, p1, p2⟩
      refine wp_region_but 9 (fun w' => w'.cell? ⟨b, 0, none⟩ = some (.int .i64 r) ∧ w'.cell? ⟨b, 1, none⟩ = some (.string S') ∧ w'.cell? ⟨b, 2, none⟩ = some (.slice A L.length cp)) (by kernel_rfl) ?_
      refine AnyBut.take (i := 0) (v := ?_) rfl (by kernel_rfl) (by kernel_rfl) (by kernel_rfl) (by kernel_rfl) (fun _ _ _ h => h) (Or.inl ⟨by rfl, ?_⟩) HS0 ?_
      rotate_left
      · intro w' hSw
        obtain ⟨q0, q1, q2⟩ := hSw
        go_simp
        all_goals (with_reducible rfl)
      change AnyBut _ _ _ _ _ _ _ _ (Act.put _ (some 14) _) _
      (try simp only [Act.put, List.setIfInBounds_toArray, List.set_cons_zero, List.set_cons_succ])
      refine AnyBut.take (i := 1) (v := ?_) rfl (by kernel_rfl) (by kernel_rfl) (by kernel_rfl) (by kernel_rfl) (fun _ _ _ h => h) (Or.inl ⟨by rfl, ?_⟩) HS0 ?_
      rotate_left
      · intro w' hSw
        obtain ⟨q0, q1, q2⟩ := hSw
        go_simp
        all_goals (with_reducible rfl)
      change AnyBut _ _ _ _ _ _ _ _ (Act.put _ (some 15) _) _
      (try simp only [Act.put, List.setIfInBounds_toArray, List.set_cons_zero, List.set_cons_succ])
      refine AnyBut.take (i := 3) (v := ?_) rfl (by kernel_rfl) (by kernel_rfl) (by kernel_rfl) (by kernel_rfl) (fun _ _ _ h => h) (Or.inl ⟨by rfl, ?_⟩) HS0 ?_
      rotate_left
      · intro w' hSw
        obtain ⟨q0, q1, q2⟩ := hSw
        go_simp
        all_goals (with_reducible rfl)
      change AnyBut _ _ _ _ _ _ _ _ (Act.put _ (some 17) _) _
      (try simp only [Act.put, List.setIfInBounds_toArray, List.set_cons_zero, List.set_cons_succ])
      refine AnyBut.take (i := 4) (v := ?_) rfl (by kernel_rfl) (by kernel_rfl) (by kernel_rfl) (by kernel_rfl) (fun _ _ _ h => h) (Or.inl ⟨by rfl, ?_⟩) HS0 ?_
      rotate_left
      · intro w' hSw
        obtain ⟨q0, q1, q2⟩ := hSw
        go_simp
        all_goals (with_reducible rfl)
      change AnyBut _ _ _ _ _ _ _ _ (Act.put _ (some 18) _) _
      (try simp only [Act.put, List.setIfInBounds_toArray, List.set_cons_zero, List.set_cons_succ])
      refine AnyBut.one (i := 2) rfl (by kernel_rfl) (fun K9 hK9 => ?_)
      go_simp
      refine (l01Below_any g S s2 50 _ (c2.below (by (repeat' (first | (with_reducible exact Below.refl _ _) | (with_reducible assumption) | (with_reducible refine Below.alloc ?_ ?_ _) | (with_reducible refine Below.drew ?_) | (with_reducible refine below_drewN ?_ _) | (with_reducible refine Below.setCell ?_ ?_ _) | (with_reducible refine bvia ?_ (by with_reducible assumption) ?_) | go_size))))).mono ?_
      rintro e w3 ⟨rfl, c3, t3⟩
      have h50 := belowV_range S.B s2 50
      obtain ⟨a, ha⟩ : ∃ x, belowV S.B s2 50 = x := ⟨_, rfl⟩
      obtain ⟨s3, hs3⟩ : ∃ x, belowS S.B s2 50 = x := ⟨_, rfl⟩
      rw [ha] at h50
      try rw [ha]
      rw [hs3] at c3
      have HA := Lib.hid ha
      have HS3 := Lib.hid hs3
      clear ha hs3 h50
      have T3 : Touch g (g + 1) w2 w3 := (Touch.drew (Touch.refl _ _ _)).trans t3
      have hz3 : w2.heap.size ≤ w3.heap.size := T3.size
      have D3 := Lib.hid (hD2.out.touch T3 (by omega))
      have O3 := Lib.hid (HO2.out.touch T3 (by omega))
      have HT3 := Lib.hid (HT2.out.trans T3)
      clear t3 T3 hD2 HO2 HT2
      refine hK9 _ _ (fun h9 => ⟨D3.out.p0, D3.out.p1, D3.out.p2⟩) ?_
      clear hK9 K9
      (try simp only [Act.put, List.setIfInBounds_toArray, List.set_cons_zero, List.set_cons_succ])
      refine AnyBut.one (i := 5) rfl (by kernel_rfl) (fun K9 hK9 => ?_)
      go_simp
      refine (l01Below_any g S s3 12 _ c3).mono ?_
      rintro e w4 ⟨rfl, c4, t4⟩
      have h12 := belowV_range S.B s3 12
      have h12b := h12.2.1 (by decide)
      obtain ⟨y, hy⟩ : ∃ x, belowV S.B s3 12 = x := ⟨_, rfl⟩
      obtain ⟨s4, hs4⟩ : ∃ x, belowS S.B s3 12 = x := ⟨_, rfl⟩
      rw [hy] at h12 h12b
      try rw [hy]
      rw [hs4] at c4
      have HY := Lib.hid hy
      have HS4 := Lib.hid hs4
      have hy0 := h12.1
      clear hy hs4 h12
      have hz4 : w3.heap.size ≤ w4.heap.size := t4.size
      have D4 := Lib.hid (D3.out.touch t4 (by omega))
      have O4 := Lib.hid (O3.out.touch t4 (by omega))
      have HT4 := Lib.hid (HT3.out.trans t4)
      clear t4 D3 O3 HT3 c3
      refine hK9 _ _ (fun h9 => ⟨D4.out.p0, D4.out.p1, D4.out.p2⟩) ?_
      clear hK9 K9
      (try simp only [Act.put, List.setIfInBounds_toArray, List.set_cons_zero, List.set_cons_succ])
      obtain ⟨n, hn⟩ : ∃ n : Nat, 1 + y = n := ⟨(1 + y).toNat, by omega⟩
      have hn12 : n ≤ 12 := by omega
      have hwn : IntKind.i64.wrap (n : Int) = (n : Int) := IntWalk.i64_in _ (by omega)
      refine AnyBut.take (i := 6) (v := .int .i64 n) rfl (by kernel_rfl) (by kernel_rfl) (by kernel_rfl) (by kernel_rfl) (fun _ _ _ h => h) (Or.inl ⟨by rfl, ?_⟩) ⟨D4.out.p0, D4.out.p1, D4.out.p2⟩ ?_
      · intro w' hSw
        obtain ⟨q0, q1, q2⟩ := hSw
        go_simp
        all_goals (exact hwn)
      change AnyBut _ _ _ _ _ _ _ _ (Act.put _ (some 20) _) _
      (try simp only [Act.put, List.setIfInBounds_toArray, List.set_cons_zero, List.set_cons_succ])
      refine AnyBut.one (i := 7) rfl (by kernel_rfl) (fun K9 hK9 => ?_)
      go_simp
      refine (l01Text_any g S s4 n (by omega) _ c4).mono ?_
      rintro e w5 ⟨rfl, c5, t5⟩
      have hts := textV_size S.B s4 n
      obtain ⟨t, ht⟩ : ∃ x, textV S.B s4 n = x := ⟨_, rfl⟩
      obtain ⟨s5, hs5⟩ : ∃ x, textS S.B s4 n = x := ⟨_, rfl⟩
      rw [ht] at hts
      try rw [ht]
      rw [hs5] at c5
      have HT := Lib.hid ht
      have HS5 := Lib.hid hs5
      clear ht hs5
      have hz5 : w4.heap.size ≤ w5.heap.size := t5.size
      have D5 := Lib.hid (D4.out.touch t5 (by omega))
      have O5 := Lib.hid (O4.out.touch t5 (by omega))
      have HT5 := Lib.hid (HT4.out.trans t5)
      clear t5 D4 O4 HT4 c4
      refine hK9 _ _ (fun h9 => ⟨D5.out.p0, D5.out.p1, D5.out.p2⟩) ?_
      clear hK9 K9
      (try simp only [Act.put, List.setIfInBounds_toArray, List.set_cons_zero, List.set_cons_succ])
      obtain ⟨q1, q2, q3⟩ := bd_of_ok hok
      have hok' := put_valid (a := a) (t := t) hok
      obtain ⟨S2, hS2⟩ : ∃ x, (putV r S' L a t).1 = x := ⟨_, rfl⟩
      obtain ⟨L2, hL2⟩ : ∃ x, (putV r S' L a t).2 = x := ⟨_, rfl⟩
      have hp := sPutPiece r S' A cp L a t w5 (O5.out.rdv.wide (Nat.zero_le _) (Nat.le_refl _)) (by omega) (by omega) (by omega)
      rw [hS2, hL2] at hp hok'
      have HS6 := Lib.hid hS2
      have HL6 := Lib.hid hL2
      clear hS2 hL2
      refine AnyBut.one (i := 8) rfl (by kernel_rfl) (fun K9 hK9 => ?_)
      go_simp
      refine hp.mono ?_
      rintro e w6 ⟨A6, k6, rfl, O6, hb6⟩
      have hz6 := hb6.size
      have D6 := D5.out.next (hb6.mono (by omega))
      have c6 := c5.below hb6
      have HT6 := Lib.hid (HT5.out.via hb6)
      have O6' := Lib.hid (O6.up (base' := b + 1) (by omega))
      have pf0' := D6.pf 0
      have pf1' := D6.pf 1
      have pf2' := D6.pf 2
      have r0 := D6.p0
      have r1 := D6.p1
      have r2 := D6.p2
      have HD6 := Lib.hid D6
      have hb6' : b < w6.heap.size := D6.z
      clear hb6 D6 O6 O5 HT5 D5 hp p0 p1 p2 pf0 pf1 pf2 c5 HS0
      refine hK9 _ _ (fun h9 => ⟨r0, r1, r2⟩) ?_
      clear hK9 K9
      (try simp only [Act.put, List.setIfInBounds_toArray, List.set_cons_zero, List.set_cons_succ])
      refine AnyBut.one (i := 9) rfl (by kernel_rfl) (fun K9 hK9 => ?_)
      go_simp
      refine hK9 _ _ (fun h9 => absurd rfl h9) ?_
      clear hK9 K9
      (try simp only [Act.put, List.setIfInBounds_toArray, List.set_cons_zero, List.set_cons_succ])
      refine AnyBut.done (by kernel_rfl) ?_ _
      go_wp2_with fail
      go_roundw
      case rel =>
        refine ⟨k + 1, S2, L2, .slice A6 L2.length k6, s5, by go_num, by omega, HD6.out.set _ _ _, ((O6'.out.setBelow (p := ⟨b, 0, none⟩) (Nat.lt_succ_self _) _).setBelow (p := ⟨b, 1, none⟩) (Nat.lt_succ_self _) _).setBelow (p := ⟨b, 2, none⟩) (Nat.lt_succ_self _) _, hok', c6.keep (lo := b) (hi := b + 1) (touch3 _ _ _ _ _) (by omega), (((HT6.out.setNew (p := ⟨b, 0, none⟩) (by show w.heap.size ≤ b; omega) _).setNew (p := ⟨b, 1, none⟩) (by show w.heap.size ≤ b; omega) _).setNew (p := ⟨b, 2, none⟩) (by show w.heap.size ≤ b; omega) _), ?_⟩
        have h9 := hF.out
        rw [show 6 - k = (6 - (k + 1)) + 1 from by omega, rounds_yes HX.out HS2.out HA.out HS3.out HY.out HS4.out hn HT.out HS5.out HS6.out HL6.out hlt2] at h9
        exact h9
      case measure => simp [intOf]; omega
    · have hFn : F = ((S', L), s2) := by
        have h9 := hF.out
        rw [show 6 - k = (5 - k) + 1 from by omega, rounds_no HX.out HS2.out hlt2] at h9
        exact h9.symm
      have q0 := D2.q0
      have q1 := D2.q1
      have q2 := D2.q2
      have qf0 := D2.qf 0
      have qf1 := D2.qf 1
      have qf2 := D2.qf 2
      have p0 := D2.p0
      have p1 := D2.p1
      have p2 := D2.p2
      have hlt5 : w.heap.size < w2.heap.size := by omega
      have HO2 := Lib.hid O2
      have HT2 := Lib.hid hT2
      have hbz := D2.z
      clear O2 hT2 D2
      have HFN := Lib.hid hFn
      clear hFn
      go_wp2_with fail
      (try dsimp only)
      (try go_step)
      iterate 12 (try (first | go_values | go_skip | go_guarded | go_step | go_upon | go_back))
      refine bodyPost_ret (v := pv r S' A L.length cp) (by simp [results, Try.results47, go_sem, q0, q1, q2]) rfl ?_
      rw [HFN.out]
      have h3 := touch3 w2 w.heap.size (.int .i64 r) (.string S') (.slice A L.length cp)
      exact ⟨hok, A, cp, rfl, (HO2.out.touch h3 (by omega)).up (by omega), c2.keep h3 hlt, ((HT2.out.setNew (p := ⟨w.heap.size, 0, none⟩) (Nat.le_refl _) _).setNew (p := ⟨w.heap.size, 1, none⟩) (Nat.le_refl _) _).setNew (p := ⟨w.heap.size, 2, none⟩) (Nat.le_refl _) _⟩
end Go.Proofs.Ytpjbnfpadbknpaa
