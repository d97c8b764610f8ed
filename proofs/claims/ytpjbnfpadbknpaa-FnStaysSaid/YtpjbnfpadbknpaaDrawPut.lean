/- DrawPutPiece: for every slice of bytes, exact. Written by program (drawput.py). -/
import Derived.Test.YtpjbnfpadbknpaaDrawPAny
import Derived.Test.YtpjbnfpadbknpaaAnyTwo
namespace Go.Proofs.Ytpjbnfpadbknpaa
set_option linter.unusedSimpArgs false
set_option linter.unusedVariables false
open Go.RowKit
/-- The boxes of the draw: its result's, the cursor (block g), the Pieces that was drawn (box b). -/
structure PQ (w : World) (g : Nat) (S : Src) (b : Nat) (r : Int) (S' : ByteArray) (A : Option Addr) (cp : Nat) (L : List PieceD) (s : Nat × Int) (W : World) : Prop where
  hg : w.heap.size < g
  hb : g < b
  z : b < W.heap.size
  q0 : W.cell? ⟨w.heap.size, 0, none⟩ = some (.int .i64 0)
  q1 : W.cell? ⟨w.heap.size, 1, none⟩ = some (.string ⟨#[]⟩)
  q2 : W.cell? ⟨w.heap.size, 2, none⟩ = some (.slice none 0 0)
  qf : ∀ o, W.frozen? ⟨w.heap.size, o, none⟩ = false
  p0 : W.cell? ⟨b, 0, none⟩ = some (.int .i64 r)
  p1 : W.cell? ⟨b, 1, none⟩ = some (.string S')
  p2 : W.cell? ⟨b, 2, none⟩ = some (.slice A L.length cp)
  o : OwnO W (g + 1) PieceD.cells 2 (.slice A L.length cp) L
  c : Cur W g S s
  below : Below w.heap.size w W
section
variable {w W W' : World} {g b : Nat} {S : Src} {r : Int} {S' : ByteArray} {A : Option Addr} {cp : Nat} {L : List PieceD} {s s' : Nat × Int}
theorem PQ.keep (h : PQ w g S b r S' A cp L s W) (ho : OwnO W' (g + 1) PieceD.cells 2 (.slice A L.length cp) L) (hc : Cur W' g S s') (hz : W.heap.size ≤ W'.heap.size) (h0 : W'.heap[w.heap.size]? = W.heap[w.heap.size]?) (h1 : W'.heap[b]? = W.heap[b]?) (hb : Below w.heap.size w W') : PQ w g S b r S' A cp L s' W' :=
  ⟨h.hg, h.hb, Nat.lt_of_lt_of_le h.z hz, (cellAtB h0 0).trans h.q0, (cellAtB h0 1).trans h.q1, (cellAtB h0 2).trans h.q2, fun o => (frozenAtB h0 o).trans (h.qf o), (cellAtB h1 0).trans h.p0, (cellAtB h1 1).trans h.p1, (cellAtB h1 2).trans h.p2, ho, hc, hb⟩
theorem PQ.step (h : PQ w g S b r S' A cp L s W) (ht : Touch g (g + 1) W W') (hc : Cur W' g S s') : PQ w g S b r S' A cp L s' W' := by
  have h1 := h.hg
  have h2 := h.hb
  have h3 := h.z
  exact h.keep (h.o.touch ht (Nat.le_refl _)) hc ht.size (ht.block _ (by omega) (.inl (by omega))) (ht.block _ (by omega) (.inr (by omega))) (ht.below h.below (by omega) (by omega))
theorem PQ.next (h : PQ w g S b r S' A cp L s W) (hb : Below W.heap.size W W') : PQ w g S b r S' A cp L s W' := by
  have h1 := h.hg
  have h2 := h.hb
  have h3 := h.z
  exact h.keep (h.o.later hb (Nat.le_refl _)) (h.c.below hb) hb.size (hb.block _ (by omega)) (hb.block _ (by omega)) (h.below.trans (hb.mono (by omega)))
/-- Behind the store to the result's box. -/
theorem PQ.fin (h : PQ w g S b r S' A cp L s W) (x y z : Value) : OwnO (((W.setCell ⟨w.heap.size, 0, none⟩ x).setCell ⟨w.heap.size, 1, none⟩ y).setCell ⟨w.heap.size, 2, none⟩ z) w.heap.size PieceD.cells 2 (.slice A L.length cp) L ∧ Below w.heap.size w (((W.setCell ⟨w.heap.size, 0, none⟩ x).setCell ⟨w.heap.size, 1, none⟩ y).setCell ⟨w.heap.size, 2, none⟩ z) := by
  have h1 := h.hg
  have h2 := h.hb
  have h3 := h.z
  have ht := touch3 W w.heap.size x y z
  exact ⟨(h.o.touch ht (by omega)).up (by omega), ht.below h.below (Nat.le_refl _) (by omega)⟩
end
/-- What DrawPutPiece says. -/
def DrewPut (B : List Int) (w : World) (e : Ending) (w' : World) : Prop :=
  ∃ A k, e = .returned (.tuple #[pv (drawV B).1.1 (drawV B).1.2.1 A (drawV B).1.2.2.length k, .int .i64 (drawV B).2.1, .string (drawV B).2.2]) ∧ OwnO w' w.heap.size PieceD.cells 2 (.slice A (drawV B).1.2.2.length k) (drawV B).1.2.2 ∧ Below w.heap.size w w'
theorem drawV_eq {B : List Int} {x : (Int × ByteArray × List PieceD) × (Nat × Int)} {s1 s2 s3 : Nat × Int} {a at_ n : Int} {T : ByteArray} (h0 : anyV B (0, newH B (min B.length 4000)) = x) (h1 : belowV B x.2 60 = a) (h2 : belowS B x.2 60 = s1) (h3 : pickV B s1 [0, 5, 9, 12, 20, 30, a, -1, 1000000000, 1000000001] = at_) (h4 : belowS B s1 10 = s2) (h5 : pickV B s2 [1, 3, 8, 20, 0, 120] = n) (h6 : belowS B s2 6 = s3) (h7 : textV B s3 n.toNat = T) : drawV B = (x.1, at_, T) := by
  unfold drawV
  simp only [h0, h1, h2, h3, h4, h5, h6, h7]
set_option maxRecDepth 20000 in
set_option maxHeartbeats 20000000 in
theorem DrawPut_any (A0 : Option Addr) (cap0 : Nat) (B : List Int) (w : World) (hr : Rd bcells 1 w 0 w.heap.size A0 B) (hm : B.length ≤ 1048576) :
    Calls Try.prog 11 #[.slice A0 B.length cap0] w (DrewPut B w) := by
  go_enter Try.func11, Try.ntmps11
  go_wp2_with fail
  refine (l01New_any A0 cap0 B _ (by exact hr.later (by (repeat' (first | (with_reducible exact Below.refl _ _) | (with_reducible assumption) | (with_reducible refine Below.alloc ?_ ?_ _) | (with_reducible refine Below.drew ?_) | (with_reducible refine below_drewN ?_ _) | (with_reducible refine Below.setCell ?_ ?_ _) | (with_reducible refine bvia ?_ (by with_reducible assumption) ?_) | go_size))) (Nat.le_refl _) (by go_size)) hm).mono ?_
  rintro e w1 ⟨rfl, c1, hb1⟩
  obtain ⟨g, hg⟩ : ∃ g, w.heap.size + 1 = g := ⟨_, rfl⟩
  simp only [World.size_alloc] at c1 hb1
  rw [hg] at c1 hb1
  simp only [World.size_alloc]
  rw [hg]
  have hlt := c1.lt
  have hz1 := hb1.size
  obtain ⟨s0, hs0⟩ : ∃ s, ((0, newH B (min B.length 4000)) : Nat × Int) = s := ⟨_, rfl⟩
  rw [hs0] at c1
  have HS0 := Lib.hid hs0
  clear hs0
  have hq1 := (hb1.block w.heap.size (by omega)).trans (heap_alloc_new w _)
  have hB1 : Below w.heap.size w w1 := (by (repeat' (first | (with_reducible exact Below.refl _ _) | (with_reducible assumption) | (with_reducible refine Below.alloc ?_ ?_ _) | (with_reducible refine Below.drew ?_) | (with_reducible refine below_drewN ?_ _) | (with_reducible refine Below.setCell ?_ ?_ _) | (with_reducible refine bvia ?_ (by with_reducible assumption) ?_) | go_size)) : Below w.heap.size w (w.alloc _)).trans (hb1.mono (by omega))
  go_wp2_with fail
  refine (l09Any_any g ⟨A0, cap0, B⟩ s0 _ c1).mono ?_
  rintro e w2 ⟨hbd, A, cp, rfl, O2, c2, t2⟩
  obtain ⟨x, hx⟩ : ∃ x, anyV (Src.B ⟨A0, cap0, B⟩) s0 = x := ⟨_, rfl⟩
  rw [hx] at hbd O2 c2
  rw [hx]
  have HX0 : Hid (anyV B s0 = x) := hx
  clear hx
  obtain ⟨⟨r, S', L⟩, s1⟩ := x
  simp only at hbd O2 c2 ⊢
  have hq2 := (t2.block w.heap.size (by omega) (.inl (by omega))).trans hq1
  have hB2 : Below w.heap.size w w2 := t2.below hB1 (by omega) (by omega)
  have hz2 := t2.size
  obtain ⟨b, hb⟩ : ∃ b, w2.heap.size = b := ⟨_, rfl⟩
  have hq3 : w.heap.size < w2.heap.size := by omega
  go_upto_region 3 with (fail)
  refine wp_world _ (PQ w g ⟨A0, cap0, B⟩ b r S' A cp L s1) ⟨by omega, by omega, by simp; omega, ?_, ?_, ?_, fun o => ?_, ?_, ?_, ?_, (O2.alloc _).up (by omega), c2.below (by (repeat' (first | (with_reducible exact Below.refl _ _) | (with_reducible assumption) | (with_reducible refine Below.alloc ?_ ?_ _) | (with_reducible refine Below.drew ?_) | (with_reducible refine below_drewN ?_ _) | (with_reducible refine Below.setCell ?_ ?_ _) | (with_reducible refine bvia ?_ (by with_reducible assumption) ?_) | go_size))), by (repeat' (first | (with_reducible exact Below.refl _ _) | (with_reducible assumption) | (with_reducible refine Below.alloc ?_ ?_ _) | (with_reducible refine Below.drew ?_) | (with_reducible refine below_drewN ?_ _) | (with_reducible refine Below.setCell ?_ ?_ _) | (with_reducible refine bvia ?_ (by with_reducible assumption) ?_) | go_size))⟩ ?_
  · rw [World.cell?_alloc_lt _ _ _ hq3, cell_of_row _ _ _ _ _ (0, 0) hq2]; rfl
  · rw [World.cell?_alloc_lt _ _ _ hq3, cell_of_row _ _ _ _ _ (0, 0) hq2]; rfl
  · rw [World.cell?_alloc_lt _ _ _ hq3, cell_of_row _ _ _ _ _ (0, 0) hq2]; rfl
  · rw [fal _ _ _ _ hq3]; exact frozen_of_row _ _ _ _ _ hq2
  · rw [← hb]; simp [go_sem]
  · rw [← hb]; simp [go_sem]
  · rw [← hb]; simp [go_sem]
  intro W hX
  try rw [hb]
  have HX := Lib.hid hX
  obtain ⟨a, ha⟩ : ∃ x, belowV B s1 60 = x := ⟨_, rfl⟩
  obtain ⟨s2, hs2⟩ : ∃ x, belowS B s1 60 = x := ⟨_, rfl⟩
  obtain ⟨at_, hat⟩ : ∃ x, pickV B s2 [0, 5, 9, 12, 20, 30, a, -1, 1000000000, 1000000001] = x := ⟨_, rfl⟩
  obtain ⟨s3, hs3⟩ : ∃ x, belowS B s2 10 = x := ⟨_, rfl⟩
  have hnm := pickV_mem B s3 [1, 3, 8, 20, 0, 120] (by decide)
  obtain ⟨n0, hn0⟩ : ∃ x, pickV B s3 [1, 3, 8, 20, 0, 120] = x := ⟨_, rfl⟩
  rw [hn0] at hnm
  obtain ⟨n, rfl⟩ : ∃ n : Nat, n0 = n := ⟨n0.toNat, by simp at hnm; omega⟩
  have hn : n ≤ 5000 := by simp at hnm; omega
  obtain ⟨s4, hs4⟩ : ∃ x, belowS B s3 6 = x := ⟨_, rfl⟩
  obtain ⟨T, hT⟩ : ∃ x, textV B s4 n = x := ⟨_, rfl⟩
  have hv0 : drawV B = ((r, S', L), at_, T) := drawV_eq (x := ((r, S', L), s1)) (by rw [HS0.out]; exact HX0.out) ha hs2 hat hs3 hn0 hs4 hT
  have hV := Lib.hid hv0
  clear hv0
  have Ha := Lib.hid ha
  have Hs2 := Lib.hid hs2
  have Hat := Lib.hid hat
  have Hs3 := Lib.hid hs3
  have Hn0 := Lib.hid hn0
  have Hs4 := Lib.hid hs4
  have HT := Lib.hid hT
  have hbz := hX.z
  have hgb := hX.hb
  have p0 := hX.p0
  have p1 := hX.p1
  have p2 := hX.p2
  clear hX ha hs2 hat hs3 hn0 hs4 hT hnm HS0 HX0 hbd hb c1 c2 hb1 t2 hq1 hq2 hq3 O2 hB1 hB2 hz1 hz2 hlt w1 w2
  have HS0 : (World.drew W).cell? ⟨b, 0, none⟩ = some (.int .i64 r) ∧ (World.drew W).cell? ⟨b, 1, none⟩ = some (.string S') ∧ (World.drew W).cell? ⟨b, 2, none⟩ = some (.slice A L.length cp) := ⟨p0, p1, p2⟩
  refine wp_region_but 13 (fun w' => w'.cell? ⟨b, 0, none⟩ = some (.int .i64 r) ∧ w'.cell? ⟨b, 1, none⟩ = some (.string S') ∧ w'.cell? ⟨b, 2, none⟩ = some (.slice A L.length cp)) (by kernel_rfl) ?_
  refine AnyBut.take (i := 0) (v := ?_) rfl (by kernel_rfl) (by kernel_rfl) (by kernel_rfl) (by kernel_rfl) (fun _ _ _ h => h) (Or.inl ⟨by rfl, ?_⟩) HS0 ?_
  rotate_left
  · intro w' hSw
    obtain ⟨q0, q1, q2⟩ := hSw
    go_simp
    all_goals (with_reducible rfl)
  change AnyBut _ _ _ _ _ _ _ _ (Act.put _ (some 11) _) _
  (try simp only [Act.put, List.setIfInBounds_toArray, List.set_cons_zero, List.set_cons_succ])
  refine AnyBut.take (i := 1) (v := ?_) rfl (by kernel_rfl) (by kernel_rfl) (by kernel_rfl) (by kernel_rfl) (fun _ _ _ h => h) (Or.inl ⟨by rfl, ?_⟩) HS0 ?_
  rotate_left
  · intro w' hSw
    obtain ⟨q0, q1, q2⟩ := hSw
    go_simp
    all_goals (with_reducible rfl)
  change AnyBut _ _ _ _ _ _ _ _ (Act.put _ (some 12) _) _
  (try simp only [Act.put, List.setIfInBounds_toArray, List.set_cons_zero, List.set_cons_succ])
  refine AnyBut.take (i := 2) (v := ?_) rfl (by kernel_rfl) (by kernel_rfl) (by kernel_rfl) (by kernel_rfl) (fun _ _ _ h => h) (Or.inl ⟨by rfl, ?_⟩) HS0 ?_
  rotate_left
  · intro w' hSw
    obtain ⟨q0, q1, q2⟩ := hSw
    go_simp
    all_goals (with_reducible rfl)
  change AnyBut _ _ _ _ _ _ _ _ (Act.put _ (some 13) _) _
  (try simp only [Act.put, List.setIfInBounds_toArray, List.set_cons_zero, List.set_cons_succ])
  refine AnyBut.take (i := 6) (v := ?_) rfl (by kernel_rfl) (by kernel_rfl) (by kernel_rfl) (by kernel_rfl) (fun _ _ _ h => h) (Or.inl ⟨by rfl, ?_⟩) HS0 ?_
  rotate_left
  · intro w' hSw
    obtain ⟨q0, q1, q2⟩ := hSw
    go_simp
    all_goals (with_reducible rfl)
  change AnyBut _ _ _ _ _ _ _ _ (Act.put _ (some 17) _) _
  (try simp only [Act.put, List.setIfInBounds_toArray, List.set_cons_zero, List.set_cons_succ])
  refine AnyBut.take (i := 7) (v := ?_) rfl (by kernel_rfl) (by kernel_rfl) (by kernel_rfl) (by kernel_rfl) (fun _ _ _ h => h) (Or.inl ⟨by rfl, ?_⟩) HS0 ?_
  rotate_left
  · intro w' hSw
    obtain ⟨q0, q1, q2⟩ := hSw
    go_simp
    all_goals (with_reducible rfl)
  change AnyBut _ _ _ _ _ _ _ _ (Act.put _ (some 18) _) _
  (try simp only [Act.put, List.setIfInBounds_toArray, List.set_cons_zero, List.set_cons_succ])
  clear p0 p1 p2 HS0
  have HX' := Lib.hid (HX.out.next (Below.drew (Below.refl _ _)))
  clear HX
  obtain ⟨V0, hV0⟩ : ∃ v, World.drew W = v := ⟨_, rfl⟩
  rw [hV0] at HX'
  rw [hV0]
  clear hV0
  refine AnyBut.two (i := 3) (i' := 8) rfl rfl (by kernel_rfl) (fun K9 hK9 => ?_) (fun K9 hK9 => ?_)
  · go_simp
    refine (l01Below_any g _ s1 60 _ HX'.out.c).mono ?_
    rintro e v3 ⟨rfl, c, t⟩
    have c' : Cur v3 g ⟨A0, cap0, B⟩ s2 := by rw [← Hs2.out]; exact c
    have HX3 := Lib.hid (HX'.out.step t c')
    try rw [show belowV (Src.B ⟨A0, cap0, B⟩) s1 60 = a from Ha.out]
    clear c c' t HX'
    refine hK9 _ _ (fun h9 => ⟨HX3.out.p0, HX3.out.p1, HX3.out.p2⟩) ?_
    clear hK9 K9
    (try simp only [Act.put, List.setIfInBounds_toArray, List.set_cons_zero, List.set_cons_succ])
    refine AnyBut.two (i := 4) (i' := 8) rfl rfl (by kernel_rfl) (fun K9 hK9 => ?_) (fun K9 hK9 => ?_)
    · go_simp
      have hgz : g < v3.heap.size := HX3.out.c.lt
      have R4_4 := Lib.hid (Rd_lit v3 v3.heap.size (g + 1) [0, 5, 9, 12, 20, 30, a, -1, 1000000000, 1000000001] #[.int .i64 0, .int .i64 5, .int .i64 9, .int .i64 12, .int .i64 20, .int .i64 30, .int .i64 a, .int .i64 (-1), .int .i64 1000000000, .int .i64 1000000001] 3 rfl (by omega) (by simp))
      have HX4 := Lib.hid (HX3.out.next (Below.alloc (Below.refl _ _) (Nat.le_refl _) (.cells #[.int .i64 0, .int .i64 5, .int .i64 9, .int .i64 12, .int .i64 20, .int .i64 30, .int .i64 a, .int .i64 (-1), .int .i64 1000000000, .int .i64 1000000001] 3)))
      clear hgz HX3
      refine hK9 _ _ (fun h9 => ⟨HX4.out.p0, HX4.out.p1, HX4.out.p2⟩) ?_
      clear hK9 K9
      (try simp only [Act.put, List.setIfInBounds_toArray, List.set_cons_zero, List.set_cons_succ])
      obtain ⟨v4, hv9⟩ : ∃ v, v3.alloc (.cells #[.int .i64 0, .int .i64 5, .int .i64 9, .int .i64 12, .int .i64 20, .int .i64 30, .int .i64 a, .int .i64 (-1), .int .i64 1000000000, .int .i64 1000000001] 3) = v := ⟨_, rfl⟩
      rw [hv9] at HX4 R4_4
      rw [hv9]
      clear hv9
      refine AnyBut.two (i := 5) (i' := 8) rfl rfl (by kernel_rfl) (fun K9 hK9 => ?_) (fun K9 hK9 => ?_)
      · go_simp
        refine (l01PickInt_any g _ s2 _ _ [0, 5, 9, 12, 20, 30, a, -1, 1000000000, 1000000001] 10 _ HX4.out.c rfl R4_4.out (by simp) (by simp [maxLen])).mono ?_
        rintro e v5 ⟨rfl, c, t⟩
        have c' : Cur v5 g ⟨A0, cap0, B⟩ s3 := by rw [← Hs3.out]; exact c
        have HX5 := Lib.hid (HX4.out.step t c')
        try rw [show pickV (Src.B ⟨A0, cap0, B⟩) s2 [0, 5, 9, 12, 20, 30, a, -1, 1000000000, 1000000001] = at_ from Hat.out]
        clear R4_4
        clear c c' t HX4
        refine hK9 _ _ (fun h9 => ⟨HX5.out.p0, HX5.out.p1, HX5.out.p2⟩) ?_
        clear hK9 K9
        (try simp only [Act.put, List.setIfInBounds_toArray, List.set_cons_zero, List.set_cons_succ])
        refine AnyBut.one (i := 8) rfl (by kernel_rfl) (fun K9 hK9 => ?_)
        go_simp
        have hgz : g < v5.heap.size := HX5.out.c.lt
        have R8_6 := Lib.hid (Rd_lit v5 v5.heap.size (g + 1) [1, 3, 8, 20, 0, 120] #[.int .i64 1, .int .i64 3, .int .i64 8, .int .i64 20, .int .i64 0, .int .i64 120] 3 rfl (by omega) (by simp))
        have HX6 := Lib.hid (HX5.out.next (Below.alloc (Below.refl _ _) (Nat.le_refl _) (.cells #[.int .i64 1, .int .i64 3, .int .i64 8, .int .i64 20, .int .i64 0, .int .i64 120] 3)))
        clear hgz HX5
        refine hK9 _ _ (fun h9 => ⟨HX6.out.p0, HX6.out.p1, HX6.out.p2⟩) ?_
        clear hK9 K9
        (try simp only [Act.put, List.setIfInBounds_toArray, List.set_cons_zero, List.set_cons_succ])
        obtain ⟨v6, hv9⟩ : ∃ v, v5.alloc (.cells #[.int .i64 1, .int .i64 3, .int .i64 8, .int .i64 20, .int .i64 0, .int .i64 120] 3) = v := ⟨_, rfl⟩
        rw [hv9] at HX6 R8_6
        rw [hv9]
        clear hv9
        refine AnyBut.one (i := 9) rfl (by kernel_rfl) (fun K9 hK9 => ?_)
        go_simp
        refine (l01PickInt_any g _ s3 _ _ [1, 3, 8, 20, 0, 120] 6 _ HX6.out.c rfl R8_6.out (by simp) (by simp [maxLen])).mono ?_
        rintro e v7 ⟨rfl, c, t⟩
        have c' : Cur v7 g ⟨A0, cap0, B⟩ s4 := by rw [← Hs4.out]; exact c
        have HX7 := Lib.hid (HX6.out.step t c')
        try rw [show pickV (Src.B ⟨A0, cap0, B⟩) s3 [1, 3, 8, 20, 0, 120] = n from Hn0.out]
        clear R8_6
        clear c c' t HX6
        refine hK9 _ _ (fun h9 => ⟨HX7.out.p0, HX7.out.p1, HX7.out.p2⟩) ?_
        clear hK9 K9
        (try simp only [Act.put, List.setIfInBounds_toArray, List.set_cons_zero, List.set_cons_succ])
        refine AnyBut.one (i := 10) rfl (by kernel_rfl) (fun K9 hK9 => ?_)
        go_simp
        refine (l01Text_any g _ s4 n hn _ HX7.out.c).mono ?_
        rintro e v8 ⟨rfl, c, t⟩
        have HX8 := Lib.hid (HX7.out.step t c)
        try rw [show textV (Src.B ⟨A0, cap0, B⟩) s4 n = T from HT.out]
        clear c t HX7
        refine hK9 _ _ (fun h9 => ⟨HX8.out.p0, HX8.out.p1, HX8.out.p2⟩) ?_
        clear hK9 K9
        (try simp only [Act.put, List.setIfInBounds_toArray, List.set_cons_zero, List.set_cons_succ])
        refine AnyBut.one (i := 11) rfl (by kernel_rfl) (fun K9 hK9 => ?_)
        have q0 := HX8.out.q0
        have q1 := HX8.out.q1
        have q2 := HX8.out.q2
        have qf0 := HX8.out.qf 0
        have qf1 := HX8.out.qf 1
        have qf2 := HX8.out.qf 2
        have hgz := HX8.out.z
        have hgw := HX8.out.hg
        have hwb : w.heap.size ≠ b := by omega
        have hwz : w.heap.size < (v8).heap.size := by omega
        go_simp
        have hfin := HX8.out.fin (.int .i64 r) (.string S') (.slice A L.length cp)
        have HF := Lib.hid hfin
        refine hK9 _ _ (fun h9 => ⟨(csn _ _ _ _ _ hwb).trans ((csn _ _ _ _ _ hwb).trans ((csn _ _ _ _ _ hwb).trans HX8.out.p0)), (csn _ _ _ _ _ hwb).trans ((csn _ _ _ _ _ hwb).trans ((csn _ _ _ _ _ hwb).trans HX8.out.p1)), (csn _ _ _ _ _ hwb).trans ((csn _ _ _ _ _ hwb).trans ((csn _ _ _ _ _ hwb).trans HX8.out.p2))⟩) ?_
        clear hK9 K9 hfin
        (try simp only [Act.put, List.setIfInBounds_toArray, List.set_cons_zero, List.set_cons_succ])
        refine AnyBut.one (i := 12) rfl (by kernel_rfl) (fun K9 hK9 => ?_)
        go_simp
        refine hK9 _ _ (fun h9 => ⟨(csn _ _ _ _ _ hwb).trans ((csn _ _ _ _ _ hwb).trans ((csn _ _ _ _ _ hwb).trans HX8.out.p0)), (csn _ _ _ _ _ hwb).trans ((csn _ _ _ _ _ hwb).trans ((csn _ _ _ _ _ hwb).trans HX8.out.p1)), (csn _ _ _ _ _ hwb).trans ((csn _ _ _ _ _ hwb).trans ((csn _ _ _ _ _ hwb).trans HX8.out.p2))⟩) ?_
        clear hK9 K9
        (try simp only [Act.put, List.setIfInBounds_toArray, List.set_cons_zero, List.set_cons_succ])
        refine AnyBut.one (i := 13) rfl (by kernel_rfl) (fun K9 hK9 => ?_)
        go_simp
        refine hK9 _ _ (fun h9 => absurd rfl h9) ?_
        clear hK9 K9
        (try simp only [Act.put, List.setIfInBounds_toArray, List.set_cons_zero, List.set_cons_succ])
        refine AnyBut.done (by kernel_rfl) ?_ _
        clear HX8
        go_wp2_with fail
        (try dsimp only)
        (try go_step)
        iterate 12 (try (first | go_values | go_skip | go_guarded | go_step | go_upon | go_back))
        refine bodyPost_ret (v := .tuple #[pv r S' A L.length cp, .int .i64 at_, .string T]) (by simp [results, Try.results11, go_sem, q0, q1, q2]) rfl ?_
        unfold DrewPut
        rw [hV.out]
        exact ⟨A, cp, rfl, HF.out.1, HF.out.2⟩
      · go_simp
        have hgz : g < v4.heap.size := HX4.out.c.lt
        have R8_5 := Lib.hid (Rd_lit v4 v4.heap.size (g + 1) [1, 3, 8, 20, 0, 120] #[.int .i64 1, .int .i64 3, .int .i64 8, .int .i64 20, .int .i64 0, .int .i64 120] 3 rfl (by omega) (by simp))
        have HX5 := Lib.hid (HX4.out.next (Below.alloc (Below.refl _ _) (Nat.le_refl _) (.cells #[.int .i64 1, .int .i64 3, .int .i64 8, .int .i64 20, .int .i64 0, .int .i64 120] 3)))
        have R4_5 := Lib.hid (Rd.later (hi' := (v4.alloc (.cells #[.int .i64 1, .int .i64 3, .int .i64 8, .int .i64 20, .int .i64 0, .int .i64 120] 3)).heap.size) R4_4.out (Below.alloc (Below.refl _ _) (Nat.le_refl _) (.cells #[.int .i64 1, .int .i64 3, .int .i64 8, .int .i64 20, .int .i64 0, .int .i64 120] 3) : Below v4.heap.size v4 _) (Nat.le_refl _) (by first | (simp; done) | exact Nat.le_succ _))
        clear R4_4
        clear hgz HX4
        refine hK9 _ _ (fun h9 => ⟨HX5.out.p0, HX5.out.p1, HX5.out.p2⟩) ?_
        clear hK9 K9
        (try simp only [Act.put, List.setIfInBounds_toArray, List.set_cons_zero, List.set_cons_succ])
        obtain ⟨v5, hv9⟩ : ∃ v, v4.alloc (.cells #[.int .i64 1, .int .i64 3, .int .i64 8, .int .i64 20, .int .i64 0, .int .i64 120] 3) = v := ⟨_, rfl⟩
        rw [hv9] at HX5 R4_5 R8_5
        rw [hv9]
        clear hv9
        refine AnyBut.one (i := 5) rfl (by kernel_rfl) (fun K9 hK9 => ?_)
        go_simp
        refine (l01PickInt_any g _ s2 _ _ [0, 5, 9, 12, 20, 30, a, -1, 1000000000, 1000000001] 10 _ HX5.out.c rfl R4_5.out (by simp) (by simp [maxLen])).mono ?_
        rintro e v6 ⟨rfl, c, t⟩
        have c' : Cur v6 g ⟨A0, cap0, B⟩ s3 := by rw [← Hs3.out]; exact c
        have HX6 := Lib.hid (HX5.out.step t c')
        try rw [show pickV (Src.B ⟨A0, cap0, B⟩) s2 [0, 5, 9, 12, 20, 30, a, -1, 1000000000, 1000000001] = at_ from Hat.out]
        clear R4_5
        have R8_6 := Lib.hid ((R8_5.out.keep (w' := v6) fun p h1 h2 => t.cell h2 (.inr h1)).wide (Nat.le_refl _) t.size)
        clear R8_5
        clear c c' t HX5
        refine hK9 _ _ (fun h9 => ⟨HX6.out.p0, HX6.out.p1, HX6.out.p2⟩) ?_
        clear hK9 K9
        (try simp only [Act.put, List.setIfInBounds_toArray, List.set_cons_zero, List.set_cons_succ])
        refine AnyBut.one (i := 9) rfl (by kernel_rfl) (fun K9 hK9 => ?_)
        go_simp
        refine (l01PickInt_any g _ s3 _ _ [1, 3, 8, 20, 0, 120] 6 _ HX6.out.c rfl R8_6.out (by simp) (by simp [maxLen])).mono ?_
        rintro e v7 ⟨rfl, c, t⟩
        have c' : Cur v7 g ⟨A0, cap0, B⟩ s4 := by rw [← Hs4.out]; exact c
        have HX7 := Lib.hid (HX6.out.step t c')
        try rw [show pickV (Src.B ⟨A0, cap0, B⟩) s3 [1, 3, 8, 20, 0, 120] = n from Hn0.out]
        clear R8_6
        clear c c' t HX6
        refine hK9 _ _ (fun h9 => ⟨HX7.out.p0, HX7.out.p1, HX7.out.p2⟩) ?_
        clear hK9 K9
        (try simp only [Act.put, List.setIfInBounds_toArray, List.set_cons_zero, List.set_cons_succ])
        refine AnyBut.one (i := 10) rfl (by kernel_rfl) (fun K9 hK9 => ?_)
        go_simp
        refine (l01Text_any g _ s4 n hn _ HX7.out.c).mono ?_
        rintro e v8 ⟨rfl, c, t⟩
        have HX8 := Lib.hid (HX7.out.step t c)
        try rw [show textV (Src.B ⟨A0, cap0, B⟩) s4 n = T from HT.out]
        clear c t HX7
        refine hK9 _ _ (fun h9 => ⟨HX8.out.p0, HX8.out.p1, HX8.out.p2⟩) ?_
        clear hK9 K9
        (try simp only [Act.put, List.setIfInBounds_toArray, List.set_cons_zero, List.set_cons_succ])
        refine AnyBut.one (i := 11) rfl (by kernel_rfl) (fun K9 hK9 => ?_)
        have q0 := HX8.out.q0
        have q1 := HX8.out.q1
        have q2 := HX8.out.q2
        have qf0 := HX8.out.qf 0
        have qf1 := HX8.out.qf 1
        have qf2 := HX8.out.qf 2
        have hgz := HX8.out.z
        have hgw := HX8.out.hg
        have hwb : w.heap.size ≠ b := by omega
        have hwz : w.heap.size < (v8).heap.size := by omega
        go_simp
        have hfin := HX8.out.fin (.int .i64 r) (.string S') (.slice A L.length cp)
        have HF := Lib.hid hfin
        refine hK9 _ _ (fun h9 => ⟨(csn _ _ _ _ _ hwb).trans ((csn _ _ _ _ _ hwb).trans ((csn _ _ _ _ _ hwb).trans HX8.out.p0)), (csn _ _ _ _ _ hwb).trans ((csn _ _ _ _ _ hwb).trans ((csn _ _ _ _ _ hwb).trans HX8.out.p1)), (csn _ _ _ _ _ hwb).trans ((csn _ _ _ _ _ hwb).trans ((csn _ _ _ _ _ hwb).trans HX8.out.p2))⟩) ?_
        clear hK9 K9 hfin
        (try simp only [Act.put, List.setIfInBounds_toArray, List.set_cons_zero, List.set_cons_succ])
        refine AnyBut.one (i := 12) rfl (by kernel_rfl) (fun K9 hK9 => ?_)
        go_simp
        refine hK9 _ _ (fun h9 => ⟨(csn _ _ _ _ _ hwb).trans ((csn _ _ _ _ _ hwb).trans ((csn _ _ _ _ _ hwb).trans HX8.out.p0)), (csn _ _ _ _ _ hwb).trans ((csn _ _ _ _ _ hwb).trans ((csn _ _ _ _ _ hwb).trans HX8.out.p1)), (csn _ _ _ _ _ hwb).trans ((csn _ _ _ _ _ hwb).trans ((csn _ _ _ _ _ hwb).trans HX8.out.p2))⟩) ?_
        clear hK9 K9
        (try simp only [Act.put, List.setIfInBounds_toArray, List.set_cons_zero, List.set_cons_succ])
        refine AnyBut.one (i := 13) rfl (by kernel_rfl) (fun K9 hK9 => ?_)
        go_simp
        refine hK9 _ _ (fun h9 => absurd rfl h9) ?_
        clear hK9 K9
        (try simp only [Act.put, List.setIfInBounds_toArray, List.set_cons_zero, List.set_cons_succ])
        refine AnyBut.done (by kernel_rfl) ?_ _
        clear HX8
        go_wp2_with fail
        (try dsimp only)
        (try go_step)
        iterate 12 (try (first | go_values | go_skip | go_guarded | go_step | go_upon | go_back))
        refine bodyPost_ret (v := .tuple #[pv r S' A L.length cp, .int .i64 at_, .string T]) (by simp [results, Try.results11, go_sem, q0, q1, q2]) rfl ?_
        unfold DrewPut
        rw [hV.out]
        exact ⟨A, cp, rfl, HF.out.1, HF.out.2⟩
    · go_simp
      have hgz : g < v3.heap.size := HX3.out.c.lt
      have R8_4 := Lib.hid (Rd_lit v3 v3.heap.size (g + 1) [1, 3, 8, 20, 0, 120] #[.int .i64 1, .int .i64 3, .int .i64 8, .int .i64 20, .int .i64 0, .int .i64 120] 3 rfl (by omega) (by simp))
      have HX4 := Lib.hid (HX3.out.next (Below.alloc (Below.refl _ _) (Nat.le_refl _) (.cells #[.int .i64 1, .int .i64 3, .int .i64 8, .int .i64 20, .int .i64 0, .int .i64 120] 3)))
      clear hgz HX3
      refine hK9 _ _ (fun h9 => ⟨HX4.out.p0, HX4.out.p1, HX4.out.p2⟩) ?_
      clear hK9 K9
      (try simp only [Act.put, List.setIfInBounds_toArray, List.set_cons_zero, List.set_cons_succ])
      obtain ⟨v4, hv9⟩ : ∃ v, v3.alloc (.cells #[.int .i64 1, .int .i64 3, .int .i64 8, .int .i64 20, .int .i64 0, .int .i64 120] 3) = v := ⟨_, rfl⟩
      rw [hv9] at HX4 R8_4
      rw [hv9]
      clear hv9
      refine AnyBut.one (i := 4) rfl (by kernel_rfl) (fun K9 hK9 => ?_)
      go_simp
      have hgz : g < v4.heap.size := HX4.out.c.lt
      have R4_5 := Lib.hid (Rd_lit v4 v4.heap.size (g + 1) [0, 5, 9, 12, 20, 30, a, -1, 1000000000, 1000000001] #[.int .i64 0, .int .i64 5, .int .i64 9, .int .i64 12, .int .i64 20, .int .i64 30, .int .i64 a, .int .i64 (-1), .int .i64 1000000000, .int .i64 1000000001] 3 rfl (by omega) (by simp))
      have HX5 := Lib.hid (HX4.out.next (Below.alloc (Below.refl _ _) (Nat.le_refl _) (.cells #[.int .i64 0, .int .i64 5, .int .i64 9, .int .i64 12, .int .i64 20, .int .i64 30, .int .i64 a, .int .i64 (-1), .int .i64 1000000000, .int .i64 1000000001] 3)))
      have R8_5 := Lib.hid (Rd.later (hi' := (v4.alloc (.cells #[.int .i64 0, .int .i64 5, .int .i64 9, .int .i64 12, .int .i64 20, .int .i64 30, .int .i64 a, .int .i64 (-1), .int .i64 1000000000, .int .i64 1000000001] 3)).heap.size) R8_4.out (Below.alloc (Below.refl _ _) (Nat.le_refl _) (.cells #[.int .i64 0, .int .i64 5, .int .i64 9, .int .i64 12, .int .i64 20, .int .i64 30, .int .i64 a, .int .i64 (-1), .int .i64 1000000000, .int .i64 1000000001] 3) : Below v4.heap.size v4 _) (Nat.le_refl _) (by first | (simp; done) | exact Nat.le_succ _))
      clear R8_4
      clear hgz HX4
      refine hK9 _ _ (fun h9 => ⟨HX5.out.p0, HX5.out.p1, HX5.out.p2⟩) ?_
      clear hK9 K9
      (try simp only [Act.put, List.setIfInBounds_toArray, List.set_cons_zero, List.set_cons_succ])
      obtain ⟨v5, hv9⟩ : ∃ v, v4.alloc (.cells #[.int .i64 0, .int .i64 5, .int .i64 9, .int .i64 12, .int .i64 20, .int .i64 30, .int .i64 a, .int .i64 (-1), .int .i64 1000000000, .int .i64 1000000001] 3) = v := ⟨_, rfl⟩
      rw [hv9] at HX5 R4_5 R8_5
      rw [hv9]
      clear hv9
      refine AnyBut.one (i := 5) rfl (by kernel_rfl) (fun K9 hK9 => ?_)
      go_simp
      refine (l01PickInt_any g _ s2 _ _ [0, 5, 9, 12, 20, 30, a, -1, 1000000000, 1000000001] 10 _ HX5.out.c rfl R4_5.out (by simp) (by simp [maxLen])).mono ?_
      rintro e v6 ⟨rfl, c, t⟩
      have c' : Cur v6 g ⟨A0, cap0, B⟩ s3 := by rw [← Hs3.out]; exact c
      have HX6 := Lib.hid (HX5.out.step t c')
      try rw [show pickV (Src.B ⟨A0, cap0, B⟩) s2 [0, 5, 9, 12, 20, 30, a, -1, 1000000000, 1000000001] = at_ from Hat.out]
      clear R4_5
      have R8_6 := Lib.hid ((R8_5.out.keep (w' := v6) fun p h1 h2 => t.cell h2 (.inr h1)).wide (Nat.le_refl _) t.size)
      clear R8_5
      clear c c' t HX5
      refine hK9 _ _ (fun h9 => ⟨HX6.out.p0, HX6.out.p1, HX6.out.p2⟩) ?_
      clear hK9 K9
      (try simp only [Act.put, List.setIfInBounds_toArray, List.set_cons_zero, List.set_cons_succ])
      refine AnyBut.one (i := 9) rfl (by kernel_rfl) (fun K9 hK9 => ?_)
      go_simp
      refine (l01PickInt_any g _ s3 _ _ [1, 3, 8, 20, 0, 120] 6 _ HX6.out.c rfl R8_6.out (by simp) (by simp [maxLen])).mono ?_
      rintro e v7 ⟨rfl, c, t⟩
      have c' : Cur v7 g ⟨A0, cap0, B⟩ s4 := by rw [← Hs4.out]; exact c
      have HX7 := Lib.hid (HX6.out.step t c')
      try rw [show pickV (Src.B ⟨A0, cap0, B⟩) s3 [1, 3, 8, 20, 0, 120] = n from Hn0.out]
      clear R8_6
      clear c c' t HX6
      refine hK9 _ _ (fun h9 => ⟨HX7.out.p0, HX7.out.p1, HX7.out.p2⟩) ?_
      clear hK9 K9
      (try simp only [Act.put, List.setIfInBounds_toArray, List.set_cons_zero, List.set_cons_succ])
      refine AnyBut.one (i := 10) rfl (by kernel_rfl) (fun K9 hK9 => ?_)
      go_simp
      refine (l01Text_any g _ s4 n hn _ HX7.out.c).mono ?_
      rintro e v8 ⟨rfl, c, t⟩
      have HX8 := Lib.hid (HX7.out.step t c)
      try rw [show textV (Src.B ⟨A0, cap0, B⟩) s4 n = T from HT.out]
      clear c t HX7
      refine hK9 _ _ (fun h9 => ⟨HX8.out.p0, HX8.out.p1, HX8.out.p2⟩) ?_
      clear hK9 K9
      (try simp only [Act.put, List.setIfInBounds_toArray, List.set_cons_zero, List.set_cons_succ])
      refine AnyBut.one (i := 11) rfl (by kernel_rfl) (fun K9 hK9 => ?_)
      have q0 := HX8.out.q0
      have q1 := HX8.out.q1
      have q2 := HX8.out.q2
      have qf0 := HX8.out.qf 0
      have qf1 := HX8.out.qf 1
      have qf2 := HX8.out.qf 2
      have hgz := HX8.out.z
      have hgw := HX8.out.hg
      have hwb : w.heap.size ≠ b := by omega
      have hwz : w.heap.size < (v8).heap.size := by omega
      go_simp
      have hfin := HX8.out.fin (.int .i64 r) (.string S') (.slice A L.length cp)
      have HF := Lib.hid hfin
      refine hK9 _ _ (fun h9 => ⟨(csn _ _ _ _ _ hwb).trans ((csn _ _ _ _ _ hwb).trans ((csn _ _ _ _ _ hwb).trans HX8.out.p0)), (csn _ _ _ _ _ hwb).trans ((csn _ _ _ _ _ hwb).trans ((csn _ _ _ _ _ hwb).trans HX8.out.p1)), (csn _ _ _ _ _ hwb).trans ((csn _ _ _ _ _ hwb).trans ((csn _ _ _ _ _ hwb).trans HX8.out.p2))⟩) ?_
      clear hK9 K9 hfin
      (try simp only [Act.put, List.setIfInBounds_toArray, List.set_cons_zero, List.set_cons_succ])
      refine AnyBut.one (i := 12) rfl (by kernel_rfl) (fun K9 hK9 => ?_)
      go_simp
      refine hK9 _ _ (fun h9 => ⟨(csn _ _ _ _ _ hwb).trans ((csn _ _ _ _ _ hwb).trans ((csn _ _ _ _ _ hwb).trans HX8.out.p0)), (csn _ _ _ _ _ hwb).trans ((csn _ _ _ _ _ hwb).trans ((csn _ _ _ _ _ hwb).trans HX8.out.p1)), (csn _ _ _ _ _ hwb).trans ((csn _ _ _ _ _ hwb).trans ((csn _ _ _ _ _ hwb).trans HX8.out.p2))⟩) ?_
      clear hK9 K9
      (try simp only [Act.put, List.setIfInBounds_toArray, List.set_cons_zero, List.set_cons_succ])
      refine AnyBut.one (i := 13) rfl (by kernel_rfl) (fun K9 hK9 => ?_)
      go_simp
      refine hK9 _ _ (fun h9 => absurd rfl h9) ?_
      clear hK9 K9
      (try simp only [Act.put, List.setIfInBounds_toArray, List.set_cons_zero, List.set_cons_succ])
      refine AnyBut.done (by kernel_rfl) ?_ _
      clear HX8
      go_wp2_with fail
      (try dsimp only)
      (try go_step)
      iterate 12 (try (first | go_values | go_skip | go_guarded | go_step | go_upon | go_back))
      refine bodyPost_ret (v := .tuple #[pv r S' A L.length cp, .int .i64 at_, .string T]) (by simp [results, Try.results11, go_sem, q0, q1, q2]) rfl ?_
      unfold DrewPut
      rw [hV.out]
      exact ⟨A, cp, rfl, HF.out.1, HF.out.2⟩
  · go_simp
    have hgz : g < V0.heap.size := HX'.out.c.lt
    have R8_3 := Lib.hid (Rd_lit V0 V0.heap.size (g + 1) [1, 3, 8, 20, 0, 120] #[.int .i64 1, .int .i64 3, .int .i64 8, .int .i64 20, .int .i64 0, .int .i64 120] 3 rfl (by omega) (by simp))
    have HX3 := Lib.hid (HX'.out.next (Below.alloc (Below.refl _ _) (Nat.le_refl _) (.cells #[.int .i64 1, .int .i64 3, .int .i64 8, .int .i64 20, .int .i64 0, .int .i64 120] 3)))
    clear hgz HX'
    refine hK9 _ _ (fun h9 => ⟨HX3.out.p0, HX3.out.p1, HX3.out.p2⟩) ?_
    clear hK9 K9
    (try simp only [Act.put, List.setIfInBounds_toArray, List.set_cons_zero, List.set_cons_succ])
    obtain ⟨v3, hv9⟩ : ∃ v, V0.alloc (.cells #[.int .i64 1, .int .i64 3, .int .i64 8, .int .i64 20, .int .i64 0, .int .i64 120] 3) = v := ⟨_, rfl⟩
    rw [hv9] at HX3 R8_3
    rw [hv9]
    clear hv9
    refine AnyBut.one (i := 3) rfl (by kernel_rfl) (fun K9 hK9 => ?_)
    go_simp
    refine (l01Below_any g _ s1 60 _ HX3.out.c).mono ?_
    rintro e v4 ⟨rfl, c, t⟩
    have c' : Cur v4 g ⟨A0, cap0, B⟩ s2 := by rw [← Hs2.out]; exact c
    have HX4 := Lib.hid (HX3.out.step t c')
    try rw [show belowV (Src.B ⟨A0, cap0, B⟩) s1 60 = a from Ha.out]
    have R8_4 := Lib.hid ((R8_3.out.keep (w' := v4) fun p h1 h2 => t.cell h2 (.inr h1)).wide (Nat.le_refl _) t.size)
    clear R8_3
    clear c c' t HX3
    refine hK9 _ _ (fun h9 => ⟨HX4.out.p0, HX4.out.p1, HX4.out.p2⟩) ?_
    clear hK9 K9
    (try simp only [Act.put, List.setIfInBounds_toArray, List.set_cons_zero, List.set_cons_succ])
    refine AnyBut.one (i := 4) rfl (by kernel_rfl) (fun K9 hK9 => ?_)
    go_simp
    have hgz : g < v4.heap.size := HX4.out.c.lt
    have R4_5 := Lib.hid (Rd_lit v4 v4.heap.size (g + 1) [0, 5, 9, 12, 20, 30, a, -1, 1000000000, 1000000001] #[.int .i64 0, .int .i64 5, .int .i64 9, .int .i64 12, .int .i64 20, .int .i64 30, .int .i64 a, .int .i64 (-1), .int .i64 1000000000, .int .i64 1000000001] 3 rfl (by omega) (by simp))
    have HX5 := Lib.hid (HX4.out.next (Below.alloc (Below.refl _ _) (Nat.le_refl _) (.cells #[.int .i64 0, .int .i64 5, .int .i64 9, .int .i64 12, .int .i64 20, .int .i64 30, .int .i64 a, .int .i64 (-1), .int .i64 1000000000, .int .i64 1000000001] 3)))
    have R8_5 := Lib.hid (Rd.later (hi' := (v4.alloc (.cells #[.int .i64 0, .int .i64 5, .int .i64 9, .int .i64 12, .int .i64 20, .int .i64 30, .int .i64 a, .int .i64 (-1), .int .i64 1000000000, .int .i64 1000000001] 3)).heap.size) R8_4.out (Below.alloc (Below.refl _ _) (Nat.le_refl _) (.cells #[.int .i64 0, .int .i64 5, .int .i64 9, .int .i64 12, .int .i64 20, .int .i64 30, .int .i64 a, .int .i64 (-1), .int .i64 1000000000, .int .i64 1000000001] 3) : Below v4.heap.size v4 _) (Nat.le_refl _) (by first | (simp; done) | exact Nat.le_succ _))
    clear R8_4
    clear hgz HX4
    refine hK9 _ _ (fun h9 => ⟨HX5.out.p0, HX5.out.p1, HX5.out.p2⟩) ?_
    clear hK9 K9
    (try simp only [Act.put, List.setIfInBounds_toArray, List.set_cons_zero, List.set_cons_succ])
    obtain ⟨v5, hv9⟩ : ∃ v, v4.alloc (.cells #[.int .i64 0, .int .i64 5, .int .i64 9, .int .i64 12, .int .i64 20, .int .i64 30, .int .i64 a, .int .i64 (-1), .int .i64 1000000000, .int .i64 1000000001] 3) = v := ⟨_, rfl⟩
    rw [hv9] at HX5 R4_5 R8_5
    rw [hv9]
    clear hv9
    refine AnyBut.one (i := 5) rfl (by kernel_rfl) (fun K9 hK9 => ?_)
    go_simp
    refine (l01PickInt_any g _ s2 _ _ [0, 5, 9, 12, 20, 30, a, -1, 1000000000, 1000000001] 10 _ HX5.out.c rfl R4_5.out (by simp) (by simp [maxLen])).mono ?_
    rintro e v6 ⟨rfl, c, t⟩
    have c' : Cur v6 g ⟨A0, cap0, B⟩ s3 := by rw [← Hs3.out]; exact c
    have HX6 := Lib.hid (HX5.out.step t c')
    try rw [show pickV (Src.B ⟨A0, cap0, B⟩) s2 [0, 5, 9, 12, 20, 30, a, -1, 1000000000, 1000000001] = at_ from Hat.out]
    clear R4_5
    have R8_6 := Lib.hid ((R8_5.out.keep (w' := v6) fun p h1 h2 => t.cell h2 (.inr h1)).wide (Nat.le_refl _) t.size)
    clear R8_5
    clear c c' t HX5
    refine hK9 _ _ (fun h9 => ⟨HX6.out.p0, HX6.out.p1, HX6.out.p2⟩) ?_
    clear hK9 K9
    (try simp only [Act.put, List.setIfInBounds_toArray, List.set_cons_zero, List.set_cons_succ])
    refine AnyBut.one (i := 9) rfl (by kernel_rfl) (fun K9 hK9 => ?_)
    go_simp
    refine (l01PickInt_any g _ s3 _ _ [1, 3, 8, 20, 0, 120] 6 _ HX6.out.c rfl R8_6.out (by simp) (by simp [maxLen])).mono ?_
    rintro e v7 ⟨rfl, c, t⟩
    have c' : Cur v7 g ⟨A0, cap0, B⟩ s4 := by rw [← Hs4.out]; exact c
    have HX7 := Lib.hid (HX6.out.step t c')
    try rw [show pickV (Src.B ⟨A0, cap0, B⟩) s3 [1, 3, 8, 20, 0, 120] = n from Hn0.out]
    clear R8_6
    clear c c' t HX6
    refine hK9 _ _ (fun h9 => ⟨HX7.out.p0, HX7.out.p1, HX7.out.p2⟩) ?_
    clear hK9 K9
    (try simp only [Act.put, List.setIfInBounds_toArray, List.set_cons_zero, List.set_cons_succ])
    refine AnyBut.one (i := 10) rfl (by kernel_rfl) (fun K9 hK9 => ?_)
    go_simp
    refine (l01Text_any g _ s4 n hn _ HX7.out.c).mono ?_
    rintro e v8 ⟨rfl, c, t⟩
    have HX8 := Lib.hid (HX7.out.step t c)
    try rw [show textV (Src.B ⟨A0, cap0, B⟩) s4 n = T from HT.out]
    clear c t HX7
    refine hK9 _ _ (fun h9 => ⟨HX8.out.p0, HX8.out.p1, HX8.out.p2⟩) ?_
    clear hK9 K9
    (try simp only [Act.put, List.setIfInBounds_toArray, List.set_cons_zero, List.set_cons_succ])
    refine AnyBut.one (i := 11) rfl (by kernel_rfl) (fun K9 hK9 => ?_)
    have q0 := HX8.out.q0
    have q1 := HX8.out.q1
    have q2 := HX8.out.q2
    have qf0 := HX8.out.qf 0
    have qf1 := HX8.out.qf 1
    have qf2 := HX8.out.qf 2
    have hgz := HX8.out.z
    have hgw := HX8.out.hg
    have hwb : w.heap.size ≠ b := by omega
    have hwz : w.heap.size < (v8).heap.size := by omega
    go_simp
    have hfin := HX8.out.fin (.int .i64 r) (.string S') (.slice A L.length cp)
    have HF := Lib.hid hfin
    refine hK9 _ _ (fun h9 => ⟨(csn _ _ _ _ _ hwb).trans ((csn _ _ _ _ _ hwb).trans ((csn _ _ _ _ _ hwb).trans HX8.out.p0)), (csn _ _ _ _ _ hwb).trans ((csn _ _ _ _ _ hwb).trans ((csn _ _ _ _ _ hwb).trans HX8.out.p1)), (csn _ _ _ _ _ hwb).trans ((csn _ _ _ _ _ hwb).trans ((csn _ _ _ _ _ hwb).trans HX8.out.p2))⟩) ?_
    clear hK9 K9 hfin
    (try simp only [Act.put, List.setIfInBounds_toArray, List.set_cons_zero, List.set_cons_succ])
    refine AnyBut.one (i := 12) rfl (by kernel_rfl) (fun K9 hK9 => ?_)
    go_simp
    refine hK9 _ _ (fun h9 => ⟨(csn _ _ _ _ _ hwb).trans ((csn _ _ _ _ _ hwb).trans ((csn _ _ _ _ _ hwb).trans HX8.out.p0)), (csn _ _ _ _ _ hwb).trans ((csn _ _ _ _ _ hwb).trans ((csn _ _ _ _ _ hwb).trans HX8.out.p1)), (csn _ _ _ _ _ hwb).trans ((csn _ _ _ _ _ hwb).trans ((csn _ _ _ _ _ hwb).trans HX8.out.p2))⟩) ?_
    clear hK9 K9
    (try simp only [Act.put, List.setIfInBounds_toArray, List.set_cons_zero, List.set_cons_succ])
    refine AnyBut.one (i := 13) rfl (by kernel_rfl) (fun K9 hK9 => ?_)
    go_simp
    refine hK9 _ _ (fun h9 => absurd rfl h9) ?_
    clear hK9 K9
    (try simp only [Act.put, List.setIfInBounds_toArray, List.set_cons_zero, List.set_cons_succ])
    refine AnyBut.done (by kernel_rfl) ?_ _
    clear HX8
    go_wp2_with fail
    (try dsimp only)
    (try go_step)
    iterate 12 (try (first | go_values | go_skip | go_guarded | go_step | go_upon | go_back))
    refine bodyPost_ret (v := .tuple #[pv r S' A L.length cp, .int .i64 at_, .string T]) (by simp [results, Try.results11, go_sem, q0, q1, q2]) rfl ?_
    unfold DrewPut
    rw [hV.out]
    exact ⟨A, cp, rfl, HF.out.1, HF.out.2⟩
end Go.Proofs.Ytpjbnfpadbknpaa
