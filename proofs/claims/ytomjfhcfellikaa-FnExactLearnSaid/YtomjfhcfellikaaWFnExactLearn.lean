/- The walk of FnExactLearn: for every argument. Written by program (learnlaw.py). -/
import Derived.Test.YtomjfhcfellikaaKT
import Derived.Test.YtomjfhcfellikaaLearnT
import Derived.Deep.DrawnRows
import Derived.Test.YtomjfhcfellikaaMid
namespace Go.Proofs.Ytomjfhcfellikaa
set_option linter.unusedSimpArgs false
set_option linter.unusedVariables false
open Go.RowKit
/-- Box g holds a Known in blocks of its own, from lo to hi. -/
structure KB (W : World) (g lo hi : Nat) (A1 : Option Addr) (k1 : Nat) (A2 : Option Addr) (k2 : Nat) (K : List Int) (T : List TagD) : Prop where
  g0 : W.cell? ⟨g, 0, none⟩ = some (.slice A1 K.length k1)
  g1 : W.cell? ⟨g, 1, none⟩ = some (.slice A2 T.length k2)
  kn : KnV W lo hi (.slice A1 K.length k1) (.slice A2 T.length k2) K T
  gn : g < lo ∨ hi ≤ g
  gl : g < W.heap.size
  hl : hi ≤ W.heap.size
theorem KB.next {W W' : World} {g lo hi : Nat} {A1 : Option Addr} {k1 : Nat} {A2 : Option Addr} {k2 : Nat} {K : List Int} {T : List TagD} (h : KB W g lo hi A1 k1 A2 k2 K T) (hb : Below W.heap.size W W') : KB W' g lo hi A1 k1 A2 k2 K T :=
  ⟨(hb.cell h.gl).trans h.g0, (hb.cell h.gl).trans h.g1, h.kn.keep (fun k _ hk => hb.block k (Nat.lt_of_lt_of_le hk h.hl)), h.gn, Nat.lt_of_lt_of_le h.gl hb.size, Nat.le_trans h.hl hb.size⟩
theorem tcell {lo hi : Nat} {w w' : World} (h : Touch lo hi w w') {p : Addr} (hp : p.block < w.heap.size) (hn : p.block < lo ∨ hi ≤ p.block) : w'.cell? p = w.cell? p := by
  unfold World.cell?
  rw [h.block _ hp hn]
/-- Another Known is marked. -/
theorem KB.past {W W' : World} {g lo hi a b : Nat} {A1 : Option Addr} {k1 : Nat} {A2 : Option Addr} {k2 : Nat} {K : List Int} {T : List TagD} (h : KB W g lo hi A1 k1 A2 k2 K T) (ht : Touch a b W W') (hg : g < a ∨ b ≤ g) (hd : hi ≤ a ∨ b ≤ lo) : KB W' g lo hi A1 k1 A2 k2 K T :=
  ⟨(tcell ht h.gl hg).trans h.g0, (tcell ht h.gl hg).trans h.g1, h.kn.keep (fun k h1 h2 => ht.block k (Nat.lt_of_lt_of_le h2 h.hl) (by omega)), h.gn, Nat.lt_of_lt_of_le h.gl ht.size, Nat.le_trans h.hl ht.size⟩
/-- This one is marked: its box is as it was, its cells read as the marks. -/
theorem KB.marked {W W' : World} {g lo hi : Nat} {A1 : Option Addr} {k1 : Nat} {A2 : Option Addr} {k2 : Nat} {K : List Int} {T : List TagD} (h : KB W g lo hi A1 k1 A2 k2 K T) (ht : Touch lo hi W W') : W'.cell? ⟨g, 0, none⟩ = some (.slice A1 K.length k1) ∧ W'.cell? ⟨g, 1, none⟩ = some (.slice A2 T.length k2) ∧ g < W'.heap.size ∧ hi ≤ W'.heap.size :=
  ⟨(tcell ht h.gl h.gn).trans h.g0, (tcell ht h.gl h.gn).trans h.g1, Nat.lt_of_lt_of_le h.gl ht.size, Nat.le_trans h.hl ht.size⟩
theorem KT.past {w W W' : World} {x : KnownA} {t : TagD} {a b : Nat} (h : KT w x t W) (ht : Touch a b W W') (ha : w.heap.size + 2 ≤ a) : KT w x t W' := by
  have hz := h.z
  refine ⟨ht.below h.b (by omega) (by omega), Nat.le_trans hz ht.size, (tcell ht (by show w.heap.size < _; omega) (.inl (by show w.heap.size < _; omega))).trans h.k0, (tcell ht (by show w.heap.size < _; omega) (.inl (by show w.heap.size < _; omega))).trans h.k1, (tcell ht (by show w.heap.size + 1 < _; omega) (.inl (by show w.heap.size + 1 < _; omega))).trans h.t0, (tcell ht (by show w.heap.size + 1 < _; omega) (.inl (by show w.heap.size + 1 < _; omega))).trans h.t1, (tcell ht (by show w.heap.size + 1 < _; omega) (.inl (by show w.heap.size + 1 < _; omega))).trans h.t2, (tcell ht (by show w.heap.size + 1 < _; omega) (.inl (by show w.heap.size + 1 < _; omega))).trans h.t3, (tcell ht (by show w.heap.size + 1 < _; omega) (.inl (by show w.heap.size + 1 < _; omega))).trans h.t4⟩
/-- A box that has been laid in a region that draws its order: before, among or behind the calls. -/
theorem KB.laid {W V W' : World} {g lo hi : Nat} {A1 : Option Addr} {k1 : Nat} {A2 : Option Addr} {k2 : Nat} {K : List Int} {T : List TagD} (hk : KnV V lo hi (.slice A1 K.length k1) (.slice A2 T.length k2) K T) (hb : Below hi V W') (h0 : W'.cell? ⟨g, 0, none⟩ = some (.slice A1 K.length k1)) (h1 : W'.cell? ⟨g, 1, none⟩ = some (.slice A2 T.length k2)) (gn : g < lo ∨ hi ≤ g) (gl : g < W'.heap.size) (hl : hi ≤ W'.heap.size) : KB W' g lo hi A1 k1 A2 k2 K T :=
  ⟨h0, h1, hk.keep (fun k _ h2 => hb.block k h2), gn, gl, hl⟩
theorem KT.set {w V : World} {x : KnownA} {t : TagD} {b : Nat} {u v : Value} (h : KT w x t V) (hb : w.heap.size + 2 ≤ b) : KT w x t ((V.setCell ⟨b, 0, none⟩ u).setCell ⟨b, 1, none⟩ v) :=
  h.past (a := b) (b := b + 1) (((Touch.refl _ _ _).setCell (p := ⟨b, 0, none⟩) (Nat.le_refl _) (Nat.lt_succ_self _) _).setCell (p := ⟨b, 1, none⟩) (Nat.le_refl _) (Nat.lt_succ_self _) _) hb
theorem KB.store {V : World} {b lo hi : Nat} {A1 : Option Addr} {k1 : Nat} {A2 : Option Addr} {k2 : Nat} {K : List Int} {T : List TagD} (hk : KnV V lo hi (.slice A1 K.length k1) (.slice A2 T.length k2) K T) (hb : V.heap[b]? = some (.cells #[.slice none 0 0, .slice none 0 0] 35 (0, 0))) (gn : b < lo ∨ hi ≤ b) (hl : hi ≤ V.heap.size) :
    KB ((V.setCell ⟨b, 0, none⟩ (.slice A1 K.length k1)).setCell ⟨b, 1, none⟩ (.slice A2 T.length k2)) b lo hi A1 k1 A2 k2 K T := by
  have c0 : V.cell? ⟨b, 0, none⟩ = some (.slice none 0 0) := by rw [cell_of_row _ _ _ _ _ (0, 0) hb]; rfl
  have c1 : V.cell? ⟨b, 1, none⟩ = some (.slice none 0 0) := by rw [cell_of_row _ _ _ _ _ (0, 0) hb]; rfl
  refine ⟨?_, ?_, hk.keep (fun k h1 h2 => (Below.heap_setCell _ _ _ _ (by show k ≠ b; omega)).trans (Below.heap_setCell _ _ _ _ (by show k ≠ b; omega))), gn, by simpa using blkLt hb, by simpa using hl⟩
  · exact (World.cell?_setCell_other _ _ _ _ (by simp)).trans (World.cell?_setCell_same _ _ _ c0)
  · exact World.cell?_setCell_same _ _ _ ((World.cell?_setCell_other _ _ _ _ (by simp)).trans c1)
theorem bset {W V : World} {b : Nat} {u v : Value} (h : Below W.heap.size W V) (hb : W.heap.size ≤ b) : Below W.heap.size W ((V.setCell ⟨b, 0, none⟩ u).setCell ⟨b, 1, none⟩ v) := by
  have h0 := h
  (repeat' (first | (with_reducible exact Below.refl _ _) | (with_reducible assumption) | (with_reducible refine Below.alloc ?_ ?_ _) | (with_reducible refine Below.drew ?_) | (with_reducible refine below_drewN ?_ _) | (with_reducible refine Below.setCell ?_ ?_ _) | (with_reducible refine bvia ?_ (by with_reducible assumption) ?_) | go_size))
set_option maxRecDepth 100000 in
set_option maxHeartbeats 20000000 in
theorem walk_FnExactLearn (x : KnownA) (t : TagD) (w : World) (hx : x.wf w) (_ : t.wf) :
    Calls Try.prog 5 #[x.val, t.val] w fun e w' => e = .returned (.bool true) ∧ Below w.heap.size w w' := by
  obtain ⟨⟨hk1, hk2, -, hK⟩, ht1, ht2, -, hT⟩ := hx
  have hmK : x.fKeys.length ≤ maxLen := Nat.le_trans hk1 hk2
  have hmT : x.fTags.length ≤ maxLen := Nat.le_trans ht1 ht2
  by_cases h : (x.fKeys.length : Int) + x.fTags.length ≤ 1048576
  · have hv : Hid (szKn 1048576 x.fKeys.length x.fTags.length = 1048576 - x.fKeys.length - x.fTags.length) := if_pos h
    have d0 : decide ((1048576 : Int) - x.fKeys.length - x.fTags.length < 0) = false := decide_eq_false (by omega)
    obtain ⟨T', hT'⟩ : ∃ T', learnT x.fKeys x.fTags t = T' := ⟨_, rfl⟩
    have hTl : T'.length ≤ 1048577 := by rw [← hT']; have := learnT_le x.fKeys x.fTags t; omega
    have hTm : T'.length ≤ maxLen := by unfold maxLen; omega
    have sL := fun Ak At ck ct W hk ht => sLearn Ak At ck ct x.fKeys x.fTags t W hk ht (by omega) (by omega)
    have iL := fun Ak At ck ct W hk ht => iLearn Ak At ck ct x.fKeys x.fTags t W hk ht (by omega) (by omega)
    rw [hT'] at sL iL
    have SLE := Lib.hid sL
    have ILE := Lib.hid iL
    clear hT' sL iL
    go_enter Try.func5, Try.ntmps5
    go_wp2_with fail
    refine (szKnown_any x.aKeys x.aTags _ _ _ _ 1048576 _ (by omega) (by omega) hmK hmT).mono ?_
    rintro e w1 ⟨rfl, hb1⟩
    obtain ⟨hc, hf⟩ := bcell hb1
    have hc1_0 := fun o => hc (w.heap.size) o (by go_size)
    have hf1_0 := fun o => hf (w.heap.size) o (by go_size)
    have hz1_0 : w.heap.size < w1.heap.size := Nat.lt_of_lt_of_le (by go_size) hb1.size
    have hc1_1 := fun o => hc (w.heap.size + 1) o (by go_size)
    have hf1_1 := fun o => hf (w.heap.size + 1) o (by go_size)
    have hz1_1 : w.heap.size + 1 < w1.heap.size := Nat.lt_of_lt_of_le (by go_size) hb1.size
    clear hc hf
    have hz1 := hb1.size
    try simp at hz1
    rw [hv.out]
    go_upto_region 5 with (fail)
    refine wp_world _ (KT w x t) ⟨by (repeat' (first | (with_reducible exact Below.refl _ _) | (with_reducible assumption) | (with_reducible refine Below.alloc ?_ ?_ _) | (with_reducible refine Below.drew ?_) | (with_reducible refine below_drewN ?_ _) | (with_reducible refine Below.setCell ?_ ?_ _) | (with_reducible refine bvia ?_ (by with_reducible assumption) ?_) | go_size)), by omega, by simp [go_sem, hc1_0], by simp [go_sem, hc1_0], by simp [go_sem, hc1_1], by simp [go_sem, hc1_1], by simp [go_sem, hc1_1], by simp [go_sem, hc1_1], by simp [go_sem, hc1_1]⟩ ?_
    clear hc1_0 hc1_1 hf1_0 hf1_1 hz1_0 hz1_1 hz1 hb1 w1
    intro W hL
    have hB : Below w.heap.size w W := hL.b
    have hz : w.heap.size + 2 ≤ W.heap.size := hL.z
    have k0_W := hL.k0
    have k1_W := hL.k1
    have t0_W := hL.t0
    have t1_W := hL.t1
    have t2_W := hL.t2
    have t3_W := hL.t3
    have t4_W := hL.t4
    have HL := Lib.hid hL
    clear hL
    go_cut [6] (fun s wx => ∃ g lo hi A1 k1 A2 k2, s = .pointer (some ⟨g, 0, none⟩) ∧ KT w x t wx ∧ Below W.heap.size W wx ∧ KB wx g lo hi A1 k1 A2 k2 x.fKeys T' ∧ W.heap.size ≤ g ∧ W.heap.size ≤ lo)
    case first =>
      have Hk := Lib.hid (HL.out.next (Below.drew (Below.refl _ _) : Below W.heap.size W W.drew))
      have Hw : Hid (Below W.heap.size W W.drew) := Below.drew (Below.refl _ _)
      refine wp_region_held_drew (S := (fun w' => w'.cell? ⟨w.heap.size, 0, none⟩ = some (.slice x.aKeys x.fKeys.length x.cKeys) ∧ w'.cell? ⟨w.heap.size, 1, none⟩ = some (.slice x.aTags x.fTags.length x.cTags) ∧ w'.cell? ⟨w.heap.size + 1, 0, none⟩ = some (.int .i64 t.fKind) ∧ w'.cell? ⟨w.heap.size + 1, 1, none⟩ = some (.int .i64 t.fOne) ∧ w'.cell? ⟨w.heap.size + 1, 2, none⟩ = some (.int .i64 t.fTwo) ∧ w'.cell? ⟨w.heap.size + 1, 3, none⟩ = some (.int .i64 t.fA) ∧ w'.cell? ⟨w.heap.size + 1, 4, none⟩ = some (.int .i64 t.fB))) (by kernel_rfl) ⟨Hk.out.k0, Hk.out.k1, Hk.out.t0, Hk.out.t1, Hk.out.t2, Hk.out.t3, Hk.out.t4⟩ (fun _ => ?_)
      refine wpAnyH_take (i := 0) (v := ?_) rfl (by kernel_rfl) (by kernel_rfl) (by kernel_rfl) (fun _ _ _ h => h) (Or.inl ⟨by rfl, ?_⟩) (by assumption) ?_
      rotate_left
      · intro w' hSw
        obtain ⟨q0, q1, q2, q3, q4, q5, q6⟩ := hSw
        go_simp
        all_goals (with_reducible rfl)
      change wpAnyH _ _ _ _ _ _ _ (Act.put _ (some 18) _) _
      (try simp only [Act.put, List.setIfInBounds_toArray, List.set_cons_zero, List.set_cons_succ])
      refine wpAnyH_take (i := 2) (v := ?_) rfl (by kernel_rfl) (by kernel_rfl) (by kernel_rfl) (fun _ _ _ h => h) (Or.inl ⟨by rfl, ?_⟩) (by assumption) ?_
      rotate_left
      · intro w' hSw
        obtain ⟨q0, q1, q2, q3, q4, q5, q6⟩ := hSw
        go_simp
        all_goals (with_reducible rfl)
      change wpAnyH _ _ _ _ _ _ _ (Act.put _ (some 20) _) _
      (try simp only [Act.put, List.setIfInBounds_toArray, List.set_cons_zero, List.set_cons_succ])
      obtain ⟨V0, hV⟩ : ∃ V, W.drew = V := ⟨_, rfl⟩
      rw [hV] at Hk Hw
      rw [hV]
      clear hV
      refine wpAnyH_ready (rs := [1, 5]) (by kernel_rfl) (by simp) (AllReadyH.cons (o := _) rfl (fun K9 hK9 => ?_) (AllReadyH.cons (o := _) rfl (fun K9 hK9 => ?_) (AllReadyH.nil)))
      · go_simp
        refine (toKnown_any x.aKeys x.aTags x.cKeys x.cTags x.fKeys x.fTags _ (by exact hK.later Hk.out.b (Nat.le_refl _) Hk.out.b.size) (by exact hT.later Hk.out.b (Nat.le_refl _) Hk.out.b.size) (by omega) (by omega)).mono ?_
        rintro e w1 ⟨B1, j1, B2, j2, rfl, V1, hb1⟩
        have Hk1 := Lib.hid (Hk.out.next hb1)
        have Hw1 : Hid (Below W.heap.size W w1) := Hw.out.trans (hb1.mono Hw.out.size)
        have RX1 := Lib.hid V1
        have PX1 : Hid (w1.heap.size ≤ w1.heap.size) := Nat.le_refl _
        have hvs1 := hb1.size
        have hws1 := Hw.out.size
        refine hK9.out _ _ ⟨Hk1.out.k0, Hk1.out.k1, Hk1.out.t0, Hk1.out.t1, Hk1.out.t2, Hk1.out.t3, Hk1.out.t4⟩ (fun _ => ?_)
        clear hK9 K9 hb1
        (try simp only [Act.put, List.setIfInBounds_toArray, List.set_cons_zero, List.set_cons_succ])
        refine wpAnyH_ready (rs := [3, 5]) (by kernel_rfl) (by simp) (AllReadyH.cons (o := _) rfl (fun K9 hK9 => ?_) (AllReadyH.cons (o := _) rfl (fun K9 hK9 => ?_) (AllReadyH.nil)))
        · go_simp
          refine (toTag_any t _).mono ?_
          rintro e w2 ⟨rfl, hb2⟩
          have Hk2 := Lib.hid (Hk1.out.next hb2)
          have Hw2 : Hid (Below W.heap.size W w2) := Hw1.out.trans (hb2.mono Hw1.out.size)
          have RX2 := Lib.hid (RX1.out.keep (fun k _ hk => hb2.block k (Nat.lt_of_lt_of_le hk PX1.out)))
          have PX2 := Lib.hid (Nat.le_trans PX1.out hb2.size)
          have hvs2 := hb2.size
          have hws2 := Hw1.out.size
          refine hK9.out _ _ ⟨Hk2.out.k0, Hk2.out.k1, Hk2.out.t0, Hk2.out.t1, Hk2.out.t2, Hk2.out.t3, Hk2.out.t4⟩ (fun _ => ?_)
          clear hK9 K9 hb2
          (try simp only [Act.put, List.setIfInBounds_toArray, List.set_cons_zero, List.set_cons_succ])
          refine wpAnyH_ready (rs := [4, 5]) (by kernel_rfl) (by simp) (AllReadyH.cons (o := _) rfl (fun K9 hK9 => ?_) (AllReadyH.cons (o := _) rfl (fun K9 hK9 => ?_) (AllReadyH.nil)))
          · go_simp
            refine (SLE.out _ _ _ _ _ (by exact RX2.out.rdK) (by exact RX2.out.rdT)).mono ?_
            rintro e w3 ⟨C1, l1, C2, l2, rfl, V3, hb3⟩
            have Hk3 := Lib.hid (Hk2.out.next hb3)
            have Hw3 : Hid (Below W.heap.size W w3) := Hw2.out.trans (hb3.mono Hw2.out.size)
            have RX3 := Lib.hid (RX2.out.keep (fun k _ hk => hb3.block k (Nat.lt_of_lt_of_le hk PX2.out)))
            have PX3 := Lib.hid (Nat.le_trans PX2.out hb3.size)
            have RL3 := Lib.hid V3
            have PL3 : Hid (w3.heap.size ≤ w3.heap.size) := Nat.le_refl _
            have hvs3 := hb3.size
            have hws3 := Hw2.out.size
            refine hK9.out _ _ ⟨Hk3.out.k0, Hk3.out.k1, Hk3.out.t0, Hk3.out.t1, Hk3.out.t2, Hk3.out.t3, Hk3.out.t4⟩ (fun _ => ?_)
            clear hK9 K9 hb3
            (try simp only [Act.put, List.setIfInBounds_toArray, List.set_cons_zero, List.set_cons_succ])
            refine wpAnyH_ready (rs := [5]) (by kernel_rfl) (by simp) (AllReadyH.cons (o := _) rfl (fun K9 hK9 => ?_) (AllReadyH.nil))
            · go_simp
              have hb4 : Below w3.heap.size w3 (w3.alloc (.cells #[.slice none 0 0, .slice none 0 0] 35)) := by go_grown
              have hrow := heap_alloc_new w3 (.cells #[.slice none 0 0, .slice none 0 0] 35)
              have Hk4 := Lib.hid (Hk3.out.next hb4)
              have Hw4 : Hid (Below W.heap.size W (w3.alloc (.cells #[.slice none 0 0, .slice none 0 0] 35))) := Hw3.out.trans (hb4.mono Hw3.out.size)
              have RX4 := Lib.hid (RX3.out.keep (fun k _ hk => hb4.block k (Nat.lt_of_lt_of_le hk PX3.out)))
              have PX4 := Lib.hid (Nat.le_trans PX3.out hb4.size)
              have RL4 := Lib.hid (RL3.out.keep (fun k _ hk => hb4.block k (Nat.lt_of_lt_of_le hk PL3.out)))
              have PL4 := Lib.hid (Nat.le_trans PL3.out hb4.size)
              have Hb4 := Lib.hid hrow
              clear hrow
              have hvs4 := hb4.size
              have hws4 := Hw3.out.size
              refine hK9.out _ _ ⟨Hk4.out.k0, Hk4.out.k1, Hk4.out.t0, Hk4.out.t1, Hk4.out.t2, Hk4.out.t3, Hk4.out.t4⟩ (fun _ => ?_)
              clear hK9 K9 hb4
              (try simp only [Act.put, List.setIfInBounds_toArray, List.set_cons_zero, List.set_cons_succ])
              have hlt4 : w3.heap.size < (w3.alloc (.cells #[.slice none 0 0, .slice none 0 0] 35)).heap.size := blkLt Hb4.out
              obtain ⟨v4, hV⟩ : ∃ V, (w3.alloc (.cells #[.slice none 0 0, .slice none 0 0] 35)) = V := ⟨_, rfl⟩
              rw [hV] at Hk4 Hw4 Hb4 hvs4 RX4 PX4 RL4 PL4 hlt4
              rw [hV]
              clear hV
              obtain ⟨b4, hg⟩ : ∃ g, w3.heap.size = g := ⟨_, rfl⟩
              have hge4 : b4 = w3.heap.size := hg.symm
              rw [hg] at Hb4
              rw [hg]
              clear hg
              have Hge4 := Lib.hid hge4
              have hgl4 := Nat.le_of_eq hge4
              have hgr4 := Nat.le_of_eq hge4.symm
              clear hge4
              have hbz := blkLt Hb4.out
              have hrh := PL4.out
              have hwz := Hw4.out.size
              have z0 : v4.cell? ⟨b4, 0, none⟩ = some (.slice none 0 0) := by rw [cell_of_row _ _ _ _ _ (0, 0) Hb4.out]; rfl
              have z1 : v4.cell? ⟨b4, 1, none⟩ = some (.slice none 0 0) := by rw [cell_of_row _ _ _ _ _ (0, 0) Hb4.out]; rfl
              have y0 : v4.frozen? ⟨b4, 0, none⟩ = false := frozen_of_row _ _ _ _ _ Hb4.out
              have y1 : v4.frozen? ⟨b4, 1, none⟩ = false := frozen_of_row _ _ _ _ _ Hb4.out
              have Hs := Lib.hid (KT.set Hk4.out (b := b4) (u := .slice C1 x.fKeys.length l1) (v := .slice C2 T'.length l2) (by omega))
              have Hv := Lib.hid (bset (b := b4) (u := .slice C1 x.fKeys.length l1) (v := .slice C2 T'.length l2) Hw4.out (by omega))
              have HB9 := Lib.hid (KB.store RL4.out Hb4.out (.inr (by omega)) PL4.out)
              refine wpAnyH_ready (rs := [6]) (by kernel_rfl) (by simp) (AllReadyH.cons (o := _) rfl (fun K9 hK9 => ?_) AllReadyH.nil)
              go_simp
              refine hK9.out _ _ ⟨Hs.out.k0, Hs.out.k1, Hs.out.t0, Hs.out.t1, Hs.out.t2, Hs.out.t3, Hs.out.t4⟩ (fun _ => ?_)
              clear hK9 K9
              refine wpAnyH_done (by kernel_rfl) ?_ _
              go_wp2_with fail
              go_meet
              case rel => exact ⟨b4, _, _, C1, l1, C2, l2, rfl, Hs.out, Hv.out, HB9.out, by omega, by omega⟩
          · go_simp
            have hb5 : Below w2.heap.size w2 (w2.alloc (.cells #[.slice none 0 0, .slice none 0 0] 35)) := by go_grown
            have hrow := heap_alloc_new w2 (.cells #[.slice none 0 0, .slice none 0 0] 35)
            have Hk5 := Lib.hid (Hk2.out.next hb5)
            have Hw5 : Hid (Below W.heap.size W (w2.alloc (.cells #[.slice none 0 0, .slice none 0 0] 35))) := Hw2.out.trans (hb5.mono Hw2.out.size)
            have RX5 := Lib.hid (RX2.out.keep (fun k _ hk => hb5.block k (Nat.lt_of_lt_of_le hk PX2.out)))
            have PX5 := Lib.hid (Nat.le_trans PX2.out hb5.size)
            have Hb5 := Lib.hid hrow
            clear hrow
            have hvs5 := hb5.size
            have hws5 := Hw2.out.size
            refine hK9.out _ _ ⟨Hk5.out.k0, Hk5.out.k1, Hk5.out.t0, Hk5.out.t1, Hk5.out.t2, Hk5.out.t3, Hk5.out.t4⟩ (fun _ => ?_)
            clear hK9 K9 hb5
            (try simp only [Act.put, List.setIfInBounds_toArray, List.set_cons_zero, List.set_cons_succ])
            have hlt5 : w2.heap.size < (w2.alloc (.cells #[.slice none 0 0, .slice none 0 0] 35)).heap.size := blkLt Hb5.out
            obtain ⟨v5, hV⟩ : ∃ V, (w2.alloc (.cells #[.slice none 0 0, .slice none 0 0] 35)) = V := ⟨_, rfl⟩
            rw [hV] at Hk5 Hw5 Hb5 hvs5 RX5 PX5 hlt5
            rw [hV]
            clear hV
            obtain ⟨b5, hg⟩ : ∃ g, w2.heap.size = g := ⟨_, rfl⟩
            have hge5 : b5 = w2.heap.size := hg.symm
            rw [hg] at Hb5
            rw [hg]
            clear hg
            have Hge5 := Lib.hid hge5
            have hgl5 := Nat.le_of_eq hge5
            have hgr5 := Nat.le_of_eq hge5.symm
            clear hge5
            refine wpAnyH_ready (rs := [4]) (by kernel_rfl) (by simp) (AllReadyH.cons (o := _) rfl (fun K9 hK9 => ?_) (AllReadyH.nil))
            · go_simp
              refine (SLE.out _ _ _ _ _ (by exact RX5.out.rdK) (by exact RX5.out.rdT)).mono ?_
              rintro e w6 ⟨C1, l1, C2, l2, rfl, V6, hb6⟩
              have Hk6 := Lib.hid (Hk5.out.next hb6)
              have Hw6 : Hid (Below W.heap.size W w6) := Hw5.out.trans (hb6.mono Hw5.out.size)
              have RX6 := Lib.hid (RX5.out.keep (fun k _ hk => hb6.block k (Nat.lt_of_lt_of_le hk PX5.out)))
              have PX6 := Lib.hid (Nat.le_trans PX5.out hb6.size)
              have RL6 := Lib.hid V6
              have PL6 : Hid (w6.heap.size ≤ w6.heap.size) := Nat.le_refl _
              have Hb6 := Lib.hid ((hb6.block _ (blkLt Hb5.out)).trans Hb5.out)
              have hvs6 := hb6.size
              have hws6 := Hw5.out.size
              refine hK9.out _ _ ⟨Hk6.out.k0, Hk6.out.k1, Hk6.out.t0, Hk6.out.t1, Hk6.out.t2, Hk6.out.t3, Hk6.out.t4⟩ (fun _ => ?_)
              clear hK9 K9 hb6
              (try simp only [Act.put, List.setIfInBounds_toArray, List.set_cons_zero, List.set_cons_succ])
              have hbz := blkLt Hb6.out
              have hrh := PL6.out
              have hwz := Hw6.out.size
              have z0 : w6.cell? ⟨b5, 0, none⟩ = some (.slice none 0 0) := by rw [cell_of_row _ _ _ _ _ (0, 0) Hb6.out]; rfl
              have z1 : w6.cell? ⟨b5, 1, none⟩ = some (.slice none 0 0) := by rw [cell_of_row _ _ _ _ _ (0, 0) Hb6.out]; rfl
              have y0 : w6.frozen? ⟨b5, 0, none⟩ = false := frozen_of_row _ _ _ _ _ Hb6.out
              have y1 : w6.frozen? ⟨b5, 1, none⟩ = false := frozen_of_row _ _ _ _ _ Hb6.out
              have Hs := Lib.hid (KT.set Hk6.out (b := b5) (u := .slice C1 x.fKeys.length l1) (v := .slice C2 T'.length l2) (by omega))
              have Hv := Lib.hid (bset (b := b5) (u := .slice C1 x.fKeys.length l1) (v := .slice C2 T'.length l2) Hw6.out (by omega))
              have HB9 := Lib.hid (KB.store RL6.out Hb6.out (.inl (by omega)) PL6.out)
              refine wpAnyH_ready (rs := [6]) (by kernel_rfl) (by simp) (AllReadyH.cons (o := _) rfl (fun K9 hK9 => ?_) AllReadyH.nil)
              go_simp
              refine hK9.out _ _ ⟨Hs.out.k0, Hs.out.k1, Hs.out.t0, Hs.out.t1, Hs.out.t2, Hs.out.t3, Hs.out.t4⟩ (fun _ => ?_)
              clear hK9 K9
              refine wpAnyH_done (by kernel_rfl) ?_ _
              go_wp2_with fail
              go_meet
              case rel => exact ⟨b5, _, _, C1, l1, C2, l2, rfl, Hs.out, Hv.out, HB9.out, by omega, by omega⟩
        · go_simp
          have hb7 : Below w1.heap.size w1 (w1.alloc (.cells #[.slice none 0 0, .slice none 0 0] 35)) := by go_grown
          have hrow := heap_alloc_new w1 (.cells #[.slice none 0 0, .slice none 0 0] 35)
          have Hk7 := Lib.hid (Hk1.out.next hb7)
          have Hw7 : Hid (Below W.heap.size W (w1.alloc (.cells #[.slice none 0 0, .slice none 0 0] 35))) := Hw1.out.trans (hb7.mono Hw1.out.size)
          have RX7 := Lib.hid (RX1.out.keep (fun k _ hk => hb7.block k (Nat.lt_of_lt_of_le hk PX1.out)))
          have PX7 := Lib.hid (Nat.le_trans PX1.out hb7.size)
          have Hb7 := Lib.hid hrow
          clear hrow
          have hvs7 := hb7.size
          have hws7 := Hw1.out.size
          refine hK9.out _ _ ⟨Hk7.out.k0, Hk7.out.k1, Hk7.out.t0, Hk7.out.t1, Hk7.out.t2, Hk7.out.t3, Hk7.out.t4⟩ (fun _ => ?_)
          clear hK9 K9 hb7
          (try simp only [Act.put, List.setIfInBounds_toArray, List.set_cons_zero, List.set_cons_succ])
          have hlt7 : w1.heap.size < (w1.alloc (.cells #[.slice none 0 0, .slice none 0 0] 35)).heap.size := blkLt Hb7.out
          obtain ⟨v7, hV⟩ : ∃ V, (w1.alloc (.cells #[.slice none 0 0, .slice none 0 0] 35)) = V := ⟨_, rfl⟩
          rw [hV] at Hk7 Hw7 Hb7 hvs7 RX7 PX7 hlt7
          rw [hV]
          clear hV
          obtain ⟨b7, hg⟩ : ∃ g, w1.heap.size = g := ⟨_, rfl⟩
          have hge7 : b7 = w1.heap.size := hg.symm
          rw [hg] at Hb7
          rw [hg]
          clear hg
          have Hge7 := Lib.hid hge7
          have hgl7 := Nat.le_of_eq hge7
          have hgr7 := Nat.le_of_eq hge7.symm
          clear hge7
          refine wpAnyH_ready (rs := [3]) (by kernel_rfl) (by simp) (AllReadyH.cons (o := _) rfl (fun K9 hK9 => ?_) (AllReadyH.nil))
          · go_simp
            refine (toTag_any t _).mono ?_
            rintro e w8 ⟨rfl, hb8⟩
            have Hk8 := Lib.hid (Hk7.out.next hb8)
            have Hw8 : Hid (Below W.heap.size W w8) := Hw7.out.trans (hb8.mono Hw7.out.size)
            have RX8 := Lib.hid (RX7.out.keep (fun k _ hk => hb8.block k (Nat.lt_of_lt_of_le hk PX7.out)))
            have PX8 := Lib.hid (Nat.le_trans PX7.out hb8.size)
            have Hb8 := Lib.hid ((hb8.block _ (blkLt Hb7.out)).trans Hb7.out)
            have hvs8 := hb8.size
            have hws8 := Hw7.out.size
            refine hK9.out _ _ ⟨Hk8.out.k0, Hk8.out.k1, Hk8.out.t0, Hk8.out.t1, Hk8.out.t2, Hk8.out.t3, Hk8.out.t4⟩ (fun _ => ?_)
            clear hK9 K9 hb8
            (try simp only [Act.put, List.setIfInBounds_toArray, List.set_cons_zero, List.set_cons_succ])
            refine wpAnyH_ready (rs := [4]) (by kernel_rfl) (by simp) (AllReadyH.cons (o := _) rfl (fun K9 hK9 => ?_) (AllReadyH.nil))
            · go_simp
              refine (SLE.out _ _ _ _ _ (by exact RX8.out.rdK) (by exact RX8.out.rdT)).mono ?_
              rintro e w9 ⟨C1, l1, C2, l2, rfl, V9, hb9⟩
              have Hk9 := Lib.hid (Hk8.out.next hb9)
              have Hw9 : Hid (Below W.heap.size W w9) := Hw8.out.trans (hb9.mono Hw8.out.size)
              have RX9 := Lib.hid (RX8.out.keep (fun k _ hk => hb9.block k (Nat.lt_of_lt_of_le hk PX8.out)))
              have PX9 := Lib.hid (Nat.le_trans PX8.out hb9.size)
              have RL9 := Lib.hid V9
              have PL9 : Hid (w9.heap.size ≤ w9.heap.size) := Nat.le_refl _
              have Hb9 := Lib.hid ((hb9.block _ (blkLt Hb8.out)).trans Hb8.out)
              have hvs9 := hb9.size
              have hws9 := Hw8.out.size
              refine hK9.out _ _ ⟨Hk9.out.k0, Hk9.out.k1, Hk9.out.t0, Hk9.out.t1, Hk9.out.t2, Hk9.out.t3, Hk9.out.t4⟩ (fun _ => ?_)
              clear hK9 K9 hb9
              (try simp only [Act.put, List.setIfInBounds_toArray, List.set_cons_zero, List.set_cons_succ])
              have hbz := blkLt Hb9.out
              have hrh := PL9.out
              have hwz := Hw9.out.size
              have z0 : w9.cell? ⟨b7, 0, none⟩ = some (.slice none 0 0) := by rw [cell_of_row _ _ _ _ _ (0, 0) Hb9.out]; rfl
              have z1 : w9.cell? ⟨b7, 1, none⟩ = some (.slice none 0 0) := by rw [cell_of_row _ _ _ _ _ (0, 0) Hb9.out]; rfl
              have y0 : w9.frozen? ⟨b7, 0, none⟩ = false := frozen_of_row _ _ _ _ _ Hb9.out
              have y1 : w9.frozen? ⟨b7, 1, none⟩ = false := frozen_of_row _ _ _ _ _ Hb9.out
              have Hs := Lib.hid (KT.set Hk9.out (b := b7) (u := .slice C1 x.fKeys.length l1) (v := .slice C2 T'.length l2) (by omega))
              have Hv := Lib.hid (bset (b := b7) (u := .slice C1 x.fKeys.length l1) (v := .slice C2 T'.length l2) Hw9.out (by omega))
              have HB9 := Lib.hid (KB.store RL9.out Hb9.out (.inl (by omega)) PL9.out)
              refine wpAnyH_ready (rs := [6]) (by kernel_rfl) (by simp) (AllReadyH.cons (o := _) rfl (fun K9 hK9 => ?_) AllReadyH.nil)
              go_simp
              refine hK9.out _ _ ⟨Hs.out.k0, Hs.out.k1, Hs.out.t0, Hs.out.t1, Hs.out.t2, Hs.out.t3, Hs.out.t4⟩ (fun _ => ?_)
              clear hK9 K9
              refine wpAnyH_done (by kernel_rfl) ?_ _
              go_wp2_with fail
              go_meet
              case rel => exact ⟨b7, _, _, C1, l1, C2, l2, rfl, Hs.out, Hv.out, HB9.out, by omega, by omega⟩
      · go_simp
        have hb10 : Below V0.heap.size V0 (V0.alloc (.cells #[.slice none 0 0, .slice none 0 0] 35)) := by go_grown
        have hrow := heap_alloc_new V0 (.cells #[.slice none 0 0, .slice none 0 0] 35)
        have Hk10 := Lib.hid (Hk.out.next hb10)
        have Hw10 : Hid (Below W.heap.size W (V0.alloc (.cells #[.slice none 0 0, .slice none 0 0] 35))) := Hw.out.trans (hb10.mono Hw.out.size)
        have Hb10 := Lib.hid hrow
        clear hrow
        have hvs10 := hb10.size
        have hws10 := Hw.out.size
        refine hK9.out _ _ ⟨Hk10.out.k0, Hk10.out.k1, Hk10.out.t0, Hk10.out.t1, Hk10.out.t2, Hk10.out.t3, Hk10.out.t4⟩ (fun _ => ?_)
        clear hK9 K9 hb10
        (try simp only [Act.put, List.setIfInBounds_toArray, List.set_cons_zero, List.set_cons_succ])
        have hlt10 : V0.heap.size < (V0.alloc (.cells #[.slice none 0 0, .slice none 0 0] 35)).heap.size := blkLt Hb10.out
        obtain ⟨v10, hV⟩ : ∃ V, (V0.alloc (.cells #[.slice none 0 0, .slice none 0 0] 35)) = V := ⟨_, rfl⟩
        rw [hV] at Hk10 Hw10 Hb10 hvs10 hlt10
        rw [hV]
        clear hV
        obtain ⟨b10, hg⟩ : ∃ g, V0.heap.size = g := ⟨_, rfl⟩
        have hge10 : b10 = V0.heap.size := hg.symm
        rw [hg] at Hb10
        rw [hg]
        clear hg
        have Hge10 := Lib.hid hge10
        have hgl10 := Nat.le_of_eq hge10
        have hgr10 := Nat.le_of_eq hge10.symm
        clear hge10
        refine wpAnyH_ready (rs := [1]) (by kernel_rfl) (by simp) (AllReadyH.cons (o := _) rfl (fun K9 hK9 => ?_) (AllReadyH.nil))
        · go_simp
          refine (toKnown_any x.aKeys x.aTags x.cKeys x.cTags x.fKeys x.fTags _ (by exact hK.later Hk10.out.b (Nat.le_refl _) Hk10.out.b.size) (by exact hT.later Hk10.out.b (Nat.le_refl _) Hk10.out.b.size) (by omega) (by omega)).mono ?_
          rintro e w11 ⟨B1, j1, B2, j2, rfl, V11, hb11⟩
          have Hk11 := Lib.hid (Hk10.out.next hb11)
          have Hw11 : Hid (Below W.heap.size W w11) := Hw10.out.trans (hb11.mono Hw10.out.size)
          have RX11 := Lib.hid V11
          have PX11 : Hid (w11.heap.size ≤ w11.heap.size) := Nat.le_refl _
          have Hb11 := Lib.hid ((hb11.block _ (blkLt Hb10.out)).trans Hb10.out)
          have hvs11 := hb11.size
          have hws11 := Hw10.out.size
          refine hK9.out _ _ ⟨Hk11.out.k0, Hk11.out.k1, Hk11.out.t0, Hk11.out.t1, Hk11.out.t2, Hk11.out.t3, Hk11.out.t4⟩ (fun _ => ?_)
          clear hK9 K9 hb11
          (try simp only [Act.put, List.setIfInBounds_toArray, List.set_cons_zero, List.set_cons_succ])
          refine wpAnyH_ready (rs := [3]) (by kernel_rfl) (by simp) (AllReadyH.cons (o := _) rfl (fun K9 hK9 => ?_) (AllReadyH.nil))
          · go_simp
            refine (toTag_any t _).mono ?_
            rintro e w12 ⟨rfl, hb12⟩
            have Hk12 := Lib.hid (Hk11.out.next hb12)
            have Hw12 : Hid (Below W.heap.size W w12) := Hw11.out.trans (hb12.mono Hw11.out.size)
            have RX12 := Lib.hid (RX11.out.keep (fun k _ hk => hb12.block k (Nat.lt_of_lt_of_le hk PX11.out)))
            have PX12 := Lib.hid (Nat.le_trans PX11.out hb12.size)
            have Hb12 := Lib.hid ((hb12.block _ (blkLt Hb11.out)).trans Hb11.out)
            have hvs12 := hb12.size
            have hws12 := Hw11.out.size
            refine hK9.out _ _ ⟨Hk12.out.k0, Hk12.out.k1, Hk12.out.t0, Hk12.out.t1, Hk12.out.t2, Hk12.out.t3, Hk12.out.t4⟩ (fun _ => ?_)
            clear hK9 K9 hb12
            (try simp only [Act.put, List.setIfInBounds_toArray, List.set_cons_zero, List.set_cons_succ])
            refine wpAnyH_ready (rs := [4]) (by kernel_rfl) (by simp) (AllReadyH.cons (o := _) rfl (fun K9 hK9 => ?_) (AllReadyH.nil))
            · go_simp
              refine (SLE.out _ _ _ _ _ (by exact RX12.out.rdK) (by exact RX12.out.rdT)).mono ?_
              rintro e w13 ⟨C1, l1, C2, l2, rfl, V13, hb13⟩
              have Hk13 := Lib.hid (Hk12.out.next hb13)
              have Hw13 : Hid (Below W.heap.size W w13) := Hw12.out.trans (hb13.mono Hw12.out.size)
              have RX13 := Lib.hid (RX12.out.keep (fun k _ hk => hb13.block k (Nat.lt_of_lt_of_le hk PX12.out)))
              have PX13 := Lib.hid (Nat.le_trans PX12.out hb13.size)
              have RL13 := Lib.hid V13
              have PL13 : Hid (w13.heap.size ≤ w13.heap.size) := Nat.le_refl _
              have Hb13 := Lib.hid ((hb13.block _ (blkLt Hb12.out)).trans Hb12.out)
              have hvs13 := hb13.size
              have hws13 := Hw12.out.size
              refine hK9.out _ _ ⟨Hk13.out.k0, Hk13.out.k1, Hk13.out.t0, Hk13.out.t1, Hk13.out.t2, Hk13.out.t3, Hk13.out.t4⟩ (fun _ => ?_)
              clear hK9 K9 hb13
              (try simp only [Act.put, List.setIfInBounds_toArray, List.set_cons_zero, List.set_cons_succ])
              have hbz := blkLt Hb13.out
              have hrh := PL13.out
              have hwz := Hw13.out.size
              have z0 : w13.cell? ⟨b10, 0, none⟩ = some (.slice none 0 0) := by rw [cell_of_row _ _ _ _ _ (0, 0) Hb13.out]; rfl
              have z1 : w13.cell? ⟨b10, 1, none⟩ = some (.slice none 0 0) := by rw [cell_of_row _ _ _ _ _ (0, 0) Hb13.out]; rfl
              have y0 : w13.frozen? ⟨b10, 0, none⟩ = false := frozen_of_row _ _ _ _ _ Hb13.out
              have y1 : w13.frozen? ⟨b10, 1, none⟩ = false := frozen_of_row _ _ _ _ _ Hb13.out
              have Hs := Lib.hid (KT.set Hk13.out (b := b10) (u := .slice C1 x.fKeys.length l1) (v := .slice C2 T'.length l2) (by omega))
              have Hv := Lib.hid (bset (b := b10) (u := .slice C1 x.fKeys.length l1) (v := .slice C2 T'.length l2) Hw13.out (by omega))
              have HB9 := Lib.hid (KB.store RL13.out Hb13.out (.inl (by omega)) PL13.out)
              refine wpAnyH_ready (rs := [6]) (by kernel_rfl) (by simp) (AllReadyH.cons (o := _) rfl (fun K9 hK9 => ?_) AllReadyH.nil)
              go_simp
              refine hK9.out _ _ ⟨Hs.out.k0, Hs.out.k1, Hs.out.t0, Hs.out.t1, Hs.out.t2, Hs.out.t3, Hs.out.t4⟩ (fun _ => ?_)
              clear hK9 K9
              refine wpAnyH_done (by kernel_rfl) ?_ _
              go_wp2_with fail
              go_meet
              case rel => exact ⟨b10, _, _, C1, l1, C2, l2, rfl, Hs.out, Hv.out, HB9.out, by omega, by omega⟩
    case rest =>
      obtain ⟨g6, lo6, hi6, A6, k6, C6, l6, rfl, hL, -, hB6, -, -⟩ := hcut
      clear HL hB hz k0_W k1_W t0_W t1_W t2_W t3_W t4_W
      have HL := Lib.hid hL
      have HB6 := Lib.hid hB6
      clear hL hB6
      have e6 := And.intro HB6.out.hl HB6.out.gl
      have hlo7 := HL.out.z
      have c0 := HL.out.k0
      have c1 := HL.out.k1
      go_wp2_with fail
      refine (toKnown_any x.aKeys x.aTags x.cKeys x.cTags x.fKeys x.fTags _ (by exact hK.later HL.out.b (Nat.le_refl _) HL.out.b.size) (by exact hT.later HL.out.b (Nat.le_refl _) HL.out.b.size) (by omega) (by omega)).mono ?_
      rintro e w101 ⟨A7, k7, C7, l7, rfl, V7, hb101⟩
      clear c0 c1
      have z7 := hb101.size
      have HL_101 := Lib.hid (HL.out.next hb101)
      have HB6_101 := Lib.hid (HB6.out.next hb101)
      clear hb101 HL HB6
      go_upto_region 7 with (fail)
      refine wp_world _ (fun W => KT w x t W ∧ KB W g6 lo6 hi6 A6 k6 C6 l6 x.fKeys T' ∧ KB W w101.heap.size wc.heap.size w101.heap.size A7 k7 C7 l7 x.fKeys x.fTags) ⟨HL_101.out.next (by (repeat' (first | (with_reducible exact Below.refl _ _) | (with_reducible assumption) | (with_reducible refine Below.alloc ?_ ?_ _) | (with_reducible refine Below.drew ?_) | (with_reducible refine below_drewN ?_ _) | (with_reducible refine Below.setCell ?_ ?_ _) | (with_reducible refine bvia ?_ (by with_reducible assumption) ?_) | go_size))), HB6_101.out.next (by (repeat' (first | (with_reducible exact Below.refl _ _) | (with_reducible assumption) | (with_reducible refine Below.alloc ?_ ?_ _) | (with_reducible refine Below.drew ?_) | (with_reducible refine below_drewN ?_ _) | (with_reducible refine Below.setCell ?_ ?_ _) | (with_reducible refine bvia ?_ (by with_reducible assumption) ?_) | go_size))), ⟨by simp [go_sem], by simp [go_sem], V7.keep (fun k _ hk => Below.heap_alloc _ _ _ hk), .inr (Nat.le_refl _), by simp, by simp⟩⟩ ?_
      obtain ⟨lo7, q7⟩ : ∃ k, wc.heap.size = k := ⟨_, rfl⟩
      obtain ⟨g7, r7⟩ : ∃ k, w101.heap.size = k := ⟨_, rfl⟩
      rw [q7] at e6 z7 hlo7
      rw [r7] at z7
      rw [q7, r7]
      skip
      clear q7 r7 V7 HL_101 HB6_101
      rintro W ⟨hL, hB6, hB7⟩
      have HL := Lib.hid hL
      have HB6 := Lib.hid hB6
      have HB7 := Lib.hid hB7
      clear hL hB6 hB7
      have hz : w.heap.size + 2 ≤ W.heap.size := HL.out.z
      have e7 := And.intro HB7.out.hl HB7.out.gl
      go_cut [8] (fun s wx => ∃ g lo hi A1 k1 A2 k2, s = .pointer (some ⟨g, 0, none⟩) ∧ KT w x t wx ∧ Below W.heap.size W wx ∧ KB wx g lo hi A1 k1 A2 k2 x.fKeys T' ∧ W.heap.size ≤ g ∧ W.heap.size ≤ lo)
      case first =>
        have Hk := Lib.hid (HL.out.next (Below.drew (Below.refl _ _) : Below W.heap.size W W.drew))
        have Hw : Hid (Below W.heap.size W W.drew) := Below.drew (Below.refl _ _)
        refine wp_region_held_drew (S := (fun w' => w'.cell? ⟨w.heap.size, 0, none⟩ = some (.slice x.aKeys x.fKeys.length x.cKeys) ∧ w'.cell? ⟨w.heap.size, 1, none⟩ = some (.slice x.aTags x.fTags.length x.cTags) ∧ w'.cell? ⟨w.heap.size + 1, 0, none⟩ = some (.int .i64 t.fKind) ∧ w'.cell? ⟨w.heap.size + 1, 1, none⟩ = some (.int .i64 t.fOne) ∧ w'.cell? ⟨w.heap.size + 1, 2, none⟩ = some (.int .i64 t.fTwo) ∧ w'.cell? ⟨w.heap.size + 1, 3, none⟩ = some (.int .i64 t.fA) ∧ w'.cell? ⟨w.heap.size + 1, 4, none⟩ = some (.int .i64 t.fB) ∧ w'.cell? ⟨g7, 0, none⟩ = some (.slice A7 x.fKeys.length k7) ∧ w'.cell? ⟨g7, 1, none⟩ = some (.slice C7 x.fTags.length l7))) (by kernel_rfl) ⟨Hk.out.k0, Hk.out.k1, Hk.out.t0, Hk.out.t1, Hk.out.t2, Hk.out.t3, Hk.out.t4, (HB7.out.next Hw.out).g0, (HB7.out.next Hw.out).g1⟩ (fun _ => ?_)
        refine wpAnyH_take (i := 0) (v := ?_) rfl (by kernel_rfl) (by kernel_rfl) (by kernel_rfl) (fun _ _ _ h => h) (Or.inl ⟨by rfl, ?_⟩) (by assumption) ?_
        rotate_left
        · intro w' hSw
          obtain ⟨q0, q1, q2, q3, q4, q5, q6, q7, q8⟩ := hSw
          go_simp
          all_goals (with_reducible rfl)
        change wpAnyH _ _ _ _ _ _ _ (Act.put _ (some 25) _) _
        (try simp only [Act.put, List.setIfInBounds_toArray, List.set_cons_zero, List.set_cons_succ])
        refine wpAnyH_take (i := 1) (v := ?_) rfl (by kernel_rfl) (by kernel_rfl) (by kernel_rfl) (fun _ _ _ h => h) (Or.inl ⟨by rfl, ?_⟩) (by assumption) ?_
        rotate_left
        · intro w' hSw
          obtain ⟨q0, q1, q2, q3, q4, q5, q6, q7, q8⟩ := hSw
          go_simp
          all_goals (with_reducible rfl)
        change wpAnyH _ _ _ _ _ _ _ (Act.put _ (some 26) _) _
        (try simp only [Act.put, List.setIfInBounds_toArray, List.set_cons_zero, List.set_cons_succ])
        obtain ⟨V0, hV⟩ : ∃ V, W.drew = V := ⟨_, rfl⟩
        rw [hV] at Hk Hw
        rw [hV]
        clear hV
        refine wpAnyH_ready (rs := [2, 4]) (by kernel_rfl) (by simp) (AllReadyH.cons (o := _) rfl (fun K9 hK9 => ?_) (AllReadyH.cons (o := _) rfl (fun K9 hK9 => ?_) (AllReadyH.nil)))
        · go_simp
          refine (toTag_any t _).mono ?_
          rintro e w14 ⟨rfl, hb14⟩
          have Hk14 := Lib.hid (Hk.out.next hb14)
          have Hw14 : Hid (Below W.heap.size W w14) := Hw.out.trans (hb14.mono Hw.out.size)
          have hvs14 := hb14.size
          have hws14 := Hw.out.size
          refine hK9.out _ _ ⟨Hk14.out.k0, Hk14.out.k1, Hk14.out.t0, Hk14.out.t1, Hk14.out.t2, Hk14.out.t3, Hk14.out.t4, (HB7.out.next Hw14.out).g0, (HB7.out.next Hw14.out).g1⟩ (fun _ => ?_)
          clear hK9 K9 hb14
          (try simp only [Act.put, List.setIfInBounds_toArray, List.set_cons_zero, List.set_cons_succ])
          refine wpAnyH_ready (rs := [3, 4]) (by kernel_rfl) (by simp) (AllReadyH.cons (o := _) rfl (fun K9 hK9 => ?_) (AllReadyH.cons (o := _) rfl (fun K9 hK9 => ?_) (AllReadyH.nil)))
          · go_simp
            refine (ILE.out _ _ _ _ _ (by exact (HB7.out.next Hw14.out).kn.rdK) (by exact (HB7.out.next Hw14.out).kn.rdT)).mono ?_
            rintro e w15 ⟨C1, l1, C2, l2, rfl, V15, hb15⟩
            have Hk15 := Lib.hid (Hk14.out.next hb15)
            have Hw15 : Hid (Below W.heap.size W w15) := Hw14.out.trans (hb15.mono Hw14.out.size)
            have RL15 := Lib.hid V15
            have PL15 : Hid (w15.heap.size ≤ w15.heap.size) := Nat.le_refl _
            have hvs15 := hb15.size
            have hws15 := Hw14.out.size
            refine hK9.out _ _ ⟨Hk15.out.k0, Hk15.out.k1, Hk15.out.t0, Hk15.out.t1, Hk15.out.t2, Hk15.out.t3, Hk15.out.t4, (HB7.out.next Hw15.out).g0, (HB7.out.next Hw15.out).g1⟩ (fun _ => ?_)
            clear hK9 K9 hb15
            (try simp only [Act.put, List.setIfInBounds_toArray, List.set_cons_zero, List.set_cons_succ])
            refine wpAnyH_ready (rs := [4]) (by kernel_rfl) (by simp) (AllReadyH.cons (o := _) rfl (fun K9 hK9 => ?_) (AllReadyH.nil))
            · go_simp
              have hb16 : Below w15.heap.size w15 (w15.alloc (.cells #[.slice none 0 0, .slice none 0 0] 35)) := by go_grown
              have hrow := heap_alloc_new w15 (.cells #[.slice none 0 0, .slice none 0 0] 35)
              have Hk16 := Lib.hid (Hk15.out.next hb16)
              have Hw16 : Hid (Below W.heap.size W (w15.alloc (.cells #[.slice none 0 0, .slice none 0 0] 35))) := Hw15.out.trans (hb16.mono Hw15.out.size)
              have RL16 := Lib.hid (RL15.out.keep (fun k _ hk => hb16.block k (Nat.lt_of_lt_of_le hk PL15.out)))
              have PL16 := Lib.hid (Nat.le_trans PL15.out hb16.size)
              have Hb16 := Lib.hid hrow
              clear hrow
              have hvs16 := hb16.size
              have hws16 := Hw15.out.size
              refine hK9.out _ _ ⟨Hk16.out.k0, Hk16.out.k1, Hk16.out.t0, Hk16.out.t1, Hk16.out.t2, Hk16.out.t3, Hk16.out.t4, (HB7.out.next Hw16.out).g0, (HB7.out.next Hw16.out).g1⟩ (fun _ => ?_)
              clear hK9 K9 hb16
              (try simp only [Act.put, List.setIfInBounds_toArray, List.set_cons_zero, List.set_cons_succ])
              have hlt16 : w15.heap.size < (w15.alloc (.cells #[.slice none 0 0, .slice none 0 0] 35)).heap.size := blkLt Hb16.out
              obtain ⟨v16, hV⟩ : ∃ V, (w15.alloc (.cells #[.slice none 0 0, .slice none 0 0] 35)) = V := ⟨_, rfl⟩
              rw [hV] at Hk16 Hw16 Hb16 hvs16 RL16 PL16 hlt16
              rw [hV]
              clear hV
              obtain ⟨b16, hg⟩ : ∃ g, w15.heap.size = g := ⟨_, rfl⟩
              have hge16 : b16 = w15.heap.size := hg.symm
              rw [hg] at Hb16
              rw [hg]
              clear hg
              have Hge16 := Lib.hid hge16
              have hgl16 := Nat.le_of_eq hge16
              have hgr16 := Nat.le_of_eq hge16.symm
              clear hge16
              have hbz := blkLt Hb16.out
              have hrh := PL16.out
              have hwz := Hw16.out.size
              have z0 : v16.cell? ⟨b16, 0, none⟩ = some (.slice none 0 0) := by rw [cell_of_row _ _ _ _ _ (0, 0) Hb16.out]; rfl
              have z1 : v16.cell? ⟨b16, 1, none⟩ = some (.slice none 0 0) := by rw [cell_of_row _ _ _ _ _ (0, 0) Hb16.out]; rfl
              have y0 : v16.frozen? ⟨b16, 0, none⟩ = false := frozen_of_row _ _ _ _ _ Hb16.out
              have y1 : v16.frozen? ⟨b16, 1, none⟩ = false := frozen_of_row _ _ _ _ _ Hb16.out
              have Hs := Lib.hid (KT.set Hk16.out (b := b16) (u := .slice C1 x.fKeys.length l1) (v := .slice C2 T'.length l2) (by omega))
              have Hv := Lib.hid (bset (b := b16) (u := .slice C1 x.fKeys.length l1) (v := .slice C2 T'.length l2) Hw16.out (by omega))
              have HB9 := Lib.hid (KB.store RL16.out Hb16.out (.inr (by omega)) PL16.out)
              refine wpAnyH_ready (rs := [5]) (by kernel_rfl) (by simp) (AllReadyH.cons (o := _) rfl (fun K9 hK9 => ?_) AllReadyH.nil)
              go_simp
              refine hK9.out _ _ ⟨Hs.out.k0, Hs.out.k1, Hs.out.t0, Hs.out.t1, Hs.out.t2, Hs.out.t3, Hs.out.t4, (HB7.out.next Hv.out).g0, (HB7.out.next Hv.out).g1⟩ (fun _ => ?_)
              clear hK9 K9
              refine wpAnyH_done (by kernel_rfl) ?_ _
              go_wp2_with fail
              go_meet
              case rel => exact ⟨b16, _, _, C1, l1, C2, l2, rfl, Hs.out, Hv.out, HB9.out, by omega, by omega⟩
          · go_simp
            have hb17 : Below w14.heap.size w14 (w14.alloc (.cells #[.slice none 0 0, .slice none 0 0] 35)) := by go_grown
            have hrow := heap_alloc_new w14 (.cells #[.slice none 0 0, .slice none 0 0] 35)
            have Hk17 := Lib.hid (Hk14.out.next hb17)
            have Hw17 : Hid (Below W.heap.size W (w14.alloc (.cells #[.slice none 0 0, .slice none 0 0] 35))) := Hw14.out.trans (hb17.mono Hw14.out.size)
            have Hb17 := Lib.hid hrow
            clear hrow
            have hvs17 := hb17.size
            have hws17 := Hw14.out.size
            refine hK9.out _ _ ⟨Hk17.out.k0, Hk17.out.k1, Hk17.out.t0, Hk17.out.t1, Hk17.out.t2, Hk17.out.t3, Hk17.out.t4, (HB7.out.next Hw17.out).g0, (HB7.out.next Hw17.out).g1⟩ (fun _ => ?_)
            clear hK9 K9 hb17
            (try simp only [Act.put, List.setIfInBounds_toArray, List.set_cons_zero, List.set_cons_succ])
            have hlt17 : w14.heap.size < (w14.alloc (.cells #[.slice none 0 0, .slice none 0 0] 35)).heap.size := blkLt Hb17.out
            obtain ⟨v17, hV⟩ : ∃ V, (w14.alloc (.cells #[.slice none 0 0, .slice none 0 0] 35)) = V := ⟨_, rfl⟩
            rw [hV] at Hk17 Hw17 Hb17 hvs17 hlt17
            rw [hV]
            clear hV
            obtain ⟨b17, hg⟩ : ∃ g, w14.heap.size = g := ⟨_, rfl⟩
            have hge17 : b17 = w14.heap.size := hg.symm
            rw [hg] at Hb17
            rw [hg]
            clear hg
            have Hge17 := Lib.hid hge17
            have hgl17 := Nat.le_of_eq hge17
            have hgr17 := Nat.le_of_eq hge17.symm
            clear hge17
            refine wpAnyH_ready (rs := [3]) (by kernel_rfl) (by simp) (AllReadyH.cons (o := _) rfl (fun K9 hK9 => ?_) (AllReadyH.nil))
            · go_simp
              refine (ILE.out _ _ _ _ _ (by exact (HB7.out.next Hw17.out).kn.rdK) (by exact (HB7.out.next Hw17.out).kn.rdT)).mono ?_
              rintro e w18 ⟨C1, l1, C2, l2, rfl, V18, hb18⟩
              have Hk18 := Lib.hid (Hk17.out.next hb18)
              have Hw18 : Hid (Below W.heap.size W w18) := Hw17.out.trans (hb18.mono Hw17.out.size)
              have RL18 := Lib.hid V18
              have PL18 : Hid (w18.heap.size ≤ w18.heap.size) := Nat.le_refl _
              have Hb18 := Lib.hid ((hb18.block _ (blkLt Hb17.out)).trans Hb17.out)
              have hvs18 := hb18.size
              have hws18 := Hw17.out.size
              refine hK9.out _ _ ⟨Hk18.out.k0, Hk18.out.k1, Hk18.out.t0, Hk18.out.t1, Hk18.out.t2, Hk18.out.t3, Hk18.out.t4, (HB7.out.next Hw18.out).g0, (HB7.out.next Hw18.out).g1⟩ (fun _ => ?_)
              clear hK9 K9 hb18
              (try simp only [Act.put, List.setIfInBounds_toArray, List.set_cons_zero, List.set_cons_succ])
              have hbz := blkLt Hb18.out
              have hrh := PL18.out
              have hwz := Hw18.out.size
              have z0 : w18.cell? ⟨b17, 0, none⟩ = some (.slice none 0 0) := by rw [cell_of_row _ _ _ _ _ (0, 0) Hb18.out]; rfl
              have z1 : w18.cell? ⟨b17, 1, none⟩ = some (.slice none 0 0) := by rw [cell_of_row _ _ _ _ _ (0, 0) Hb18.out]; rfl
              have y0 : w18.frozen? ⟨b17, 0, none⟩ = false := frozen_of_row _ _ _ _ _ Hb18.out
              have y1 : w18.frozen? ⟨b17, 1, none⟩ = false := frozen_of_row _ _ _ _ _ Hb18.out
              have Hs := Lib.hid (KT.set Hk18.out (b := b17) (u := .slice C1 x.fKeys.length l1) (v := .slice C2 T'.length l2) (by omega))
              have Hv := Lib.hid (bset (b := b17) (u := .slice C1 x.fKeys.length l1) (v := .slice C2 T'.length l2) Hw18.out (by omega))
              have HB9 := Lib.hid (KB.store RL18.out Hb18.out (.inl (by omega)) PL18.out)
              refine wpAnyH_ready (rs := [5]) (by kernel_rfl) (by simp) (AllReadyH.cons (o := _) rfl (fun K9 hK9 => ?_) AllReadyH.nil)
              go_simp
              refine hK9.out _ _ ⟨Hs.out.k0, Hs.out.k1, Hs.out.t0, Hs.out.t1, Hs.out.t2, Hs.out.t3, Hs.out.t4, (HB7.out.next Hv.out).g0, (HB7.out.next Hv.out).g1⟩ (fun _ => ?_)
              clear hK9 K9
              refine wpAnyH_done (by kernel_rfl) ?_ _
              go_wp2_with fail
              go_meet
              case rel => exact ⟨b17, _, _, C1, l1, C2, l2, rfl, Hs.out, Hv.out, HB9.out, by omega, by omega⟩
        · go_simp
          have hb19 : Below V0.heap.size V0 (V0.alloc (.cells #[.slice none 0 0, .slice none 0 0] 35)) := by go_grown
          have hrow := heap_alloc_new V0 (.cells #[.slice none 0 0, .slice none 0 0] 35)
          have Hk19 := Lib.hid (Hk.out.next hb19)
          have Hw19 : Hid (Below W.heap.size W (V0.alloc (.cells #[.slice none 0 0, .slice none 0 0] 35))) := Hw.out.trans (hb19.mono Hw.out.size)
          have Hb19 := Lib.hid hrow
          clear hrow
          have hvs19 := hb19.size
          have hws19 := Hw.out.size
          refine hK9.out _ _ ⟨Hk19.out.k0, Hk19.out.k1, Hk19.out.t0, Hk19.out.t1, Hk19.out.t2, Hk19.out.t3, Hk19.out.t4, (HB7.out.next Hw19.out).g0, (HB7.out.next Hw19.out).g1⟩ (fun _ => ?_)
          clear hK9 K9 hb19
          (try simp only [Act.put, List.setIfInBounds_toArray, List.set_cons_zero, List.set_cons_succ])
          have hlt19 : V0.heap.size < (V0.alloc (.cells #[.slice none 0 0, .slice none 0 0] 35)).heap.size := blkLt Hb19.out
          obtain ⟨v19, hV⟩ : ∃ V, (V0.alloc (.cells #[.slice none 0 0, .slice none 0 0] 35)) = V := ⟨_, rfl⟩
          rw [hV] at Hk19 Hw19 Hb19 hvs19 hlt19
          rw [hV]
          clear hV
          obtain ⟨b19, hg⟩ : ∃ g, V0.heap.size = g := ⟨_, rfl⟩
          have hge19 : b19 = V0.heap.size := hg.symm
          rw [hg] at Hb19
          rw [hg]
          clear hg
          have Hge19 := Lib.hid hge19
          have hgl19 := Nat.le_of_eq hge19
          have hgr19 := Nat.le_of_eq hge19.symm
          clear hge19
          refine wpAnyH_ready (rs := [2]) (by kernel_rfl) (by simp) (AllReadyH.cons (o := _) rfl (fun K9 hK9 => ?_) (AllReadyH.nil))
          · go_simp
            refine (toTag_any t _).mono ?_
            rintro e w20 ⟨rfl, hb20⟩
            have Hk20 := Lib.hid (Hk19.out.next hb20)
            have Hw20 : Hid (Below W.heap.size W w20) := Hw19.out.trans (hb20.mono Hw19.out.size)
            have Hb20 := Lib.hid ((hb20.block _ (blkLt Hb19.out)).trans Hb19.out)
            have hvs20 := hb20.size
            have hws20 := Hw19.out.size
            refine hK9.out _ _ ⟨Hk20.out.k0, Hk20.out.k1, Hk20.out.t0, Hk20.out.t1, Hk20.out.t2, Hk20.out.t3, Hk20.out.t4, (HB7.out.next Hw20.out).g0, (HB7.out.next Hw20.out).g1⟩ (fun _ => ?_)
            clear hK9 K9 hb20
            (try simp only [Act.put, List.setIfInBounds_toArray, List.set_cons_zero, List.set_cons_succ])
            refine wpAnyH_ready (rs := [3]) (by kernel_rfl) (by simp) (AllReadyH.cons (o := _) rfl (fun K9 hK9 => ?_) (AllReadyH.nil))
            · go_simp
              refine (ILE.out _ _ _ _ _ (by exact (HB7.out.next Hw20.out).kn.rdK) (by exact (HB7.out.next Hw20.out).kn.rdT)).mono ?_
              rintro e w21 ⟨C1, l1, C2, l2, rfl, V21, hb21⟩
              have Hk21 := Lib.hid (Hk20.out.next hb21)
              have Hw21 : Hid (Below W.heap.size W w21) := Hw20.out.trans (hb21.mono Hw20.out.size)
              have RL21 := Lib.hid V21
              have PL21 : Hid (w21.heap.size ≤ w21.heap.size) := Nat.le_refl _
              have Hb21 := Lib.hid ((hb21.block _ (blkLt Hb20.out)).trans Hb20.out)
              have hvs21 := hb21.size
              have hws21 := Hw20.out.size
              refine hK9.out _ _ ⟨Hk21.out.k0, Hk21.out.k1, Hk21.out.t0, Hk21.out.t1, Hk21.out.t2, Hk21.out.t3, Hk21.out.t4, (HB7.out.next Hw21.out).g0, (HB7.out.next Hw21.out).g1⟩ (fun _ => ?_)
              clear hK9 K9 hb21
              (try simp only [Act.put, List.setIfInBounds_toArray, List.set_cons_zero, List.set_cons_succ])
              have hbz := blkLt Hb21.out
              have hrh := PL21.out
              have hwz := Hw21.out.size
              have z0 : w21.cell? ⟨b19, 0, none⟩ = some (.slice none 0 0) := by rw [cell_of_row _ _ _ _ _ (0, 0) Hb21.out]; rfl
              have z1 : w21.cell? ⟨b19, 1, none⟩ = some (.slice none 0 0) := by rw [cell_of_row _ _ _ _ _ (0, 0) Hb21.out]; rfl
              have y0 : w21.frozen? ⟨b19, 0, none⟩ = false := frozen_of_row _ _ _ _ _ Hb21.out
              have y1 : w21.frozen? ⟨b19, 1, none⟩ = false := frozen_of_row _ _ _ _ _ Hb21.out
              have Hs := Lib.hid (KT.set Hk21.out (b := b19) (u := .slice C1 x.fKeys.length l1) (v := .slice C2 T'.length l2) (by omega))
              have Hv := Lib.hid (bset (b := b19) (u := .slice C1 x.fKeys.length l1) (v := .slice C2 T'.length l2) Hw21.out (by omega))
              have HB9 := Lib.hid (KB.store RL21.out Hb21.out (.inl (by omega)) PL21.out)
              refine wpAnyH_ready (rs := [5]) (by kernel_rfl) (by simp) (AllReadyH.cons (o := _) rfl (fun K9 hK9 => ?_) AllReadyH.nil)
              go_simp
              refine hK9.out _ _ ⟨Hs.out.k0, Hs.out.k1, Hs.out.t0, Hs.out.t1, Hs.out.t2, Hs.out.t3, Hs.out.t4, (HB7.out.next Hv.out).g0, (HB7.out.next Hv.out).g1⟩ (fun _ => ?_)
              clear hK9 K9
              refine wpAnyH_done (by kernel_rfl) ?_ _
              go_wp2_with fail
              go_meet
              case rel => exact ⟨b19, _, _, C1, l1, C2, l2, rfl, Hs.out, Hv.out, HB9.out, by omega, by omega⟩
      case rest =>
        obtain ⟨g8, lo8, hi8, A8, k8, C8, l8, rfl, hL, hWw, hB8, hg8, hl8⟩ := hcut
        have HB6' := Lib.hid (HB6.out.next hWw)
        have HB7' := Lib.hid (HB7.out.next hWw)
        have HL' := Lib.hid hL
        have HB8 := Lib.hid hB8
        have hgn8 := hB8.gn
        clear HL HB6 HB7 hL hB8 hWw hz
        have p00 := HB8.out.g0
        have p01 := HB8.out.g1
        have p02 := HB8.out.gl
        have p10 := HB6'.out.g0
        have p11 := HB6'.out.g1
        have p12 := HB6'.out.gl
        go_wp2_with fail
        refine (eqKnown_same _ _ _ _ _ _ _ _ x.fKeys T' _ (by exact HB8.out.kn.rdK) (by exact HB8.out.kn.rdT) (by exact HB6'.out.kn.rdK) (by exact HB6'.out.kn.rdT) hmK hTm).mono ?_
        rintro e w102 ⟨rfl, hb102⟩
        clear p00 p01 p02 p10 p11 p12
        have HL_102 := Lib.hid (HL'.out.next hb102)
        have HB6_102 := Lib.hid (HB6'.out.next hb102)
        have HB7_102 := Lib.hid (HB7'.out.next hb102)
        have HB8_102 := Lib.hid (HB8.out.next hb102)
        clear hb102 HL' HB6' HB7' HB8
        have c0 := HL_102.out.k0
        have c1 := HL_102.out.k1
        have p00 := HB7_102.out.g0
        have p01 := HB7_102.out.g1
        have p02 := HB7_102.out.gl
        go_wp2_with fail
        refine wp_region_held_drew (S := (fun w' => w'.cell? ⟨w.heap.size, 0, none⟩ = some (.slice x.aKeys x.fKeys.length x.cKeys) ∧ w'.cell? ⟨w.heap.size, 1, none⟩ = some (.slice x.aTags x.fTags.length x.cTags) ∧ w'.cell? ⟨g7, 0, none⟩ = some (.slice A7 x.fKeys.length k7) ∧ w'.cell? ⟨g7, 1, none⟩ = some (.slice C7 x.fTags.length l7))) (by kernel_rfl) ⟨c0, c1, p00, p01⟩ (fun _ => ?_)
        refine wpAnyH_take (i := 0) (v := ?_) rfl (by kernel_rfl) (by kernel_rfl) (by kernel_rfl) (fun _ _ _ h => h) (Or.inl ⟨by rfl, ?_⟩) (by assumption) ?_
        rotate_left
        · intro w' hSw
          obtain ⟨-, -, q0, q1⟩ := hSw
          go_simp
          all_goals (with_reducible rfl)
        change wpAnyH _ _ _ _ _ _ _ (Act.put _ (some 33) _) _
        (try simp only [Act.put, List.setIfInBounds_toArray, List.set_cons_zero, List.set_cons_succ])
        refine wpAnyH_take (i := 1) (v := ?_) rfl (by kernel_rfl) (by kernel_rfl) (by kernel_rfl) (fun _ _ _ h => h) (Or.inl ⟨by rfl, ?_⟩) (by assumption) ?_
        rotate_left
        · intro w' hSw
          obtain ⟨q0, q1, -, -⟩ := hSw
          go_simp
          all_goals (with_reducible rfl)
        change wpAnyH _ _ _ _ _ _ _ (Act.put _ (some 34) _) _
        (try simp only [Act.put, List.setIfInBounds_toArray, List.set_cons_zero, List.set_cons_succ])
        refine wpAnyH_ready (rs := [2]) (by kernel_rfl) (by simp) (AllReadyH.cons (o := _) rfl (fun K9 hK9 => ?_) AllReadyH.nil)
        go_simp
        refine (toKnown_any x.aKeys x.aTags x.cKeys x.cTags x.fKeys x.fTags _ (by exact hK.later (HL_102.out.b.drew) (Nat.le_refl _) HL_102.out.b.size) (by exact hT.later (HL_102.out.b.drew) (Nat.le_refl _) HL_102.out.b.size) (by omega) (by omega)).mono ?_
        rintro e w103 ⟨B1, j1, B2, j2, rfl, V9, hb103⟩
        have hd : Below w102.heap.size w102 w103 := by (repeat' (first | (with_reducible exact Below.refl _ _) | (with_reducible assumption) | (with_reducible refine Below.alloc ?_ ?_ _) | (with_reducible refine Below.drew ?_) | (with_reducible refine below_drewN ?_ _) | (with_reducible refine Below.setCell ?_ ?_ _) | (with_reducible refine bvia ?_ (by with_reducible assumption) ?_) | go_size))
        clear hb103 c0 c1 p00 p01 p02
        have HL_103 := Lib.hid (HL_102.out.next hd)
        have HB6_103 := Lib.hid (HB6_102.out.next hd)
        have HB7_103 := Lib.hid (HB7_102.out.next hd)
        have HB8_103 := Lib.hid (HB8_102.out.next hd)
        clear hd HL_102 HB6_102 HB7_102 HB8_102
        refine hK9.out _ _ ⟨HL_103.out.k0, HL_103.out.k1, HB7_103.out.g0, HB7_103.out.g1⟩ (fun _ => ?_)
        clear hK9 K9
        (try simp only [Act.put, List.setIfInBounds_toArray, List.set_cons_zero, List.set_cons_succ])
        refine wpAnyH_ready (rs := [3]) (by kernel_rfl) (by simp) (AllReadyH.cons (o := _) rfl (fun K9 hK9 => ?_) AllReadyH.nil)
        go_simp
        refine (eqKnown_same _ _ _ _ _ _ _ _ x.fKeys x.fTags _ (by exact HB7_103.out.kn.rdK) (by exact HB7_103.out.kn.rdT) (by exact V9.rdK) (by exact V9.rdT) hmK hmT).mono ?_
        rintro e w104 ⟨rfl, hb104⟩
        clear V9
        have HL_104 := Lib.hid (HL_103.out.next hb104)
        have HB6_104 := Lib.hid (HB6_103.out.next hb104)
        have HB7_104 := Lib.hid (HB7_103.out.next hb104)
        have HB8_104 := Lib.hid (HB8_103.out.next hb104)
        clear hb104 HL_103 HB6_103 HB7_103 HB8_103
        refine hK9.out _ _ ⟨HL_104.out.k0, HL_104.out.k1, HB7_104.out.g0, HB7_104.out.g1⟩ (fun _ => ?_)
        clear hK9 K9
        (try simp only [Act.put, List.setIfInBounds_toArray, List.set_cons_zero, List.set_cons_succ])
        refine wpAnyH_take (i := 4) (v := ?_) rfl (by kernel_rfl) (by kernel_rfl) (by kernel_rfl) (fun _ _ _ h => h) (Or.inl ⟨by rfl, ?_⟩) (by assumption) ?_
        rotate_left
        · intro w' hSw
          obtain ⟨-, -, -, -⟩ := hSw
          go_simp
          all_goals (with_reducible rfl)
        change wpAnyH _ _ _ _ _ _ _ (Act.put _ (some 37) _) _
        (try simp only [Act.put, List.setIfInBounds_toArray, List.set_cons_zero, List.set_cons_succ])
        refine wpAnyH_done (by kernel_rfl) ?_ _
        have h7 := HB7_104.out.hl
        have p00 := HB7_104.out.g0
        have p01 := HB7_104.out.g1
        have p02 := HB7_104.out.gl
        go_wp2_with fail
        refine (markKnown_own _ _ _ _ x.fKeys x.fTags lo7 g7 1 _ HB7_104.out.kn h7 (by omega) (by omega) (by omega) (by omega)).mono ?_
        rintro e w105 ⟨rfl, -, ht⟩
        clear p00 p01 p02
        obtain ⟨M7, hM7⟩ : ∃ K : Int, K = 1 + 1 * (x.fKeys.length : Int) + 5 * (x.fTags.length : Int) := ⟨_, rfl⟩
        rw [← hM7]
        have dM7 : decide (M7 < 0) = false := decide_eq_false (by omega)
        clear hM7
        have HL_105 := Lib.hid (HL_104.out.past ht (by omega))
        have HB6_105 := Lib.hid (HB6_104.out.past ht (by omega) (by omega))
        have HB8_105 := Lib.hid (HB8_104.out.past ht (by omega) (by omega))
        clear ht HL_104 HB6_104 HB7_104 HB8_104
        have p00 := HB8_105.out.g0
        have p01 := HB8_105.out.g1
        have p02 := HB8_105.out.gl
        have p10 := HB6_105.out.g0
        have p11 := HB6_105.out.g1
        have p12 := HB6_105.out.gl
        go_wp2_with fail
        refine (eqKnown_same _ _ _ _ _ _ _ _ x.fKeys T' _ (by exact HB8_105.out.kn.rdK) (by exact HB8_105.out.kn.rdT) (by exact HB6_105.out.kn.rdK) (by exact HB6_105.out.kn.rdT) hmK hTm).mono ?_
        rintro e w106 ⟨rfl, hb106⟩
        clear p00 p01 p02 p10 p11 p12
        have HL_106 := Lib.hid (HL_105.out.next hb106)
        have HB6_106 := Lib.hid (HB6_105.out.next hb106)
        have HB8_106 := Lib.hid (HB8_105.out.next hb106)
        clear hb106 HL_105 HB6_105 HB8_105
        have h8 := HB8_106.out.hl
        have p00 := HB8_106.out.g0
        have p01 := HB8_106.out.g1
        have p02 := HB8_106.out.gl
        go_wp2_with fail
        refine (markKnown_own _ _ _ _ x.fKeys T' lo8 hi8 1 _ HB8_106.out.kn h8 (by omega) (by omega) (by omega) (by omega)).mono ?_
        rintro e w107 ⟨rfl, Vm, ht⟩
        clear p00 p01 p02
        obtain ⟨M8, hM8⟩ : ∃ K : Int, 1 + 1 * (x.fKeys.length : Int) + 5 * (T'.length : Int) = K := ⟨_, rfl⟩
        rw [hM8]
        have dM8 : decide (M8 < 0) = false := decide_eq_false (by omega)
        have HM8 := Lib.hid hM8
        clear hM8
        obtain ⟨f0, f1, f2, f3⟩ := HB8_106.out.marked ht
        have HF0 := Lib.hid f0
        have HF1 := Lib.hid f1
        have HVm := Lib.hid Vm
        clear f0 f1 Vm
        have HL_107 := Lib.hid (HL_106.out.past ht (by omega))
        have HB6_107 := Lib.hid (HB6_106.out.past ht (by omega) (by omega))
        clear ht HL_106 HB6_106 HB8_106
        have y0 := HF0.out
        have y1 := HF1.out
        go_wp2_with fail
        refine (heldKnown_any _ _ _ _ _ _ lo8 hi8 1 _ HVm.out (by omega) (by omega) (by omega) (by omega)).mono ?_
        rintro e w108 ⟨rfl, hb108⟩
        rw [HM8.out]
        clear y0 y1
        have HF0n := Lib.hid ((hb108.cell (p := ⟨g8, 0, none⟩) f2).trans HF0.out)
        have HF1n := Lib.hid ((hb108.cell (p := ⟨g8, 1, none⟩) f2).trans HF1.out)
        have HVn := Lib.hid (HVm.out.keep (fun k _ hk => hb108.block k (Nat.lt_of_lt_of_le hk f3)))
        have f2n := Nat.lt_of_lt_of_le f2 hb108.size
        have f3n := Nat.le_trans f3 hb108.size
        clear HF0 HF1 HVm f2 f3
        have HF0 := HF0n
        have HF1 := HF1n
        have HVm := HVn
        have f2 := f2n
        have f3 := f3n
        clear HF0n HF1n HVn f2n f3n
        have HL_108 := Lib.hid (HL_107.out.next hb108)
        have HB6_108 := Lib.hid (HB6_107.out.next hb108)
        clear hb108 HL_107 HB6_107
        go_upto_region 24 with (fail)
        refine wp_world _ (fun V => KT w x t V ∧ KB V g6 lo6 hi6 A6 k6 C6 l6 x.fKeys T' ∧ (V.cell? ⟨g8, 0, none⟩ = some (.slice A8 x.fKeys.length k8) ∧ V.cell? ⟨g8, 1, none⟩ = some (.slice C8 T'.length l8)) ∧ KnV V lo8 hi8 (.slice A8 x.fKeys.length k8) (.slice C8 T'.length l8) (markL (mkInt 1) x.fKeys.length) (markL (mkTag (1 + 1 * (x.fKeys.length : Int))) T'.length) ∧ g8 < V.heap.size ∧ hi8 ≤ V.heap.size) ⟨HL_108.out, HB6_108.out, ⟨HF0.out, HF1.out⟩, HVm.out, f2, f3⟩ ?_
        clear HF0 HF1 HVm f2 f3 HL_108 HB6_108
        rintro W ⟨hL, hB6, ⟨hF0, hF1⟩, hVm, f2, f3⟩
        have HL := Lib.hid hL
        have HB6 := Lib.hid hB6
        have HF0 := Lib.hid hF0
        have HF1 := Lib.hid hF1
        have HVm := Lib.hid hVm
        have hz : w.heap.size + 2 ≤ W.heap.size := hL.z
        clear hL hB6 hF0 hF1 hVm
        go_cut [12] (fun s wx => ∃ g lo hi A1 k1 A2 k2, s = .pointer (some ⟨g, 0, none⟩) ∧ KT w x t wx ∧ Below W.heap.size W wx ∧ KB wx g lo hi A1 k1 A2 k2 x.fKeys T' ∧ W.heap.size ≤ g ∧ W.heap.size ≤ lo)
        case first =>
          have Hk := Lib.hid (HL.out.next (Below.drew (Below.refl _ _) : Below W.heap.size W W.drew))
          have Hw : Hid (Below W.heap.size W W.drew) := Below.drew (Below.refl _ _)
          refine wp_region_held_drew (S := (fun w' => w'.cell? ⟨w.heap.size, 0, none⟩ = some (.slice x.aKeys x.fKeys.length x.cKeys) ∧ w'.cell? ⟨w.heap.size, 1, none⟩ = some (.slice x.aTags x.fTags.length x.cTags) ∧ w'.cell? ⟨w.heap.size + 1, 0, none⟩ = some (.int .i64 t.fKind) ∧ w'.cell? ⟨w.heap.size + 1, 1, none⟩ = some (.int .i64 t.fOne) ∧ w'.cell? ⟨w.heap.size + 1, 2, none⟩ = some (.int .i64 t.fTwo) ∧ w'.cell? ⟨w.heap.size + 1, 3, none⟩ = some (.int .i64 t.fA) ∧ w'.cell? ⟨w.heap.size + 1, 4, none⟩ = some (.int .i64 t.fB))) (by kernel_rfl) ⟨Hk.out.k0, Hk.out.k1, Hk.out.t0, Hk.out.t1, Hk.out.t2, Hk.out.t3, Hk.out.t4⟩ (fun _ => ?_)
          refine wpAnyH_take (i := 0) (v := ?_) rfl (by kernel_rfl) (by kernel_rfl) (by kernel_rfl) (fun _ _ _ h => h) (Or.inl ⟨by rfl, ?_⟩) (by assumption) ?_
          rotate_left
          · intro w' hSw
            obtain ⟨q0, q1, q2, q3, q4, q5, q6⟩ := hSw
            go_simp
            all_goals (with_reducible rfl)
          change wpAnyH _ _ _ _ _ _ _ (Act.put _ (some 60) _) _
          (try simp only [Act.put, List.setIfInBounds_toArray, List.set_cons_zero, List.set_cons_succ])
          refine wpAnyH_take (i := 2) (v := ?_) rfl (by kernel_rfl) (by kernel_rfl) (by kernel_rfl) (fun _ _ _ h => h) (Or.inl ⟨by rfl, ?_⟩) (by assumption) ?_
          rotate_left
          · intro w' hSw
            obtain ⟨q0, q1, q2, q3, q4, q5, q6⟩ := hSw
            go_simp
            all_goals (with_reducible rfl)
          change wpAnyH _ _ _ _ _ _ _ (Act.put _ (some 62) _) _
          (try simp only [Act.put, List.setIfInBounds_toArray, List.set_cons_zero, List.set_cons_succ])
          obtain ⟨V0, hV⟩ : ∃ V, W.drew = V := ⟨_, rfl⟩
          rw [hV] at Hk Hw
          rw [hV]
          clear hV
          refine wpAnyH_ready (rs := [1, 5]) (by kernel_rfl) (by simp) (AllReadyH.cons (o := _) rfl (fun K9 hK9 => ?_) (AllReadyH.cons (o := _) rfl (fun K9 hK9 => ?_) (AllReadyH.nil)))
          · go_simp
            refine (toKnown_any x.aKeys x.aTags x.cKeys x.cTags x.fKeys x.fTags _ (by exact hK.later Hk.out.b (Nat.le_refl _) Hk.out.b.size) (by exact hT.later Hk.out.b (Nat.le_refl _) Hk.out.b.size) (by omega) (by omega)).mono ?_
            rintro e w22 ⟨B1, j1, B2, j2, rfl, V22, hb22⟩
            have Hk22 := Lib.hid (Hk.out.next hb22)
            have Hw22 : Hid (Below W.heap.size W w22) := Hw.out.trans (hb22.mono Hw.out.size)
            have RX22 := Lib.hid V22
            have PX22 : Hid (w22.heap.size ≤ w22.heap.size) := Nat.le_refl _
            have hvs22 := hb22.size
            have hws22 := Hw.out.size
            refine hK9.out _ _ ⟨Hk22.out.k0, Hk22.out.k1, Hk22.out.t0, Hk22.out.t1, Hk22.out.t2, Hk22.out.t3, Hk22.out.t4⟩ (fun _ => ?_)
            clear hK9 K9 hb22
            (try simp only [Act.put, List.setIfInBounds_toArray, List.set_cons_zero, List.set_cons_succ])
            refine wpAnyH_ready (rs := [3, 5]) (by kernel_rfl) (by simp) (AllReadyH.cons (o := _) rfl (fun K9 hK9 => ?_) (AllReadyH.cons (o := _) rfl (fun K9 hK9 => ?_) (AllReadyH.nil)))
            · go_simp
              refine (toTag_any t _).mono ?_
              rintro e w23 ⟨rfl, hb23⟩
              have Hk23 := Lib.hid (Hk22.out.next hb23)
              have Hw23 : Hid (Below W.heap.size W w23) := Hw22.out.trans (hb23.mono Hw22.out.size)
              have RX23 := Lib.hid (RX22.out.keep (fun k _ hk => hb23.block k (Nat.lt_of_lt_of_le hk PX22.out)))
              have PX23 := Lib.hid (Nat.le_trans PX22.out hb23.size)
              have hvs23 := hb23.size
              have hws23 := Hw22.out.size
              refine hK9.out _ _ ⟨Hk23.out.k0, Hk23.out.k1, Hk23.out.t0, Hk23.out.t1, Hk23.out.t2, Hk23.out.t3, Hk23.out.t4⟩ (fun _ => ?_)
              clear hK9 K9 hb23
              (try simp only [Act.put, List.setIfInBounds_toArray, List.set_cons_zero, List.set_cons_succ])
              refine wpAnyH_ready (rs := [4, 5]) (by kernel_rfl) (by simp) (AllReadyH.cons (o := _) rfl (fun K9 hK9 => ?_) (AllReadyH.cons (o := _) rfl (fun K9 hK9 => ?_) (AllReadyH.nil)))
              · go_simp
                refine (ILE.out _ _ _ _ _ (by exact RX23.out.rdK) (by exact RX23.out.rdT)).mono ?_
                rintro e w24 ⟨C1, l1, C2, l2, rfl, V24, hb24⟩
                have Hk24 := Lib.hid (Hk23.out.next hb24)
                have Hw24 : Hid (Below W.heap.size W w24) := Hw23.out.trans (hb24.mono Hw23.out.size)
                have RX24 := Lib.hid (RX23.out.keep (fun k _ hk => hb24.block k (Nat.lt_of_lt_of_le hk PX23.out)))
                have PX24 := Lib.hid (Nat.le_trans PX23.out hb24.size)
                have RL24 := Lib.hid V24
                have PL24 : Hid (w24.heap.size ≤ w24.heap.size) := Nat.le_refl _
                have hvs24 := hb24.size
                have hws24 := Hw23.out.size
                refine hK9.out _ _ ⟨Hk24.out.k0, Hk24.out.k1, Hk24.out.t0, Hk24.out.t1, Hk24.out.t2, Hk24.out.t3, Hk24.out.t4⟩ (fun _ => ?_)
                clear hK9 K9 hb24
                (try simp only [Act.put, List.setIfInBounds_toArray, List.set_cons_zero, List.set_cons_succ])
                refine wpAnyH_ready (rs := [5]) (by kernel_rfl) (by simp) (AllReadyH.cons (o := _) rfl (fun K9 hK9 => ?_) (AllReadyH.nil))
                · go_simp
                  have hb25 : Below w24.heap.size w24 (w24.alloc (.cells #[.slice none 0 0, .slice none 0 0] 35)) := by go_grown
                  have hrow := heap_alloc_new w24 (.cells #[.slice none 0 0, .slice none 0 0] 35)
                  have Hk25 := Lib.hid (Hk24.out.next hb25)
                  have Hw25 : Hid (Below W.heap.size W (w24.alloc (.cells #[.slice none 0 0, .slice none 0 0] 35))) := Hw24.out.trans (hb25.mono Hw24.out.size)
                  have RX25 := Lib.hid (RX24.out.keep (fun k _ hk => hb25.block k (Nat.lt_of_lt_of_le hk PX24.out)))
                  have PX25 := Lib.hid (Nat.le_trans PX24.out hb25.size)
                  have RL25 := Lib.hid (RL24.out.keep (fun k _ hk => hb25.block k (Nat.lt_of_lt_of_le hk PL24.out)))
                  have PL25 := Lib.hid (Nat.le_trans PL24.out hb25.size)
                  have Hb25 := Lib.hid hrow
                  clear hrow
                  have hvs25 := hb25.size
                  have hws25 := Hw24.out.size
                  refine hK9.out _ _ ⟨Hk25.out.k0, Hk25.out.k1, Hk25.out.t0, Hk25.out.t1, Hk25.out.t2, Hk25.out.t3, Hk25.out.t4⟩ (fun _ => ?_)
                  clear hK9 K9 hb25
                  (try simp only [Act.put, List.setIfInBounds_toArray, List.set_cons_zero, List.set_cons_succ])
                  have hlt25 : w24.heap.size < (w24.alloc (.cells #[.slice none 0 0, .slice none 0 0] 35)).heap.size := blkLt Hb25.out
                  obtain ⟨v25, hV⟩ : ∃ V, (w24.alloc (.cells #[.slice none 0 0, .slice none 0 0] 35)) = V := ⟨_, rfl⟩
                  rw [hV] at Hk25 Hw25 Hb25 hvs25 RX25 PX25 RL25 PL25 hlt25
                  rw [hV]
                  clear hV
                  obtain ⟨b25, hg⟩ : ∃ g, w24.heap.size = g := ⟨_, rfl⟩
                  have hge25 : b25 = w24.heap.size := hg.symm
                  rw [hg] at Hb25
                  rw [hg]
                  clear hg
                  have Hge25 := Lib.hid hge25
                  have hgl25 := Nat.le_of_eq hge25
                  have hgr25 := Nat.le_of_eq hge25.symm
                  clear hge25
                  have hbz := blkLt Hb25.out
                  have hrh := PL25.out
                  have hwz := Hw25.out.size
                  have z0 : v25.cell? ⟨b25, 0, none⟩ = some (.slice none 0 0) := by rw [cell_of_row _ _ _ _ _ (0, 0) Hb25.out]; rfl
                  have z1 : v25.cell? ⟨b25, 1, none⟩ = some (.slice none 0 0) := by rw [cell_of_row _ _ _ _ _ (0, 0) Hb25.out]; rfl
                  have y0 : v25.frozen? ⟨b25, 0, none⟩ = false := frozen_of_row _ _ _ _ _ Hb25.out
                  have y1 : v25.frozen? ⟨b25, 1, none⟩ = false := frozen_of_row _ _ _ _ _ Hb25.out
                  have Hs := Lib.hid (KT.set Hk25.out (b := b25) (u := .slice C1 x.fKeys.length l1) (v := .slice C2 T'.length l2) (by omega))
                  have Hv := Lib.hid (bset (b := b25) (u := .slice C1 x.fKeys.length l1) (v := .slice C2 T'.length l2) Hw25.out (by omega))
                  have HB9 := Lib.hid (KB.store RL25.out Hb25.out (.inr (by omega)) PL25.out)
                  refine wpAnyH_ready (rs := [6]) (by kernel_rfl) (by simp) (AllReadyH.cons (o := _) rfl (fun K9 hK9 => ?_) AllReadyH.nil)
                  go_simp
                  refine hK9.out _ _ ⟨Hs.out.k0, Hs.out.k1, Hs.out.t0, Hs.out.t1, Hs.out.t2, Hs.out.t3, Hs.out.t4⟩ (fun _ => ?_)
                  clear hK9 K9
                  refine wpAnyH_done (by kernel_rfl) ?_ _
                  go_wp2_with fail
                  go_meet
                  case rel => exact ⟨b25, _, _, C1, l1, C2, l2, rfl, Hs.out, Hv.out, HB9.out, by omega, by omega⟩
              · go_simp
                have hb26 : Below w23.heap.size w23 (w23.alloc (.cells #[.slice none 0 0, .slice none 0 0] 35)) := by go_grown
                have hrow := heap_alloc_new w23 (.cells #[.slice none 0 0, .slice none 0 0] 35)
                have Hk26 := Lib.hid (Hk23.out.next hb26)
                have Hw26 : Hid (Below W.heap.size W (w23.alloc (.cells #[.slice none 0 0, .slice none 0 0] 35))) := Hw23.out.trans (hb26.mono Hw23.out.size)
                have RX26 := Lib.hid (RX23.out.keep (fun k _ hk => hb26.block k (Nat.lt_of_lt_of_le hk PX23.out)))
                have PX26 := Lib.hid (Nat.le_trans PX23.out hb26.size)
                have Hb26 := Lib.hid hrow
                clear hrow
                have hvs26 := hb26.size
                have hws26 := Hw23.out.size
                refine hK9.out _ _ ⟨Hk26.out.k0, Hk26.out.k1, Hk26.out.t0, Hk26.out.t1, Hk26.out.t2, Hk26.out.t3, Hk26.out.t4⟩ (fun _ => ?_)
                clear hK9 K9 hb26
                (try simp only [Act.put, List.setIfInBounds_toArray, List.set_cons_zero, List.set_cons_succ])
                have hlt26 : w23.heap.size < (w23.alloc (.cells #[.slice none 0 0, .slice none 0 0] 35)).heap.size := blkLt Hb26.out
                obtain ⟨v26, hV⟩ : ∃ V, (w23.alloc (.cells #[.slice none 0 0, .slice none 0 0] 35)) = V := ⟨_, rfl⟩
                rw [hV] at Hk26 Hw26 Hb26 hvs26 RX26 PX26 hlt26
                rw [hV]
                clear hV
                obtain ⟨b26, hg⟩ : ∃ g, w23.heap.size = g := ⟨_, rfl⟩
                have hge26 : b26 = w23.heap.size := hg.symm
                rw [hg] at Hb26
                rw [hg]
                clear hg
                have Hge26 := Lib.hid hge26
                have hgl26 := Nat.le_of_eq hge26
                have hgr26 := Nat.le_of_eq hge26.symm
                clear hge26
                refine wpAnyH_ready (rs := [4]) (by kernel_rfl) (by simp) (AllReadyH.cons (o := _) rfl (fun K9 hK9 => ?_) (AllReadyH.nil))
                · go_simp
                  refine (ILE.out _ _ _ _ _ (by exact RX26.out.rdK) (by exact RX26.out.rdT)).mono ?_
                  rintro e w27 ⟨C1, l1, C2, l2, rfl, V27, hb27⟩
                  have Hk27 := Lib.hid (Hk26.out.next hb27)
                  have Hw27 : Hid (Below W.heap.size W w27) := Hw26.out.trans (hb27.mono Hw26.out.size)
                  have RX27 := Lib.hid (RX26.out.keep (fun k _ hk => hb27.block k (Nat.lt_of_lt_of_le hk PX26.out)))
                  have PX27 := Lib.hid (Nat.le_trans PX26.out hb27.size)
                  have RL27 := Lib.hid V27
                  have PL27 : Hid (w27.heap.size ≤ w27.heap.size) := Nat.le_refl _
                  have Hb27 := Lib.hid ((hb27.block _ (blkLt Hb26.out)).trans Hb26.out)
                  have hvs27 := hb27.size
                  have hws27 := Hw26.out.size
                  refine hK9.out _ _ ⟨Hk27.out.k0, Hk27.out.k1, Hk27.out.t0, Hk27.out.t1, Hk27.out.t2, Hk27.out.t3, Hk27.out.t4⟩ (fun _ => ?_)
                  clear hK9 K9 hb27
                  (try simp only [Act.put, List.setIfInBounds_toArray, List.set_cons_zero, List.set_cons_succ])
                  have hbz := blkLt Hb27.out
                  have hrh := PL27.out
                  have hwz := Hw27.out.size
                  have z0 : w27.cell? ⟨b26, 0, none⟩ = some (.slice none 0 0) := by rw [cell_of_row _ _ _ _ _ (0, 0) Hb27.out]; rfl
                  have z1 : w27.cell? ⟨b26, 1, none⟩ = some (.slice none 0 0) := by rw [cell_of_row _ _ _ _ _ (0, 0) Hb27.out]; rfl
                  have y0 : w27.frozen? ⟨b26, 0, none⟩ = false := frozen_of_row _ _ _ _ _ Hb27.out
                  have y1 : w27.frozen? ⟨b26, 1, none⟩ = false := frozen_of_row _ _ _ _ _ Hb27.out
                  have Hs := Lib.hid (KT.set Hk27.out (b := b26) (u := .slice C1 x.fKeys.length l1) (v := .slice C2 T'.length l2) (by omega))
                  have Hv := Lib.hid (bset (b := b26) (u := .slice C1 x.fKeys.length l1) (v := .slice C2 T'.length l2) Hw27.out (by omega))
                  have HB9 := Lib.hid (KB.store RL27.out Hb27.out (.inl (by omega)) PL27.out)
                  refine wpAnyH_ready (rs := [6]) (by kernel_rfl) (by simp) (AllReadyH.cons (o := _) rfl (fun K9 hK9 => ?_) AllReadyH.nil)
                  go_simp
                  refine hK9.out _ _ ⟨Hs.out.k0, Hs.out.k1, Hs.out.t0, Hs.out.t1, Hs.out.t2, Hs.out.t3, Hs.out.t4⟩ (fun _ => ?_)
                  clear hK9 K9
                  refine wpAnyH_done (by kernel_rfl) ?_ _
                  go_wp2_with fail
                  go_meet
                  case rel => exact ⟨b26, _, _, C1, l1, C2, l2, rfl, Hs.out, Hv.out, HB9.out, by omega, by omega⟩
            · go_simp
              have hb28 : Below w22.heap.size w22 (w22.alloc (.cells #[.slice none 0 0, .slice none 0 0] 35)) := by go_grown
              have hrow := heap_alloc_new w22 (.cells #[.slice none 0 0, .slice none 0 0] 35)
              have Hk28 := Lib.hid (Hk22.out.next hb28)
              have Hw28 : Hid (Below W.heap.size W (w22.alloc (.cells #[.slice none 0 0, .slice none 0 0] 35))) := Hw22.out.trans (hb28.mono Hw22.out.size)
              have RX28 := Lib.hid (RX22.out.keep (fun k _ hk => hb28.block k (Nat.lt_of_lt_of_le hk PX22.out)))
              have PX28 := Lib.hid (Nat.le_trans PX22.out hb28.size)
              have Hb28 := Lib.hid hrow
              clear hrow
              have hvs28 := hb28.size
              have hws28 := Hw22.out.size
              refine hK9.out _ _ ⟨Hk28.out.k0, Hk28.out.k1, Hk28.out.t0, Hk28.out.t1, Hk28.out.t2, Hk28.out.t3, Hk28.out.t4⟩ (fun _ => ?_)
              clear hK9 K9 hb28
              (try simp only [Act.put, List.setIfInBounds_toArray, List.set_cons_zero, List.set_cons_succ])
              have hlt28 : w22.heap.size < (w22.alloc (.cells #[.slice none 0 0, .slice none 0 0] 35)).heap.size := blkLt Hb28.out
              obtain ⟨v28, hV⟩ : ∃ V, (w22.alloc (.cells #[.slice none 0 0, .slice none 0 0] 35)) = V := ⟨_, rfl⟩
              rw [hV] at Hk28 Hw28 Hb28 hvs28 RX28 PX28 hlt28
              rw [hV]
              clear hV
              obtain ⟨b28, hg⟩ : ∃ g, w22.heap.size = g := ⟨_, rfl⟩
              have hge28 : b28 = w22.heap.size := hg.symm
              rw [hg] at Hb28
              rw [hg]
              clear hg
              have Hge28 := Lib.hid hge28
              have hgl28 := Nat.le_of_eq hge28
              have hgr28 := Nat.le_of_eq hge28.symm
              clear hge28
              refine wpAnyH_ready (rs := [3]) (by kernel_rfl) (by simp) (AllReadyH.cons (o := _) rfl (fun K9 hK9 => ?_) (AllReadyH.nil))
              · go_simp
                refine (toTag_any t _).mono ?_
                rintro e w29 ⟨rfl, hb29⟩
                have Hk29 := Lib.hid (Hk28.out.next hb29)
                have Hw29 : Hid (Below W.heap.size W w29) := Hw28.out.trans (hb29.mono Hw28.out.size)
                have RX29 := Lib.hid (RX28.out.keep (fun k _ hk => hb29.block k (Nat.lt_of_lt_of_le hk PX28.out)))
                have PX29 := Lib.hid (Nat.le_trans PX28.out hb29.size)
                have Hb29 := Lib.hid ((hb29.block _ (blkLt Hb28.out)).trans Hb28.out)
                have hvs29 := hb29.size
                have hws29 := Hw28.out.size
                refine hK9.out _ _ ⟨Hk29.out.k0, Hk29.out.k1, Hk29.out.t0, Hk29.out.t1, Hk29.out.t2, Hk29.out.t3, Hk29.out.t4⟩ (fun _ => ?_)
                clear hK9 K9 hb29
                (try simp only [Act.put, List.setIfInBounds_toArray, List.set_cons_zero, List.set_cons_succ])
                refine wpAnyH_ready (rs := [4]) (by kernel_rfl) (by simp) (AllReadyH.cons (o := _) rfl (fun K9 hK9 => ?_) (AllReadyH.nil))
                · go_simp
                  refine (ILE.out _ _ _ _ _ (by exact RX29.out.rdK) (by exact RX29.out.rdT)).mono ?_
                  rintro e w30 ⟨C1, l1, C2, l2, rfl, V30, hb30⟩
                  have Hk30 := Lib.hid (Hk29.out.next hb30)
                  have Hw30 : Hid (Below W.heap.size W w30) := Hw29.out.trans (hb30.mono Hw29.out.size)
                  have RX30 := Lib.hid (RX29.out.keep (fun k _ hk => hb30.block k (Nat.lt_of_lt_of_le hk PX29.out)))
                  have PX30 := Lib.hid (Nat.le_trans PX29.out hb30.size)
                  have RL30 := Lib.hid V30
                  have PL30 : Hid (w30.heap.size ≤ w30.heap.size) := Nat.le_refl _
                  have Hb30 := Lib.hid ((hb30.block _ (blkLt Hb29.out)).trans Hb29.out)
                  have hvs30 := hb30.size
                  have hws30 := Hw29.out.size
                  refine hK9.out _ _ ⟨Hk30.out.k0, Hk30.out.k1, Hk30.out.t0, Hk30.out.t1, Hk30.out.t2, Hk30.out.t3, Hk30.out.t4⟩ (fun _ => ?_)
                  clear hK9 K9 hb30
                  (try simp only [Act.put, List.setIfInBounds_toArray, List.set_cons_zero, List.set_cons_succ])
                  have hbz := blkLt Hb30.out
                  have hrh := PL30.out
                  have hwz := Hw30.out.size
                  have z0 : w30.cell? ⟨b28, 0, none⟩ = some (.slice none 0 0) := by rw [cell_of_row _ _ _ _ _ (0, 0) Hb30.out]; rfl
                  have z1 : w30.cell? ⟨b28, 1, none⟩ = some (.slice none 0 0) := by rw [cell_of_row _ _ _ _ _ (0, 0) Hb30.out]; rfl
                  have y0 : w30.frozen? ⟨b28, 0, none⟩ = false := frozen_of_row _ _ _ _ _ Hb30.out
                  have y1 : w30.frozen? ⟨b28, 1, none⟩ = false := frozen_of_row _ _ _ _ _ Hb30.out
                  have Hs := Lib.hid (KT.set Hk30.out (b := b28) (u := .slice C1 x.fKeys.length l1) (v := .slice C2 T'.length l2) (by omega))
                  have Hv := Lib.hid (bset (b := b28) (u := .slice C1 x.fKeys.length l1) (v := .slice C2 T'.length l2) Hw30.out (by omega))
                  have HB9 := Lib.hid (KB.store RL30.out Hb30.out (.inl (by omega)) PL30.out)
                  refine wpAnyH_ready (rs := [6]) (by kernel_rfl) (by simp) (AllReadyH.cons (o := _) rfl (fun K9 hK9 => ?_) AllReadyH.nil)
                  go_simp
                  refine hK9.out _ _ ⟨Hs.out.k0, Hs.out.k1, Hs.out.t0, Hs.out.t1, Hs.out.t2, Hs.out.t3, Hs.out.t4⟩ (fun _ => ?_)
                  clear hK9 K9
                  refine wpAnyH_done (by kernel_rfl) ?_ _
                  go_wp2_with fail
                  go_meet
                  case rel => exact ⟨b28, _, _, C1, l1, C2, l2, rfl, Hs.out, Hv.out, HB9.out, by omega, by omega⟩
          · go_simp
            have hb31 : Below V0.heap.size V0 (V0.alloc (.cells #[.slice none 0 0, .slice none 0 0] 35)) := by go_grown
            have hrow := heap_alloc_new V0 (.cells #[.slice none 0 0, .slice none 0 0] 35)
            have Hk31 := Lib.hid (Hk.out.next hb31)
            have Hw31 : Hid (Below W.heap.size W (V0.alloc (.cells #[.slice none 0 0, .slice none 0 0] 35))) := Hw.out.trans (hb31.mono Hw.out.size)
            have Hb31 := Lib.hid hrow
            clear hrow
            have hvs31 := hb31.size
            have hws31 := Hw.out.size
            refine hK9.out _ _ ⟨Hk31.out.k0, Hk31.out.k1, Hk31.out.t0, Hk31.out.t1, Hk31.out.t2, Hk31.out.t3, Hk31.out.t4⟩ (fun _ => ?_)
            clear hK9 K9 hb31
            (try simp only [Act.put, List.setIfInBounds_toArray, List.set_cons_zero, List.set_cons_succ])
            have hlt31 : V0.heap.size < (V0.alloc (.cells #[.slice none 0 0, .slice none 0 0] 35)).heap.size := blkLt Hb31.out
            obtain ⟨v31, hV⟩ : ∃ V, (V0.alloc (.cells #[.slice none 0 0, .slice none 0 0] 35)) = V := ⟨_, rfl⟩
            rw [hV] at Hk31 Hw31 Hb31 hvs31 hlt31
            rw [hV]
            clear hV
            obtain ⟨b31, hg⟩ : ∃ g, V0.heap.size = g := ⟨_, rfl⟩
            have hge31 : b31 = V0.heap.size := hg.symm
            rw [hg] at Hb31
            rw [hg]
            clear hg
            have Hge31 := Lib.hid hge31
            have hgl31 := Nat.le_of_eq hge31
            have hgr31 := Nat.le_of_eq hge31.symm
            clear hge31
            refine wpAnyH_ready (rs := [1]) (by kernel_rfl) (by simp) (AllReadyH.cons (o := _) rfl (fun K9 hK9 => ?_) (AllReadyH.nil))
            · go_simp
              refine (toKnown_any x.aKeys x.aTags x.cKeys x.cTags x.fKeys x.fTags _ (by exact hK.later Hk31.out.b (Nat.le_refl _) Hk31.out.b.size) (by exact hT.later Hk31.out.b (Nat.le_refl _) Hk31.out.b.size) (by omega) (by omega)).mono ?_
              rintro e w32 ⟨B1, j1, B2, j2, rfl, V32, hb32⟩
              have Hk32 := Lib.hid (Hk31.out.next hb32)
              have Hw32 : Hid (Below W.heap.size W w32) := Hw31.out.trans (hb32.mono Hw31.out.size)
              have RX32 := Lib.hid V32
              have PX32 : Hid (w32.heap.size ≤ w32.heap.size) := Nat.le_refl _
              have Hb32 := Lib.hid ((hb32.block _ (blkLt Hb31.out)).trans Hb31.out)
              have hvs32 := hb32.size
              have hws32 := Hw31.out.size
              refine hK9.out _ _ ⟨Hk32.out.k0, Hk32.out.k1, Hk32.out.t0, Hk32.out.t1, Hk32.out.t2, Hk32.out.t3, Hk32.out.t4⟩ (fun _ => ?_)
              clear hK9 K9 hb32
              (try simp only [Act.put, List.setIfInBounds_toArray, List.set_cons_zero, List.set_cons_succ])
              refine wpAnyH_ready (rs := [3]) (by kernel_rfl) (by simp) (AllReadyH.cons (o := _) rfl (fun K9 hK9 => ?_) (AllReadyH.nil))
              · go_simp
                refine (toTag_any t _).mono ?_
                rintro e w33 ⟨rfl, hb33⟩
                have Hk33 := Lib.hid (Hk32.out.next hb33)
                have Hw33 : Hid (Below W.heap.size W w33) := Hw32.out.trans (hb33.mono Hw32.out.size)
                have RX33 := Lib.hid (RX32.out.keep (fun k _ hk => hb33.block k (Nat.lt_of_lt_of_le hk PX32.out)))
                have PX33 := Lib.hid (Nat.le_trans PX32.out hb33.size)
                have Hb33 := Lib.hid ((hb33.block _ (blkLt Hb32.out)).trans Hb32.out)
                have hvs33 := hb33.size
                have hws33 := Hw32.out.size
                refine hK9.out _ _ ⟨Hk33.out.k0, Hk33.out.k1, Hk33.out.t0, Hk33.out.t1, Hk33.out.t2, Hk33.out.t3, Hk33.out.t4⟩ (fun _ => ?_)
                clear hK9 K9 hb33
                (try simp only [Act.put, List.setIfInBounds_toArray, List.set_cons_zero, List.set_cons_succ])
                refine wpAnyH_ready (rs := [4]) (by kernel_rfl) (by simp) (AllReadyH.cons (o := _) rfl (fun K9 hK9 => ?_) (AllReadyH.nil))
                · go_simp
                  refine (ILE.out _ _ _ _ _ (by exact RX33.out.rdK) (by exact RX33.out.rdT)).mono ?_
                  rintro e w34 ⟨C1, l1, C2, l2, rfl, V34, hb34⟩
                  have Hk34 := Lib.hid (Hk33.out.next hb34)
                  have Hw34 : Hid (Below W.heap.size W w34) := Hw33.out.trans (hb34.mono Hw33.out.size)
                  have RX34 := Lib.hid (RX33.out.keep (fun k _ hk => hb34.block k (Nat.lt_of_lt_of_le hk PX33.out)))
                  have PX34 := Lib.hid (Nat.le_trans PX33.out hb34.size)
                  have RL34 := Lib.hid V34
                  have PL34 : Hid (w34.heap.size ≤ w34.heap.size) := Nat.le_refl _
                  have Hb34 := Lib.hid ((hb34.block _ (blkLt Hb33.out)).trans Hb33.out)
                  have hvs34 := hb34.size
                  have hws34 := Hw33.out.size
                  refine hK9.out _ _ ⟨Hk34.out.k0, Hk34.out.k1, Hk34.out.t0, Hk34.out.t1, Hk34.out.t2, Hk34.out.t3, Hk34.out.t4⟩ (fun _ => ?_)
                  clear hK9 K9 hb34
                  (try simp only [Act.put, List.setIfInBounds_toArray, List.set_cons_zero, List.set_cons_succ])
                  have hbz := blkLt Hb34.out
                  have hrh := PL34.out
                  have hwz := Hw34.out.size
                  have z0 : w34.cell? ⟨b31, 0, none⟩ = some (.slice none 0 0) := by rw [cell_of_row _ _ _ _ _ (0, 0) Hb34.out]; rfl
                  have z1 : w34.cell? ⟨b31, 1, none⟩ = some (.slice none 0 0) := by rw [cell_of_row _ _ _ _ _ (0, 0) Hb34.out]; rfl
                  have y0 : w34.frozen? ⟨b31, 0, none⟩ = false := frozen_of_row _ _ _ _ _ Hb34.out
                  have y1 : w34.frozen? ⟨b31, 1, none⟩ = false := frozen_of_row _ _ _ _ _ Hb34.out
                  have Hs := Lib.hid (KT.set Hk34.out (b := b31) (u := .slice C1 x.fKeys.length l1) (v := .slice C2 T'.length l2) (by omega))
                  have Hv := Lib.hid (bset (b := b31) (u := .slice C1 x.fKeys.length l1) (v := .slice C2 T'.length l2) Hw34.out (by omega))
                  have HB9 := Lib.hid (KB.store RL34.out Hb34.out (.inl (by omega)) PL34.out)
                  refine wpAnyH_ready (rs := [6]) (by kernel_rfl) (by simp) (AllReadyH.cons (o := _) rfl (fun K9 hK9 => ?_) AllReadyH.nil)
                  go_simp
                  refine hK9.out _ _ ⟨Hs.out.k0, Hs.out.k1, Hs.out.t0, Hs.out.t1, Hs.out.t2, Hs.out.t3, Hs.out.t4⟩ (fun _ => ?_)
                  clear hK9 K9
                  refine wpAnyH_done (by kernel_rfl) ?_ _
                  go_wp2_with fail
                  go_meet
                  case rel => exact ⟨b31, _, _, C1, l1, C2, l2, rfl, Hs.out, Hv.out, HB9.out, by omega, by omega⟩
        case rest =>
          obtain ⟨g12, lo12, hi12, A12, k12, C12, l12, rfl, hL, hWw, hB12, -, -⟩ := hcut
          have HB6' := Lib.hid (HB6.out.next hWw)
          have HL' := Lib.hid hL
          have HB12 := Lib.hid hB12
          clear HL HB6 hL hB12 hz
          have hb109 := hWw
          clear hWw
          have HF0n := Lib.hid ((hb109.cell (p := ⟨g8, 0, none⟩) f2).trans HF0.out)
          have HF1n := Lib.hid ((hb109.cell (p := ⟨g8, 1, none⟩) f2).trans HF1.out)
          have HVn := Lib.hid (HVm.out.keep (fun k _ hk => hb109.block k (Nat.lt_of_lt_of_le hk f3)))
          have f2n := Nat.lt_of_lt_of_le f2 hb109.size
          have f3n := Nat.le_trans f3 hb109.size
          clear HF0 HF1 HVm f2 f3 hb109
          have HF0 := HF0n
          have HF1 := HF1n
          have HVm := HVn
          have f2 := f2n
          have f3 := f3n
          clear HF0n HF1n HVn f2n f3n
          have p00 := HB12.out.g0
          have p01 := HB12.out.g1
          have p02 := HB12.out.gl
          have p10 := HB6'.out.g0
          have p11 := HB6'.out.g1
          have p12 := HB6'.out.gl
          go_wp2_with fail
          refine (eqKnown_same _ _ _ _ _ _ _ _ x.fKeys T' _ (by exact HB12.out.kn.rdK) (by exact HB12.out.kn.rdT) (by exact HB6'.out.kn.rdK) (by exact HB6'.out.kn.rdT) hmK hTm).mono ?_
          rintro e w110 ⟨rfl, hb110⟩
          clear p00 p01 p02 p10 p11 p12
          have HF0n := Lib.hid ((hb110.cell (p := ⟨g8, 0, none⟩) f2).trans HF0.out)
          have HF1n := Lib.hid ((hb110.cell (p := ⟨g8, 1, none⟩) f2).trans HF1.out)
          have HVn := Lib.hid (HVm.out.keep (fun k _ hk => hb110.block k (Nat.lt_of_lt_of_le hk f3)))
          have f2n := Nat.lt_of_lt_of_le f2 hb110.size
          have f3n := Nat.le_trans f3 hb110.size
          clear HF0 HF1 HVm f2 f3
          have HF0 := HF0n
          have HF1 := HF1n
          have HVm := HVn
          have f2 := f2n
          have f3 := f3n
          clear HF0n HF1n HVn f2n f3n
          have HL_110 := Lib.hid (HL'.out.next hb110)
          have HB6_110 := Lib.hid (HB6'.out.next hb110)
          have HB12_110 := Lib.hid (HB12.out.next hb110)
          clear hb110 HL' HB6' HB12
          have y0 := HF0.out
          have y1 := HF1.out
          go_wp2_with fail
          refine (heldKnown_any _ _ _ _ _ _ lo8 hi8 1 _ HVm.out (by omega) (by omega) (by omega) (by omega)).mono ?_
          rintro e w111 ⟨rfl, hb111⟩
          rw [HM8.out]
          clear y0 y1
          have HF0n := Lib.hid ((hb111.cell (p := ⟨g8, 0, none⟩) f2).trans HF0.out)
          have HF1n := Lib.hid ((hb111.cell (p := ⟨g8, 1, none⟩) f2).trans HF1.out)
          have HVn := Lib.hid (HVm.out.keep (fun k _ hk => hb111.block k (Nat.lt_of_lt_of_le hk f3)))
          have f2n := Nat.lt_of_lt_of_le f2 hb111.size
          have f3n := Nat.le_trans f3 hb111.size
          clear HF0 HF1 HVm f2 f3
          have HF0 := HF0n
          have HF1 := HF1n
          have HVm := HVn
          have f2 := f2n
          have f3 := f3n
          clear HF0n HF1n HVn f2n f3n
          have HL_111 := Lib.hid (HL_110.out.next hb111)
          have HB6_111 := Lib.hid (HB6_110.out.next hb111)
          have HB12_111 := Lib.hid (HB12_110.out.next hb111)
          clear hb111 HL_110 HB6_110 HB12_110
          go_wp2
          go_ret
          exact ⟨rfl, HL_111.out.b⟩
  · have hv : Hid (szKn 1048576 x.fKeys.length x.fTags.length = -1) := if_neg h
    go_enter Try.func5, Try.ntmps5
    go_wp2_with fail
    refine (szKnown_any x.aKeys x.aTags _ _ _ _ 1048576 _ (by omega) (by omega) hmK hmT).mono ?_
    rintro e w1 ⟨rfl, hb1⟩
    obtain ⟨hc, hf⟩ := bcell hb1
    have hc1_0 := fun o => hc (w.heap.size) o (by go_size)
    have hf1_0 := fun o => hf (w.heap.size) o (by go_size)
    have hz1_0 : w.heap.size < w1.heap.size := Nat.lt_of_lt_of_le (by go_size) hb1.size
    have hc1_1 := fun o => hc (w.heap.size + 1) o (by go_size)
    have hf1_1 := fun o => hf (w.heap.size + 1) o (by go_size)
    have hz1_1 : w.heap.size + 1 < w1.heap.size := Nat.lt_of_lt_of_le (by go_size) hb1.size
    clear hc hf
    have hz1 := hb1.size
    try simp at hz1
    rw [hv.out]
    go_wp2
    go_ret
    exact ⟨rfl, by (repeat' (first | (with_reducible exact Below.refl _ _) | (with_reducible assumption) | (with_reducible refine Below.alloc ?_ ?_ _) | (with_reducible refine Below.drew ?_) | (with_reducible refine below_drewN ?_ _) | (with_reducible refine Below.setCell ?_ ?_ _) | (with_reducible refine bvia ?_ (by with_reducible assumption) ?_) | go_size))⟩
end Go.Proofs.Ytomjfhcfellikaa
