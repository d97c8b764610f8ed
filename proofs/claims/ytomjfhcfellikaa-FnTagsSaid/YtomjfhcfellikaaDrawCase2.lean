/- l15Case, DrawLearn: for every slice of bytes. -/
import Derived.Test.YtomjfhcfellikaaDrawTag
namespace Go.Proofs.Ytomjfhcfellikaa
set_option linter.unusedSimpArgs false
set_option linter.unusedVariables false
open Go.RowKit
/-- What DrawLearn says. -/
def DrewKT (w : World) (e : Ending) (w' : World) : Prop :=
  ∃ (Ak : Option Addr) (ck : Nat) (At : Option Addr) (ct : Nat) (K : List Int) (T : List TagD) (x : TagD), e = .returned (.tuple #[knv Ak K.length ck At T.length ct, x.val]) ∧ KnV w' w.heap.size w'.heap.size (.slice Ak K.length ck) (.slice At T.length ct) K T ∧ K.length ≤ 2 ∧ T.length ≤ 4 ∧ Below w.heap.size w w'
/-- The boxes of l15Case: its results', and the Known's (bk). -/
structure LC (w : World) (bk : Nat) (Ak : Option Addr) (ck : Nat) (At : Option Addr) (ct : Nat) (K : List Int) (T : List TagD) (W : World) : Prop where
  below : Below w.heap.size w W
  lb : w.heap.size + 2 ≤ bk
  lt : bk < W.heap.size
  q0 : W.cell? ⟨w.heap.size, 0, none⟩ = some (.slice none 0 0)
  q1 : W.cell? ⟨w.heap.size, 1, none⟩ = some (.slice none 0 0)
  r0 : W.cell? ⟨w.heap.size + 1, 0, none⟩ = some (.int .i64 0)
  r1 : W.cell? ⟨w.heap.size + 1, 1, none⟩ = some (.int .i64 0)
  r2 : W.cell? ⟨w.heap.size + 1, 2, none⟩ = some (.int .i64 0)
  r3 : W.cell? ⟨w.heap.size + 1, 3, none⟩ = some (.int .i64 0)
  r4 : W.cell? ⟨w.heap.size + 1, 4, none⟩ = some (.int .i64 0)
  qf : ∀ o, W.frozen? ⟨w.heap.size, o, none⟩ = false
  rf : ∀ o, W.frozen? ⟨w.heap.size + 1, o, none⟩ = false
  k0 : W.cell? ⟨bk, 0, none⟩ = some (.slice Ak K.length ck)
  k1 : W.cell? ⟨bk, 1, none⟩ = some (.slice At T.length ct)
  kn : KnV W (w.heap.size + 3) bk (.slice Ak K.length ck) (.slice At T.length ct) K T
theorem LC.keep {w W W' : World} {bk : Nat} {Ak At : Option Addr} {ck ct : Nat} {K : List Int} {T : List TagD} (h : LC w bk Ak ck At ct K T W) {g : Nat} (ht : Touch g (g + 1) W W') (hB : Below w.heap.size w W') (hg : w.heap.size + 2 ≤ g) (hg2 : g ≤ w.heap.size + 2) (hk : g < bk) : LC w bk Ak ck At ct K T W' := by
  have h1 := h.lb
  have h2 := h.lt
  have hb : ∀ k, k ≤ bk → k ≠ g → W'.heap[k]? = W.heap[k]? := fun k b c => ht.block k (by omega) (by omega)
  have e0 := hb w.heap.size (by omega) (by omega)
  have e1 := hb (w.heap.size + 1) (by omega) (by omega)
  have e2 := hb bk (by omega) (by omega)
  exact ⟨hB, h1, Nat.lt_of_lt_of_le h2 ht.size, (cellAtB e0 0).trans h.q0, (cellAtB e0 1).trans h.q1, (cellAtB e1 0).trans h.r0, (cellAtB e1 1).trans h.r1, (cellAtB e1 2).trans h.r2, (cellAtB e1 3).trans h.r3, (cellAtB e1 4).trans h.r4, fun o => (frozenAtB e0 o).trans (h.qf o), fun o => (frozenAtB e1 o).trans (h.rf o), (cellAtB e2 0).trans h.k0, (cellAtB e2 1).trans h.k1, h.kn.keep fun k a b => hb k (by omega) (by omega)⟩
/-- The results are stored. -/
theorem LC.fin {w W W' : World} {bk : Nat} {Ak At : Option Addr} {ck ct : Nat} {K : List Int} {T : List TagD} (h : LC w bk Ak ck At ct K T W) (ht : Touch w.heap.size (w.heap.size + 2) W W') : KnV W' w.heap.size W'.heap.size (.slice Ak K.length ck) (.slice At T.length ct) K T ∧ Below w.heap.size w W' := by
  have h1 := h.lb
  have h2 := h.lt
  have h3 := h.below.size
  exact ⟨(h.kn.keep fun k a b => ht.block k (by omega) (.inr (by omega))).wide (by omega) (by have := ht.size; omega), ht.below h.below (Nat.le_refl _) h3⟩
set_option maxHeartbeats 2000000 in
theorem l15Case_some (A : Option Addr) (cap : Nat) (B : List Int) (w : World) (hr : Rd bcells 1 w 0 w.heap.size A B) (hm : B.length ≤ 1048576) :
    Calls Try.prog 43 #[.slice A B.length cap] w (DrewKT w) := by
  go_enter Try.func43, Try.ntmps43
  go_wp2_with fail
  refine (l01New_any A cap B _ (by exact hr.later (by (repeat' (first | (with_reducible exact Below.refl _ _) | (with_reducible assumption) | (with_reducible refine Below.alloc ?_ ?_ _) | (with_reducible refine Below.drew ?_) | (with_reducible refine below_drewN ?_ _) | (with_reducible refine Below.setCell ?_ ?_ _) | (with_reducible refine bvia ?_ (by with_reducible assumption) ?_) | go_size))) (Nat.le_refl _) (by go_size)) hm).mono ?_
  rintro e w1 ⟨rfl, c1, hb1⟩
  obtain ⟨hc, hf⟩ := bcell hb1
  have hc1_0 := fun o => hc (w.heap.size) o (by go_size)
  have hf1_0 := fun o => hf (w.heap.size) o (by go_size)
  have hz1_0 : w.heap.size < w1.heap.size := Nat.lt_of_lt_of_le (by go_size) hb1.size
  have hc1_1 := fun o => hc (w.heap.size + 1) o (by go_size)
  have hf1_1 := fun o => hf (w.heap.size + 1) o (by go_size)
  have hz1_1 : w.heap.size + 1 < w1.heap.size := Nat.lt_of_lt_of_le (by go_size) hb1.size
  clear hc hf
  have hz1 := hb1.size
  try simp at hz1
  simp only [World.size_alloc] at c1
  have hB1 : Below w.heap.size w w1 := by (repeat' (first | (with_reducible exact Below.refl _ _) | (with_reducible assumption) | (with_reducible refine Below.alloc ?_ ?_ _) | (with_reducible refine Below.drew ?_) | (with_reducible refine below_drewN ?_ _) | (with_reducible refine Below.setCell ?_ ?_ _) | (with_reducible refine bvia ?_ (by with_reducible assumption) ?_) | go_size))
  obtain ⟨g, hg⟩ : ∃ g, w.heap.size + 1 + 1 = g := ⟨_, rfl⟩
  rw [hg] at c1
  try simp only [World.size_alloc]
  rw [hg]
  have hgl : w.heap.size + 2 ≤ g := by omega
  have hgr : g ≤ w.heap.size + 2 := by omega
  clear hg hb1
  have hlt := c1.lt
  go_wp2_with fail
  refine (l15Known_some g _ _ _ c1).mono ?_
  rintro e w2 ⟨v, s2, rfl, ⟨Ak, ck, At, ct, K, T, rfl, KN, hK2, hT4⟩, c2, t2⟩
  have hc2_0 := fun o => t2.cell (p := ⟨w.heap.size, o, none⟩) (by go_size) (by first | exact .inr (show g + 1 ≤ w.heap.size from by omega) | exact .inl (show w.heap.size < g from by omega))
  have hf2_0 := fun o => t2.frozen (p := ⟨w.heap.size, o, none⟩) (by go_size) (by first | exact .inr (show g + 1 ≤ w.heap.size from by omega) | exact .inl (show w.heap.size < g from by omega))
  have hz2_0 : w.heap.size < w2.heap.size := Nat.lt_of_lt_of_le (by go_size) t2.size
  have hc2_1 := fun o => t2.cell (p := ⟨w.heap.size + 1, o, none⟩) (by go_size) (by first | exact .inr (show g + 1 ≤ w.heap.size + 1 from by omega) | exact .inl (show w.heap.size + 1 < g from by omega))
  have hf2_1 := fun o => t2.frozen (p := ⟨w.heap.size + 1, o, none⟩) (by go_size) (by first | exact .inr (show g + 1 ≤ w.heap.size + 1 from by omega) | exact .inl (show w.heap.size + 1 < g from by omega))
  have hz2_1 : w.heap.size + 1 < w2.heap.size := Nat.lt_of_lt_of_le (by go_size) t2.size
  have hz2 := t2.size
  try simp at hz2
  have hB2 := t2.below hB1 (by omega) (by omega)
  obtain ⟨bk, hbk⟩ : ∃ b, w2.heap.size = b := ⟨_, rfl⟩
  have hbk1 : w2.heap.size ≤ bk := Nat.le_of_eq hbk
  have hbk2 : bk ≤ w2.heap.size := Nat.le_of_eq hbk.symm
  have hgk : g < bk := by omega
  have hKn : KnV w2 (w.heap.size + 3) bk (.slice Ak K.length ck) (.slice At T.length ct) K T := KN.wide (by omega) (by omega)
  go_upto_region 3 with (fail)
  refine wp_world _ (fun W => LC w bk Ak ck At ct K T W ∧ Cur W g _ s2) ⟨⟨by (repeat' (first | (with_reducible exact Below.refl _ _) | (with_reducible assumption) | (with_reducible refine Below.alloc ?_ ?_ _) | (with_reducible refine Below.drew ?_) | (with_reducible refine below_drewN ?_ _) | (with_reducible refine Below.setCell ?_ ?_ _) | (with_reducible refine bvia ?_ (by with_reducible assumption) ?_) | go_size)), by omega, by simp; omega, by simp [go_sem, hc2_0, hc1_0, cal, hz2_0, hz1_0], by simp [go_sem, hc2_0, hc1_0, cal, hz2_0, hz1_0], by simp [go_sem, hc2_1, hc1_1, cal, hz2_1, hz1_1], by simp [go_sem, hc2_1, hc1_1, cal, hz2_1, hz1_1], by simp [go_sem, hc2_1, hc1_1, cal, hz2_1, hz1_1], by simp [go_sem, hc2_1, hc1_1, cal, hz2_1, hz1_1], by simp [go_sem, hc2_1, hc1_1, cal, hz2_1, hz1_1], fun o => by simp [go_sem, hf2_0, hf1_0, fal, hz2_0, hz1_0], fun o => by simp [go_sem, hf2_1, hf1_1, fal, hz2_1, hz1_1], by rw [← hbk]; simp [go_sem], by rw [← hbk]; simp [go_sem], hKn.keep fun k _ hk => Below.heap_alloc _ _ _ (by omega)⟩, c2.below (by (repeat' (first | (with_reducible exact Below.refl _ _) | (with_reducible assumption) | (with_reducible refine Below.alloc ?_ ?_ _) | (with_reducible refine Below.drew ?_) | (with_reducible refine below_drewN ?_ _) | (with_reducible refine Below.setCell ?_ ?_ _) | (with_reducible refine bvia ?_ (by with_reducible assumption) ?_) | go_size)))⟩ ?_
  clear hc1_0 hc1_1 hf1_0 hf1_1 hc2_0 hc2_1 hf2_0 hf2_1 hB2 hB1 KN hKn t2 c1 c2 hbk hbk1 hbk2 hz2 hz2_0 hz2_1 hz1 hz1_0 hz1_1 hlt
  clear w2 w1
  rintro W ⟨hL, hC⟩
  have HL := Lib.hid hL
  clear hL
  by_cases h0 : 0 < T.length
  · have d0 : (0 : Int) < (T.length : Int) := by omega
    have q0_ := HL.out.q0
    have q1_ := HL.out.q1
    have r0_ := HL.out.r0
    have r1_ := HL.out.r1
    have r2_ := HL.out.r2
    have r3_ := HL.out.r3
    have r4_ := HL.out.r4
    have k0_ := HL.out.k0
    have k1_ := HL.out.k1
    have qf0 := HL.out.qf 0
    have qf1 := HL.out.qf 1
    have rf0 := HL.out.rf 0
    have rf1 := HL.out.rf 1
    have rf2 := HL.out.rf 2
    have rf3 := HL.out.rf 3
    have rf4 := HL.out.rf 4
    have hlb := HL.out.lb
    have hlt9 := HL.out.lt
    have hlt8 := HL.out.below.size
    have hn1 : ¬ w.heap.size = bk := by omega
    have hn2 : ¬ w.heap.size + 1 = bk := by omega
    have hn3 : ¬ bk = w.heap.size := by omega
    have hn4 : ¬ bk = w.heap.size + 1 := by omega
    go_wp2_with fail
    refine (l01Once_some g _ s2 3 _ hC).mono ?_
    rintro e w3 ⟨v3, s3, rfl, ⟨b3, rfl⟩, c3, t3⟩
    have HL3 := Lib.hid (HL.out.keep t3 (t3.below HL.out.below (by omega) (by omega)) hgl hgr hgk)
    clear q0_ q1_ r0_ r1_ r2_ r3_ r4_ k0_ k1_ qf0 qf1 rf0 rf1 rf2 rf3 rf4 hlb hlt9 hlt8 t3 hC HL
    have HL := HL3
    clear HL3
    cases b3 with
    | false =>
      have k1_ := HL.out.k1
      go_upto_region 5 with (fail)
      have q0_ := HL.out.q0
      have q1_ := HL.out.q1
      have r0_ := HL.out.r0
      have r1_ := HL.out.r1
      have r2_ := HL.out.r2
      have r3_ := HL.out.r3
      have r4_ := HL.out.r4
      have k0_ := HL.out.k0
      have k1_ := HL.out.k1
      have qf0 := HL.out.qf 0
      have qf1 := HL.out.qf 1
      have rf0 := HL.out.rf 0
      have rf1 := HL.out.rf 1
      have rf2 := HL.out.rf 2
      have rf3 := HL.out.rf 3
      have rf4 := HL.out.rf 4
      have hlb := HL.out.lb
      have hlt9 := HL.out.lt
      have hlt8 := HL.out.below.size
      have hn1 : ¬ w.heap.size = bk := by omega
      have hn2 : ¬ w.heap.size + 1 = bk := by omega
      have hn3 : ¬ bk = w.heap.size := by omega
      have hn4 : ¬ bk = w.heap.size + 1 := by omega
      go_wp2_with fail
      refine (l01Once_some g _ s3 12 _ c3).mono ?_
      rintro e w5 ⟨v5, s5, rfl, ⟨b5, rfl⟩, c5, t5⟩
      have HL5 := Lib.hid (HL.out.keep t5 (t5.below HL.out.below (by omega) (by omega)) hgl hgr hgk)
      clear q0_ q1_ r0_ r1_ r2_ r3_ r4_ k0_ k1_ qf0 qf1 rf0 rf1 rf2 rf3 rf4 hlb hlt9 hlt8 t5 c3 HL
      have HL := HL5
      clear HL5
      have q0_ := HL.out.q0
      have q1_ := HL.out.q1
      have r0_ := HL.out.r0
      have r1_ := HL.out.r1
      have r2_ := HL.out.r2
      have r3_ := HL.out.r3
      have r4_ := HL.out.r4
      have k0_ := HL.out.k0
      have k1_ := HL.out.k1
      have qf0 := HL.out.qf 0
      have qf1 := HL.out.qf 1
      have rf0 := HL.out.rf 0
      have rf1 := HL.out.rf 1
      have rf2 := HL.out.rf 2
      have rf3 := HL.out.rf 3
      have rf4 := HL.out.rf 4
      have hlb := HL.out.lb
      have hlt9 := HL.out.lt
      have hlt8 := HL.out.below.size
      have hn1 : ¬ w.heap.size = bk := by omega
      have hn2 : ¬ w.heap.size + 1 = bk := by omega
      have hn3 : ¬ bk = w.heap.size := by omega
      have hn4 : ¬ bk = w.heap.size + 1 := by omega
      cases b5 with
      | true =>
        go_wp2
        refine bodyPost_ret (v := .tuple #[knv Ak K.length ck At T.length ct, (⟨0, 0, 0, 0, 0⟩ : TagD).val]) (by simp [results, Try.results43, go_sem, *]) rfl ?_
        exact ⟨Ak, ck, At, ct, K, T, ⟨0, 0, 0, 0, 0⟩, rfl, (HL.out.fin (by (repeat' (first | (with_reducible exact Touch.refl _ _ _) | (with_reducible assumption) | (with_reducible refine Touch.alloc ?_ _) | (with_reducible refine Touch.drew ?_) | (with_reducible refine Touch.drewN ?_ _) | (with_reducible refine Touch.setCell ?_ ?_ ?_ _) | (with_reducible refine Touch.via ?_ (by with_reducible assumption)) | go_size)))).1, hK2, hT4, (HL.out.fin (by (repeat' (first | (with_reducible exact Touch.refl _ _ _) | (with_reducible assumption) | (with_reducible refine Touch.alloc ?_ _) | (with_reducible refine Touch.drew ?_) | (with_reducible refine Touch.drewN ?_ _) | (with_reducible refine Touch.setCell ?_ ?_ ?_ _) | (with_reducible refine Touch.via ?_ (by with_reducible assumption)) | go_size)))).2⟩
      | false =>
        go_wp2_with fail
        go_region_held3 (fun w' => w'.cell? ⟨bk, 0, none⟩ = some (.slice Ak K.length ck) ∧ w'.cell? ⟨bk, 1, none⟩ = some (.slice At T.length ct)) (first | (refine ⟨?_, ?_⟩ <;> (with_reducible assumption)) | (refine ⟨?_, ?_⟩ <;> (repeat (first | rw [csn _ ⟨w.heap.size, _, none⟩ _ bk _ hn1] | rw [csn _ ⟨w.heap.size + 1, _, none⟩ _ bk _ hn2])) <;> (with_reducible assumption)) | exact ⟨k0_, k1_⟩)
          (first
            | (go_at_call 51; refine (l15Tag_some g _ s5 _ (c5.below (by (repeat' (first | (with_reducible exact Below.refl _ _) | (with_reducible assumption) | (with_reducible refine Below.alloc ?_ ?_ _) | (with_reducible refine Below.drew ?_) | (with_reducible refine below_drewN ?_ _) | (with_reducible refine Below.setCell ?_ ?_ _) | (with_reducible refine bvia ?_ (by with_reducible assumption) ?_) | go_size))))).mono ?_; rintro e w6 ⟨v6, s6, rfl, ⟨a, rfl⟩, c6, t6⟩; have T6 : Touch g (g + 1) w5 w6 := (Touch.drew (Touch.refl _ _ _)).trans t6; have HL6 := Lib.hid (HL.out.keep T6 (T6.below HL.out.below (by omega) (by omega)) hgl hgr hgk); have q06 := HL6.out.q0; have q16 := HL6.out.q1; have r06 := HL6.out.r0; have r16 := HL6.out.r1; have r26 := HL6.out.r2; have r36 := HL6.out.r3; have r46 := HL6.out.r4; have k06 := HL6.out.k0; have k16 := HL6.out.k1; have qf06 := HL6.out.qf 0; have qf16 := HL6.out.qf 1; have rf06 := HL6.out.rf 0; have rf16 := HL6.out.rf 1; have rf26 := HL6.out.rf 2; have rf36 := HL6.out.rf 3; have rf46 := HL6.out.rf 4; have hw6 : w.heap.size + 1 < w6.heap.size := (by have := HL6.out.below.size; have := HL6.out.lb; have := HL6.out.lt; omega))
            | fail)
        go_wp2
        refine bodyPost_ret (v := .tuple #[knv Ak K.length ck At T.length ct, (a : TagD).val]) (by simp [results, Try.results43, go_sem, *]) rfl ?_
        exact ⟨Ak, ck, At, ct, K, T, a, rfl, (HL6.out.fin (by (repeat' (first | (with_reducible exact Touch.refl _ _ _) | (with_reducible assumption) | (with_reducible refine Touch.alloc ?_ _) | (with_reducible refine Touch.drew ?_) | (with_reducible refine Touch.drewN ?_ _) | (with_reducible refine Touch.setCell ?_ ?_ ?_ _) | (with_reducible refine Touch.via ?_ (by with_reducible assumption)) | go_size)))).1, hK2, hT4, (HL6.out.fin (by (repeat' (first | (with_reducible exact Touch.refl _ _ _) | (with_reducible assumption) | (with_reducible refine Touch.alloc ?_ _) | (with_reducible refine Touch.drew ?_) | (with_reducible refine Touch.drewN ?_ _) | (with_reducible refine Touch.setCell ?_ ?_ ?_ _) | (with_reducible refine Touch.via ?_ (by with_reducible assumption)) | go_size)))).2⟩
    | true =>
      obtain ⟨A9, c9, hv9, -, -, hrT⟩ := HL.out.kn.2.1.1.rd TagD.cells_length
      cases hv9
      obtain ⟨ga, oa, rfl, hga, hgb, hcell⟩ := hrT.at_ h0
      have HCELL := Lib.hid hcell
      clear hrT hcell
      have hn5 : ¬ w.heap.size = ga := by omega
      have q0_ := HL.out.q0
      have q1_ := HL.out.q1
      have r0_ := HL.out.r0
      have r1_ := HL.out.r1
      have r2_ := HL.out.r2
      have r3_ := HL.out.r3
      have r4_ := HL.out.r4
      have k0_ := HL.out.k0
      have k1_ := HL.out.k1
      have qf0 := HL.out.qf 0
      have qf1 := HL.out.qf 1
      have rf0 := HL.out.rf 0
      have rf1 := HL.out.rf 1
      have rf2 := HL.out.rf 2
      have rf3 := HL.out.rf 3
      have rf4 := HL.out.rf 4
      have hlb := HL.out.lb
      have hlt9 := HL.out.lt
      have hlt8 := HL.out.below.size
      have hn1 : ¬ w.heap.size = bk := by omega
      have hn2 : ¬ w.heap.size + 1 = bk := by omega
      have hn3 : ¬ bk = w.heap.size := by omega
      have hn4 : ¬ bk = w.heap.size + 1 := by omega
      go_wp2_with fail
      have HS0 : Hid ((World.drew w3).cell? ⟨bk, 0, none⟩ = some (.slice Ak K.length ck) ∧ (World.drew w3).cell? ⟨bk, 1, none⟩ = some (.slice (some ⟨ga, oa, none⟩) T.length ct) ∧ ∀ (m : Nat) (hm : m < T.length) (j : Nat), j < 5 → (World.drew w3).cell? ⟨ga, oa + m * 5 + j, none⟩ = (T[m].cells)[j]?) := ⟨k0_, k1_, HCELL.out⟩
      refine wp_region_but 11 (fun w' => w'.cell? ⟨bk, 0, none⟩ = some (.slice Ak K.length ck) ∧ w'.cell? ⟨bk, 1, none⟩ = some (.slice (some ⟨ga, oa, none⟩) T.length ct) ∧ ∀ (m : Nat) (hm : m < T.length) (j : Nat), j < 5 → w'.cell? ⟨ga, oa + m * 5 + j, none⟩ = (T[m].cells)[j]?) (by kernel_rfl) ?_
      refine AnyBut.take (i := 0) (v := ?_) rfl (by kernel_rfl) (by kernel_rfl) (by kernel_rfl) (by kernel_rfl) (fun _ _ _ h => h) (Or.inl ⟨by rfl, ?_⟩) HS0.out ?_
      rotate_left
      · intro w' hSw
        obtain ⟨y0, y1, y2⟩ := hSw
        go_simp
        all_goals (with_reducible rfl)
      change AnyBut _ _ _ _ _ _ _ _ (Act.put _ (some 18) _) _
      (try simp only [Act.put, List.setIfInBounds_toArray, List.set_cons_zero, List.set_cons_succ])
      refine AnyBut.take (i := 1) (v := ?_) rfl (by kernel_rfl) (by kernel_rfl) (by kernel_rfl) (by kernel_rfl) (fun _ _ _ h => h) (Or.inl ⟨by rfl, ?_⟩) HS0.out ?_
      rotate_left
      · intro w' hSw
        obtain ⟨y0, y1, y2⟩ := hSw
        go_simp
        all_goals (with_reducible rfl)
      change AnyBut _ _ _ _ _ _ _ _ (Act.put _ (some 19) _) _
      (try simp only [Act.put, List.setIfInBounds_toArray, List.set_cons_zero, List.set_cons_succ])
      refine AnyBut.take (i := 2) (v := ?_) rfl (by kernel_rfl) (by kernel_rfl) (by kernel_rfl) (by kernel_rfl) (fun _ _ _ h => h) (Or.inl ⟨by rfl, ?_⟩) HS0.out ?_
      rotate_left
      · intro w' hSw
        obtain ⟨y0, y1, y2⟩ := hSw
        go_simp
        all_goals (with_reducible rfl)
      change AnyBut _ _ _ _ _ _ _ _ (Act.put _ (some 20) _) _
      (try simp only [Act.put, List.setIfInBounds_toArray, List.set_cons_zero, List.set_cons_succ])
      refine AnyBut.take (i := 3) (v := ?_) rfl (by kernel_rfl) (by kernel_rfl) (by kernel_rfl) (by kernel_rfl) (fun _ _ _ h => h) (Or.inl ⟨by rfl, ?_⟩) HS0.out ?_
      rotate_left
      · intro w' hSw
        obtain ⟨y0, y1, y2⟩ := hSw
        go_simp
        all_goals (with_reducible rfl)
      change AnyBut _ _ _ _ _ _ _ _ (Act.put _ (some 21) _) _
      (try simp only [Act.put, List.setIfInBounds_toArray, List.set_cons_zero, List.set_cons_succ])
      refine AnyBut.take (i := 4) (v := ?_) rfl (by kernel_rfl) (by kernel_rfl) (by kernel_rfl) (by kernel_rfl) (fun _ _ _ h => h) (Or.inl ⟨by rfl, ?_⟩) HS0.out ?_
      rotate_left
      · intro w' hSw
        obtain ⟨y0, y1, y2⟩ := hSw
        go_simp
        all_goals (with_reducible rfl)
      change AnyBut _ _ _ _ _ _ _ _ (Act.put _ (some 22) _) _
      (try simp only [Act.put, List.setIfInBounds_toArray, List.set_cons_zero, List.set_cons_succ])
      refine AnyBut.take (i := 5) (v := ?_) rfl (by kernel_rfl) (by kernel_rfl) (by kernel_rfl) (by kernel_rfl) (fun _ _ _ h => h) (Or.inl ⟨by rfl, ?_⟩) HS0.out ?_
      rotate_left
      · intro w' hSw
        obtain ⟨y0, y1, y2⟩ := hSw
        go_simp
        all_goals (with_reducible rfl)
      change AnyBut _ _ _ _ _ _ _ _ (Act.put _ (some 23) _) _
      (try simp only [Act.put, List.setIfInBounds_toArray, List.set_cons_zero, List.set_cons_succ])
      refine AnyBut.take (i := 6) (v := ?_) rfl (by kernel_rfl) (by kernel_rfl) (by kernel_rfl) (by kernel_rfl) (fun _ _ _ h => h) (Or.inl ⟨by rfl, ?_⟩) HS0.out ?_
      rotate_left
      · intro w' hSw
        obtain ⟨y0, y1, y2⟩ := hSw
        go_simp
        all_goals (with_reducible rfl)
      change AnyBut _ _ _ _ _ _ _ _ (Act.put _ (some 24) _) _
      (try simp only [Act.put, List.setIfInBounds_toArray, List.set_cons_zero, List.set_cons_succ])
      refine AnyBut.one (i := 7) rfl (by kernel_rfl) (fun K9 hK9 => ?_)
      go_simp
      refine (l01Below_some g _ s3 T.length _ d0 (c3.below (by (repeat' (first | (with_reducible exact Below.refl _ _) | (with_reducible assumption) | (with_reducible refine Below.alloc ?_ ?_ _) | (with_reducible refine Below.drew ?_) | (with_reducible refine below_drewN ?_ _) | (with_reducible refine Below.setCell ?_ ?_ _) | (with_reducible refine bvia ?_ (by with_reducible assumption) ?_) | go_size))))).mono ?_
      rintro e w6 ⟨v6, s6, rfl, ⟨x, rfl, p6, q6⟩, c6, t6⟩
      obtain ⟨m, rfl⟩ : ∃ m : Nat, x = m := ⟨x.toNat, by omega⟩
      have hm6 : m < T.length := by omega
      have T6 : Touch g (g + 1) w3 w6 := (Touch.drew (Touch.refl _ _ _)).trans t6
      have HL6 := Lib.hid (HL.out.keep T6 (T6.below HL.out.below (by omega) (by omega)) hgl hgr hgk)
      have q0_6 := HL6.out.q0
      have q1_6 := HL6.out.q1
      have r0_6 := HL6.out.r0
      have r1_6 := HL6.out.r1
      have r2_6 := HL6.out.r2
      have r3_6 := HL6.out.r3
      have r4_6 := HL6.out.r4
      have k0_6 := HL6.out.k0
      have k1_6 := HL6.out.k1
      have qf0_6 := HL6.out.qf 0
      have qf1_6 := HL6.out.qf 1
      have rf0_6 := HL6.out.rf 0
      have rf1_6 := HL6.out.rf 1
      have rf2_6 := HL6.out.rf 2
      have rf3_6 := HL6.out.rf 3
      have rf4_6 := HL6.out.rf 4
      have hw6 : w.heap.size + 1 < w6.heap.size := by have := HL6.out.below.size; have := HL6.out.lb; have := HL6.out.lt; omega
      have HA6 : Hid (∀ (m : Nat) (hm : m < T.length) (j : Nat), j < 5 → w6.cell? ⟨ga, oa + m * 5 + j, none⟩ = (T[m].cells)[j]?) := fun m hm j hj => (T6.cell (p := ⟨ga, oa + m * 5 + j, none⟩) hgb (.inr (by show g + 1 ≤ ga; omega))).trans (HCELL.out m hm j hj)
      have HS6 : Hid (w6.cell? ⟨bk, 0, none⟩ = some (.slice Ak K.length ck) ∧ w6.cell? ⟨bk, 1, none⟩ = some (.slice (some ⟨ga, oa, none⟩) T.length ct) ∧ ∀ (m : Nat) (hm : m < T.length) (j : Nat), j < 5 → w6.cell? ⟨ga, oa + m * 5 + j, none⟩ = (T[m].cells)[j]?) := ⟨k0_6, k1_6, HA6.out⟩
      refine hK9 _ _ (fun h9 => HS6.out) ?_
      clear hK9 K9
      (try simp only [Act.put, List.setIfInBounds_toArray, List.set_cons_zero, List.set_cons_succ])
      refine AnyBut.take (i := 8) (v := ?_) rfl (by kernel_rfl) (by kernel_rfl) (by kernel_rfl) (by kernel_rfl) (fun _ _ _ h => h) (Or.inl ⟨by rfl, ?_⟩) HS6.out ?_
      rotate_left
      · intro w' hSw
        obtain ⟨y0, y1, y2⟩ := hSw
        go_simp
        all_goals (with_reducible rfl)
      change AnyBut _ _ _ _ _ _ _ _ (Act.put _ (some 26) _) _
      (try simp only [Act.put, List.setIfInBounds_toArray, List.set_cons_zero, List.set_cons_succ])
      refine AnyBut.take (i := 9) (v := ?_) rfl (by kernel_rfl) (by kernel_rfl) (by kernel_rfl) (by kernel_rfl) (fun _ _ _ h => h) (Or.inl ⟨by rfl, ?_⟩) HS6.out ?_
      rotate_left
      · intro w' hSw
        obtain ⟨y0, y1, y2⟩ := hSw
        have z0 : w'.cell? ⟨ga, oa + m * 5, none⟩ = some (.int .i64 T[m].fKind) := y2 m hm6 0 (by decide)
        have z1 : w'.cell? ⟨ga, oa + m * 5 + 1, none⟩ = some (.int .i64 T[m].fOne) := y2 m hm6 1 (by decide)
        have z2 : w'.cell? ⟨ga, oa + m * 5 + 2, none⟩ = some (.int .i64 T[m].fTwo) := y2 m hm6 2 (by decide)
        have z3 : w'.cell? ⟨ga, oa + m * 5 + 3, none⟩ = some (.int .i64 T[m].fA) := y2 m hm6 3 (by decide)
        have z4 : w'.cell? ⟨ga, oa + m * 5 + 4, none⟩ = some (.int .i64 T[m].fB) := y2 m hm6 4 (by decide)
        clear y2
        go_simp
        all_goals (with_reducible rfl)
      change AnyBut _ _ _ _ _ _ _ _ (Act.put _ (some 27) _) _
      (try simp only [Act.put, List.setIfInBounds_toArray, List.set_cons_zero, List.set_cons_succ])
      refine AnyBut.one (i := 10) rfl (by kernel_rfl) (fun K9 hK9 => ?_)
      go_simp
      
      refine hK9 _ _ (fun h9 => ⟨by rw [csn _ ⟨w.heap.size, 1, none⟩ _ bk _ hn1, csn _ ⟨w.heap.size, 0, none⟩ _ bk _ hn1]; exact k0_6, by rw [csn _ ⟨w.heap.size, 1, none⟩ _ bk _ hn1, csn _ ⟨w.heap.size, 0, none⟩ _ bk _ hn1]; exact k1_6, fun m hm j hj => by rw [csn _ ⟨w.heap.size, 1, none⟩ _ ga _ hn5, csn _ ⟨w.heap.size, 0, none⟩ _ ga _ hn5]; exact HA6.out m hm j hj⟩) ?_
      clear hK9 K9
      (try simp only [Act.put, List.setIfInBounds_toArray, List.set_cons_zero, List.set_cons_succ])
      refine AnyBut.one (i := 11) rfl (by kernel_rfl) (fun K9 hK9 => ?_)
      go_simp
      
      refine hK9 _ _ (fun h9 => absurd rfl h9) ?_
      clear hK9 K9
      (try simp only [Act.put, List.setIfInBounds_toArray, List.set_cons_zero, List.set_cons_succ])
      refine AnyBut.done (by kernel_rfl) ?_ _
      go_wp2
      refine bodyPost_ret (v := .tuple #[knv Ak K.length ck (some ⟨ga, oa, none⟩) T.length ct, (T[m] : TagD).val]) (by simp [results, Try.results43, go_sem, *]) rfl ?_
      exact ⟨Ak, ck, some ⟨ga, oa, none⟩, ct, K, T, T[m], rfl, (HL6.out.fin (by (repeat' (first | (with_reducible exact Touch.refl _ _ _) | (with_reducible assumption) | (with_reducible refine Touch.alloc ?_ _) | (with_reducible refine Touch.drew ?_) | (with_reducible refine Touch.drewN ?_ _) | (with_reducible refine Touch.setCell ?_ ?_ ?_ _) | (with_reducible refine Touch.via ?_ (by with_reducible assumption)) | go_size)))).1, hK2, hT4, (HL6.out.fin (by (repeat' (first | (with_reducible exact Touch.refl _ _ _) | (with_reducible assumption) | (with_reducible refine Touch.alloc ?_ _) | (with_reducible refine Touch.drew ?_) | (with_reducible refine Touch.drewN ?_ _) | (with_reducible refine Touch.setCell ?_ ?_ ?_ _) | (with_reducible refine Touch.via ?_ (by with_reducible assumption)) | go_size)))).2⟩
  · have d0 : (T.length : Int) ≤ 0 := by omega
    have k1_ := HL.out.k1
    go_upto_region 5 with (fail)
    have q0_ := HL.out.q0
    have q1_ := HL.out.q1
    have r0_ := HL.out.r0
    have r1_ := HL.out.r1
    have r2_ := HL.out.r2
    have r3_ := HL.out.r3
    have r4_ := HL.out.r4
    have k0_ := HL.out.k0
    have k1_ := HL.out.k1
    have qf0 := HL.out.qf 0
    have qf1 := HL.out.qf 1
    have rf0 := HL.out.rf 0
    have rf1 := HL.out.rf 1
    have rf2 := HL.out.rf 2
    have rf3 := HL.out.rf 3
    have rf4 := HL.out.rf 4
    have hlb := HL.out.lb
    have hlt9 := HL.out.lt
    have hlt8 := HL.out.below.size
    have hn1 : ¬ w.heap.size = bk := by omega
    have hn2 : ¬ w.heap.size + 1 = bk := by omega
    have hn3 : ¬ bk = w.heap.size := by omega
    have hn4 : ¬ bk = w.heap.size + 1 := by omega
    go_wp2_with fail
    refine (l01Once_some g _ s2 12 _ hC).mono ?_
    rintro e w5 ⟨v5, s5, rfl, ⟨b5, rfl⟩, c5, t5⟩
    have HL5 := Lib.hid (HL.out.keep t5 (t5.below HL.out.below (by omega) (by omega)) hgl hgr hgk)
    clear q0_ q1_ r0_ r1_ r2_ r3_ r4_ k0_ k1_ qf0 qf1 rf0 rf1 rf2 rf3 rf4 hlb hlt9 hlt8 t5 hC HL
    have HL := HL5
    clear HL5
    have q0_ := HL.out.q0
    have q1_ := HL.out.q1
    have r0_ := HL.out.r0
    have r1_ := HL.out.r1
    have r2_ := HL.out.r2
    have r3_ := HL.out.r3
    have r4_ := HL.out.r4
    have k0_ := HL.out.k0
    have k1_ := HL.out.k1
    have qf0 := HL.out.qf 0
    have qf1 := HL.out.qf 1
    have rf0 := HL.out.rf 0
    have rf1 := HL.out.rf 1
    have rf2 := HL.out.rf 2
    have rf3 := HL.out.rf 3
    have rf4 := HL.out.rf 4
    have hlb := HL.out.lb
    have hlt9 := HL.out.lt
    have hlt8 := HL.out.below.size
    have hn1 : ¬ w.heap.size = bk := by omega
    have hn2 : ¬ w.heap.size + 1 = bk := by omega
    have hn3 : ¬ bk = w.heap.size := by omega
    have hn4 : ¬ bk = w.heap.size + 1 := by omega
    cases b5 with
    | true =>
      go_wp2
      refine bodyPost_ret (v := .tuple #[knv Ak K.length ck At T.length ct, (⟨0, 0, 0, 0, 0⟩ : TagD).val]) (by simp [results, Try.results43, go_sem, *]) rfl ?_
      exact ⟨Ak, ck, At, ct, K, T, ⟨0, 0, 0, 0, 0⟩, rfl, (HL.out.fin (by (repeat' (first | (with_reducible exact Touch.refl _ _ _) | (with_reducible assumption) | (with_reducible refine Touch.alloc ?_ _) | (with_reducible refine Touch.drew ?_) | (with_reducible refine Touch.drewN ?_ _) | (with_reducible refine Touch.setCell ?_ ?_ ?_ _) | (with_reducible refine Touch.via ?_ (by with_reducible assumption)) | go_size)))).1, hK2, hT4, (HL.out.fin (by (repeat' (first | (with_reducible exact Touch.refl _ _ _) | (with_reducible assumption) | (with_reducible refine Touch.alloc ?_ _) | (with_reducible refine Touch.drew ?_) | (with_reducible refine Touch.drewN ?_ _) | (with_reducible refine Touch.setCell ?_ ?_ ?_ _) | (with_reducible refine Touch.via ?_ (by with_reducible assumption)) | go_size)))).2⟩
    | false =>
      go_wp2_with fail
      go_region_held3 (fun w' => w'.cell? ⟨bk, 0, none⟩ = some (.slice Ak K.length ck) ∧ w'.cell? ⟨bk, 1, none⟩ = some (.slice At T.length ct)) (first | (refine ⟨?_, ?_⟩ <;> (with_reducible assumption)) | (refine ⟨?_, ?_⟩ <;> (repeat (first | rw [csn _ ⟨w.heap.size, _, none⟩ _ bk _ hn1] | rw [csn _ ⟨w.heap.size + 1, _, none⟩ _ bk _ hn2])) <;> (with_reducible assumption)) | exact ⟨k0_, k1_⟩)
        (first
          | (go_at_call 51; refine (l15Tag_some g _ s5 _ (c5.below (by (repeat' (first | (with_reducible exact Below.refl _ _) | (with_reducible assumption) | (with_reducible refine Below.alloc ?_ ?_ _) | (with_reducible refine Below.drew ?_) | (with_reducible refine below_drewN ?_ _) | (with_reducible refine Below.setCell ?_ ?_ _) | (with_reducible refine bvia ?_ (by with_reducible assumption) ?_) | go_size))))).mono ?_; rintro e w6 ⟨v6, s6, rfl, ⟨a, rfl⟩, c6, t6⟩; have T6 : Touch g (g + 1) w5 w6 := (Touch.drew (Touch.refl _ _ _)).trans t6; have HL6 := Lib.hid (HL.out.keep T6 (T6.below HL.out.below (by omega) (by omega)) hgl hgr hgk); have q06 := HL6.out.q0; have q16 := HL6.out.q1; have r06 := HL6.out.r0; have r16 := HL6.out.r1; have r26 := HL6.out.r2; have r36 := HL6.out.r3; have r46 := HL6.out.r4; have k06 := HL6.out.k0; have k16 := HL6.out.k1; have qf06 := HL6.out.qf 0; have qf16 := HL6.out.qf 1; have rf06 := HL6.out.rf 0; have rf16 := HL6.out.rf 1; have rf26 := HL6.out.rf 2; have rf36 := HL6.out.rf 3; have rf46 := HL6.out.rf 4; have hw6 : w.heap.size + 1 < w6.heap.size := (by have := HL6.out.below.size; have := HL6.out.lb; have := HL6.out.lt; omega))
          | fail)
      go_wp2
      refine bodyPost_ret (v := .tuple #[knv Ak K.length ck At T.length ct, (a : TagD).val]) (by simp [results, Try.results43, go_sem, *]) rfl ?_
      exact ⟨Ak, ck, At, ct, K, T, a, rfl, (HL6.out.fin (by (repeat' (first | (with_reducible exact Touch.refl _ _ _) | (with_reducible assumption) | (with_reducible refine Touch.alloc ?_ _) | (with_reducible refine Touch.drew ?_) | (with_reducible refine Touch.drewN ?_ _) | (with_reducible refine Touch.setCell ?_ ?_ ?_ _) | (with_reducible refine Touch.via ?_ (by with_reducible assumption)) | go_size)))).1, hK2, hT4, (HL6.out.fin (by (repeat' (first | (with_reducible exact Touch.refl _ _ _) | (with_reducible assumption) | (with_reducible refine Touch.alloc ?_ _) | (with_reducible refine Touch.drew ?_) | (with_reducible refine Touch.drewN ?_ _) | (with_reducible refine Touch.setCell ?_ ?_ ?_ _) | (with_reducible refine Touch.via ?_ (by with_reducible assumption)) | go_size)))).2⟩
end Go.Proofs.Ytomjfhcfellikaa
