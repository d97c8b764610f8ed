/- l09Any: for every state of the cursor, exact. Written by program (drawpany.py). -/
import Derived.Test.YtpjbnfpadbknpaaDrawPcs
import Derived.Test.YtpjbnfpadbknpaaDrawLongX
import Derived.Test.YtpjbnfpadbknpaaAnyTwo
namespace Go.Proofs.Ytpjbnfpadbknpaa
set_option linter.unusedSimpArgs false
set_option linter.unusedVariables false
open Go.RowKit
/-- The state of l09Any: its boxes, the list, the cursor. -/
structure PDX (w : World) (g : Nat) (S : Src) (b : Nat) (r : Int) (S' : ByteArray) (A : Option Addr) (cp : Nat) (L : List PieceD) (s : Nat × Int) (W : World) : Prop where
  d : PD w b r S' (.slice A L.length cp) W
  o : OwnO W (w.heap.size + 1) PieceD.cells 2 (.slice A L.length cp) L
  n : (Value.slice A L.length cp).ownBlock ≠ some b
  c : Cur W g S s
  t : Touch g (g + 1) w W
section
variable {w W W' : World} {g b : Nat} {S : Src} {r : Int} {S' : ByteArray} {A : Option Addr} {cp : Nat} {L : List PieceD} {s s' : Nat × Int}
theorem PDX.step (h : PDX w g S b r S' A cp L s W) (ht : Touch g (g + 1) W W') (hc : Cur W' g S s') (hg : g < w.heap.size) : PDX w g S b r S' A cp L s' W' :=
  ⟨h.d.touch ht (by omega), h.o.touch ht (by omega), h.n, hc, h.t.trans ht⟩
theorem PDX.next (h : PDX w g S b r S' A cp L s W) (hb : Below W.heap.size W W') : PDX w g S b r S' A cp L s W' :=
  ⟨h.d.next (hb.mono (by have := h.d.z; omega)), h.o.later hb (Nat.le_refl _), h.n, h.c.below hb, h.t.via hb⟩
theorem PDX.set0 (h : PDX w g S b r S' A cp L s W) (hg : g < w.heap.size) (r' : Int) : PDX w g S b r' S' A cp L s (W.setCell ⟨b, 0, none⟩ (.int .i64 r')) := by
  have := h.d.hb
  exact ⟨h.d.set0 r', h.o.setOther h.n _, h.n, h.c.keep (lo := b) (hi := b + 1) ((Touch.refl _ _ _).setCell (p := ⟨b, 0, none⟩) (Nat.le_refl _) (Nat.lt_succ_self _) _) (by omega), h.t.setNew (p := ⟨b, 0, none⟩) (by show w.heap.size ≤ b; omega) _⟩
theorem PDX.set1 (h : PDX w g S b r S' A cp L s W) (hg : g < w.heap.size) (T : ByteArray) : PDX w g S b r T A cp L s (W.setCell ⟨b, 1, none⟩ (.string T)) := by
  have := h.d.hb
  exact ⟨h.d.set1 T, h.o.setOther h.n _, h.n, h.c.keep (lo := b) (hi := b + 1) ((Touch.refl _ _ _).setCell (p := ⟨b, 1, none⟩) (Nat.le_refl _) (Nat.lt_succ_self _) _) (by omega), h.t.setNew (p := ⟨b, 1, none⟩) (by show w.heap.size ≤ b; omega) _⟩
/-- Behind an append: the list's new slice (not stored yet), and the boxes as they were. -/
structure PDG (w : World) (g : Nat) (S : Src) (b : Nat) (r : Int) (S' : ByteArray) (v : Value) (A : Option Addr) (cp : Nat) (L : List PieceD) (s : Nat × Int) (W : World) : Prop where
  d : PD w b r S' v W
  o : OwnO W (w.heap.size + 1) PieceD.cells 2 (.slice A L.length cp) L
  n : (Value.slice A L.length cp).ownBlock ≠ some b
  c : Cur W g S s
  t : Touch g (g + 1) w W
theorem PDX.app (h : PDX w g S b r S' A cp L s W) (hg : g < w.heap.size) {M : List PieceD} {v5 : Value} (O5 : OwnO W' (w.heap.size + 1) PieceD.cells 2 v5 M) (G5 : W.grownBy W' (Value.slice A L.length cp).ownBlock) (X5 : v5.ownBlock = (Value.slice A L.length cp).ownBlock ∨ ∃ k, v5.ownBlock = some k ∧ W.heap.size ≤ k) : ∃ A5 k5, v5 = .slice A5 M.length k5 ∧ PDG w g S b r S' (.slice A L.length cp) A5 k5 M s W' := by
  obtain ⟨A5, k5, rfl, -, -, -⟩ := O5.rd
  have hb := h.d.hb
  have hz := h.d.z
  have hlo : ∀ k, (Value.slice A L.length cp).ownBlock = some k → w.heap.size < k := fun k hk => (h.o.lt hk).1
  refine ⟨A5, k5, rfl, h.d.keep G5.size (G5.block _ (by omega) (fun e => by have := hlo _ e.symm; omega)) (G5.block _ (by omega) (fun e => h.n e.symm)), O5, ?_, ?_, ?_⟩
  · rcases X5 with h5 | ⟨k, h5, h6⟩
    · rw [h5]; exact h.n
    · rw [h5]; intro h7; have := Option.some.inj h7; omega
  · exact h.c.keep (lo := w.heap.size + 1) (hi := W.heap.size) ((Touch.refl _ _ _).grown G5 (fun k hk => ⟨hlo k hk, (h.o.lt hk).2⟩)) (by omega)
  · exact h.t.grownNew G5 (fun k hk => by have := hlo k hk; omega)
theorem PDG.drew {v : Value} (h : PDG w g S b r S' v A cp L s W) : PDG w g S b r S' v A cp L s W := h
theorem PDG.set {v : Value} (h : PDG w g S b r S' v A cp L s W) (hg : g < w.heap.size) : PDX w g S b r S' A cp L s (W.setCell ⟨b, 2, none⟩ (.slice A L.length cp)) := by
  have := h.d.hb
  exact ⟨h.d.set2 _, h.o.setOther h.n _, h.n, h.c.keep (lo := b) (hi := b + 1) ((Touch.refl _ _ _).setCell (p := ⟨b, 2, none⟩) (Nat.le_refl _) (Nat.lt_succ_self _) _) (by omega), h.t.setNew (p := ⟨b, 2, none⟩) (by show w.heap.size ≤ b; omega) _⟩
theorem PDX.fin (h : PDX w g S b r S' A cp L s W) (hg : g < w.heap.size) : DrewP g S w ((r, S', L), s) (.returned (pv r S' A L.length cp)) (((W.setCell ⟨w.heap.size, 0, none⟩ (.int .i64 r)).setCell ⟨w.heap.size, 1, none⟩ (.string S')).setCell ⟨w.heap.size, 2, none⟩ (.slice A L.length cp)) := by
  have h3 := touch3 W w.heap.size (.int .i64 r) (.string S') (.slice A L.length cp)
  exact ⟨A, cp, rfl, (h.o.touch h3 (Nat.le_refl _)).up (by omega), h.c.keep h3 hg, ((h.t.setNew (p := ⟨w.heap.size, 0, none⟩) (Nat.le_refl _) _).setNew (p := ⟨w.heap.size, 1, none⟩) (Nat.le_refl _) _).setNew (p := ⟨w.heap.size, 2, none⟩) (Nat.le_refl _) _⟩
end
/-- A piece that lies in a new block. -/
theorem one_cells (w : World) (x : PieceD) (e : TypeId) (arr : Array Value) (h : arr = #[.int .i64 x.fAt, .string x.fText]) : ∀ j u, (x.cells)[j]? = some u → (w.alloc (.cells arr e)).cell? ((⟨w.heap.size, 0, none⟩ : Addr).add j) = some u := by
  subst h
  intro j u hu
  rw [show (⟨w.heap.size, 0, none⟩ : Addr).add j = ⟨w.heap.size, j, none⟩ from by simp [Addr.add]; intro h; exact h.symm, cell_of_row _ _ _ _ _ (0, 0) (heap_alloc_new w _)]
  simpa [PieceD.cells] using hu
theorem step_append_o {P : Program} {ops : Array Oper} {o : Oper} {a : Act} {K : Act → World → Prop} {Q : Exit → Act → World → Prop} {E : Prop} {α : Type} {c : α → List Value} {sz : Nat} {w : World} (hgd : o.guard = none) (s y : Operand) {t e : TypeId} (ho : o.op = .call { callee := .builtin .append, args := #[s, y], argTypes := #[t, t] })
    (hT : SlTy P t e sz) (hc : ∀ x, (c x).length = sz) (h1 : ∀ x, ∀ u ∈ c x, u.oneCell' = true) (base : Nat) (v : Value) (L : List α) (x : α) (hs : a.eval s = v) (hown : OwnO w base c sz v L) (ad : Addr) (k : Nat) (hy : a.eval y = .slice (some ad) 1 k) (hx : ∀ j u, (c x)[j]? = some u → w.cell? (ad.add j) = some u) (hlen : L.length + 1 ≤ 1099511627776) (hb : base ≤ w.heap.size)
    (h : ∀ v' w', OwnO w' base c sz v' (L ++ [x]) → w.grownBy w' v.ownBlock → (v'.ownBlock = v.ownBlock ∨ ∃ k, v'.ownBlock = some k ∧ w.heap.size ≤ k) → K (a.put o.dst v') w') :
    if Region.wanted o (yielded ops a.tmps) = true then Oper.wp P o a w K Q else E := by
  have hw : Region.wanted o (yielded ops a.tmps) = true := by simp [Region.wanted, hgd]
  rw [if_pos hw]
  obtain ⟨v', w', hrun, h2, h3, h4⟩ := run_append_o (P := P) w o.type hT hc h1 base v L x hown ad k hx hlen hb
  unfold Oper.wp
  simp [execOp, ho, resolve, invoke, builtin, hs, hy, hrun, Result.andThen]
  exact h _ _ h2 h3 h4
set_option maxRecDepth 20000 in
set_option maxHeartbeats 20000000 in
theorem l09Any_any (g : Nat) (S : Src) (s : Nat × Int) (w : World) (hc : Cur w g S s) :
    Calls Try.prog 30 #[.pointer (some ⟨g, 0, none⟩)] w (fun e w' => PBd (anyV S.B s).1.2.1 (anyV S.B s).1.2.2 ∧ DrewP g S w (anyV S.B s) e w') := by
  have hlt := hc.lt
  refine Calls.mono (R := DrewP g S w (anyV S.B s)) ?_ (fun e w' h => ⟨any_bd _ _, h⟩)
  go_enter Try.func30, Try.ntmps30
  go_wp2_with fail
  refine (l09Pieces_any g S s _ (hc.below (by (repeat' (first | (with_reducible exact Below.refl _ _) | (with_reducible assumption) | (with_reducible refine Below.alloc ?_ ?_ _) | (with_reducible refine Below.drew ?_) | (with_reducible refine below_drewN ?_ _) | (with_reducible refine Below.setCell ?_ ?_ _) | (with_reducible refine bvia ?_ (by with_reducible assumption) ?_) | go_size))))).mono ?_
  rintro e w1 ⟨hok, A, cp, rfl, O1, c1, t1⟩
  have hany := any_eq (B := S.B) (s := s) rfl (show piecesV S.B s = (((piecesV S.B s).1.1, (piecesV S.B s).1.2), (piecesV S.B s).2) from rfl) rfl rfl
  obtain ⟨r, hr⟩ : ∃ r, belowV S.B s 9 = r := ⟨_, rfl⟩
  obtain ⟨S', hS'⟩ : ∃ x, (piecesV S.B s).1.1 = x := ⟨_, rfl⟩
  obtain ⟨L, hL⟩ : ∃ x, (piecesV S.B s).1.2 = x := ⟨_, rfl⟩
  obtain ⟨s1, hs1⟩ : ∃ x, (piecesV S.B s).2 = x := ⟨_, rfl⟩
  simp only at O1 c1 ⊢
  rw [hr, hS', hL] at hok
  rw [hL] at O1
  rw [hr, hS', hL, hs1] at hany
  rw [hs1] at c1
  rw [hr, hS', hL]
  have HANY := Lib.hid hany
  clear hany hr hS' hL hs1
  have T1 : Touch g (g + 1) w w1 := by (repeat' (first | (with_reducible exact Touch.refl _ _ _) | (with_reducible assumption) | (with_reducible refine Touch.alloc ?_ _) | (with_reducible refine Touch.drew ?_) | (with_reducible refine Touch.drewN ?_ _) | (with_reducible refine Touch.setNew ?_ ?_ _) | (with_reducible refine Touch.trans ?_ (by with_reducible assumption)) | (with_reducible refine Touch.via ?_ (by with_reducible assumption)) | go_size | omega))
  have hq1 := (t1.block w.heap.size (by simp) (.inr (by omega))).trans (heap_alloc_new w _)
  have hz1 : w.heap.size < w1.heap.size := Nat.lt_of_lt_of_le (by simp) t1.size
  simp only [World.size_alloc] at O1
  obtain ⟨q1, q2, q3⟩ := bd_of_ok hok
  clear hok
  obtain ⟨b, hb⟩ : ∃ b, w1.heap.size = b := ⟨_, rfl⟩
  have hb1 : w1.heap.size ≤ b := Nat.le_of_eq hb
  have hb2 : b ≤ w1.heap.size := Nat.le_of_eq hb.symm
  go_upto_region 2 with (fail)
  refine wp_world _ (PDX w g S b r S' A cp L s1) ⟨⟨by omega, by simp; omega, ?_, ?_, ?_, fun o => ?_, ?_, ?_, ?_, fun o => ?_⟩, O1.alloc _, fun h9 => by have := (O1.lt h9).2; omega, c1.below (by (repeat' (first | (with_reducible exact Below.refl _ _) | (with_reducible assumption) | (with_reducible refine Below.alloc ?_ ?_ _) | (with_reducible refine Below.drew ?_) | (with_reducible refine below_drewN ?_ _) | (with_reducible refine Below.setCell ?_ ?_ _) | (with_reducible refine bvia ?_ (by with_reducible assumption) ?_) | go_size))), by (repeat' (first | (with_reducible exact Touch.refl _ _ _) | (with_reducible assumption) | (with_reducible refine Touch.alloc ?_ _) | (with_reducible refine Touch.drew ?_) | (with_reducible refine Touch.drewN ?_ _) | (with_reducible refine Touch.setNew ?_ ?_ _) | (with_reducible refine Touch.trans ?_ (by with_reducible assumption)) | (with_reducible refine Touch.via ?_ (by with_reducible assumption)) | go_size | omega))⟩ ?_
  · rw [World.cell?_alloc_lt _ _ _ hz1, cell_of_row _ _ _ _ _ (0, 0) hq1]; rfl
  · rw [World.cell?_alloc_lt _ _ _ hz1, cell_of_row _ _ _ _ _ (0, 0) hq1]; rfl
  · rw [World.cell?_alloc_lt _ _ _ hz1, cell_of_row _ _ _ _ _ (0, 0) hq1]; rfl
  · rw [fal _ _ _ _ hz1]; exact frozen_of_row _ _ _ _ _ hq1
  · rw [← hb]; simp [go_sem]
  · rw [← hb]; simp [go_sem]
  · rw [← hb]; simp [go_sem]
  · rw [← hb]; simp [go_sem]
  intro W hX
  try rw [hb]
  clear hb hb1 hb2 O1 c1 t1 T1 hq1 hz1 w1
  have HX := Lib.hid hX
  clear hX
  go_wp2_with fail
  refine (l01Below_any g S s1 16 _ HX.out.c).mono ?_
  rintro e w2 ⟨rfl, c2, t2⟩
  obtain ⟨x, hx⟩ : ∃ x, belowV S.B s1 16 = x := ⟨_, rfl⟩
  obtain ⟨s2, hs2⟩ : ∃ x, belowS S.B s1 16 = x := ⟨_, rfl⟩
  have hany := HANY.out
  rw [hx, hs2] at hany
  rw [hs2] at c2
  rw [hx]
  have HA2 := Lib.hid hany
  have HX2 := Lib.hid (HX.out.step t2 c2 hlt)
  clear hany hx hs2 HANY HX c2 t2 W s1
  have hbw : b < w2.heap.size := HX2.out.d.z
  have hwb : w.heap.size < b := HX2.out.d.hb
  have p0 := HX2.out.d.p0
  have p1 := HX2.out.d.p1
  have p2 := HX2.out.d.p2
  have pf0 := HX2.out.d.pf 0
  have pf1 := HX2.out.d.pf 1
  have pf2 := HX2.out.d.pf 2
  by_cases k0 : x = 0
  · subst k0
    clear p0 p1 p2 pf0 pf1 pf2
    go_wp2_with fail
    refine (l01PickInt_any g S s2 _ _ [-1, 1000000001, 1000000000] 3 _ (HX2.out.c.below (by (repeat' (first | (with_reducible exact Below.refl _ _) | (with_reducible assumption) | (with_reducible refine Below.alloc ?_ ?_ _) | (with_reducible refine Below.drew ?_) | (with_reducible refine below_drewN ?_ _) | (with_reducible refine Below.setCell ?_ ?_ _) | (with_reducible refine bvia ?_ (by with_reducible assumption) ?_) | go_size)))) rfl (Rd_lit _ _ (g + 1) _ _ _ rfl (by omega) (by simp)) (by decide) (by simp [maxLen])).mono ?_
    rintro e w3 ⟨rfl, c3, t3⟩
    have U : Touch g (g + 1) w2 w3 := by (repeat' (first | (with_reducible exact Touch.refl _ _ _) | (with_reducible assumption) | (with_reducible refine Touch.alloc ?_ _) | (with_reducible refine Touch.drew ?_) | (with_reducible refine Touch.drewN ?_ _) | (with_reducible refine Touch.setNew ?_ ?_ _) | (with_reducible refine Touch.trans ?_ (by with_reducible assumption)) | (with_reducible refine Touch.via ?_ (by with_reducible assumption)) | go_size | omega))
    have hv : Hid (anyOf S.B r S' L s2 0 = ((pickV S.B s2 [-1, 1000000001, 1000000000], S', L), belowS S.B s2 3)) := by unfold Hid anyOf; rw [if_pos rfl]
    simp only [List.length_cons, List.length_nil] at c3
    obtain ⟨z, hz⟩ : ∃ x, pickV S.B s2 [-1, 1000000001, 1000000000] = x := ⟨_, rfl⟩
    obtain ⟨s3, hs3⟩ : ∃ x, belowS S.B s2 3 = x := ⟨_, rfl⟩
    have hv' := hv.out
    have c3' : Cur w3 g S (belowS S.B s2 3) := c3
    rw [hz, hs3] at hv'
    rw [hs3] at c3'
    rw [hz]
    have HV := Lib.hid hv'
    clear hv hv' hz hs3 c3 t3
    have HX3 := Lib.hid (HX2.out.step U c3' hlt)
    clear HX2 U c3'
    have pf0 := HX3.out.d.pf 0
    have p0 := HX3.out.d.p0
    have hbw3 := HX3.out.d.z
    go_upto_region 14 with (fail)
    have hv9 : Hid (anyV S.B s = ((z, S', L), s3)) := HA2.out.trans HV.out
    refine wp_world _ (fun W => PDX w g S b z S' A cp L s3 W) (HX3.out.set0 hlt z) ?_
    intro W9 hX9
    clear HX3 pf0 p0 HA2 HV hbw3
    have HX9 := Lib.hid hX9
    have q0 := HX9.out.d.q0
    have q1 := HX9.out.d.q1
    have q2 := HX9.out.d.q2
    have qf0 := HX9.out.d.qf 0
    have qf1 := HX9.out.d.qf 1
    have qf2 := HX9.out.d.qf 2
    have p0 := HX9.out.d.p0
    have p1 := HX9.out.d.p1
    have p2 := HX9.out.d.p2
    have hlt5 : w.heap.size < W9.heap.size := by have := HX9.out.d.hb; have := HX9.out.d.z; omega
    have hbz9 := HX9.out.d.z
    clear hX9
    (try dsimp only)
    (try go_step)
    iterate 12 (try (first | go_values | go_skip | go_guarded | go_step | go_upon | go_back))
    refine bodyPost_ret (v := pv z S' A L.length cp) (by simp [results, Try.results30, go_sem, q0, q1, q2]) rfl ?_
    rw [hv9.out]
    exact HX9.out.fin hlt
  by_cases k1 : x = 1
  · subst k1
    obtain ⟨y, hy⟩ : ∃ x, belowV S.B s2 60 = x := ⟨_, rfl⟩
    obtain ⟨pk, hpk⟩ : ∃ x, pickSV S.B (belowS S.B s2 60) [⟨#[]⟩, ⟨#[97]⟩] = x := ⟨_, rfl⟩
    obtain ⟨s5, hs5⟩ : ∃ x, belowS S.B (belowS S.B s2 60) 2 = x := ⟨_, rfl⟩
    have HV : Hid (anyOf S.B r S' L s2 1 = ((r, S', L ++ [⟨y, pk⟩]), s5)) := by unfold Hid anyOf; rw [if_neg (by decide), if_pos rfl, hy, hpk, hs5]
    clear p0 p1 pf0 pf1 pf2
    go_wp2_with fail
    have HS0 : (World.drew w2).cell? ⟨b, 2, none⟩ = some (.slice A L.length cp) := p2
    refine wp_region_but 11 (fun w' => w'.cell? ⟨b, 2, none⟩ = some (.slice A L.length cp)) (by kernel_rfl) ?_
    refine AnyBut.take (i := 0) (v := ?_) rfl (by kernel_rfl) (by kernel_rfl) (by kernel_rfl) (by kernel_rfl) (fun _ _ _ h => h) (Or.inl ⟨by rfl, ?_⟩) HS0 ?_
    rotate_left
    · intro w' hSw
      have q0 := hSw
      go_simp
      all_goals (with_reducible rfl)
    change AnyBut _ _ _ _ _ _ _ _ (Act.put _ (some 17) _) _
    (try simp only [Act.put, List.setIfInBounds_toArray, List.set_cons_zero, List.set_cons_succ])
    refine AnyBut.take (i := 1) (v := ?_) rfl (by kernel_rfl) (by kernel_rfl) (by kernel_rfl) (by kernel_rfl) (fun _ _ _ h => h) (Or.inl ⟨by rfl, ?_⟩) HS0 ?_
    rotate_left
    · intro w' hSw
      have q0 := hSw
      go_simp
      all_goals (with_reducible rfl)
    change AnyBut _ _ _ _ _ _ _ _ (Act.put _ (some 18) _) _
    (try simp only [Act.put, List.setIfInBounds_toArray, List.set_cons_zero, List.set_cons_succ])
    refine AnyBut.take (i := 2) (v := ?_) rfl (by kernel_rfl) (by kernel_rfl) (by kernel_rfl) (by kernel_rfl) (fun _ _ _ h => h) (Or.inl ⟨by rfl, ?_⟩) HS0 ?_
    rotate_left
    · intro w' hSw
      have q0 := hSw
      go_simp
      all_goals (with_reducible rfl)
    change AnyBut _ _ _ _ _ _ _ _ (Act.put _ (some 19) _) _
    (try simp only [Act.put, List.setIfInBounds_toArray, List.set_cons_zero, List.set_cons_succ])
    refine AnyBut.take (i := 4) (v := ?_) rfl (by kernel_rfl) (by kernel_rfl) (by kernel_rfl) (by kernel_rfl) (fun _ _ _ h => h) (Or.inl ⟨by rfl, ?_⟩) HS0 ?_
    rotate_left
    · intro w' hSw
      have q0 := hSw
      go_simp
      all_goals (with_reducible rfl)
    change AnyBut _ _ _ _ _ _ _ _ (Act.put _ (some 21) _) _
    (try simp only [Act.put, List.setIfInBounds_toArray, List.set_cons_zero, List.set_cons_succ])
    refine AnyBut.two (i := 3) (i' := 5) rfl rfl (by kernel_rfl) (fun K9 hK9 => ?_) (fun K9 hK9 => ?_)
    · go_simp
      refine (l01Below_any g S s2 60 _ (HX2.out.c.below (by (repeat' (first | (with_reducible exact Below.refl _ _) | (with_reducible assumption) | (with_reducible refine Below.alloc ?_ ?_ _) | (with_reducible refine Below.drew ?_) | (with_reducible refine below_drewN ?_ _) | (with_reducible refine Below.setCell ?_ ?_ _) | (with_reducible refine bvia ?_ (by with_reducible assumption) ?_) | go_size))))).mono ?_
      rintro e w3 ⟨rfl, c3, t3⟩
      try rw [hy]
      have HX3 := Lib.hid ((HX2.out.next (Below.drew (Below.refl _ _))).step t3 c3 hlt)
      have hz3 := t3.size
      (try simp at hz3)
      have k2 := HX3.out.d.p2
      clear c3 t3
      refine hK9 _ _ (fun h9 => k2) ?_
      clear hK9 K9
      (try simp only [Act.put, List.setIfInBounds_toArray, List.set_cons_zero, List.set_cons_succ])
      refine AnyBut.one (i := 5) rfl (by kernel_rfl) (fun K9 hK9 => ?_)
      go_simp
      have RL := Lib.hid (RdS_lit w3 w3.heap.size (g + 1) [⟨#[]⟩, ⟨#[97]⟩] #[.string ⟨#[]⟩, .string ⟨#[97]⟩] 9 rfl (by omega) (by simp))
      have HX4 := Lib.hid (HX3.out.next (Below.alloc (Below.refl _ _) (Nat.le_refl _) (.cells #[.string ⟨#[]⟩, .string ⟨#[97]⟩] 9)))
      have k4 := HX4.out.d.p2
      refine hK9 _ _ (fun h9 => k4) ?_
      clear hK9 K9 HX3 k2 k4
      (try simp only [Act.put, List.setIfInBounds_toArray, List.set_cons_zero, List.set_cons_succ])
      refine AnyBut.one (i := 6) rfl (by kernel_rfl) (fun K9 hK9 => ?_)
      go_simp
      refine (l01Pick_any g S (belowS S.B s2 60) _ _ [⟨#[]⟩, ⟨#[97]⟩] 2 _ HX4.out.c rfl RL.out (by decide) (by simp [maxLen])).mono ?_
      rintro e w5 ⟨rfl, c5, t5⟩
      have c5' : Cur w5 g S (belowS S.B (belowS S.B s2 60) 2) := c5
      try rw [hpk]
      have HX5 := Lib.hid (HX4.out.step t5 c5' hlt)
      have k5 := HX5.out.d.p2
      have hbw5 : b < w5.heap.size := HX5.out.d.z
      clear c5 c5' t5 HX4 RL
      refine hK9 _ _ (fun h9 => k5) ?_
      clear hK9 K9
      (try simp only [Act.put, List.setIfInBounds_toArray, List.set_cons_zero, List.set_cons_succ])
      refine AnyBut.one (i := 7) rfl (by kernel_rfl) (fun K9 hK9 => ?_)
      go_simp
      refine hK9 _ _ (fun h9 => k5) ?_
      clear hK9 K9
      (try simp only [Act.put, List.setIfInBounds_toArray, List.set_cons_zero, List.set_cons_succ])
      refine AnyBut.one (i := 8) rfl (by kernel_rfl) (fun K9 hK9 => ?_)
      go_simp
      have HX6 := Lib.hid (HX5.out.next (Below.alloc (Below.refl _ _) (Nat.le_refl _) (.cells #[.int .i64 y, .string pk] 44)))
      have k6 := HX6.out.d.p2
      refine hK9 _ _ (fun h9 => k6) ?_
      clear hK9 K9
      (try simp only [Act.put, List.setIfInBounds_toArray, List.set_cons_zero, List.set_cons_succ])
      refine AnyBut.one (i := 9) rfl (by kernel_rfl) (fun K9 hK9 => ?_)
      refine step_append_o (by rfl) (.tmp 18) (.tmp 25) (by rfl) slPiece PieceD.cells_length PieceD.one (w.heap.size + 1) _ L ⟨y, pk⟩ (by rfl) HX6.out.o ⟨w5.heap.size, 0, none⟩ 1 (by rfl) (one_cells _ ⟨y, pk⟩ _ _ rfl) (by omega) (by simp; omega) ?_
      intro v7 w7 O7 G7 X7
      obtain ⟨A7, k7, rfl, hG⟩ := HX6.out.app hlt O7 G7 X7
      have HG := Lib.hid hG
      have k8 := HG.out.d.p2
      have kf := HG.out.d.pf 2
      have hbw7 : b < w7.heap.size := HG.out.d.z
      clear hG O7 G7 X7 HX5 HX6 k5 k6
      refine hK9 _ _ (fun h9 => k8) ?_
      clear hK9 K9
      (try simp only [Act.put, List.setIfInBounds_toArray, List.set_cons_zero, List.set_cons_succ])
      refine AnyBut.one (i := 10) rfl (by kernel_rfl) (fun K9 hK9 => ?_)
      go_simp
      refine hK9 _ _ (fun h9 => k8) ?_
      clear hK9 K9
      (try simp only [Act.put, List.setIfInBounds_toArray, List.set_cons_zero, List.set_cons_succ])
      refine AnyBut.one (i := 11) rfl (by kernel_rfl) (fun K9 hK9 => ?_)
      go_simp
      refine hK9 _ _ (fun h9 => absurd rfl h9) ?_
      clear hK9 K9
      (try simp only [Act.put, List.setIfInBounds_toArray, List.set_cons_zero, List.set_cons_succ])
      refine AnyBut.done (by kernel_rfl) ?_ _
      have hx8 := HG.out.set hlt
      rw [hs5] at hx8
      simp only [List.length_append, List.length_cons, List.length_nil, Nat.zero_add] at hx8
      have hv8 := HA2.out.trans HV.out
      obtain ⟨M, hM⟩ : ∃ M, L ++ [(⟨y, pk⟩ : PieceD)] = M := ⟨_, rfl⟩
      rw [hM] at hx8 hv8
      have HX8 := Lib.hid hx8
      have HV8 := Lib.hid hv8
      clear HG k8 kf hbw7 hx8 hv8 HV HA2 hM
      go_upto_region 14 with (fail)
      have hv9 : Hid (anyV S.B s = ((r, S', M), s5)) := HV8.out
      refine wp_world _ (fun W => PDX w g S b r S' A7 k7 M s5 W) HX8.out ?_
      intro W9 hX9
      clear HX8 HV8
      have HX9 := Lib.hid hX9
      have q0 := HX9.out.d.q0
      have q1 := HX9.out.d.q1
      have q2 := HX9.out.d.q2
      have qf0 := HX9.out.d.qf 0
      have qf1 := HX9.out.d.qf 1
      have qf2 := HX9.out.d.qf 2
      have p0 := HX9.out.d.p0
      have p1 := HX9.out.d.p1
      have p2 := HX9.out.d.p2
      have hlt5 : w.heap.size < W9.heap.size := by have := HX9.out.d.hb; have := HX9.out.d.z; omega
      have hbz9 := HX9.out.d.z
      clear hX9
      (try dsimp only)
      (try go_step)
      iterate 12 (try (first | go_values | go_skip | go_guarded | go_step | go_upon | go_back))
      refine bodyPost_ret (v := pv r S' A7 M.length k7) (by simp [results, Try.results30, go_sem, q0, q1, q2]) rfl ?_
      rw [hv9.out]
      exact HX9.out.fin hlt
    · go_simp
      have RL0 := Lib.hid (RdS_lit (World.drew w2) w2.heap.size (g + 1) [⟨#[]⟩, ⟨#[97]⟩] #[.string ⟨#[]⟩, .string ⟨#[97]⟩] 9 rfl (by show g + 1 ≤ w2.heap.size; omega) (by simp))
      have HXL := Lib.hid ((HX2.out.next (Below.drew (Below.refl _ _))).next (Below.alloc (Below.refl _ _) (Nat.le_refl _) (.cells #[.string ⟨#[]⟩, .string ⟨#[97]⟩] 9)))
      have kL := HXL.out.d.p2
      refine hK9 _ _ (fun h9 => kL) ?_
      clear hK9 K9 kL
      (try simp only [Act.put, List.setIfInBounds_toArray, List.set_cons_zero, List.set_cons_succ])
      refine AnyBut.one (i := 3) rfl (by kernel_rfl) (fun K9 hK9 => ?_)
      go_simp
      refine (l01Below_any g S s2 60 _ (HXL.out.c)).mono ?_
      rintro e w3 ⟨rfl, c3, t3⟩
      try rw [hy]
      have HX3 := Lib.hid (HXL.out.step t3 c3 hlt)
      have hz3 := t3.size
      (try simp at hz3)
      have k2 := HX3.out.d.p2
      have RL := Lib.hid ((RL0.out.keep (w' := w3) fun p h1 h2 => t3.cell h2 (.inr h1)).wide (Nat.le_refl _) t3.size)
      have HX4 := HX3
      clear c3 t3
      refine hK9 _ _ (fun h9 => k2) ?_
      clear hK9 K9
      (try simp only [Act.put, List.setIfInBounds_toArray, List.set_cons_zero, List.set_cons_succ])
      clear HXL HX3 RL0 k2
      refine AnyBut.one (i := 6) rfl (by kernel_rfl) (fun K9 hK9 => ?_)
      go_simp
      refine (l01Pick_any g S (belowS S.B s2 60) _ _ [⟨#[]⟩, ⟨#[97]⟩] 2 _ HX4.out.c rfl RL.out (by decide) (by simp [maxLen])).mono ?_
      rintro e w5 ⟨rfl, c5, t5⟩
      have c5' : Cur w5 g S (belowS S.B (belowS S.B s2 60) 2) := c5
      try rw [hpk]
      have HX5 := Lib.hid (HX4.out.step t5 c5' hlt)
      have k5 := HX5.out.d.p2
      have hbw5 : b < w5.heap.size := HX5.out.d.z
      clear c5 c5' t5 HX4 RL
      refine hK9 _ _ (fun h9 => k5) ?_
      clear hK9 K9
      (try simp only [Act.put, List.setIfInBounds_toArray, List.set_cons_zero, List.set_cons_succ])
      refine AnyBut.one (i := 7) rfl (by kernel_rfl) (fun K9 hK9 => ?_)
      go_simp
      refine hK9 _ _ (fun h9 => k5) ?_
      clear hK9 K9
      (try simp only [Act.put, List.setIfInBounds_toArray, List.set_cons_zero, List.set_cons_succ])
      refine AnyBut.one (i := 8) rfl (by kernel_rfl) (fun K9 hK9 => ?_)
      go_simp
      have HX6 := Lib.hid (HX5.out.next (Below.alloc (Below.refl _ _) (Nat.le_refl _) (.cells #[.int .i64 y, .string pk] 44)))
      have k6 := HX6.out.d.p2
      refine hK9 _ _ (fun h9 => k6) ?_
      clear hK9 K9
      (try simp only [Act.put, List.setIfInBounds_toArray, List.set_cons_zero, List.set_cons_succ])
      refine AnyBut.one (i := 9) rfl (by kernel_rfl) (fun K9 hK9 => ?_)
      refine step_append_o (by rfl) (.tmp 18) (.tmp 25) (by rfl) slPiece PieceD.cells_length PieceD.one (w.heap.size + 1) _ L ⟨y, pk⟩ (by rfl) HX6.out.o ⟨w5.heap.size, 0, none⟩ 1 (by rfl) (one_cells _ ⟨y, pk⟩ _ _ rfl) (by omega) (by simp; omega) ?_
      intro v7 w7 O7 G7 X7
      obtain ⟨A7, k7, rfl, hG⟩ := HX6.out.app hlt O7 G7 X7
      have HG := Lib.hid hG
      have k8 := HG.out.d.p2
      have kf := HG.out.d.pf 2
      have hbw7 : b < w7.heap.size := HG.out.d.z
      clear hG O7 G7 X7 HX5 HX6 k5 k6
      refine hK9 _ _ (fun h9 => k8) ?_
      clear hK9 K9
      (try simp only [Act.put, List.setIfInBounds_toArray, List.set_cons_zero, List.set_cons_succ])
      refine AnyBut.one (i := 10) rfl (by kernel_rfl) (fun K9 hK9 => ?_)
      go_simp
      refine hK9 _ _ (fun h9 => k8) ?_
      clear hK9 K9
      (try simp only [Act.put, List.setIfInBounds_toArray, List.set_cons_zero, List.set_cons_succ])
      refine AnyBut.one (i := 11) rfl (by kernel_rfl) (fun K9 hK9 => ?_)
      go_simp
      refine hK9 _ _ (fun h9 => absurd rfl h9) ?_
      clear hK9 K9
      (try simp only [Act.put, List.setIfInBounds_toArray, List.set_cons_zero, List.set_cons_succ])
      refine AnyBut.done (by kernel_rfl) ?_ _
      have hx8 := HG.out.set hlt
      rw [hs5] at hx8
      simp only [List.length_append, List.length_cons, List.length_nil, Nat.zero_add] at hx8
      have hv8 := HA2.out.trans HV.out
      obtain ⟨M, hM⟩ : ∃ M, L ++ [(⟨y, pk⟩ : PieceD)] = M := ⟨_, rfl⟩
      rw [hM] at hx8 hv8
      have HX8 := Lib.hid hx8
      have HV8 := Lib.hid hv8
      clear HG k8 kf hbw7 hx8 hv8 HV HA2 hM
      go_upto_region 14 with (fail)
      have hv9 : Hid (anyV S.B s = ((r, S', M), s5)) := HV8.out
      refine wp_world _ (fun W => PDX w g S b r S' A7 k7 M s5 W) HX8.out ?_
      intro W9 hX9
      clear HX8 HV8
      have HX9 := Lib.hid hX9
      have q0 := HX9.out.d.q0
      have q1 := HX9.out.d.q1
      have q2 := HX9.out.d.q2
      have qf0 := HX9.out.d.qf 0
      have qf1 := HX9.out.d.qf 1
      have qf2 := HX9.out.d.qf 2
      have p0 := HX9.out.d.p0
      have p1 := HX9.out.d.p1
      have p2 := HX9.out.d.p2
      have hlt5 : w.heap.size < W9.heap.size := by have := HX9.out.d.hb; have := HX9.out.d.z; omega
      have hbz9 := HX9.out.d.z
      clear hX9
      (try dsimp only)
      (try go_step)
      iterate 12 (try (first | go_values | go_skip | go_guarded | go_step | go_upon | go_back))
      refine bodyPost_ret (v := pv r S' A7 M.length k7) (by simp [results, Try.results30, go_sem, q0, q1, q2]) rfl ?_
      rw [hv9.out]
      exact HX9.out.fin hlt
  by_cases k2 : x = 2
  · subst k2
    clear p0 p1 p2 pf0 pf1 pf2
    go_wp2_with fail
    refine (l01PickInt_any g S s2 _ _ [190, 200, 201] 3 _ (HX2.out.c.below (by (repeat' (first | (with_reducible exact Below.refl _ _) | (with_reducible assumption) | (with_reducible refine Below.alloc ?_ ?_ _) | (with_reducible refine Below.drew ?_) | (with_reducible refine below_drewN ?_ _) | (with_reducible refine Below.setCell ?_ ?_ _) | (with_reducible refine bvia ?_ (by with_reducible assumption) ?_) | go_size)))) rfl (Rd_lit _ _ (g + 1) _ _ _ rfl (by omega) (by simp)) (by decide) (by simp [maxLen])).mono ?_
    rintro e w3 ⟨rfl, c3, t3⟩
    have U : Touch g (g + 1) w2 w3 := by (repeat' (first | (with_reducible exact Touch.refl _ _ _) | (with_reducible assumption) | (with_reducible refine Touch.alloc ?_ _) | (with_reducible refine Touch.drew ?_) | (with_reducible refine Touch.drewN ?_ _) | (with_reducible refine Touch.setNew ?_ ?_ _) | (with_reducible refine Touch.trans ?_ (by with_reducible assumption)) | (with_reducible refine Touch.via ?_ (by with_reducible assumption)) | go_size | omega))
    have hv : Hid (anyOf S.B r S' L s2 2 = ((r, longV (pickV S.B s2 [190, 200, 201]).toNat 97, L), belowS S.B s2 3)) := by unfold Hid anyOf; rw [if_neg (by decide), if_neg (by decide), if_pos rfl]
    have hzm := pickV_mem S.B s2 [190, 200, 201] (by decide)
    obtain ⟨z, hz⟩ : ∃ x, pickV S.B s2 [190, 200, 201] = x := ⟨_, rfl⟩
    obtain ⟨s3, hs3⟩ : ∃ x, belowS S.B s2 3 = x := ⟨_, rfl⟩
    have hv' := hv.out
    have c3' : Cur w3 g S (belowS S.B s2 3) := c3
    rw [hz, hs3] at hv'
    rw [hs3] at c3'
    rw [hz] at hzm ⊢
    obtain ⟨n, rfl⟩ : ∃ n : Nat, z = n := ⟨z.toNat, by simp at hzm; omega⟩
    have hn : n ≤ 1000 := by simp at hzm; omega
    rw [show ((n : Int)).toNat = n from rfl] at hv'
    have HV := Lib.hid hv'
    clear hv hv' hz hs3 c3 t3 hzm
    have HX3 := Lib.hid (HX2.out.step U c3' hlt)
    clear HX2 U c3'
    go_wp2_with fail
    refine (l01Long_any n 97 hn _).mono ?_
    rintro e w4 ⟨rfl, hb4⟩
    have HX4 := Lib.hid (HX3.out.next hb4)
    clear HX3 hb4
    have pf1 := HX4.out.d.pf 1
    have p1 := HX4.out.d.p1
    have hbw4 := HX4.out.d.z
    go_upto_region 14 with (fail)
    have hv9 : Hid (anyV S.B s = ((r, (longV n 97), L), s3)) := HA2.out.trans HV.out
    refine wp_world _ (fun W => PDX w g S b r (longV n 97) A cp L s3 W) (HX4.out.set1 hlt (longV n 97)) ?_
    intro W9 hX9
    clear HX4 pf1 p1 HA2 HV hbw4
    have HX9 := Lib.hid hX9
    have q0 := HX9.out.d.q0
    have q1 := HX9.out.d.q1
    have q2 := HX9.out.d.q2
    have qf0 := HX9.out.d.qf 0
    have qf1 := HX9.out.d.qf 1
    have qf2 := HX9.out.d.qf 2
    have p0 := HX9.out.d.p0
    have p1 := HX9.out.d.p1
    have p2 := HX9.out.d.p2
    have hlt5 : w.heap.size < W9.heap.size := by have := HX9.out.d.hb; have := HX9.out.d.z; omega
    have hbz9 := HX9.out.d.z
    clear hX9
    (try dsimp only)
    (try go_step)
    iterate 12 (try (first | go_values | go_skip | go_guarded | go_step | go_upon | go_back))
    refine bodyPost_ret (v := pv r (longV n 97) A L.length cp) (by simp [results, Try.results30, go_sem, q0, q1, q2]) rfl ?_
    rw [hv9.out]
    exact HX9.out.fin hlt
  by_cases k3 : x = 3
  · subst k3
    have HV : Hid (anyOf S.B r S' L s2 3 = ((r, S', L ++ manyV 20), s2)) := by unfold Hid anyOf; rw [if_neg (by decide), if_neg (by decide), if_neg (by decide), if_pos rfl]
    clear p0 p1 p2 pf0 pf1 pf2
    go_wp2_with fail
    go_loopw [4] (fun i wr => ∃ (k : Nat) (A : Option Addr) (cp : Nat) (M : List PieceD), i = .int .i64 k ∧ k ≤ 20 ∧ Hid (M = L ++ manyV k) ∧ M.length ≤ 40 ∧ PDX w g S b r S' A cp M s2 wr) (fun i _ => 20 - (intOf i).toNat)
    case atStart => exact ⟨0, A, cp, L, rfl, by omega, by unfold Hid manyV; simp, by omega, HX2.out⟩
    case round =>
      clear HX2 hbw
      obtain ⟨k, A, cp, M, rfl, hk, hM, hMl, hX⟩ := hrel
      have HX := Lib.hid hX
      clear hX
      have hbw : b < wr.heap.size := HX.out.d.z
      by_cases hlt2 : k < 20
      · have hki : (k : Int) < 20 := by omega
        have p2 := HX.out.d.p2
        have pf2 := HX.out.d.pf 2
        go_wp2_with (at_builtin; refine wpList_append_o _ rfl (.tmp 42) (.tmp 47) rfl slPiece PieceD.cells_length PieceD.one (w.heap.size + 1) _ M ⟨100 + 2 * (k : Int), ⟨#[122]⟩⟩ rfl (HX.out.o.alloc _) ⟨wr.heap.size, 0, none⟩ 1 rfl (one_cells _ _ _ _ (by first | rfl | (congr 3; omega))) (by omega) (by simp; omega) ?_; intro v5 w5 O5 G5 X5; have HXa := Lib.hid (HX.out.next (Below.alloc (Below.refl _ _) (Nat.le_refl _) (.cells #[.int .i64 (100 + 2 * (k : Int)), .string ⟨#[122]⟩] 44))); obtain ⟨A5, k5, rfl, hG⟩ := HXa.out.app hlt O5 G5 X5; have HG := Lib.hid hG; have k8 := HG.out.d.p2; have kf := HG.out.d.pf 2; have hbw7 : b < w5.heap.size := HG.out.d.z; clear hG O5 G5 X5 HXa HX p2 pf2)
        go_roundw
        case rel => exact ⟨k + 1, A5, k5, M ++ [⟨100 + 2 * (k : Int), ⟨#[122]⟩⟩], by go_num, by omega, by unfold Hid; rw [hM.out]; exact (many_app L k).symm, by rw [List.length_append, hM.out, List.length_append, manyV_length]; simp; omega, by have h := HG.out.set hlt; simp only [List.length_append, List.length_cons, List.length_nil, Nat.zero_add] at h; exact h⟩
        case measure => simp [intOf]; omega
      · obtain rfl : k = 20 := by omega
        have hval := HA2.out.trans HV.out
        rw [← hM.out] at hval
        have HVAL := Lib.hid hval
        clear hval
        go_upto_region 14 with (fail)
        have hv9 : Hid (anyV S.B s = ((r, S', M), s2)) := HVAL.out
        refine wp_world _ (fun W => PDX w g S b r S' A cp M s2 W) HX.out ?_
        intro W9 hX9
        clear HX HA2 HV HVAL
        have HX9 := Lib.hid hX9
        have q0 := HX9.out.d.q0
        have q1 := HX9.out.d.q1
        have q2 := HX9.out.d.q2
        have qf0 := HX9.out.d.qf 0
        have qf1 := HX9.out.d.qf 1
        have qf2 := HX9.out.d.qf 2
        have p0 := HX9.out.d.p0
        have p1 := HX9.out.d.p1
        have p2 := HX9.out.d.p2
        have hlt5 : w.heap.size < W9.heap.size := by have := HX9.out.d.hb; have := HX9.out.d.z; omega
        have hbz9 := HX9.out.d.z
        clear hX9
        (try dsimp only)
        (try go_step)
        iterate 12 (try (first | go_values | go_skip | go_guarded | go_step | go_upon | go_back))
        refine bodyPost_ret (v := pv r S' A M.length cp) (by simp [results, Try.results30, go_sem, q0, q1, q2]) rfl ?_
        rw [hv9.out]
        exact HX9.out.fin hlt
  have HV : Hid (anyOf S.B r S' L s2 x = ((r, S', L), s2)) := by unfold Hid anyOf; rw [if_neg k0, if_neg k1, if_neg k2, if_neg k3]
  clear p0 p1 p2 pf0 pf1 pf2
  go_upto_region 14 with (fail)
  have hv9 : Hid (anyV S.B s = ((r, S', L), s2)) := HA2.out.trans HV.out
  refine wp_world _ (fun W => PDX w g S b r S' A cp L s2 W) HX2.out ?_
  intro W9 hX9
  clear HX2 HA2 HV
  have HX9 := Lib.hid hX9
  have q0 := HX9.out.d.q0
  have q1 := HX9.out.d.q1
  have q2 := HX9.out.d.q2
  have qf0 := HX9.out.d.qf 0
  have qf1 := HX9.out.d.qf 1
  have qf2 := HX9.out.d.qf 2
  have p0 := HX9.out.d.p0
  have p1 := HX9.out.d.p1
  have p2 := HX9.out.d.p2
  have hlt5 : w.heap.size < W9.heap.size := by have := HX9.out.d.hb; have := HX9.out.d.z; omega
  have hbz9 := HX9.out.d.z
  clear hX9
  (try dsimp only)
  (try go_step)
  iterate 12 (try (first | go_values | go_skip | go_guarded | go_step | go_upon | go_back))
  refine bodyPost_ret (v := pv r S' A L.length cp) (by simp [results, Try.results30, go_sem, q0, q1, q2]) rfl ?_
  rw [hv9.out]
  exact HX9.out.fin hlt
end Go.Proofs.Ytpjbnfpadbknpaa
