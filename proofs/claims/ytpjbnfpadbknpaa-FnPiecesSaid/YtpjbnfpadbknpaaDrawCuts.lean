/- DrawCuts: for every input. Written by program (drawcuts.py). -/
import Derived.Test.YtpjbnfpadbknpaaText
import Derived.Test.YtpjbnfpadbknpaaCutsDraw0
import Derived.Test.YtpjbnfpadbknpaaCopyP
namespace Go.Proofs.Ytpjbnfpadbknpaa
set_option linter.unusedSimpArgs false
set_option linter.unusedVariables false
open Go.RowKit

/-- What DrawCuts says. -/
def DrewCuts (w : World) (e : Ending) (w' : World) : Prop :=
  ∃ (T : ByteArray) (v : Value) (L : List PieceD), e = .returned (.tuple #[.string T, v]) ∧ T.size ≤ 60 ∧ 0 < T.size ∧ Own w' w.heap.size 44 PieceD.cells 2 v L ∧ Cuts T L T.size ∧ Below w.heap.size w w'
theorem Own.setP {w : World} {base g n cap k : Nat} {e : TypeId} {L : List PieceD} (h : Own w base e PieceD.cells 2 (.slice (some ⟨g, 0, none⟩) n cap) L) (hk : k < L.length) (x : PieceD) :
    Own ((w.setCell ⟨g, k * 2, none⟩ (.int .i64 x.fAt)).setCell ⟨g, k * 2 + 1, none⟩ (.string x.fText)) base e PieceD.cells 2 (.slice (some ⟨g, 0, none⟩) n cap) (L.set k x) := by
  have h1 := h.set1 (k := k) (j := 0) (u := .int .i64 x.fAt) (x := ⟨x.fAt, L[k].fText⟩) PieceD.cells_length hk (by decide) rfl
  have h2 := h1.set1 (k := k) (j := 1) (u := .string x.fText) (x := x) PieceD.cells_length (by simpa using hk) (by decide) (by simp [PieceD.cells])
  rw [List.set_set] at h2
  exact h2
set_option maxHeartbeats 8000000 in
theorem DrawCuts_some (A : Option Addr) (cap : Nat) (B : List Int) (w : World) (hr : Rd bcells 1 w 0 w.heap.size A B) (hm : B.length ≤ 1048576) :
    Calls Try.prog 26 #[.slice A B.length cap] w (DrewCuts w) := by
  go_enter Try.func26, Try.ntmps26
  go_wp2_with fail
  refine (l01New_any A cap B _ hr hm).mono ?_
  rintro e w1 ⟨rfl, c1, hb1⟩
  obtain ⟨s1, hs1⟩ : ∃ s, ((0 : Nat), newH B (min B.length 4000)) = s := ⟨_, rfl⟩
  rw [hs1] at c1
  clear hs1
  have hlt1 := c1.lt
  go_wp2_with fail
  refine (l01Below_some w.heap.size _ s1 60 _ (by decide) c1).mono ?_
  rintro e w2 ⟨v2, s2, rfl, ⟨x, rfl, p2, q2⟩, c2, t2⟩
  have hB2 := t2.below hb1 (Nat.le_refl _) (by omega)
  clear t2 c1 hb1
  have hlt2 := c2.lt
  obtain ⟨m, hm⟩ : ∃ m : Nat, 1 + x = m := ⟨(1 + x).toNat, by omega⟩
  go_wp2_with fail
  refine (l01Text_any w.heap.size _ s2 m (by omega) _ c2).mono ?_
  rintro e w3 ⟨rfl, c3, t3⟩
  have hB3 := t3.below hB2 (Nat.le_refl _) (by omega)
  have hTs := textV_size B s2 m
  obtain ⟨T, hT⟩ : ∃ T, textV B s2 m = T := ⟨_, rfl⟩
  obtain ⟨s3, hs3⟩ : ∃ s, textS B s2 m = s := ⟨_, rfl⟩
  simp only at c3 ⊢
  rw [hT] at hTs ⊢
  rw [hs3] at c3
  have hT60 : T.size ≤ 60 := by omega
  have hT0 : 0 < T.size := by omega
  clear hT hs3 hTs hm t3 hB2 c2 p2 q2
  have hlt := c3.lt
  go_wp2_with fail
  go_loopw [6, 7] (fun a v wr => ∃ (k : Nat) (L : List PieceD) (s : Nat × Int), a = .int .i64 k ∧ Own wr w3.heap.size 44 PieceD.cells 2 v L ∧ Cuts T L k ∧ Cur wr w.heap.size ⟨A, cap, B⟩ s ∧ Touch w.heap.size (w.heap.size + 1) w3 wr) (fun a _ _ => T.size - (intOf a).toNat)
  case atStart => exact ⟨0, [], s3, rfl, Own.empty _ _ _ (Nat.le_refl _), Cuts.nil T, c3.below (by (repeat' (first | (with_reducible exact Below.refl _ _) | (with_reducible assumption) | (with_reducible refine Below.alloc ?_ ?_ _) | (with_reducible refine Below.drew ?_) | (with_reducible refine below_drewN ?_ _) | (with_reducible refine Below.setCell ?_ ?_ _) | (with_reducible refine bvia ?_ (by with_reducible assumption) ?_) | go_size))), by (repeat' (first | (with_reducible exact Touch.refl _ _ _) | (with_reducible assumption) | (with_reducible refine Touch.alloc ?_ _) | (with_reducible refine Touch.drew ?_) | (with_reducible refine Touch.drewN ?_ _) | (with_reducible refine Touch.setNew ?_ ?_ _) | (with_reducible refine Touch.trans ?_ (by with_reducible assumption)) | (with_reducible refine Touch.via ?_ (by with_reducible assumption)) | go_size | omega))⟩
  case round =>
    obtain ⟨k, L, s, rfl, O, hC, hcu, hT⟩ := hrel
    have hkl := hC.le
    have hLk := hC.len
    have HC := Lib.hid hC
    clear hC
    have hz0 := hT.size
    by_cases hlt0 : k < T.size
    · have hki : (k : Int) < (T.size : Int) := by omega
      go_wp2_with fail
      refine (l01Below_some w.heap.size _ s 11 _ (by decide) hcu).mono ?_
      rintro e w4 ⟨v4, s4, rfl, ⟨x4, rfl, p4, q4⟩, c4, t4⟩
      have hz4 := t4.size
      have O4 := O.touch t4 hlt
      have hT4 := hT.trans t4
      clear O hT hcu t4
      by_cases hbig : (T.size : Int) - k < 2 + x4
      · obtain ⟨n, hnn⟩ : ∃ n : Nat, (T.size : Int) - k = n := ⟨T.size - k, by omega⟩
        have hn0 : 0 < n := by omega
        have hn2 : 2 ≤ n ∨ k + n = T.size := .inr (by omega)
        have hnl : k + n ≤ T.size := by omega
        have d4 : decide ((n : Int) < 2 + x4) = true := decide_eq_true (by omega)
        go_wp2_with fail
        refine (l01Below_some w.heap.size _ s4 3 _ (by decide) c4).mono ?_
        rintro e w5 ⟨v5, s5, rfl, ⟨y, rfl, p5, q5⟩, c5, t5⟩
        have hz5 := t5.size
        have O5 := O4.touch t5 hlt
        have hT5 := hT4.trans t5
        clear O4 hT4 c4 t5
        by_cases hf0 : (k : Int) - y < 0
        · obtain ⟨f, hff⟩ : ∃ f : Nat, f = 0 := ⟨_, rfl⟩
          have hf : f ≤ k := by omega
          have d5 : decide ((k : Int) - y < 0) = true := decide_eq_true hf0
          subst hff
          go_wp2_with (at_builtin; refine wpList_append_rd _ rfl (.tmp 44) (.tmp 53) rfl slPiece PieceD.cells_length PieceD.one w3.heap.size _ L [⟨(((0 : Nat)) : Int), T.extract 0 (k + n)⟩] rfl (O5.alloc _) (some ⟨w5.heap.size, 0, none⟩) 1 1 0 (w5.heap.size + 1) rfl rfl (rd_one _ (⟨(((0 : Nat)) : Int), T.extract 0 (k + n)⟩ : PieceD) _ _ PieceD.cells_length rfl _ rfl _ (by omega)) (by simp; omega) (by simp; omega) ?_; intro v6 w6 O6 G6 X6; have hz6 := G6.size; (try simp at hz6); have c6 : Cur w6 w.heap.size _ s5 := (c5.below (by (repeat' (first | (with_reducible exact Below.refl _ _) | (with_reducible assumption) | (with_reducible refine Below.alloc ?_ ?_ _) | (with_reducible refine Below.drew ?_) | (with_reducible refine below_drewN ?_ _) | (with_reducible refine Below.setCell ?_ ?_ _) | (with_reducible refine bvia ?_ (by with_reducible assumption) ?_) | go_size)) : Below _ _ (w5.alloc _))).keep (lo := w3.heap.size) (hi := w6.heap.size) ((Touch.refl _ _ _).grown G6 (fun k hk => ⟨(O5.lt hk).1, by have := (O5.lt hk).2; omega⟩)) hlt; have hT6 := (Touch.alloc hT5 _).grownNew G6 (fun k hk => (O5.lt hk).1); have hC6 := HC.out.add (f := 0) (n := n) hf hn0 hn2 hnl; clear O5 hT5 c5 G6 X6)
          go_roundw
          case rel => exact ⟨k + n, _, s5, by first | go_num | (simp; omega) | (congr 1; omega), O6, hC6, c6, hT6⟩
          case measure => simp [intOf]; omega
        · obtain ⟨f, hff⟩ : ∃ f : Nat, (k : Int) - y = f := ⟨((k : Int) - y).toNat, by omega⟩
          have hf : f ≤ k := by omega
          have d5 : decide ((f : Int) < 0) = false := decide_eq_false (by omega)
          go_wp2_with (at_builtin; refine wpList_append_rd _ rfl (.tmp 44) (.tmp 53) rfl slPiece PieceD.cells_length PieceD.one w3.heap.size _ L [⟨(f : Int), T.extract f (k + n)⟩] rfl (O5.alloc _) (some ⟨w5.heap.size, 0, none⟩) 1 1 0 (w5.heap.size + 1) rfl rfl (rd_one _ (⟨(f : Int), T.extract f (k + n)⟩ : PieceD) _ _ PieceD.cells_length rfl _ rfl _ (by omega)) (by simp; omega) (by simp; omega) ?_; intro v6 w6 O6 G6 X6; have hz6 := G6.size; (try simp at hz6); have c6 : Cur w6 w.heap.size _ s5 := (c5.below (by (repeat' (first | (with_reducible exact Below.refl _ _) | (with_reducible assumption) | (with_reducible refine Below.alloc ?_ ?_ _) | (with_reducible refine Below.drew ?_) | (with_reducible refine below_drewN ?_ _) | (with_reducible refine Below.setCell ?_ ?_ _) | (with_reducible refine bvia ?_ (by with_reducible assumption) ?_) | go_size)) : Below _ _ (w5.alloc _))).keep (lo := w3.heap.size) (hi := w6.heap.size) ((Touch.refl _ _ _).grown G6 (fun k hk => ⟨(O5.lt hk).1, by have := (O5.lt hk).2; omega⟩)) hlt; have hT6 := (Touch.alloc hT5 _).grownNew G6 (fun k hk => (O5.lt hk).1); have hC6 := HC.out.add (f := f) (n := n) hf hn0 hn2 hnl; clear O5 hT5 c5 G6 X6)
          go_roundw
          case rel => exact ⟨k + n, _, s5, by first | go_num | (simp; omega) | (congr 1; omega), O6, hC6, c6, hT6⟩
          case measure => simp [intOf]; omega
      · obtain ⟨n, hnn⟩ : ∃ n : Nat, 2 + x4 = (n : Int) := ⟨(2 + x4).toNat, by omega⟩
        have hn0 : 0 < n := by omega
        have hn2 : 2 ≤ n ∨ k + n = T.size := .inl (by omega)
        have hnl : k + n ≤ T.size := by omega
        have d4 : decide ((T.size : Int) - k < (n : Int)) = false := decide_eq_false (by omega)
        go_wp2_with fail
        refine (l01Below_some w.heap.size _ s4 3 _ (by decide) c4).mono ?_
        rintro e w5 ⟨v5, s5, rfl, ⟨y, rfl, p5, q5⟩, c5, t5⟩
        have hz5 := t5.size
        have O5 := O4.touch t5 hlt
        have hT5 := hT4.trans t5
        clear O4 hT4 c4 t5
        by_cases hf0 : (k : Int) - y < 0
        · obtain ⟨f, hff⟩ : ∃ f : Nat, f = 0 := ⟨_, rfl⟩
          have hf : f ≤ k := by omega
          have d5 : decide ((k : Int) - y < 0) = true := decide_eq_true hf0
          subst hff
          go_wp2_with (at_builtin; refine wpList_append_rd _ rfl (.tmp 44) (.tmp 53) rfl slPiece PieceD.cells_length PieceD.one w3.heap.size _ L [⟨(((0 : Nat)) : Int), T.extract 0 (k + n)⟩] rfl (O5.alloc _) (some ⟨w5.heap.size, 0, none⟩) 1 1 0 (w5.heap.size + 1) rfl rfl (rd_one _ (⟨(((0 : Nat)) : Int), T.extract 0 (k + n)⟩ : PieceD) _ _ PieceD.cells_length rfl _ rfl _ (by omega)) (by simp; omega) (by simp; omega) ?_; intro v6 w6 O6 G6 X6; have hz6 := G6.size; (try simp at hz6); have c6 : Cur w6 w.heap.size _ s5 := (c5.below (by (repeat' (first | (with_reducible exact Below.refl _ _) | (with_reducible assumption) | (with_reducible refine Below.alloc ?_ ?_ _) | (with_reducible refine Below.drew ?_) | (with_reducible refine below_drewN ?_ _) | (with_reducible refine Below.setCell ?_ ?_ _) | (with_reducible refine bvia ?_ (by with_reducible assumption) ?_) | go_size)) : Below _ _ (w5.alloc _))).keep (lo := w3.heap.size) (hi := w6.heap.size) ((Touch.refl _ _ _).grown G6 (fun k hk => ⟨(O5.lt hk).1, by have := (O5.lt hk).2; omega⟩)) hlt; have hT6 := (Touch.alloc hT5 _).grownNew G6 (fun k hk => (O5.lt hk).1); have hC6 := HC.out.add (f := 0) (n := n) hf hn0 hn2 hnl; clear O5 hT5 c5 G6 X6)
          go_roundw
          case rel => exact ⟨k + n, _, s5, by first | go_num | (simp; omega) | (congr 1; omega), O6, hC6, c6, hT6⟩
          case measure => simp [intOf]; omega
        · obtain ⟨f, hff⟩ : ∃ f : Nat, (k : Int) - y = f := ⟨((k : Int) - y).toNat, by omega⟩
          have hf : f ≤ k := by omega
          have d5 : decide ((f : Int) < 0) = false := decide_eq_false (by omega)
          go_wp2_with (at_builtin; refine wpList_append_rd _ rfl (.tmp 44) (.tmp 53) rfl slPiece PieceD.cells_length PieceD.one w3.heap.size _ L [⟨(f : Int), T.extract f (k + n)⟩] rfl (O5.alloc _) (some ⟨w5.heap.size, 0, none⟩) 1 1 0 (w5.heap.size + 1) rfl rfl (rd_one _ (⟨(f : Int), T.extract f (k + n)⟩ : PieceD) _ _ PieceD.cells_length rfl _ rfl _ (by omega)) (by simp; omega) (by simp; omega) ?_; intro v6 w6 O6 G6 X6; have hz6 := G6.size; (try simp at hz6); have c6 : Cur w6 w.heap.size _ s5 := (c5.below (by (repeat' (first | (with_reducible exact Below.refl _ _) | (with_reducible assumption) | (with_reducible refine Below.alloc ?_ ?_ _) | (with_reducible refine Below.drew ?_) | (with_reducible refine below_drewN ?_ _) | (with_reducible refine Below.setCell ?_ ?_ _) | (with_reducible refine bvia ?_ (by with_reducible assumption) ?_) | go_size)) : Below _ _ (w5.alloc _))).keep (lo := w3.heap.size) (hi := w6.heap.size) ((Touch.refl _ _ _).grown G6 (fun k hk => ⟨(O5.lt hk).1, by have := (O5.lt hk).2; omega⟩)) hlt; have hT6 := (Touch.alloc hT5 _).grownNew G6 (fun k hk => (O5.lt hk).1); have hC6 := HC.out.add (f := f) (n := n) hf hn0 hn2 hnl; clear O5 hT5 c5 G6 X6)
          go_roundw
          case rel => exact ⟨k + n, _, s5, by first | go_num | (simp; omega) | (congr 1; omega), O6, hC6, c6, hT6⟩
          case measure => simp [intOf]; omega
    · obtain rfl : k = T.size := by omega
      have hki : ¬ ((T.size : Int) < (T.size : Int)) := by omega
      rcases O.form with ⟨-, rfl⟩ | ⟨h, cp, cur, rfl, hh0, hh1, hh2, hh3, -, -⟩
      · obtain ⟨y, hy, -⟩ := HC.out.cov 0 (by omega) (by omega)
        simp at hy
      have hhz := (Array.getElem?_eq_some_iff.1 hh1).1
      clear hh1
      unfold maxLen at hh3
      go_wp2_with fail
      go_loopw [10] (fun a wq => ∃ (k : Nat) (M : List PieceD) (s : Nat × Int), a = .int .i64 k ∧ k ≤ L.length ∧ Hid (M.length = L.length) ∧ Own wq w3.heap.size 44 PieceD.cells 2 (.slice (some ⟨h, 0, none⟩) L.length cp) M ∧ Cuts T M T.size ∧ Cur wq w.heap.size ⟨A, cap, B⟩ s ∧ Touch w.heap.size (w.heap.size + 1) w3 wq) (fun a _ => L.length - (intOf a).toNat)
      case atStart => exact ⟨0, L, s, rfl, Nat.zero_le _, rfl, O, HC.out, hcu, hT⟩
      case round =>
        clear O hcu hT
        obtain ⟨i, M, s, rfl, hiL, hML, O, hC, hcu, hT⟩ := hrel
        have HC := Lib.hid hC
        clear hC
        have hz0 := hT.size
        by_cases hlt0 : i < L.length
        · have hki : (i : Int) < (L.length : Int) := by omega
          have hLp : (0 : Int) < (L.length : Int) := by omega
          go_wp2_with fail
          refine (l01Below_some w.heap.size _ s (L.length : Int) _ (by omega) hcu).mono ?_
          rintro e w4 ⟨v4, s4, rfl, ⟨x4, rfl, p4, q4⟩, c4, t4⟩
          have hz4 := t4.size
          have O4 := O.touch t4 hlt
          have hT4 := hT.trans t4
          clear O hT hcu t4
          obtain ⟨k, hk⟩ : ∃ k : Nat, x4 = k := ⟨x4.toNat, by omega⟩
          subst hk
          have hkM : k < M.length := by rw [hML.out]; omega
          have hiM : i < M.length := by rw [hML.out]; omega
          have hhw : h < w4.heap.size := (O4.lt rfl).2
          have a0 : w4.cell? ⟨h, i * 2, none⟩ = some (.int .i64 M[i].fAt) := by simpa [PieceD.cells] using O4.cellAt PieceD.cells_length i hiM 0 (by decide)
          have a1 : w4.cell? ⟨h, i * 2 + 1, none⟩ = some (.string M[i].fText) := by simpa [PieceD.cells] using O4.cellAt PieceD.cells_length i hiM 1 (by decide)
          have b0 : w4.cell? ⟨h, k * 2, none⟩ = some (.int .i64 M[k].fAt) := by simpa [PieceD.cells] using O4.cellAt PieceD.cells_length k hkM 0 (by decide)
          have b1 : w4.cell? ⟨h, k * 2 + 1, none⟩ = some (.string M[k].fText) := by simpa [PieceD.cells] using O4.cellAt PieceD.cells_length k hkM 1 (by decide)
          have f4 := O4.free
          have hne1 : ¬ w4.heap.size = h := by omega
          have hne2 : ¬ h = w4.heap.size := by omega
          have m1 : ∀ j : Nat, ¬ j * 2 = j * 2 + 1 := fun j => by omega
          by_cases hik : i = k
          · subst hik
            go_wp2
            go_roundw
            case rel => exact ⟨i + 1, (M.set i M[i]).set i M[i], s4, by go_num, by omega, by have h9 := hML.out; unfold Hid; simp only [List.length_set]; exact h9, ((O4.setP hiM M[i]).setP (k := i) (by rw [List.length_set]; exact hiM) M[i]).alloc _, HC.out.swap hiM hiM, c4.keep (lo := w3.heap.size) (hi := w4.heap.size) (by (repeat' (first | (with_reducible exact Touch.refl _ _ _) | (with_reducible assumption) | (with_reducible refine Touch.alloc ?_ _) | (with_reducible refine Touch.drew ?_) | (with_reducible refine Touch.drewN ?_ _) | (with_reducible refine Touch.setCell ?_ ?_ ?_ _) | (with_reducible refine Touch.via ?_ (by with_reducible assumption)) | go_size))) hlt, by (repeat' (first | (with_reducible exact Touch.refl _ _ _) | (with_reducible assumption) | (with_reducible refine Touch.alloc ?_ _) | (with_reducible refine Touch.drew ?_) | (with_reducible refine Touch.drewN ?_ _) | (with_reducible refine Touch.setNew ?_ ?_ _) | (with_reducible refine Touch.trans ?_ (by with_reducible assumption)) | (with_reducible refine Touch.via ?_ (by with_reducible assumption)) | go_size | omega))⟩
            case measure => simp [intOf]; omega
          · have n1 : ¬ i * 2 = k * 2 := by omega
            have n2 : ¬ i * 2 + 1 = k * 2 := by omega
            have n3 : ¬ i * 2 = k * 2 + 1 := by omega
            have n4 : ¬ i * 2 + 1 = k * 2 + 1 := by omega
            have n5 : ¬ k * 2 = i * 2 := by omega
            have n6 : ¬ k * 2 + 1 = i * 2 := by omega
            have n7 : ¬ k * 2 = i * 2 + 1 := by omega
            have n8 : ¬ k * 2 + 1 = i * 2 + 1 := by omega
            go_wp2
            go_roundw
            case rel => exact ⟨i + 1, (M.set i M[k]).set k M[i], s4, by go_num, by omega, by have h9 := hML.out; unfold Hid; simp only [List.length_set]; exact h9, ((O4.setP hiM M[k]).setP (k := k) (by rw [List.length_set]; exact hkM) M[i]).alloc _, HC.out.swap hiM hkM, c4.keep (lo := w3.heap.size) (hi := w4.heap.size) (by (repeat' (first | (with_reducible exact Touch.refl _ _ _) | (with_reducible assumption) | (with_reducible refine Touch.alloc ?_ _) | (with_reducible refine Touch.drew ?_) | (with_reducible refine Touch.drewN ?_ _) | (with_reducible refine Touch.setCell ?_ ?_ ?_ _) | (with_reducible refine Touch.via ?_ (by with_reducible assumption)) | go_size))) hlt, by (repeat' (first | (with_reducible exact Touch.refl _ _ _) | (with_reducible assumption) | (with_reducible refine Touch.alloc ?_ _) | (with_reducible refine Touch.drew ?_) | (with_reducible refine Touch.drewN ?_ _) | (with_reducible refine Touch.setNew ?_ ?_ _) | (with_reducible refine Touch.trans ?_ (by with_reducible assumption)) | (with_reducible refine Touch.via ?_ (by with_reducible assumption)) | go_size | omega))⟩
            case measure => simp [intOf]; omega
        · obtain rfl : i = L.length := by omega
          have hki : ¬ ((L.length : Int) < (L.length : Int)) := by omega
          go_wp2
          refine bodyPost_ret (v := .tuple #[.string T, .slice (some ⟨h, 0, none⟩) L.length cp]) (by simp [results, Try.results26, go_sem, *]) rfl ?_
          exact ⟨T, _, M, rfl, hT60, hT0, O.up (by omega), HC.out, hT.below hB3 (Nat.le_refl _) (by omega)⟩
end Go.Proofs.Ytpjbnfpadbknpaa
