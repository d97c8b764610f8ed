/- copyPieces, l09Copy, TakeReady (program and reference): for every argument. -/
import Derived.Test.YtpjbnfpadbknpaaPiecesOk
import Derived.Test.YtpjbnfpadbknpaaOwn
import Derived.Test.YtpjbnfpadbknpaaRet
import Derived.Deep.RegionHeld3
import Derived.StillTailTactics
namespace Go.Proofs.Ytpjbnfpadbknpaa
set_option linter.unusedSimpArgs false
set_option linter.unusedVariables false
open Go.RowKit

theorem slPiece : SlTy Try.prog 24 44 2 := SlTy.mk' Try.underlying24 infoPiece rfl (by decide) (by decide)
theorem PieceD.one (x : PieceD) : ∀ u ∈ x.cells, u.oneCell' = true := by intro u hu; simp [PieceD.cells] at hu; rcases hu with rfl | rfl <;> rfl
set_option maxHeartbeats 2000000 in
theorem iCopyPieces (r : Int) (s : ByteArray) (A : Option Addr) (cap : Nat) (L : List PieceD) (w : World) (hr : Rd PieceD.cells 2 w 0 w.heap.size A L) (hm : L.length ≤ 4294967296) :
    Calls Try.prog 36 #[pv r s A L.length cap] w (RetPs w r s L fun v => v) := by
  go_enter Try.func36, Try.ntmps36
  go_wp2_with (at_builtin; refine wpList_append_rd _ rfl (.tmp 3) (.tmp 5) rfl slPiece PieceD.cells_length PieceD.one (w.heap.size + 1 + 1) (.slice (some ⟨w.heap.size + 1 + 1, 0, none⟩) 0 0) [] L rfl (Own.emptyAt ((w.alloc (.cells #[.int .i64 r, .string s, .slice A L.length cap] 26)).alloc (.cells #[.int .i64 0, .string ⟨#[]⟩, .slice none 0 0] 26)) _ _ (w.heap.size + 1 + 1) (by simp) (Nat.le_refl _)) A L.length cap 0 w.heap.size rfl rfl (by exact hr.later (by (repeat' (first | (with_reducible exact Below.refl _ _) | (with_reducible assumption) | (with_reducible refine Below.alloc ?_ ?_ _) | (with_reducible refine Below.drew ?_) | (with_reducible refine below_drewN ?_ _) | (with_reducible refine Below.setCell ?_ ?_ _) | (with_reducible refine bvia ?_ (by with_reducible assumption) ?_) | go_size))) (Nat.le_refl _) (Nat.le_refl _)) (by simp; omega) (by go_size) ?_; intro v1 w1 O1 G1 X1; rw [List.nil_append] at O1; obtain ⟨A1, k1, rfl, -, -, -⟩ := O1.rd0 PieceD.cells_length; have hz1 := G1.size; (try simp at hz1); have fr : ∀ b o, b < w.heap.size + 2 → w1.cell? ⟨b, o, none⟩ = ((w.alloc (.cells #[.int .i64 r, .string s, .slice A L.length cap] 26)).alloc (.cells #[.int .i64 0, .string ⟨#[]⟩, .slice none 0 0] 26)).cell? ⟨b, o, none⟩ ∧ w1.frozen? ⟨b, o, none⟩ = ((w.alloc (.cells #[.int .i64 r, .string s, .slice A L.length cap] 26)).alloc (.cells #[.int .i64 0, .string ⟨#[]⟩, .slice none 0 0] 26)).frozen? ⟨b, o, none⟩ := (fun b o hb => ⟨(G1.cell_far _ (by simp; omega) (by intro hh; simp [Value.ownBlock] at hh; omega)).trans (World.cell?_alloc_lt _ _ _ (by simp; omega)), (G1.frozen_far _ (by simp; omega) (by intro hh; simp [Value.ownBlock] at hh; omega)).trans ((by go_grown : Below _ _ (World.alloc _ _)).frozen (by simp; omega))⟩); have x0 := (fr w.heap.size 0 (by omega)).1; have x1 := (fr w.heap.size 1 (by omega)).1; have x2 := (fr w.heap.size 2 (by omega)).1; have fx := (fr w.heap.size 2 (by omega)).2; have y0 := (fr (w.heap.size + 1) 0 (by omega)).1; have y1 := (fr (w.heap.size + 1) 1 (by omega)).1; have y2 := (fr (w.heap.size + 1) 2 (by omega)).1; have fy0 := (fr (w.heap.size + 1) 0 (by omega)).2; have fy1 := (fr (w.heap.size + 1) 1 (by omega)).2; have fy2 := (fr (w.heap.size + 1) 2 (by omega)).2; have HO := Lib.hid O1; have HB : Below w.heap.size w w1 := Below.grown (by (repeat' (first | (with_reducible exact Below.refl _ _) | (with_reducible assumption) | (with_reducible refine Below.alloc ?_ ?_ _) | (with_reducible refine Below.drew ?_) | (with_reducible refine below_drewN ?_ _) | (with_reducible refine Below.setCell ?_ ?_ _) | (with_reducible refine bvia ?_ (by with_reducible assumption) ?_) | go_size))) G1 (by simp; omega) (fun k hk => by simp [Value.ownBlock] at hk; omega); clear fr O1 G1 X1; simp [go_sem] at x0 x1 x2 fx y0 y1 y2 fy0 fy1 fy2)
  refine bodyPost_ret (v := pv r s A1 L.length k1) (by simp [results, Try.results36, go_sem, *]) rfl ?_
  refine ⟨A1, k1, rfl, ?_, by (repeat' (first | (with_reducible exact Below.refl _ _) | (with_reducible assumption) | (with_reducible refine Below.alloc ?_ ?_ _) | (with_reducible refine Below.drew ?_) | (with_reducible refine below_drewN ?_ _) | (with_reducible refine Below.setCell ?_ ?_ _) | (with_reducible refine bvia ?_ (by with_reducible assumption) ?_) | go_size))⟩
  exact (HO.out.keep (fun k _ h1 h2 => (show Touch w.heap.size (w.heap.size + 1 + 1) w1 _ by (repeat' (first | (with_reducible exact Touch.refl _ _ _) | (with_reducible assumption) | (with_reducible refine Touch.alloc ?_ _) | (with_reducible refine Touch.drew ?_) | (with_reducible refine Touch.drewN ?_ _) | (with_reducible refine Touch.setCell ?_ ?_ ?_ _) | (with_reducible refine Touch.via ?_ (by with_reducible assumption)) | go_size))).block k h2 (.inr h1))).up (by omega)
/-- l09Copy -/
theorem take_snoc {α : Type} {L : List α} {k : Nat} (h : k < L.length) : L.take k ++ [L[k]] = L.take (k + 1) := by rw [List.take_succ_eq_append_getElem h]
set_option maxHeartbeats 2000000 in
theorem sCopyPieces (r : Int) (s : ByteArray) (A : Option Addr) (cap : Nat) (L : List PieceD) (w : World) (hr : Rd PieceD.cells 2 w 0 w.heap.size A L) (hm : L.length ≤ 4294967296) :
    Calls Try.prog 39 #[pv r s A L.length cap] w (RetPs w r s L fun v => v) := by
  obtain ⟨W, HW⟩ : ∃ W, Hid ((w.alloc (.cells #[.int .i64 r, .string s, .slice A L.length cap] 26)).alloc (.cells #[.int .i64 0, .string ⟨#[]⟩, .slice none 0 0] 26) = W) := ⟨_, rfl⟩
  have hW : Below w.heap.size w W := HW.out ▸ (by go_grown)
  have hWs : w.heap.size + 2 = W.heap.size := by rw [← HW.out]; simp
  have hWs1 : w.heap.size + 2 ≤ W.heap.size := by omega
  have hWs2 : W.heap.size ≤ w.heap.size + 2 := by omega
  clear hWs
  have HF : Hid (W.cell? ⟨w.heap.size, 0, none⟩ = some (.int .i64 r) ∧ W.cell? ⟨w.heap.size, 1, none⟩ = some (.string s) ∧ W.cell? ⟨w.heap.size, 2, none⟩ = some (.slice A L.length cap) ∧ W.frozen? ⟨w.heap.size, 2, none⟩ = false ∧ W.cell? ⟨w.heap.size + 1, 0, none⟩ = some (.int .i64 0) ∧ W.cell? ⟨w.heap.size + 1, 1, none⟩ = some (.string ⟨#[]⟩) ∧ W.cell? ⟨w.heap.size + 1, 2, none⟩ = some (.slice none 0 0) ∧ ∀ o, W.frozen? ⟨w.heap.size + 1, o, none⟩ = false) := by
    refine ⟨?_, ?_, ?_, ?_, ?_, ?_, ?_, ?_⟩ <;> rw [← HW.out] <;> simp [go_sem]
  go_enter Try.func39, Try.ntmps39
  go_wp2_with fail
  go_loopw [3, 4] (fun v i wr => ∃ k : Nat, k ≤ L.length ∧ i = .int .i64 k ∧ Own wr W.heap.size 44 PieceD.cells 2 v (L.take k) ∧ Below W.heap.size W wr) (fun _ i _ => L.length - (intOf i).toNat)
  case atStart =>
    refine ⟨0, Nat.zero_le _, rfl, ?_, ?_⟩
    · rw [List.take_zero]
      exact Own.emptyAt _ _ _ _ (by simp) (by omega)
    · rw [← HW.out]; (repeat' (first | (with_reducible exact Below.refl _ _) | (with_reducible assumption) | (with_reducible refine Below.alloc ?_ ?_ _) | (with_reducible refine Below.drew ?_) | (with_reducible refine below_drewN ?_ _) | (with_reducible refine Below.setCell ?_ ?_ _) | (with_reducible refine bvia ?_ (by with_reducible assumption) ?_) | go_size))
  case round =>
    obtain ⟨k, hk, rfl, hO, hB⟩ := hrel
    have hBz := hB.size
    have hBw : Below w.heap.size w wr := hW.trans (hB.mono (by omega))
    obtain ⟨z0, z1, z2, zf, y0, y1, y2, yf⟩ := HF.out
    have b2 := (hB.cell (p := ⟨w.heap.size, 2, none⟩) (by show w.heap.size < _; omega)).trans z2
    by_cases hlt : k < L.length
    · clear z0 z1 z2 zf y0 y1 y2 yf
      obtain ⟨g, o, rfl, _, hg, hcell⟩ := hr.at_ (by omega)
      have hx : ∀ j v, (L[k].cells)[j]? = some v → wr.cell? ⟨g, o + k * 2 + j, none⟩ = some v := fun j v hv => by
        have hj : j < 2 := (List.getElem?_eq_some_iff.1 hv).1
        rw [hBw.cell (p := ⟨g, o + k * 2 + j, none⟩) hg, hcell k hlt j hj, hv]
      have HX := Lib.hid hx
      clear hx hcell
      have hki : (k : Int) < (L.length : Int) := by omega
      have hs := Lib.hid (take_snoc hlt)
      have hle : (L.take k).length ≤ L.length := by rw [List.length_take]; omega
      have HO := Lib.hid hO
      clear hO
      go_wp2_with (first
        | (refine wpList_load_part rfl 44 (.tmp 17) rfl g _ rfl L[k].row _ HX.out Try.underlying44 rfl (by kernel_rfl) ?_)
        | (at_builtin; refine wpList_append_rd _ rfl (.tmp 13) (.tmp 19) rfl slPiece PieceD.cells_length PieceD.one W.heap.size _ (L.take k) [L[k]] rfl (HO.out.alloc _) (some ⟨wr.heap.size, 0, none⟩) 1 1 0 (wr.heap.size + 1) rfl rfl (rd_one _ _ _ _ PieceD.cells_length rfl _ (by simp) _ (by omega)) (by simp; omega) (by simp; omega) ?_; intro v1 w1 O1 G1 A1))
      have hB1 : Below W.heap.size W w1 := Own.below2 G1 (HO.out.alloc _) (by (repeat' (first | (with_reducible exact Below.refl _ _) | (with_reducible assumption) | (with_reducible refine Below.alloc ?_ ?_ _) | (with_reducible refine Below.drew ?_) | (with_reducible refine below_drewN ?_ _) | (with_reducible refine Below.setCell ?_ ?_ _) | (with_reducible refine bvia ?_ (by with_reducible assumption) ?_) | go_size))) (Nat.le_refl _) (by simp; omega)
      clear G1 A1
      go_roundw
      case rel => exact ⟨k + 1, by omega, by go_num, by rw [← hs.out]; exact O1, hB1⟩
      case measure => simp [intOf]; omega
    · obtain rfl : k = L.length := by omega
      rw [List.take_length] at hO
      have b0 := (hB.cell (p := ⟨w.heap.size, 0, none⟩) (by show w.heap.size < _; omega)).trans z0
      have b1 := (hB.cell (p := ⟨w.heap.size, 1, none⟩) (by show w.heap.size < _; omega)).trans z1
      have bf := (hB.frozen (p := ⟨w.heap.size, 2, none⟩) (by show w.heap.size < _; omega)).trans zf
      have d0 := (hB.cell (p := ⟨w.heap.size + 1, 0, none⟩) (by show w.heap.size + 1 < _; omega)).trans y0
      have d1 := (hB.cell (p := ⟨w.heap.size + 1, 1, none⟩) (by show w.heap.size + 1 < _; omega)).trans y1
      have d2 := (hB.cell (p := ⟨w.heap.size + 1, 2, none⟩) (by show w.heap.size + 1 < _; omega)).trans y2
      have df0 := (hB.frozen (p := ⟨w.heap.size + 1, 0, none⟩) (by show w.heap.size + 1 < _; omega)).trans (yf 0)
      have df1 := (hB.frozen (p := ⟨w.heap.size + 1, 1, none⟩) (by show w.heap.size + 1 < _; omega)).trans (yf 1)
      have df2 := (hB.frozen (p := ⟨w.heap.size + 1, 2, none⟩) (by show w.heap.size + 1 < _; omega)).trans (yf 2)
      clear z0 z1 z2 zf y0 y1 y2 yf
      obtain ⟨A1, k1, rfl, -, -, -⟩ := hO.rd0 PieceD.cells_length
      have HO := Lib.hid hO
      clear hO
      go_wp2
      refine bodyPost_ret (v := pv r s A1 L.length k1) (by simp [results, Try.results39, go_sem, *]) rfl ?_
      refine ⟨A1, k1, rfl, ?_, by (repeat' (first | (with_reducible exact Below.refl _ _) | (with_reducible assumption) | (with_reducible refine Below.alloc ?_ ?_ _) | (with_reducible refine Below.drew ?_) | (with_reducible refine below_drewN ?_ _) | (with_reducible refine Below.setCell ?_ ?_ _) | (with_reducible refine bvia ?_ (by with_reducible assumption) ?_) | go_size))⟩
      exact (HO.out.keep (fun k _ h1 h2 => (show Touch w.heap.size (w.heap.size + 2) wr _ by (repeat' (first | (with_reducible exact Touch.refl _ _ _) | (with_reducible assumption) | (with_reducible refine Touch.alloc ?_ _) | (with_reducible refine Touch.drew ?_) | (with_reducible refine Touch.drewN ?_ _) | (with_reducible refine Touch.setCell ?_ ?_ ?_ _) | (with_reducible refine Touch.via ?_ (by with_reducible assumption)) | go_size))).block k h2 (.inr (by omega)))).up (by omega)
theorem cal' (w : World) (o : Obj) (b off : Nat) (h : b < w.heap.size) : (w.alloc o).cell? ⟨b, off, none⟩ = w.cell? ⟨b, off, none⟩ := World.cell?_alloc_lt w o _ h
theorem fal' (w : World) (o : Obj) (b off : Nat) (h : b < w.heap.size) : (w.alloc o).frozen? ⟨b, off, none⟩ = w.frozen? ⟨b, off, none⟩ := (by go_grown : Below w.heap.size w (w.alloc o)).frozen (p := ⟨b, off, none⟩) h
theorem cfar2 (w : World) (p q a : Addr) (u v : Value) (h1 : p.block ≠ a.block) (h2 : q.block ≠ a.block) : ((w.setCell p u).setCell q v).cell? a = w.cell? a :=
  (World.cell?_setCell_far _ q a v h2).trans (World.cell?_setCell_far w p a u h1)
/-- What TakeReady computes: how many, whether, and what is left and handed out. -/
def tkN (s : ByteArray) (m : Int) : Nat := (min m s.size).toNat
def tkOk (r : Int) (s : ByteArray) (L : List PieceD) (m : Int) : Bool := piecesOk r s L && (decide (0 ≤ m) && decide (r + tkN s m ≤ 1000000000))
def tkR (r : Int) (s : ByteArray) (L : List PieceD) (m : Int) : Int := if tkOk r s L m then r + tkN s m else r
def tkS (r : Int) (s : ByteArray) (L : List PieceD) (m : Int) : ByteArray := if tkOk r s L m then s.extract (tkN s m) s.size else s
def tkT (r : Int) (s : ByteArray) (L : List PieceD) (m : Int) : ByteArray := if tkOk r s L m then s.extract 0 (tkN s m) else ⟨#[]⟩
theorem tk_no {r : Int} {s : ByteArray} {L : List PieceD} {m : Int} (h : tkOk r s L m = false) : tkR r s L m = r ∧ tkS r s L m = s ∧ tkT r s L m = ⟨#[]⟩ := by simp [tkR, tkS, tkT, h]
theorem tk_yes {r : Int} {s : ByteArray} {L : List PieceD} {m : Int} {n : Nat} (h : tkOk r s L m = true) (hn : tkN s m = n) : tkR r s L m = r + n ∧ tkS r s L m = s.extract n s.size ∧ tkT r s L m = s.extract 0 n := by simp [tkR, tkS, tkT, h, hn]
theorem pOk_bd {r : Int} {s : ByteArray} {L : List PieceD} (h : piecesOk r s L = true) : 0 ≤ r ∧ r ≤ 1000000000 ∧ s.size ≤ 200 := by
  unfold piecesOk winB heldV at h
  simp only [Bool.and_eq_true, decide_eq_true_eq] at h
  omega
set_option maxRecDepth 100000 in
set_option maxHeartbeats 4000000 in
theorem iTakeReady (r : Int) (s : ByteArray) (A : Option Addr) (cap : Nat) (L : List PieceD) (m : Int) (w : World) (hr : Rd PieceD.cells 2 w 0 w.heap.size A L) (hs : s.size + sumT L ≤ 4611686018427387904) (hm : L.length ≤ 4294967296) :
    Calls Try.prog 27 #[pv r s A L.length cap, .int .i64 m] w (RetPs w (tkR r s L m) (tkS r s L m) L fun v => .tuple #[v, .string (tkT r s L m)]) := by
  have hmm : L.length ≤ maxLen := by unfold maxLen; omega
  obtain ⟨n, hn⟩ : ∃ n : Nat, tkN s m = n := ⟨_, rfl⟩
  have hnm : 0 ≤ m → min m (s.size : Int) = n := by intro h; rw [← hn]; unfold tkN; omega
  have hns : n ≤ s.size := by rw [← hn]; unfold tkN; omega
  have HN := Lib.hid hn
  have HNM := Lib.hid hnm
  clear hn hnm
  by_cases hbig : (s.size : Int) < m
  · have dm : decide ((s.size : Int) < m) = true := decide_eq_true hbig
    have hm0 : 0 ≤ m := by omega
    have hmn : (s.size : Int) = n := by have := HNM.out hm0; omega
    have hmn1 : n = s.size := by omega
    clear hmn
    subst hmn1
    go_enter Try.func27, Try.ntmps27
    go_wp2_with fail
    refine (iCopyPieces r s A cap L _ (by exact hr.later (by (repeat' (first | (with_reducible exact Below.refl _ _) | (with_reducible assumption) | (with_reducible refine Below.alloc ?_ ?_ _) | (with_reducible refine Below.drew ?_) | (with_reducible refine below_drewN ?_ _) | (with_reducible refine Below.setCell ?_ ?_ _) | (with_reducible refine bvia ?_ (by with_reducible assumption) ?_) | go_size))) (Nat.le_refl _) (by go_size)) hm).mono ?_
    rintro e w1 ⟨A1, k1, rfl, O1, hb1⟩
    obtain ⟨hc, hf⟩ := bcell hb1
    have hc1_0 := fun o => hc (w.heap.size) o (by go_size)
    have hf1_0 := fun o => hf (w.heap.size) o (by go_size)
    have hz1_0 : w.heap.size < w1.heap.size := Nat.lt_of_lt_of_le (by go_size) hb1.size
    have hc1_1 := fun o => hc (w.heap.size + 1) o (by go_size)
    have hf1_1 := fun o => hf (w.heap.size + 1) o (by go_size)
    have hz1_1 : w.heap.size + 1 < w1.heap.size := Nat.lt_of_lt_of_le (by go_size) hb1.size
    clear hc hf
    have hz1 := hb1.size
    try simp at hz1
    go_wp2_with fail
    refine (iPiecesOk r s A cap L _ (by exact hr.later (by (repeat' (first | (with_reducible exact Below.refl _ _) | (with_reducible assumption) | (with_reducible refine Below.alloc ?_ ?_ _) | (with_reducible refine Below.drew ?_) | (with_reducible refine below_drewN ?_ _) | (with_reducible refine Below.setCell ?_ ?_ _) | (with_reducible refine bvia ?_ (by with_reducible assumption) ?_) | go_size))) (Nat.le_refl _) (by go_size)) hs hmm).mono ?_
    rintro e w2 ⟨rfl, hb2⟩
    obtain ⟨hc, hf⟩ := bcell hb2
    have hc2_0 := fun o => hc (w.heap.size) o (by go_size)
    have hf2_0 := fun o => hf (w.heap.size) o (by go_size)
    have hz2_0 : w.heap.size < w2.heap.size := Nat.lt_of_lt_of_le (by go_size) hb2.size
    have hc2_1 := fun o => hc (w.heap.size + 1) o (by go_size)
    have hf2_1 := fun o => hf (w.heap.size + 1) o (by go_size)
    have hz2_1 : w.heap.size + 1 < w2.heap.size := Nat.lt_of_lt_of_le (by go_size) hb2.size
    have hc2_2 := fun o => hc (w1.heap.size) o (by go_size)
    have hf2_2 := fun o => hf (w1.heap.size) o (by go_size)
    have hz2_2 : w1.heap.size < w2.heap.size := Nat.lt_of_lt_of_le (by go_size) hb2.size
    clear hc hf
    have hz2 := hb2.size
    try simp at hz2
    have HO2 := Lib.hid ((O1.later (by (repeat' (first | (with_reducible exact Below.refl _ _) | (with_reducible assumption) | (with_reducible refine Below.alloc ?_ ?_ _) | (with_reducible refine Below.drew ?_) | (with_reducible refine below_drewN ?_ _) | (with_reducible refine Below.setCell ?_ ?_ _) | (with_reducible refine bvia ?_ (by with_reducible assumption) ?_) | go_size)) : Below w1.heap.size w1 w2) (Nat.le_refl _)).up (base' := w.heap.size + 2) (by simp))
    have hv1 : Hid (∀ k, (Value.slice A1 L.length k1).ownBlock = some k → k < w1.heap.size) := fun k hk => (O1.lt hk).2
    have hB2 : Below w.heap.size w w2 := by (repeat' (first | (with_reducible exact Below.refl _ _) | (with_reducible assumption) | (with_reducible refine Below.alloc ?_ ?_ _) | (with_reducible refine Below.drew ?_) | (with_reducible refine below_drewN ?_ _) | (with_reducible refine Below.setCell ?_ ?_ _) | (with_reducible refine bvia ?_ (by with_reducible assumption) ?_) | go_size))
    clear hb1 hb2 O1
    cases hp : piecesOk r s L with
    | false =>
      have hv : Hid (tkOk r s L m = false) := by unfold Hid tkOk; rw [hp]; rfl
      go_wp2
      refine bodyPost_ret (v := .tuple #[pv r s A1 L.length k1, .string ⟨#[]⟩]) (by simp [results, Try.results27, go_sem, *]) rfl ?_
      obtain ⟨q1, q2, q3⟩ := tk_no hv.out
      rw [q1, q2, q3]
      exact ⟨A1, k1, rfl, (HO2.out.keep (fun k _ h1 h2 => (show Touch w.heap.size (w.heap.size + 2) w2 _ by (repeat' (first | (with_reducible exact Touch.refl _ _ _) | (with_reducible assumption) | (with_reducible refine Touch.alloc ?_ _) | (with_reducible refine Touch.drew ?_) | (with_reducible refine Touch.drewN ?_ _) | (with_reducible refine Touch.setCell ?_ ?_ ?_ _) | (with_reducible refine Touch.via ?_ (by with_reducible assumption)) | go_size))).block k h2 (.inr (by omega)))).up (by omega), by (repeat' (first | (with_reducible exact Below.refl _ _) | (with_reducible assumption) | (with_reducible refine Below.alloc ?_ ?_ _) | (with_reducible refine Below.drew ?_) | (with_reducible refine below_drewN ?_ _) | (with_reducible refine Below.setCell ?_ ?_ _) | (with_reducible refine bvia ?_ (by with_reducible assumption) ?_) | go_size))⟩
    | true =>
      obtain ⟨hb0, hb1, hb2⟩ := pOk_bd hp
      by_cases hbg : r + (s.size : Nat) ≤ 1000000000
      · have hv : Hid (tkOk r s L m = true) := by unfold Hid tkOk; rw [HN.out, hp, decide_eq_true hm0, decide_eq_true hbg]; rfl
        have e0 : w2.cell? ⟨w1.heap.size, 0, none⟩ = some (.int .i64 r) := by simp [go_sem, hc2_2]
        have e1 : w2.cell? ⟨w1.heap.size, 1, none⟩ = some (.string s) := by simp [go_sem, hc2_2]
        have e2 : w2.cell? ⟨w1.heap.size, 2, none⟩ = some (.slice A1 L.length k1) := by simp [go_sem, hc2_2]
        have t1 : w2.cell? ⟨w.heap.size, 1, none⟩ = some (.string s) := by simp [go_sem, hc2_0, hc1_0, cal', hz1_0]
        have z0 : w2.cell? ⟨w.heap.size + 1, 0, none⟩ = some (.int .i64 0) := by simp [go_sem, hc2_1, hc1_1, cal', hz1_1]
        have z1 : w2.cell? ⟨w.heap.size + 1, 1, none⟩ = some (.string ⟨#[]⟩) := by simp [go_sem, hc2_1, hc1_1, cal', hz1_1]
        have z2 : w2.cell? ⟨w.heap.size + 1, 2, none⟩ = some (.slice none 0 0) := by simp [go_sem, hc2_1, hc1_1, cal', hz1_1]
        have y0 : w2.frozen? ⟨w.heap.size + 1, 0, none⟩ = false := by simp [go_sem, hf2_1, hf1_1, fal', hz1_1]
        have y1 : w2.frozen? ⟨w.heap.size + 1, 1, none⟩ = false := by simp [go_sem, hf2_1, hf1_1, fal', hz1_1]
        have y2 : w2.frozen? ⟨w.heap.size + 1, 2, none⟩ = false := by simp [go_sem, hf2_1, hf1_1, fal', hz1_1]
        go_wp2_with fail
        refine wp_world _ (fun W => W.cell? ⟨w1.heap.size, 0, none⟩ = some (.int .i64 (r + (s.size : Nat))) ∧ W.cell? ⟨w1.heap.size, 1, none⟩ = some (.string ByteArray.empty) ∧ W.cell? ⟨w1.heap.size, 2, none⟩ = some (.slice A1 L.length k1) ∧ W.cell? ⟨w.heap.size, 1, none⟩ = some (.string s) ∧ W.cell? ⟨w.heap.size + 1, 0, none⟩ = some (.int .i64 0) ∧ W.cell? ⟨w.heap.size + 1, 1, none⟩ = some (.string ⟨#[]⟩) ∧ W.cell? ⟨w.heap.size + 1, 2, none⟩ = some (.slice none 0 0) ∧ W.frozen? ⟨w.heap.size + 1, 0, none⟩ = false ∧ W.frozen? ⟨w.heap.size + 1, 1, none⟩ = false ∧ W.frozen? ⟨w.heap.size + 1, 2, none⟩ = false ∧ Below w.heap.size w W ∧ w1.heap.size < W.heap.size ∧ ∀ k, w.heap.size + 2 ≤ k → k < w1.heap.size → W.heap[k]? = w2.heap[k]?) ⟨(World.cell?_setCell_other _ _ _ _ (by simp)).trans (World.cell?_setCell_same w2 _ _ e0), World.cell?_setCell_same _ _ _ ((World.cell?_setCell_other w2 ⟨w1.heap.size, 0, none⟩ ⟨w1.heap.size, 1, none⟩ _ (by simp)).trans e1), by simp [go_sem, e2], (cfar2 _ _ _ _ _ _ (by simp; omega) (by simp; omega)).trans t1, (cfar2 _ _ _ _ _ _ (by simp; omega) (by simp; omega)).trans z0, (cfar2 _ _ _ _ _ _ (by simp; omega) (by simp; omega)).trans z1, (cfar2 _ _ _ _ _ _ (by simp; omega) (by simp; omega)).trans z2, by simp [go_sem, y0], by simp [go_sem, y1], by simp [go_sem, y2], by (repeat' (first | (with_reducible exact Below.refl _ _) | (with_reducible assumption) | (with_reducible refine Below.alloc ?_ ?_ _) | (with_reducible refine Below.drew ?_) | (with_reducible refine below_drewN ?_ _) | (with_reducible refine Below.setCell ?_ ?_ _) | (with_reducible refine bvia ?_ (by with_reducible assumption) ?_) | go_size)), by go_size, fun k _ hk => by rw [Below.heap_setCell _ _ _ _ (by first | omega | (simp; omega)), Below.heap_setCell _ _ _ _ (by first | omega | (simp; omega))]⟩ ?_
        clear hc2_0 hc2_1 hc2_2 hc1_0 hc1_1 hf2_0 hf2_1 hf2_2 hf1_0 hf1_1 e0 e1 e2 t1 z0 z1 z2 y0 y1 y2
        rintro W ⟨e0, e1, e2, t1, z0, z1, z2, y0, y1, y2, hBW, hWz, hWk⟩
        have HWK := Lib.hid hWk
        clear hWk
        have hne1 : ¬ w.heap.size + 1 = w1.heap.size := by omega
        have hne2 : ¬ w1.heap.size = w.heap.size + 1 := by omega
        have hn1 : (0 : Int) ≤ ((s.size : Nat) : Int) := by omega
        have hn2 : ((s.size : Nat) : Int) ≤ (s.size : Int) := by omega
        go_region_held3 (fun w' => w'.cell? ⟨w1.heap.size, 0, none⟩ = some (.int .i64 (r + (s.size : Nat))) ∧ w'.cell? ⟨w1.heap.size, 1, none⟩ = some (.string ByteArray.empty) ∧ w'.cell? ⟨w1.heap.size, 2, none⟩ = some (.slice A1 L.length k1) ∧ w'.cell? ⟨w.heap.size, 1, none⟩ = some (.string s)) (first | (refine ⟨?_, ?_, ?_, ?_⟩ <;> assumption) | go_keep)
          (fail)
        go_wp2
        obtain ⟨q1, q2, q3⟩ := tk_yes hv.out HN.out
        refine bodyPost_ret (v := .tuple #[pv (r + (s.size : Nat)) ByteArray.empty A1 L.length k1, .string (s.extract 0 s.size)]) (by simp [results, Try.results27, go_sem, *]) rfl ?_
        rw [q1, q2, q3, show s.extract s.size s.size = ByteArray.empty from by simp]
        exact ⟨A1, k1, rfl, (HO2.out.keep (fun k hk h1 _ => by have hk3 := hv1.out k hk; rw [← HWK.out k h1 hk3]; repeat (first | rw [show ∀ W : World, W.drew.heap = W.heap from fun _ => rfl] | rw [Below.heap_setCell _ _ _ _ (by first | omega | (simp; omega))] | rfl))).up (by omega), by (repeat' (first | (with_reducible exact Below.refl _ _) | (with_reducible assumption) | (with_reducible refine Below.alloc ?_ ?_ _) | (with_reducible refine Below.drew ?_) | (with_reducible refine below_drewN ?_ _) | (with_reducible refine Below.setCell ?_ ?_ _) | (with_reducible refine bvia ?_ (by with_reducible assumption) ?_) | go_size))⟩
      · have hv : Hid (tkOk r s L m = false) := by unfold Hid tkOk; rw [HN.out, decide_eq_false hbg]; simp
        go_wp2
        refine bodyPost_ret (v := .tuple #[pv r s A1 L.length k1, .string ⟨#[]⟩]) (by simp [results, Try.results27, go_sem, *]) rfl ?_
        obtain ⟨q1, q2, q3⟩ := tk_no hv.out
        rw [q1, q2, q3]
        exact ⟨A1, k1, rfl, (HO2.out.keep (fun k _ h1 h2 => (show Touch w.heap.size (w.heap.size + 2) w2 _ by (repeat' (first | (with_reducible exact Touch.refl _ _ _) | (with_reducible assumption) | (with_reducible refine Touch.alloc ?_ _) | (with_reducible refine Touch.drew ?_) | (with_reducible refine Touch.drewN ?_ _) | (with_reducible refine Touch.setCell ?_ ?_ ?_ _) | (with_reducible refine Touch.via ?_ (by with_reducible assumption)) | go_size))).block k h2 (.inr (by omega)))).up (by omega), by (repeat' (first | (with_reducible exact Below.refl _ _) | (with_reducible assumption) | (with_reducible refine Below.alloc ?_ ?_ _) | (with_reducible refine Below.drew ?_) | (with_reducible refine below_drewN ?_ _) | (with_reducible refine Below.setCell ?_ ?_ _) | (with_reducible refine bvia ?_ (by with_reducible assumption) ?_) | go_size))⟩
  · have dm : decide ((s.size : Int) < m) = false := decide_eq_false hbig
    go_enter Try.func27, Try.ntmps27
    go_wp2_with fail
    refine (iCopyPieces r s A cap L _ (by exact hr.later (by (repeat' (first | (with_reducible exact Below.refl _ _) | (with_reducible assumption) | (with_reducible refine Below.alloc ?_ ?_ _) | (with_reducible refine Below.drew ?_) | (with_reducible refine below_drewN ?_ _) | (with_reducible refine Below.setCell ?_ ?_ _) | (with_reducible refine bvia ?_ (by with_reducible assumption) ?_) | go_size))) (Nat.le_refl _) (by go_size)) hm).mono ?_
    rintro e w1 ⟨A1, k1, rfl, O1, hb1⟩
    obtain ⟨hc, hf⟩ := bcell hb1
    have hc1_0 := fun o => hc (w.heap.size) o (by go_size)
    have hf1_0 := fun o => hf (w.heap.size) o (by go_size)
    have hz1_0 : w.heap.size < w1.heap.size := Nat.lt_of_lt_of_le (by go_size) hb1.size
    have hc1_1 := fun o => hc (w.heap.size + 1) o (by go_size)
    have hf1_1 := fun o => hf (w.heap.size + 1) o (by go_size)
    have hz1_1 : w.heap.size + 1 < w1.heap.size := Nat.lt_of_lt_of_le (by go_size) hb1.size
    clear hc hf
    have hz1 := hb1.size
    try simp at hz1
    go_wp2_with fail
    refine (iPiecesOk r s A cap L _ (by exact hr.later (by (repeat' (first | (with_reducible exact Below.refl _ _) | (with_reducible assumption) | (with_reducible refine Below.alloc ?_ ?_ _) | (with_reducible refine Below.drew ?_) | (with_reducible refine below_drewN ?_ _) | (with_reducible refine Below.setCell ?_ ?_ _) | (with_reducible refine bvia ?_ (by with_reducible assumption) ?_) | go_size))) (Nat.le_refl _) (by go_size)) hs hmm).mono ?_
    rintro e w2 ⟨rfl, hb2⟩
    obtain ⟨hc, hf⟩ := bcell hb2
    have hc2_0 := fun o => hc (w.heap.size) o (by go_size)
    have hf2_0 := fun o => hf (w.heap.size) o (by go_size)
    have hz2_0 : w.heap.size < w2.heap.size := Nat.lt_of_lt_of_le (by go_size) hb2.size
    have hc2_1 := fun o => hc (w.heap.size + 1) o (by go_size)
    have hf2_1 := fun o => hf (w.heap.size + 1) o (by go_size)
    have hz2_1 : w.heap.size + 1 < w2.heap.size := Nat.lt_of_lt_of_le (by go_size) hb2.size
    have hc2_2 := fun o => hc (w1.heap.size) o (by go_size)
    have hf2_2 := fun o => hf (w1.heap.size) o (by go_size)
    have hz2_2 : w1.heap.size < w2.heap.size := Nat.lt_of_lt_of_le (by go_size) hb2.size
    clear hc hf
    have hz2 := hb2.size
    try simp at hz2
    have HO2 := Lib.hid ((O1.later (by (repeat' (first | (with_reducible exact Below.refl _ _) | (with_reducible assumption) | (with_reducible refine Below.alloc ?_ ?_ _) | (with_reducible refine Below.drew ?_) | (with_reducible refine below_drewN ?_ _) | (with_reducible refine Below.setCell ?_ ?_ _) | (with_reducible refine bvia ?_ (by with_reducible assumption) ?_) | go_size)) : Below w1.heap.size w1 w2) (Nat.le_refl _)).up (base' := w.heap.size + 2) (by simp))
    have hv1 : Hid (∀ k, (Value.slice A1 L.length k1).ownBlock = some k → k < w1.heap.size) := fun k hk => (O1.lt hk).2
    have hB2 : Below w.heap.size w w2 := by (repeat' (first | (with_reducible exact Below.refl _ _) | (with_reducible assumption) | (with_reducible refine Below.alloc ?_ ?_ _) | (with_reducible refine Below.drew ?_) | (with_reducible refine below_drewN ?_ _) | (with_reducible refine Below.setCell ?_ ?_ _) | (with_reducible refine bvia ?_ (by with_reducible assumption) ?_) | go_size))
    clear hb1 hb2 O1
    cases hp : piecesOk r s L with
    | false =>
      have hv : Hid (tkOk r s L m = false) := by unfold Hid tkOk; rw [hp]; rfl
      go_wp2
      refine bodyPost_ret (v := .tuple #[pv r s A1 L.length k1, .string ⟨#[]⟩]) (by simp [results, Try.results27, go_sem, *]) rfl ?_
      obtain ⟨q1, q2, q3⟩ := tk_no hv.out
      rw [q1, q2, q3]
      exact ⟨A1, k1, rfl, (HO2.out.keep (fun k _ h1 h2 => (show Touch w.heap.size (w.heap.size + 2) w2 _ by (repeat' (first | (with_reducible exact Touch.refl _ _ _) | (with_reducible assumption) | (with_reducible refine Touch.alloc ?_ _) | (with_reducible refine Touch.drew ?_) | (with_reducible refine Touch.drewN ?_ _) | (with_reducible refine Touch.setCell ?_ ?_ ?_ _) | (with_reducible refine Touch.via ?_ (by with_reducible assumption)) | go_size))).block k h2 (.inr (by omega)))).up (by omega), by (repeat' (first | (with_reducible exact Below.refl _ _) | (with_reducible assumption) | (with_reducible refine Below.alloc ?_ ?_ _) | (with_reducible refine Below.drew ?_) | (with_reducible refine below_drewN ?_ _) | (with_reducible refine Below.setCell ?_ ?_ _) | (with_reducible refine bvia ?_ (by with_reducible assumption) ?_) | go_size))⟩
    | true =>
      obtain ⟨hb0, hb1, hb2⟩ := pOk_bd hp
      by_cases hneg : m < 0
      · have hv : Hid (tkOk r s L m = false) := by unfold Hid tkOk; rw [decide_eq_false (show ¬ 0 ≤ m by omega)]; simp
        go_wp2
        refine bodyPost_ret (v := .tuple #[pv r s A1 L.length k1, .string ⟨#[]⟩]) (by simp [results, Try.results27, go_sem, *]) rfl ?_
        obtain ⟨q1, q2, q3⟩ := tk_no hv.out
        rw [q1, q2, q3]
        exact ⟨A1, k1, rfl, (HO2.out.keep (fun k _ h1 h2 => (show Touch w.heap.size (w.heap.size + 2) w2 _ by (repeat' (first | (with_reducible exact Touch.refl _ _ _) | (with_reducible assumption) | (with_reducible refine Touch.alloc ?_ _) | (with_reducible refine Touch.drew ?_) | (with_reducible refine Touch.drewN ?_ _) | (with_reducible refine Touch.setCell ?_ ?_ ?_ _) | (with_reducible refine Touch.via ?_ (by with_reducible assumption)) | go_size))).block k h2 (.inr (by omega)))).up (by omega), by (repeat' (first | (with_reducible exact Below.refl _ _) | (with_reducible assumption) | (with_reducible refine Below.alloc ?_ ?_ _) | (with_reducible refine Below.drew ?_) | (with_reducible refine below_drewN ?_ _) | (with_reducible refine Below.setCell ?_ ?_ _) | (with_reducible refine bvia ?_ (by with_reducible assumption) ?_) | go_size))⟩
      have hm0 : 0 ≤ m := by omega
      have hmin : min m (s.size : Int) = n := HNM.out hm0
      have hmn : m = n := by omega
      subst hmn
      clear hmin
      by_cases hbg : r + (n : Nat) ≤ 1000000000
      · have hv : Hid (tkOk r s L (n : Int) = true) := by unfold Hid tkOk; rw [HN.out, hp, decide_eq_true hm0, decide_eq_true hbg]; rfl
        have e0 : w2.cell? ⟨w1.heap.size, 0, none⟩ = some (.int .i64 r) := by simp [go_sem, hc2_2]
        have e1 : w2.cell? ⟨w1.heap.size, 1, none⟩ = some (.string s) := by simp [go_sem, hc2_2]
        have e2 : w2.cell? ⟨w1.heap.size, 2, none⟩ = some (.slice A1 L.length k1) := by simp [go_sem, hc2_2]
        have t1 : w2.cell? ⟨w.heap.size, 1, none⟩ = some (.string s) := by simp [go_sem, hc2_0, hc1_0, cal', hz1_0]
        have z0 : w2.cell? ⟨w.heap.size + 1, 0, none⟩ = some (.int .i64 0) := by simp [go_sem, hc2_1, hc1_1, cal', hz1_1]
        have z1 : w2.cell? ⟨w.heap.size + 1, 1, none⟩ = some (.string ⟨#[]⟩) := by simp [go_sem, hc2_1, hc1_1, cal', hz1_1]
        have z2 : w2.cell? ⟨w.heap.size + 1, 2, none⟩ = some (.slice none 0 0) := by simp [go_sem, hc2_1, hc1_1, cal', hz1_1]
        have y0 : w2.frozen? ⟨w.heap.size + 1, 0, none⟩ = false := by simp [go_sem, hf2_1, hf1_1, fal', hz1_1]
        have y1 : w2.frozen? ⟨w.heap.size + 1, 1, none⟩ = false := by simp [go_sem, hf2_1, hf1_1, fal', hz1_1]
        have y2 : w2.frozen? ⟨w.heap.size + 1, 2, none⟩ = false := by simp [go_sem, hf2_1, hf1_1, fal', hz1_1]
        go_wp2_with fail
        refine wp_world _ (fun W => W.cell? ⟨w1.heap.size, 0, none⟩ = some (.int .i64 (r + (n : Nat))) ∧ W.cell? ⟨w1.heap.size, 1, none⟩ = some (.string (s.extract n s.size)) ∧ W.cell? ⟨w1.heap.size, 2, none⟩ = some (.slice A1 L.length k1) ∧ W.cell? ⟨w.heap.size, 1, none⟩ = some (.string s) ∧ W.cell? ⟨w.heap.size + 1, 0, none⟩ = some (.int .i64 0) ∧ W.cell? ⟨w.heap.size + 1, 1, none⟩ = some (.string ⟨#[]⟩) ∧ W.cell? ⟨w.heap.size + 1, 2, none⟩ = some (.slice none 0 0) ∧ W.frozen? ⟨w.heap.size + 1, 0, none⟩ = false ∧ W.frozen? ⟨w.heap.size + 1, 1, none⟩ = false ∧ W.frozen? ⟨w.heap.size + 1, 2, none⟩ = false ∧ Below w.heap.size w W ∧ w1.heap.size < W.heap.size ∧ ∀ k, w.heap.size + 2 ≤ k → k < w1.heap.size → W.heap[k]? = w2.heap[k]?) ⟨(World.cell?_setCell_other _ _ _ _ (by simp)).trans (World.cell?_setCell_same w2 _ _ e0), World.cell?_setCell_same _ _ _ ((World.cell?_setCell_other w2 ⟨w1.heap.size, 0, none⟩ ⟨w1.heap.size, 1, none⟩ _ (by simp)).trans e1), by simp [go_sem, e2], (cfar2 _ _ _ _ _ _ (by simp; omega) (by simp; omega)).trans t1, (cfar2 _ _ _ _ _ _ (by simp; omega) (by simp; omega)).trans z0, (cfar2 _ _ _ _ _ _ (by simp; omega) (by simp; omega)).trans z1, (cfar2 _ _ _ _ _ _ (by simp; omega) (by simp; omega)).trans z2, by simp [go_sem, y0], by simp [go_sem, y1], by simp [go_sem, y2], by (repeat' (first | (with_reducible exact Below.refl _ _) | (with_reducible assumption) | (with_reducible refine Below.alloc ?_ ?_ _) | (with_reducible refine Below.drew ?_) | (with_reducible refine below_drewN ?_ _) | (with_reducible refine Below.setCell ?_ ?_ _) | (with_reducible refine bvia ?_ (by with_reducible assumption) ?_) | go_size)), by go_size, fun k _ hk => by rw [Below.heap_setCell _ _ _ _ (by first | omega | (simp; omega)), Below.heap_setCell _ _ _ _ (by first | omega | (simp; omega))]⟩ ?_
        clear hc2_0 hc2_1 hc2_2 hc1_0 hc1_1 hf2_0 hf2_1 hf2_2 hf1_0 hf1_1 e0 e1 e2 t1 z0 z1 z2 y0 y1 y2
        rintro W ⟨e0, e1, e2, t1, z0, z1, z2, y0, y1, y2, hBW, hWz, hWk⟩
        have HWK := Lib.hid hWk
        clear hWk
        have hne1 : ¬ w.heap.size + 1 = w1.heap.size := by omega
        have hne2 : ¬ w1.heap.size = w.heap.size + 1 := by omega
        have hn1 : (0 : Int) ≤ ((n : Nat) : Int) := by omega
        have hn2 : ((n : Nat) : Int) ≤ (s.size : Int) := by omega
        go_region_held3 (fun w' => w'.cell? ⟨w1.heap.size, 0, none⟩ = some (.int .i64 (r + (n : Nat))) ∧ w'.cell? ⟨w1.heap.size, 1, none⟩ = some (.string (s.extract n s.size)) ∧ w'.cell? ⟨w1.heap.size, 2, none⟩ = some (.slice A1 L.length k1) ∧ w'.cell? ⟨w.heap.size, 1, none⟩ = some (.string s)) (first | (refine ⟨?_, ?_, ?_, ?_⟩ <;> assumption) | go_keep)
          (fail)
        go_wp2
        obtain ⟨q1, q2, q3⟩ := tk_yes hv.out HN.out
        refine bodyPost_ret (v := .tuple #[pv (r + (n : Nat)) (s.extract n s.size) A1 L.length k1, .string (s.extract 0 n)]) (by simp [results, Try.results27, go_sem, *]) rfl ?_
        rw [q1, q2, q3]
        exact ⟨A1, k1, rfl, (HO2.out.keep (fun k hk h1 _ => by have hk3 := hv1.out k hk; rw [← HWK.out k h1 hk3]; repeat (first | rw [show ∀ W : World, W.drew.heap = W.heap from fun _ => rfl] | rw [Below.heap_setCell _ _ _ _ (by first | omega | (simp; omega))] | rfl))).up (by omega), by (repeat' (first | (with_reducible exact Below.refl _ _) | (with_reducible assumption) | (with_reducible refine Below.alloc ?_ ?_ _) | (with_reducible refine Below.drew ?_) | (with_reducible refine below_drewN ?_ _) | (with_reducible refine Below.setCell ?_ ?_ _) | (with_reducible refine bvia ?_ (by with_reducible assumption) ?_) | go_size))⟩
      · have hv : Hid (tkOk r s L (n : Int) = false) := by unfold Hid tkOk; rw [HN.out, decide_eq_false hbg]; simp
        go_wp2
        refine bodyPost_ret (v := .tuple #[pv r s A1 L.length k1, .string ⟨#[]⟩]) (by simp [results, Try.results27, go_sem, *]) rfl ?_
        obtain ⟨q1, q2, q3⟩ := tk_no hv.out
        rw [q1, q2, q3]
        exact ⟨A1, k1, rfl, (HO2.out.keep (fun k _ h1 h2 => (show Touch w.heap.size (w.heap.size + 2) w2 _ by (repeat' (first | (with_reducible exact Touch.refl _ _ _) | (with_reducible assumption) | (with_reducible refine Touch.alloc ?_ _) | (with_reducible refine Touch.drew ?_) | (with_reducible refine Touch.drewN ?_ _) | (with_reducible refine Touch.setCell ?_ ?_ ?_ _) | (with_reducible refine Touch.via ?_ (by with_reducible assumption)) | go_size))).block k h2 (.inr (by omega)))).up (by omega), by (repeat' (first | (with_reducible exact Below.refl _ _) | (with_reducible assumption) | (with_reducible refine Below.alloc ?_ ?_ _) | (with_reducible refine Below.drew ?_) | (with_reducible refine below_drewN ?_ _) | (with_reducible refine Below.setCell ?_ ?_ _) | (with_reducible refine bvia ?_ (by with_reducible assumption) ?_) | go_size))⟩
set_option maxRecDepth 100000 in
set_option maxHeartbeats 4000000 in
theorem sTakeReady (r : Int) (s : ByteArray) (A : Option Addr) (cap : Nat) (L : List PieceD) (m : Int) (w : World) (hr : Rd PieceD.cells 2 w 0 w.heap.size A L) (hs : s.size + sumT L ≤ 4611686018427387904) (hm : L.length ≤ 4294967296) :
    Calls Try.prog 28 #[pv r s A L.length cap, .int .i64 m] w (RetPs w (tkR r s L m) (tkS r s L m) L fun v => .tuple #[v, .string (tkT r s L m)]) := by
  have hmm : L.length ≤ maxLen := by unfold maxLen; omega
  obtain ⟨n, hn⟩ : ∃ n : Nat, tkN s m = n := ⟨_, rfl⟩
  have hnm : 0 ≤ m → min m (s.size : Int) = n := by intro h; rw [← hn]; unfold tkN; omega
  have hns : n ≤ s.size := by rw [← hn]; unfold tkN; omega
  have HN := Lib.hid hn
  have HNM := Lib.hid hnm
  clear hn hnm
  by_cases hbig : (s.size : Int) < m
  · have dm : decide ((s.size : Int) < m) = true := decide_eq_true hbig
    have hm0 : 0 ≤ m := by omega
    have hmn : (s.size : Int) = n := by have := HNM.out hm0; omega
    have hmn1 : n = s.size := by omega
    clear hmn
    subst hmn1
    go_enter Try.func28, Try.ntmps28
    go_wp2_with fail
    refine (sCopyPieces r s A cap L _ (by exact hr.later (by (repeat' (first | (with_reducible exact Below.refl _ _) | (with_reducible assumption) | (with_reducible refine Below.alloc ?_ ?_ _) | (with_reducible refine Below.drew ?_) | (with_reducible refine below_drewN ?_ _) | (with_reducible refine Below.setCell ?_ ?_ _) | (with_reducible refine bvia ?_ (by with_reducible assumption) ?_) | go_size))) (Nat.le_refl _) (by go_size)) hm).mono ?_
    rintro e w1 ⟨A1, k1, rfl, O1, hb1⟩
    obtain ⟨hc, hf⟩ := bcell hb1
    have hc1_0 := fun o => hc (w.heap.size) o (by go_size)
    have hf1_0 := fun o => hf (w.heap.size) o (by go_size)
    have hz1_0 : w.heap.size < w1.heap.size := Nat.lt_of_lt_of_le (by go_size) hb1.size
    have hc1_1 := fun o => hc (w.heap.size + 1) o (by go_size)
    have hf1_1 := fun o => hf (w.heap.size + 1) o (by go_size)
    have hz1_1 : w.heap.size + 1 < w1.heap.size := Nat.lt_of_lt_of_le (by go_size) hb1.size
    clear hc hf
    have hz1 := hb1.size
    try simp at hz1
    go_wp2_with fail
    refine (sPiecesOk r s A cap L _ (by exact hr.later (by (repeat' (first | (with_reducible exact Below.refl _ _) | (with_reducible assumption) | (with_reducible refine Below.alloc ?_ ?_ _) | (with_reducible refine Below.drew ?_) | (with_reducible refine below_drewN ?_ _) | (with_reducible refine Below.setCell ?_ ?_ _) | (with_reducible refine bvia ?_ (by with_reducible assumption) ?_) | go_size))) (Nat.le_refl _) (by go_size)) hs hmm).mono ?_
    rintro e w2 ⟨rfl, hb2⟩
    obtain ⟨hc, hf⟩ := bcell hb2
    have hc2_0 := fun o => hc (w.heap.size) o (by go_size)
    have hf2_0 := fun o => hf (w.heap.size) o (by go_size)
    have hz2_0 : w.heap.size < w2.heap.size := Nat.lt_of_lt_of_le (by go_size) hb2.size
    have hc2_1 := fun o => hc (w.heap.size + 1) o (by go_size)
    have hf2_1 := fun o => hf (w.heap.size + 1) o (by go_size)
    have hz2_1 : w.heap.size + 1 < w2.heap.size := Nat.lt_of_lt_of_le (by go_size) hb2.size
    have hc2_2 := fun o => hc (w1.heap.size) o (by go_size)
    have hf2_2 := fun o => hf (w1.heap.size) o (by go_size)
    have hz2_2 : w1.heap.size < w2.heap.size := Nat.lt_of_lt_of_le (by go_size) hb2.size
    clear hc hf
    have hz2 := hb2.size
    try simp at hz2
    have HO2 := Lib.hid ((O1.later (by (repeat' (first | (with_reducible exact Below.refl _ _) | (with_reducible assumption) | (with_reducible refine Below.alloc ?_ ?_ _) | (with_reducible refine Below.drew ?_) | (with_reducible refine below_drewN ?_ _) | (with_reducible refine Below.setCell ?_ ?_ _) | (with_reducible refine bvia ?_ (by with_reducible assumption) ?_) | go_size)) : Below w1.heap.size w1 w2) (Nat.le_refl _)).up (base' := w.heap.size + 2) (by simp))
    have hv1 : Hid (∀ k, (Value.slice A1 L.length k1).ownBlock = some k → k < w1.heap.size) := fun k hk => (O1.lt hk).2
    have hB2 : Below w.heap.size w w2 := by (repeat' (first | (with_reducible exact Below.refl _ _) | (with_reducible assumption) | (with_reducible refine Below.alloc ?_ ?_ _) | (with_reducible refine Below.drew ?_) | (with_reducible refine below_drewN ?_ _) | (with_reducible refine Below.setCell ?_ ?_ _) | (with_reducible refine bvia ?_ (by with_reducible assumption) ?_) | go_size))
    clear hb1 hb2 O1
    cases hp : piecesOk r s L with
    | false =>
      have hv : Hid (tkOk r s L m = false) := by unfold Hid tkOk; rw [hp]; rfl
      go_wp2
      refine bodyPost_ret (v := .tuple #[pv r s A1 L.length k1, .string ⟨#[]⟩]) (by simp [results, Try.results28, go_sem, *]) rfl ?_
      obtain ⟨q1, q2, q3⟩ := tk_no hv.out
      rw [q1, q2, q3]
      exact ⟨A1, k1, rfl, (HO2.out.keep (fun k _ h1 h2 => (show Touch w.heap.size (w.heap.size + 2) w2 _ by (repeat' (first | (with_reducible exact Touch.refl _ _ _) | (with_reducible assumption) | (with_reducible refine Touch.alloc ?_ _) | (with_reducible refine Touch.drew ?_) | (with_reducible refine Touch.drewN ?_ _) | (with_reducible refine Touch.setCell ?_ ?_ ?_ _) | (with_reducible refine Touch.via ?_ (by with_reducible assumption)) | go_size))).block k h2 (.inr (by omega)))).up (by omega), by (repeat' (first | (with_reducible exact Below.refl _ _) | (with_reducible assumption) | (with_reducible refine Below.alloc ?_ ?_ _) | (with_reducible refine Below.drew ?_) | (with_reducible refine below_drewN ?_ _) | (with_reducible refine Below.setCell ?_ ?_ _) | (with_reducible refine bvia ?_ (by with_reducible assumption) ?_) | go_size))⟩
    | true =>
      obtain ⟨hb0, hb1, hb2⟩ := pOk_bd hp
      by_cases hbg : r + (s.size : Nat) ≤ 1000000000
      · have hv : Hid (tkOk r s L m = true) := by unfold Hid tkOk; rw [HN.out, hp, decide_eq_true hm0, decide_eq_true hbg]; rfl
        have e0 : w2.cell? ⟨w1.heap.size, 0, none⟩ = some (.int .i64 r) := by simp [go_sem, hc2_2]
        have e1 : w2.cell? ⟨w1.heap.size, 1, none⟩ = some (.string s) := by simp [go_sem, hc2_2]
        have e2 : w2.cell? ⟨w1.heap.size, 2, none⟩ = some (.slice A1 L.length k1) := by simp [go_sem, hc2_2]
        have t1 : w2.cell? ⟨w.heap.size, 1, none⟩ = some (.string s) := by simp [go_sem, hc2_0, hc1_0, cal', hz1_0]
        have z0 : w2.cell? ⟨w.heap.size + 1, 0, none⟩ = some (.int .i64 0) := by simp [go_sem, hc2_1, hc1_1, cal', hz1_1]
        have z1 : w2.cell? ⟨w.heap.size + 1, 1, none⟩ = some (.string ⟨#[]⟩) := by simp [go_sem, hc2_1, hc1_1, cal', hz1_1]
        have z2 : w2.cell? ⟨w.heap.size + 1, 2, none⟩ = some (.slice none 0 0) := by simp [go_sem, hc2_1, hc1_1, cal', hz1_1]
        have y0 : w2.frozen? ⟨w.heap.size + 1, 0, none⟩ = false := by simp [go_sem, hf2_1, hf1_1, fal', hz1_1]
        have y1 : w2.frozen? ⟨w.heap.size + 1, 1, none⟩ = false := by simp [go_sem, hf2_1, hf1_1, fal', hz1_1]
        have y2 : w2.frozen? ⟨w.heap.size + 1, 2, none⟩ = false := by simp [go_sem, hf2_1, hf1_1, fal', hz1_1]
        go_wp2_with fail
        refine wp_world _ (fun W => W.cell? ⟨w1.heap.size, 0, none⟩ = some (.int .i64 (r + (s.size : Nat))) ∧ W.cell? ⟨w1.heap.size, 1, none⟩ = some (.string ByteArray.empty) ∧ W.cell? ⟨w1.heap.size, 2, none⟩ = some (.slice A1 L.length k1) ∧ W.cell? ⟨w.heap.size, 1, none⟩ = some (.string s) ∧ W.cell? ⟨w.heap.size + 1, 0, none⟩ = some (.int .i64 0) ∧ W.cell? ⟨w.heap.size + 1, 1, none⟩ = some (.string ⟨#[]⟩) ∧ W.cell? ⟨w.heap.size + 1, 2, none⟩ = some (.slice none 0 0) ∧ W.frozen? ⟨w.heap.size + 1, 0, none⟩ = false ∧ W.frozen? ⟨w.heap.size + 1, 1, none⟩ = false ∧ W.frozen? ⟨w.heap.size + 1, 2, none⟩ = false ∧ Below w.heap.size w W ∧ w1.heap.size < W.heap.size ∧ ∀ k, w.heap.size + 2 ≤ k → k < w1.heap.size → W.heap[k]? = w2.heap[k]?) ⟨(World.cell?_setCell_other _ _ _ _ (by simp)).trans (World.cell?_setCell_same w2 _ _ e0), World.cell?_setCell_same _ _ _ ((World.cell?_setCell_other w2 ⟨w1.heap.size, 0, none⟩ ⟨w1.heap.size, 1, none⟩ _ (by simp)).trans e1), by simp [go_sem, e2], (cfar2 _ _ _ _ _ _ (by simp; omega) (by simp; omega)).trans t1, (cfar2 _ _ _ _ _ _ (by simp; omega) (by simp; omega)).trans z0, (cfar2 _ _ _ _ _ _ (by simp; omega) (by simp; omega)).trans z1, (cfar2 _ _ _ _ _ _ (by simp; omega) (by simp; omega)).trans z2, by simp [go_sem, y0], by simp [go_sem, y1], by simp [go_sem, y2], by (repeat' (first | (with_reducible exact Below.refl _ _) | (with_reducible assumption) | (with_reducible refine Below.alloc ?_ ?_ _) | (with_reducible refine Below.drew ?_) | (with_reducible refine below_drewN ?_ _) | (with_reducible refine Below.setCell ?_ ?_ _) | (with_reducible refine bvia ?_ (by with_reducible assumption) ?_) | go_size)), by go_size, fun k _ hk => by rw [Below.heap_setCell _ _ _ _ (by first | omega | (simp; omega)), Below.heap_setCell _ _ _ _ (by first | omega | (simp; omega))]⟩ ?_
        clear hc2_0 hc2_1 hc2_2 hc1_0 hc1_1 hf2_0 hf2_1 hf2_2 hf1_0 hf1_1 e0 e1 e2 t1 z0 z1 z2 y0 y1 y2
        rintro W ⟨e0, e1, e2, t1, z0, z1, z2, y0, y1, y2, hBW, hWz, hWk⟩
        have HWK := Lib.hid hWk
        clear hWk
        have hne1 : ¬ w.heap.size + 1 = w1.heap.size := by omega
        have hne2 : ¬ w1.heap.size = w.heap.size + 1 := by omega
        have hn1 : (0 : Int) ≤ ((s.size : Nat) : Int) := by omega
        have hn2 : ((s.size : Nat) : Int) ≤ (s.size : Int) := by omega
        go_region_held3 (fun w' => w'.cell? ⟨w1.heap.size, 0, none⟩ = some (.int .i64 (r + (s.size : Nat))) ∧ w'.cell? ⟨w1.heap.size, 1, none⟩ = some (.string ByteArray.empty) ∧ w'.cell? ⟨w1.heap.size, 2, none⟩ = some (.slice A1 L.length k1) ∧ w'.cell? ⟨w.heap.size, 1, none⟩ = some (.string s)) (first | (refine ⟨?_, ?_, ?_, ?_⟩ <;> assumption) | go_keep)
          (fail)
        go_wp2
        obtain ⟨q1, q2, q3⟩ := tk_yes hv.out HN.out
        refine bodyPost_ret (v := .tuple #[pv (r + (s.size : Nat)) ByteArray.empty A1 L.length k1, .string (s.extract 0 s.size)]) (by simp [results, Try.results28, go_sem, *]) rfl ?_
        rw [q1, q2, q3, show s.extract s.size s.size = ByteArray.empty from by simp]
        exact ⟨A1, k1, rfl, (HO2.out.keep (fun k hk h1 _ => by have hk3 := hv1.out k hk; rw [← HWK.out k h1 hk3]; repeat (first | rw [show ∀ W : World, W.drew.heap = W.heap from fun _ => rfl] | rw [Below.heap_setCell _ _ _ _ (by first | omega | (simp; omega))] | rfl))).up (by omega), by (repeat' (first | (with_reducible exact Below.refl _ _) | (with_reducible assumption) | (with_reducible refine Below.alloc ?_ ?_ _) | (with_reducible refine Below.drew ?_) | (with_reducible refine below_drewN ?_ _) | (with_reducible refine Below.setCell ?_ ?_ _) | (with_reducible refine bvia ?_ (by with_reducible assumption) ?_) | go_size))⟩
      · have hv : Hid (tkOk r s L m = false) := by unfold Hid tkOk; rw [HN.out, decide_eq_false hbg]; simp
        go_wp2
        refine bodyPost_ret (v := .tuple #[pv r s A1 L.length k1, .string ⟨#[]⟩]) (by simp [results, Try.results28, go_sem, *]) rfl ?_
        obtain ⟨q1, q2, q3⟩ := tk_no hv.out
        rw [q1, q2, q3]
        exact ⟨A1, k1, rfl, (HO2.out.keep (fun k _ h1 h2 => (show Touch w.heap.size (w.heap.size + 2) w2 _ by (repeat' (first | (with_reducible exact Touch.refl _ _ _) | (with_reducible assumption) | (with_reducible refine Touch.alloc ?_ _) | (with_reducible refine Touch.drew ?_) | (with_reducible refine Touch.drewN ?_ _) | (with_reducible refine Touch.setCell ?_ ?_ ?_ _) | (with_reducible refine Touch.via ?_ (by with_reducible assumption)) | go_size))).block k h2 (.inr (by omega)))).up (by omega), by (repeat' (first | (with_reducible exact Below.refl _ _) | (with_reducible assumption) | (with_reducible refine Below.alloc ?_ ?_ _) | (with_reducible refine Below.drew ?_) | (with_reducible refine below_drewN ?_ _) | (with_reducible refine Below.setCell ?_ ?_ _) | (with_reducible refine bvia ?_ (by with_reducible assumption) ?_) | go_size))⟩
  · have dm : decide ((s.size : Int) < m) = false := decide_eq_false hbig
    go_enter Try.func28, Try.ntmps28
    go_wp2_with fail
    refine (sCopyPieces r s A cap L _ (by exact hr.later (by (repeat' (first | (with_reducible exact Below.refl _ _) | (with_reducible assumption) | (with_reducible refine Below.alloc ?_ ?_ _) | (with_reducible refine Below.drew ?_) | (with_reducible refine below_drewN ?_ _) | (with_reducible refine Below.setCell ?_ ?_ _) | (with_reducible refine bvia ?_ (by with_reducible assumption) ?_) | go_size))) (Nat.le_refl _) (by go_size)) hm).mono ?_
    rintro e w1 ⟨A1, k1, rfl, O1, hb1⟩
    obtain ⟨hc, hf⟩ := bcell hb1
    have hc1_0 := fun o => hc (w.heap.size) o (by go_size)
    have hf1_0 := fun o => hf (w.heap.size) o (by go_size)
    have hz1_0 : w.heap.size < w1.heap.size := Nat.lt_of_lt_of_le (by go_size) hb1.size
    have hc1_1 := fun o => hc (w.heap.size + 1) o (by go_size)
    have hf1_1 := fun o => hf (w.heap.size + 1) o (by go_size)
    have hz1_1 : w.heap.size + 1 < w1.heap.size := Nat.lt_of_lt_of_le (by go_size) hb1.size
    clear hc hf
    have hz1 := hb1.size
    try simp at hz1
    go_wp2_with fail
    refine (sPiecesOk r s A cap L _ (by exact hr.later (by (repeat' (first | (with_reducible exact Below.refl _ _) | (with_reducible assumption) | (with_reducible refine Below.alloc ?_ ?_ _) | (with_reducible refine Below.drew ?_) | (with_reducible refine below_drewN ?_ _) | (with_reducible refine Below.setCell ?_ ?_ _) | (with_reducible refine bvia ?_ (by with_reducible assumption) ?_) | go_size))) (Nat.le_refl _) (by go_size)) hs hmm).mono ?_
    rintro e w2 ⟨rfl, hb2⟩
    obtain ⟨hc, hf⟩ := bcell hb2
    have hc2_0 := fun o => hc (w.heap.size) o (by go_size)
    have hf2_0 := fun o => hf (w.heap.size) o (by go_size)
    have hz2_0 : w.heap.size < w2.heap.size := Nat.lt_of_lt_of_le (by go_size) hb2.size
    have hc2_1 := fun o => hc (w.heap.size + 1) o (by go_size)
    have hf2_1 := fun o => hf (w.heap.size + 1) o (by go_size)
    have hz2_1 : w.heap.size + 1 < w2.heap.size := Nat.lt_of_lt_of_le (by go_size) hb2.size
    have hc2_2 := fun o => hc (w1.heap.size) o (by go_size)
    have hf2_2 := fun o => hf (w1.heap.size) o (by go_size)
    have hz2_2 : w1.heap.size < w2.heap.size := Nat.lt_of_lt_of_le (by go_size) hb2.size
    clear hc hf
    have hz2 := hb2.size
    try simp at hz2
    have HO2 := Lib.hid ((O1.later (by (repeat' (first | (with_reducible exact Below.refl _ _) | (with_reducible assumption) | (with_reducible refine Below.alloc ?_ ?_ _) | (with_reducible refine Below.drew ?_) | (with_reducible refine below_drewN ?_ _) | (with_reducible refine Below.setCell ?_ ?_ _) | (with_reducible refine bvia ?_ (by with_reducible assumption) ?_) | go_size)) : Below w1.heap.size w1 w2) (Nat.le_refl _)).up (base' := w.heap.size + 2) (by simp))
    have hv1 : Hid (∀ k, (Value.slice A1 L.length k1).ownBlock = some k → k < w1.heap.size) := fun k hk => (O1.lt hk).2
    have hB2 : Below w.heap.size w w2 := by (repeat' (first | (with_reducible exact Below.refl _ _) | (with_reducible assumption) | (with_reducible refine Below.alloc ?_ ?_ _) | (with_reducible refine Below.drew ?_) | (with_reducible refine below_drewN ?_ _) | (with_reducible refine Below.setCell ?_ ?_ _) | (with_reducible refine bvia ?_ (by with_reducible assumption) ?_) | go_size))
    clear hb1 hb2 O1
    cases hp : piecesOk r s L with
    | false =>
      have hv : Hid (tkOk r s L m = false) := by unfold Hid tkOk; rw [hp]; rfl
      go_wp2
      refine bodyPost_ret (v := .tuple #[pv r s A1 L.length k1, .string ⟨#[]⟩]) (by simp [results, Try.results28, go_sem, *]) rfl ?_
      obtain ⟨q1, q2, q3⟩ := tk_no hv.out
      rw [q1, q2, q3]
      exact ⟨A1, k1, rfl, (HO2.out.keep (fun k _ h1 h2 => (show Touch w.heap.size (w.heap.size + 2) w2 _ by (repeat' (first | (with_reducible exact Touch.refl _ _ _) | (with_reducible assumption) | (with_reducible refine Touch.alloc ?_ _) | (with_reducible refine Touch.drew ?_) | (with_reducible refine Touch.drewN ?_ _) | (with_reducible refine Touch.setCell ?_ ?_ ?_ _) | (with_reducible refine Touch.via ?_ (by with_reducible assumption)) | go_size))).block k h2 (.inr (by omega)))).up (by omega), by (repeat' (first | (with_reducible exact Below.refl _ _) | (with_reducible assumption) | (with_reducible refine Below.alloc ?_ ?_ _) | (with_reducible refine Below.drew ?_) | (with_reducible refine below_drewN ?_ _) | (with_reducible refine Below.setCell ?_ ?_ _) | (with_reducible refine bvia ?_ (by with_reducible assumption) ?_) | go_size))⟩
    | true =>
      obtain ⟨hb0, hb1, hb2⟩ := pOk_bd hp
      by_cases hneg : m < 0
      · have hv : Hid (tkOk r s L m = false) := by unfold Hid tkOk; rw [decide_eq_false (show ¬ 0 ≤ m by omega)]; simp
        go_wp2
        refine bodyPost_ret (v := .tuple #[pv r s A1 L.length k1, .string ⟨#[]⟩]) (by simp [results, Try.results28, go_sem, *]) rfl ?_
        obtain ⟨q1, q2, q3⟩ := tk_no hv.out
        rw [q1, q2, q3]
        exact ⟨A1, k1, rfl, (HO2.out.keep (fun k _ h1 h2 => (show Touch w.heap.size (w.heap.size + 2) w2 _ by (repeat' (first | (with_reducible exact Touch.refl _ _ _) | (with_reducible assumption) | (with_reducible refine Touch.alloc ?_ _) | (with_reducible refine Touch.drew ?_) | (with_reducible refine Touch.drewN ?_ _) | (with_reducible refine Touch.setCell ?_ ?_ ?_ _) | (with_reducible refine Touch.via ?_ (by with_reducible assumption)) | go_size))).block k h2 (.inr (by omega)))).up (by omega), by (repeat' (first | (with_reducible exact Below.refl _ _) | (with_reducible assumption) | (with_reducible refine Below.alloc ?_ ?_ _) | (with_reducible refine Below.drew ?_) | (with_reducible refine below_drewN ?_ _) | (with_reducible refine Below.setCell ?_ ?_ _) | (with_reducible refine bvia ?_ (by with_reducible assumption) ?_) | go_size))⟩
      have hm0 : 0 ≤ m := by omega
      have hmin : min m (s.size : Int) = n := HNM.out hm0
      have hmn : m = n := by omega
      subst hmn
      clear hmin
      by_cases hbg : r + (n : Nat) ≤ 1000000000
      · have hv : Hid (tkOk r s L (n : Int) = true) := by unfold Hid tkOk; rw [HN.out, hp, decide_eq_true hm0, decide_eq_true hbg]; rfl
        have e0 : w2.cell? ⟨w1.heap.size, 0, none⟩ = some (.int .i64 r) := by simp [go_sem, hc2_2]
        have e1 : w2.cell? ⟨w1.heap.size, 1, none⟩ = some (.string s) := by simp [go_sem, hc2_2]
        have e2 : w2.cell? ⟨w1.heap.size, 2, none⟩ = some (.slice A1 L.length k1) := by simp [go_sem, hc2_2]
        have t1 : w2.cell? ⟨w.heap.size, 1, none⟩ = some (.string s) := by simp [go_sem, hc2_0, hc1_0, cal', hz1_0]
        have z0 : w2.cell? ⟨w.heap.size + 1, 0, none⟩ = some (.int .i64 0) := by simp [go_sem, hc2_1, hc1_1, cal', hz1_1]
        have z1 : w2.cell? ⟨w.heap.size + 1, 1, none⟩ = some (.string ⟨#[]⟩) := by simp [go_sem, hc2_1, hc1_1, cal', hz1_1]
        have z2 : w2.cell? ⟨w.heap.size + 1, 2, none⟩ = some (.slice none 0 0) := by simp [go_sem, hc2_1, hc1_1, cal', hz1_1]
        have y0 : w2.frozen? ⟨w.heap.size + 1, 0, none⟩ = false := by simp [go_sem, hf2_1, hf1_1, fal', hz1_1]
        have y1 : w2.frozen? ⟨w.heap.size + 1, 1, none⟩ = false := by simp [go_sem, hf2_1, hf1_1, fal', hz1_1]
        have y2 : w2.frozen? ⟨w.heap.size + 1, 2, none⟩ = false := by simp [go_sem, hf2_1, hf1_1, fal', hz1_1]
        go_wp2_with fail
        refine wp_world _ (fun W => W.cell? ⟨w1.heap.size, 0, none⟩ = some (.int .i64 (r + (n : Nat))) ∧ W.cell? ⟨w1.heap.size, 1, none⟩ = some (.string (s.extract n s.size)) ∧ W.cell? ⟨w1.heap.size, 2, none⟩ = some (.slice A1 L.length k1) ∧ W.cell? ⟨w.heap.size, 1, none⟩ = some (.string s) ∧ W.cell? ⟨w.heap.size + 1, 0, none⟩ = some (.int .i64 0) ∧ W.cell? ⟨w.heap.size + 1, 1, none⟩ = some (.string ⟨#[]⟩) ∧ W.cell? ⟨w.heap.size + 1, 2, none⟩ = some (.slice none 0 0) ∧ W.frozen? ⟨w.heap.size + 1, 0, none⟩ = false ∧ W.frozen? ⟨w.heap.size + 1, 1, none⟩ = false ∧ W.frozen? ⟨w.heap.size + 1, 2, none⟩ = false ∧ Below w.heap.size w W ∧ w1.heap.size < W.heap.size ∧ ∀ k, w.heap.size + 2 ≤ k → k < w1.heap.size → W.heap[k]? = w2.heap[k]?) ⟨(World.cell?_setCell_other _ _ _ _ (by simp)).trans (World.cell?_setCell_same w2 _ _ e0), World.cell?_setCell_same _ _ _ ((World.cell?_setCell_other w2 ⟨w1.heap.size, 0, none⟩ ⟨w1.heap.size, 1, none⟩ _ (by simp)).trans e1), by simp [go_sem, e2], (cfar2 _ _ _ _ _ _ (by simp; omega) (by simp; omega)).trans t1, (cfar2 _ _ _ _ _ _ (by simp; omega) (by simp; omega)).trans z0, (cfar2 _ _ _ _ _ _ (by simp; omega) (by simp; omega)).trans z1, (cfar2 _ _ _ _ _ _ (by simp; omega) (by simp; omega)).trans z2, by simp [go_sem, y0], by simp [go_sem, y1], by simp [go_sem, y2], by (repeat' (first | (with_reducible exact Below.refl _ _) | (with_reducible assumption) | (with_reducible refine Below.alloc ?_ ?_ _) | (with_reducible refine Below.drew ?_) | (with_reducible refine below_drewN ?_ _) | (with_reducible refine Below.setCell ?_ ?_ _) | (with_reducible refine bvia ?_ (by with_reducible assumption) ?_) | go_size)), by go_size, fun k _ hk => by rw [Below.heap_setCell _ _ _ _ (by first | omega | (simp; omega)), Below.heap_setCell _ _ _ _ (by first | omega | (simp; omega))]⟩ ?_
        clear hc2_0 hc2_1 hc2_2 hc1_0 hc1_1 hf2_0 hf2_1 hf2_2 hf1_0 hf1_1 e0 e1 e2 t1 z0 z1 z2 y0 y1 y2
        rintro W ⟨e0, e1, e2, t1, z0, z1, z2, y0, y1, y2, hBW, hWz, hWk⟩
        have HWK := Lib.hid hWk
        clear hWk
        have hne1 : ¬ w.heap.size + 1 = w1.heap.size := by omega
        have hne2 : ¬ w1.heap.size = w.heap.size + 1 := by omega
        have hn1 : (0 : Int) ≤ ((n : Nat) : Int) := by omega
        have hn2 : ((n : Nat) : Int) ≤ (s.size : Int) := by omega
        go_region_held3 (fun w' => w'.cell? ⟨w1.heap.size, 0, none⟩ = some (.int .i64 (r + (n : Nat))) ∧ w'.cell? ⟨w1.heap.size, 1, none⟩ = some (.string (s.extract n s.size)) ∧ w'.cell? ⟨w1.heap.size, 2, none⟩ = some (.slice A1 L.length k1) ∧ w'.cell? ⟨w.heap.size, 1, none⟩ = some (.string s)) (first | (refine ⟨?_, ?_, ?_, ?_⟩ <;> assumption) | go_keep)
          (fail)
        go_wp2
        obtain ⟨q1, q2, q3⟩ := tk_yes hv.out HN.out
        refine bodyPost_ret (v := .tuple #[pv (r + (n : Nat)) (s.extract n s.size) A1 L.length k1, .string (s.extract 0 n)]) (by simp [results, Try.results28, go_sem, *]) rfl ?_
        rw [q1, q2, q3]
        exact ⟨A1, k1, rfl, (HO2.out.keep (fun k hk h1 _ => by have hk3 := hv1.out k hk; rw [← HWK.out k h1 hk3]; repeat (first | rw [show ∀ W : World, W.drew.heap = W.heap from fun _ => rfl] | rw [Below.heap_setCell _ _ _ _ (by first | omega | (simp; omega))] | rfl))).up (by omega), by (repeat' (first | (with_reducible exact Below.refl _ _) | (with_reducible assumption) | (with_reducible refine Below.alloc ?_ ?_ _) | (with_reducible refine Below.drew ?_) | (with_reducible refine below_drewN ?_ _) | (with_reducible refine Below.setCell ?_ ?_ _) | (with_reducible refine bvia ?_ (by with_reducible assumption) ?_) | go_size))⟩
      · have hv : Hid (tkOk r s L (n : Int) = false) := by unfold Hid tkOk; rw [HN.out, decide_eq_false hbg]; simp
        go_wp2
        refine bodyPost_ret (v := .tuple #[pv r s A1 L.length k1, .string ⟨#[]⟩]) (by simp [results, Try.results28, go_sem, *]) rfl ?_
        obtain ⟨q1, q2, q3⟩ := tk_no hv.out
        rw [q1, q2, q3]
        exact ⟨A1, k1, rfl, (HO2.out.keep (fun k _ h1 h2 => (show Touch w.heap.size (w.heap.size + 2) w2 _ by (repeat' (first | (with_reducible exact Touch.refl _ _ _) | (with_reducible assumption) | (with_reducible refine Touch.alloc ?_ _) | (with_reducible refine Touch.drew ?_) | (with_reducible refine Touch.drewN ?_ _) | (with_reducible refine Touch.setCell ?_ ?_ ?_ _) | (with_reducible refine Touch.via ?_ (by with_reducible assumption)) | go_size))).block k h2 (.inr (by omega)))).up (by omega), by (repeat' (first | (with_reducible exact Below.refl _ _) | (with_reducible assumption) | (with_reducible refine Below.alloc ?_ ?_ _) | (with_reducible refine Below.drew ?_) | (with_reducible refine below_drewN ?_ _) | (with_reducible refine Below.setCell ?_ ?_ _) | (with_reducible refine bvia ?_ (by with_reducible assumption) ?_) | go_size))⟩
end Go.Proofs.Ytpjbnfpadbknpaa
