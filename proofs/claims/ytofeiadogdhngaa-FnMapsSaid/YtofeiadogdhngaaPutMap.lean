/- PutMap (program and reference): for every slice that can be read. -/
import Derived.Test.YtofeiadogdhngaaMapO
import Derived.Test.YtofeiadogdhngaaMapsOk
namespace Go.Proofs.Ytofeiadogdhngaa
set_option linter.unusedSimpArgs false
set_option linter.unusedVariables false
open Go.RowKit
attribute [local go_sem ↓] Go.wp_at_zero Go.wp_at_succ

/-- How many addresses at the head have a smaller id. -/
def putPos : List MapD → Int → Nat
  | [], _ => 0
  | a :: L, id => if a.fSub < id then putPos L id + 1 else 0
theorem putPos_le (L : List MapD) (id : Int) : putPos L id ≤ L.length := by
  induction L with
  | nil => exact Nat.le_refl _
  | cons a L ih => unfold putPos; split <;> simp <;> omega
/-- The first k have smaller ids. -/
def LessTo (L : List MapD) (id : Int) (k : Nat) : Prop := ∀ (i : Nat) (hi : i < L.length), i < k → L[i].fSub < id
theorem LessTo.zero (L : List MapD) (id : Int) : LessTo L id 0 := fun i hi h => absurd h (by omega)
theorem LessTo.succ {L : List MapD} {id : Int} {k : Nat} (h : LessTo L id k) (hk : k < L.length) (hn : L[k].fSub < id) : LessTo L id (k + 1) := fun i hi hik => by
  rcases Nat.lt_or_ge i k with h' | h'
  · exact h i hi h'
  · obtain rfl : i = k := by omega
    exact hn
theorem putPos_end : ∀ (L : List MapD) (id : Int) (k : Nat), k ≤ L.length → LessTo L id k → (∀ h : k < L.length, ¬ L[k].fSub < id) → putPos L id = k := by
  intro L
  induction L with
  | nil => intro id k hk _ _; simp at hk; subst hk; rfl
  | cons a L ih =>
    intro id k hk hl hn
    unfold putPos
    cases k with
    | zero => exact if_neg (hn (Nat.succ_pos _))
    | succ k =>
      have h0 : a.fSub < id := hl 0 (Nat.succ_pos _) (by omega)
      rw [if_pos h0, ih id k (by simpa using hk) (fun i hi hik => hl (i + 1) (Nat.succ_lt_succ hi) (by omega)) (fun h => hn (Nat.succ_lt_succ h))]
/-- What PutMap makes of a list. -/
def putL (L : List MapD) (x : MapD) : List MapD := L.take (putPos L x.fSub) ++ [x] ++ L.drop (putPos L x.fSub)
def putOk (L : List MapD) (x : MapD) : Bool := mapsOk (putL L x)
def putR (L : List MapD) (x : MapD) : List MapD := if putOk L x then putL L x else L
theorem putL_len (L : List MapD) (x : MapD) : L.length ≤ (putL L x).length ∧ (putL L x).length ≤ L.length + 1 := by
  have := putPos_le L x.fSub
  unfold putL
  rw [List.length_append, List.length_append, List.length_take, List.length_drop, List.length_singleton]; omega
theorem putR_le (L : List MapD) (x : MapD) : (putR L x).length ≤ L.length + 1 := by
  unfold putR; split
  · exact (putL_len _ _).2
  · omega
theorem mapsOk_long {L : List MapD} (h : 40 < L.length) : mapsOk L = false := mok_long (by omega)
theorem iMapsOk_own (v : Value) (M : List MapD) (base : Nat) (W : World) (h : Own W base 30 MapD.cells 3 v M) : Calls Try.prog 22 #[v] W fun e w' => e = .returned (.bool (mapsOk M)) ∧ Below W.heap.size W w' := by
  obtain ⟨A, cap, rfl, h1, h2, r⟩ := h.rd0 MapD.cells_length
  exact iMapsOk A cap M W r h1 h2
theorem sMapsOk_own (v : Value) (M : List MapD) (base : Nat) (W : World) (h : Own W base 30 MapD.cells 3 v M) : Calls Try.prog 21 #[v] W fun e w' => e = .returned (.bool (mapsOk M)) ∧ Below W.heap.size W w' := by
  obtain ⟨A, cap, rfl, h1, h2, r⟩ := h.rd0 MapD.cells_length
  exact sMapsOk A cap M W r h1 h2
set_option maxHeartbeats 4000000 in
theorem iPutMap (A : Option Addr) (cap : Nat) (L : List MapD) (x : MapD) (w : World) (hr : Rd MapD.cells 3 w 0 w.heap.size A L) (hle : L.length ≤ cap) (hcm : cap ≤ maxLen) (hn : L.length ≤ 4294967290) :
    Calls Try.prog 10 #[.slice A L.length cap, x.val] w (RetSl w 30 MapD.cells 3 (putR L x) fun v => .tuple #[v, .bool (putOk L x)]) := by
  unfold maxLen at hcm
  have hv : Hid (putR L x = (if mapsOk (putL L x) then putL L x else L) ∧ putOk L x = mapsOk (putL L x)) := ⟨rfl, rfl⟩
  obtain ⟨M, hM⟩ : ∃ M, M = putL L x := ⟨_, rfl⟩
  rw [← hM] at hv
  have hMl := putL_len L x
  rw [← hM] at hMl
  have hMe : Hid (M = L.take (putPos L x.fSub) ++ [x] ++ L.drop (putPos L x.fSub)) := hM
  clear hM
  have hW : Below w.heap.size w (w.alloc (.cells #[.int .i64 x.fSub, .int .i64 x.fSeq, .int .i64 x.fLen] 30)) := by go_grown
  have hr0 : Rd MapD.cells 3 (w.alloc (.cells #[.int .i64 x.fSub, .int .i64 x.fSeq, .int .i64 x.fLen] 30)) 0 (w.heap.size + 1) A L := hr.later hW (Nat.le_refl _) (by omega)
  go_enter Try.func10, Try.ntmps10
  go_wp2_with fail
  refine wp_world _ (fun W => W.cell? ⟨w.heap.size, 0, none⟩ = some (.int .i64 x.fSub) ∧ W.cell? ⟨w.heap.size, 1, none⟩ = some (.int .i64 x.fSeq) ∧ W.cell? ⟨w.heap.size, 2, none⟩ = some (.int .i64 x.fLen) ∧ Below w.heap.size w W ∧ w.heap.size < W.heap.size) ⟨by simp, by simp, by simp, hW, by simp⟩ ?_
  rintro w2 ⟨rw2_0, rw2_1, rw2_2, hB2, hz2⟩
  · skip
    go_loopw [6] (fun i wr => ∃ k : Nat, k ≤ L.length ∧ i = .int .i64 k ∧ LessTo L x.fSub k ∧ Below w2.heap.size w2 wr) (fun i _ => L.length - (intOf i).toNat)
    case atStart => exact ⟨0, Nat.zero_le _, rfl, LessTo.zero _ _, Below.refl _ _⟩
    case round =>
      obtain ⟨k, hk, rfl, hN, hBr⟩ := hrel
      have hBz := hBr.size
      have hB3 : Below w.heap.size w wr := hB2.trans (hBr.mono (by omega))
      have rwr_0 : wr.cell? ⟨w.heap.size, 0, none⟩ = some (.int .i64 x.fSub) := (by rw [hBr.cell (by show w.heap.size < w2.heap.size; omega)]; assumption)
      have rwr_1 : wr.cell? ⟨w.heap.size, 1, none⟩ = some (.int .i64 x.fSeq) := (by rw [hBr.cell (by show w.heap.size < w2.heap.size; omega)]; assumption)
      have rwr_2 : wr.cell? ⟨w.heap.size, 2, none⟩ = some (.int .i64 x.fLen) := (by rw [hBr.cell (by show w.heap.size < w2.heap.size; omega)]; assumption)
      have HBr := Lib.hid hBr
      clear hBr
      have hcase : (∃ h : k < L.length, L[k].fSub < x.fSub) ∨ (∃ h : k < L.length, ¬ L[k].fSub < x.fSub) ∨ k = L.length := by
        rcases Nat.lt_or_ge k L.length with h | h
        · by_cases h' : L[k].fSub < x.fSub
          · exact .inl ⟨h, h'⟩
          · exact .inr (.inl ⟨h, h'⟩)
        · exact .inr (.inr (by omega))
      have hk0 : (0 : Int) ≤ (k : Int) := by omega
      rcases hcase with ⟨hlt', hq⟩ | hrest
      · obtain ⟨g, o, rfl, _, hg, hcell⟩ := hr.at_ (by omega)
        have a0 : wr.cell? ⟨g, o + k * 3, none⟩ = some (.int .i64 L[k].fSub) := by
          rw [hB3.cell (p := ⟨g, o + k * 3, none⟩) hg]; exact hcell k hlt' 0 (by decide)
        clear hcell
        have hki : (k : Int) < (L.length : Int) := by omega
        have d1 : decide (k < L.length) = true := by simp; omega
        have d2 : decide ((k : Int) < (L.length : Int)) = true := by simp; omega
        have d3 : decide (L[k].fSub < x.fSub) = true := by simpa using hq
        have hN' := hN.succ hlt' hq
        clear hq
        go_wp2
        go_quiet (fail)
        go_wp2
        have hBr := HBr.out
        go_roundw
        case rel => exact ⟨k + 1, by omega, by go_num, hN', by (repeat' (first | (with_reducible exact Below.refl _ _) | (with_reducible assumption) | (with_reducible refine Below.alloc ?_ ?_ _) | (with_reducible refine Below.drew ?_) | (with_reducible refine below_drewN ?_ _) | (with_reducible refine Below.setCell ?_ ?_ _) | (with_reducible refine bvia ?_ (by with_reducible assumption) ?_) | go_size))⟩
        case measure => simp [intOf]; omega
      · have hpos : putPos L x.fSub = k := putPos_end L x.fSub k hk hN (by
          rcases hrest with ⟨_, h⟩ | rfl
          · exact fun _ => h
          · exact fun h => absurd h (by omega))
        have HMe : Hid (M = L.take k ++ [x] ++ L.drop k) := by show M = _; rw [hMe.out, hpos]
        clear hpos hMe
        have b2 : (k : Int) ≤ (cap : Int) := by omega
        have b3 : (k : Int) ≤ (L.length : Int) := by omega
        have b4 : (L.length : Int) ≤ (cap : Int) := by omega
        have hsplit : (∃ h : k < L.length, ¬ L[k].fSub < x.fSub ∧ ∃ g o, A = some ⟨g, o, none⟩ ∧ wr.cell? ⟨g, o + k * 3, none⟩ = some (.int .i64 L[k].fSub)) ∨ k = L.length := by
          rcases hrest with ⟨h, hq⟩ | h
          · obtain ⟨g, o, rfl, _, hg, hcell⟩ := hr.at_ (by omega)
            exact .inl ⟨h, hq, g, o, rfl, by rw [hB3.cell (p := ⟨g, o + k * 3, none⟩) hg]; exact hcell k h 0 (by decide)⟩
          · exact .inr h
        clear hrest
        have hr3 := hr.later hB3 (Nat.le_refl _) hB3.size
        have HN := Lib.hid hN
        clear hN
        rcases hsplit with ⟨hlt', hq, g, o, rfl, a0⟩ | hkl
        have hki : (k : Int) < (L.length : Int) := by omega
        have d1 : decide (k < L.length) = true := by simp; omega
        have d2 : decide ((k : Int) < (L.length : Int)) = true := by simp; omega
        have d3 : decide (L[k].fSub < x.fSub) = false := by simpa using hq
        obtain ⟨sel, hsel, hrs⟩ := cut_sel hr cap k hle
        have HLn : Hid (∀ W, Below w.heap.size w W → Rd MapD.cells 3 W 0 w.heap.size (sel (some ⟨g, o, none⟩) (some ⟨g, o + k * 3, none⟩)) (L.drop k)) := fun W hb => hrs.later hb (Nat.le_refl _) (Nat.le_refl _)
        clear hq hrs
        rotate_left
        have d1 : decide (k < L.length) = false := by simp; omega
        have d2 : decide ((k : Int) < (L.length : Int)) = false := by simp; omega
        have HK : Hid (L.drop k = []) := by show L.drop k = []; rw [hkl]; exact List.drop_length
        obtain ⟨sel, hsel⟩ : ∃ sel : Option Addr → Option Addr → Option Addr, ∀ x y, (if cap = k then x else y) = sel x y := ⟨_, fun _ _ => rfl⟩
        clear hkl
        all_goals
          go_wp2
          go_quiet (fail)
          go_wp2_with fail
          refine wp_world _ (fun W => W.heap.size = wr.heap.size ∧ Below wr.heap.size wr W) ⟨?_, ?_⟩ ?_
          · simp
          · (repeat' (first | (with_reducible exact Below.refl _ _) | (with_reducible assumption) | (with_reducible refine Below.alloc ?_ ?_ _) | (with_reducible refine Below.drew ?_) | (with_reducible refine below_drewN ?_ _) | (with_reducible refine Below.setCell ?_ ?_ _) | (with_reducible refine bvia ?_ (by with_reducible assumption) ?_) | go_size))
          · rintro W ⟨hWz, hWb⟩
            have hB4 : Below w.heap.size w W := hB3.trans (hWb.mono (by omega))
            have hWs : w.heap.size < W.heap.size := by omega
            have HWz := Lib.hid hWz
            clear hWz
            have rW_0 : W.cell? ⟨w.heap.size, 0, none⟩ = some (.int .i64 x.fSub) := (by rw [hWb.cell (by show w.heap.size < wr.heap.size; omega)]; assumption)
            have rW_1 : W.cell? ⟨w.heap.size, 1, none⟩ = some (.int .i64 x.fSeq) := (by rw [hWb.cell (by show w.heap.size < wr.heap.size; omega)]; assumption)
            have rW_2 : W.cell? ⟨w.heap.size, 2, none⟩ = some (.int .i64 x.fLen) := (by rw [hWb.cell (by show w.heap.size < wr.heap.size; omega)]; assumption)
            have hr4 := hr.later hB4 (Nat.le_refl _) hB4.size
            clear rwr_0 rw2_0 rwr_1 rw2_1 rwr_2 rw2_2
            go_region_held3 (fun w' => w'.cell? ⟨w.heap.size, 0, none⟩ = some (.int .i64 x.fSub) ∧ w'.cell? ⟨w.heap.size, 1, none⟩ = some (.int .i64 x.fSeq) ∧ w'.cell? ⟨w.heap.size, 2, none⟩ = some (.int .i64 x.fLen)) (first | (refine ⟨?_, ?_, ?_⟩ <;> assumption) | go_keep)
              (first
                | (go_at_call 23; refine (iCopyMap _ k _ (L.take k) _ (by simp; omega) (by exact (hr.take k).later (by (repeat' (first | (with_reducible exact Below.refl _ _) | (with_reducible assumption) | (with_reducible refine Below.alloc ?_ ?_ _) | (with_reducible refine Below.drew ?_) | (with_reducible refine below_drewN ?_ _) | (with_reducible refine Below.setCell ?_ ?_ _) | (with_reducible refine bvia ?_ (by with_reducible assumption) ?_) | go_size))) (Nat.le_refl _) (by simp; omega)) (by simp; omega)).mono ?_; rintro e w4 ⟨v4, rfl, O4, hb4⟩; have hq4 : Below w.heap.size w w4 := bvia (by (repeat' (first | (with_reducible exact Below.refl _ _) | (with_reducible assumption) | (with_reducible refine Below.alloc ?_ ?_ _) | (with_reducible refine Below.drew ?_) | (with_reducible refine below_drewN ?_ _) | (with_reducible refine Below.setCell ?_ ?_ _) | (with_reducible refine bvia ?_ (by with_reducible assumption) ?_) | go_size))) hb4 (by simp; omega); have hz4 := hb4.size; simp at hz4; have hz4' : W.heap.size ≤ w4.heap.size := (by omega); have O4' : Own w4 W.heap.size 30 MapD.cells 3 v4 (L.take k) := O4.up (by simp); have rw4_0 : w4.cell? ⟨w.heap.size, 0, none⟩ = some (.int .i64 x.fSub) := (by rw [hb4.cell (by simp; omega)]; first | assumption | go_keep); have rw4_1 : w4.cell? ⟨w.heap.size, 1, none⟩ = some (.int .i64 x.fSeq) := (by rw [hb4.cell (by simp; omega)]; first | assumption | go_keep); have rw4_2 : w4.cell? ⟨w.heap.size, 2, none⟩ = some (.int .i64 x.fLen) := (by rw [hb4.cell (by simp; omega)]; first | assumption | go_keep))
                | ((refine step_append_rd _ (by rfl) (.tmp 27) (.tmp 29) (by rfl) slMap MapD.cells_length MapD.one W.heap.size v4 (L.take k) [x] (by rfl) (O4'.alloc _) (some ⟨w4.heap.size, 0, none⟩) 1 1 0 (w4.heap.size + 1) (by rfl) (by rfl) (by exact rd_one _ _ _ _ MapD.cells_length rfl _ rfl _ (by omega)) (by simp; omega) (by simp; omega) ?_; intro v5 w5 O5 G5 A5; have hq5 : Below w.heap.size w w5 := (O4'.alloc _).below G5 (by go_grown) (by exact hB4.size) (by simp; omega); have hz5 := G5.size; simp at hz5; have hz5' : W.heap.size ≤ w5.heap.size := (by omega); have rw5_0 : w5.cell? ⟨w.heap.size, 0, none⟩ = some (.int .i64 x.fSub) := (by rw [G5.cell_far _ (by first | (show w.heap.size < w4.heap.size; omega) | (simp; omega)) (by intro hk; have h9 : W.heap.size ≤ w.heap.size := (O4'.lt hk.symm).1; omega)]; first | assumption | (rw [World.cell?_alloc_lt _ _ _ (by show w.heap.size < w4.heap.size; omega)]; assumption)); have rw5_1 : w5.cell? ⟨w.heap.size, 1, none⟩ = some (.int .i64 x.fSeq) := (by rw [G5.cell_far _ (by first | (show w.heap.size < w4.heap.size; omega) | (simp; omega)) (by intro hk; have h9 : W.heap.size ≤ w.heap.size := (O4'.lt hk.symm).1; omega)]; first | assumption | (rw [World.cell?_alloc_lt _ _ _ (by show w.heap.size < w4.heap.size; omega)]; assumption)); have rw5_2 : w5.cell? ⟨w.heap.size, 2, none⟩ = some (.int .i64 x.fLen) := (by rw [G5.cell_far _ (by first | (show w.heap.size < w4.heap.size; omega) | (simp; omega)) (by intro hk; have h9 : W.heap.size ≤ w.heap.size := (O4'.lt hk.symm).1; omega)]; first | assumption | (rw [World.cell?_alloc_lt _ _ _ (by show w.heap.size < w4.heap.size; omega)]; assumption))))
                | ((refine step_append_rd _ (by rfl) (.tmp 27) (.tmp 29) (by rfl) slMap MapD.cells_length MapD.one W.heap.size v4 (L.take k) [x] (by rfl) O4' (some ⟨W.heap.size, 0, none⟩) 1 1 0 w4.heap.size (by rfl) (by rfl) (by exact rd_one_blk x MapD.cells_length rfl ((hb4.block _ (by simp)).trans (heap_alloc_new _ _))) (by simp; omega) (by exact hz4') ?_; intro v5 w5 O5 G5 A5; have hq5 : Below w.heap.size w w5 := O4'.below G5 hq4 (by exact hB4.size) (by omega); have hz5 := G5.size; have hz5' : W.heap.size ≤ w5.heap.size := (by omega); have rw5_0 : w5.cell? ⟨w.heap.size, 0, none⟩ = some (.int .i64 x.fSub) := (by rw [G5.cell_far _ (by first | (show w.heap.size < w4.heap.size; omega) | (simp; omega)) (by intro hk; have h9 : W.heap.size ≤ w.heap.size := (O4'.lt hk.symm).1; omega)]; first | assumption | (rw [World.cell?_alloc_lt _ _ _ (by show w.heap.size < w4.heap.size; omega)]; assumption)); have rw5_1 : w5.cell? ⟨w.heap.size, 1, none⟩ = some (.int .i64 x.fSeq) := (by rw [G5.cell_far _ (by first | (show w.heap.size < w4.heap.size; omega) | (simp; omega)) (by intro hk; have h9 : W.heap.size ≤ w.heap.size := (O4'.lt hk.symm).1; omega)]; first | assumption | (rw [World.cell?_alloc_lt _ _ _ (by show w.heap.size < w4.heap.size; omega)]; assumption)); have rw5_2 : w5.cell? ⟨w.heap.size, 2, none⟩ = some (.int .i64 x.fLen) := (by rw [G5.cell_far _ (by first | (show w.heap.size < w4.heap.size; omega) | (simp; omega)) (by intro hk; have h9 : W.heap.size ≤ w.heap.size := (O4'.lt hk.symm).1; omega)]; first | assumption | (rw [World.cell?_alloc_lt _ _ _ (by show w.heap.size < w4.heap.size; omega)]; assumption))))
                | ((refine step_append_rd _ (by rfl) (.tmp 30) (.tmp 33) (by rfl) slMap MapD.cells_length MapD.one W.heap.size v5 (L.take k ++ [x]) (L.drop k) (by rfl) O5 _ _ _ 0 w.heap.size (by rfl) (by simp) (by first | exact HLn.out _ hq5 | exact (hr.drop k).later hq5 (Nat.le_refl _) (Nat.le_refl _) | (rw [HK.out]; exact Rd.nil)) (by simp; omega) (by exact hz5') ?_; intro v6 w5' O6 G6 A6; have rw5'_0 : w5'.cell? ⟨w.heap.size, 0, none⟩ = some (.int .i64 x.fSub) := (by rw [G6.cell_far _ (by show w.heap.size < w5.heap.size; omega) (by intro hk; have h9 : W.heap.size ≤ w.heap.size := (O5.lt hk.symm).1; omega)]; assumption); have rw5'_1 : w5'.cell? ⟨w.heap.size, 1, none⟩ = some (.int .i64 x.fSeq) := (by rw [G6.cell_far _ (by show w.heap.size < w5.heap.size; omega) (by intro hk; have h9 : W.heap.size ≤ w.heap.size := (O5.lt hk.symm).1; omega)]; assumption); have rw5'_2 : w5'.cell? ⟨w.heap.size, 2, none⟩ = some (.int .i64 x.fLen) := (by rw [G6.cell_far _ (by show w.heap.size < w5.heap.size; omega) (by intro hk; have h9 : W.heap.size ≤ w.heap.size := (O5.lt hk.symm).1; omega)]; assumption)))
                | fail)
            all_goals
              have hB6' : Below w.heap.size w w5' := O5.below G6 hq5 (by exact hB4.size) (by omega)
              rw [← HMe.out] at O6
              have hz6' := hB6'.size
              go_wp2_with fail
              refine (iMapsOk_own _ M _ _ O6).mono ?_
              rintro e w6 ⟨rfl, hb6⟩
              have hz6 := hb6.size
              have hB6 : Below w.heap.size w w6 := hB6'.trans (hb6.mono (by omega))
              by_cases hok : mapsOk M = true
              · have hv' : Hid (putR L x = M ∧ putOk L x = true) := ⟨by rw [hv.out.1, if_pos hok], by rw [hv.out.2, hok]⟩
                go_wp2
                go_ret2
                exact ⟨_, by rw [hv'.out.2]; rfl, by rw [hv'.out.1]; exact (O6.later hb6 (Nat.le_refl _)).up (by omega), hB6⟩
              · have hok' : mapsOk M = false := by simpa using hok
                have hv' : Hid (putR L x = L ∧ putOk L x = false) := ⟨by rw [hv.out.1, if_neg hok], by rw [hv.out.2, hok']⟩
                clear hok
                go_wp2_with fail
                refine (iCopyMap _ _ _ L _ rfl (hr.later hB6 (Nat.le_refl _) hB6.size) (by omega)).mono ?_
                rintro e w7 ⟨v7, rfl, O7, hb7⟩
                go_wp2
                go_ret2
                exact ⟨v7, by rw [hv'.out.2]; rfl, by rw [hv'.out.1]; exact O7.up (by omega), hB6.trans (hb7.mono (by omega))⟩

set_option maxHeartbeats 4000000 in
theorem sPutMap (A : Option Addr) (cap : Nat) (L : List MapD) (x : MapD) (w : World) (hr : Rd MapD.cells 3 w 0 w.heap.size A L) (hle : L.length ≤ cap) (hcm : cap ≤ maxLen) (hn : L.length ≤ 4294967290) :
    Calls Try.prog 7 #[.slice A L.length cap, x.val] w (RetSl w 30 MapD.cells 3 (putR L x) fun v => .tuple #[v, .bool (putOk L x)]) := by
  unfold maxLen at hcm
  have hv : Hid (putR L x = (if mapsOk (putL L x) then putL L x else L) ∧ putOk L x = mapsOk (putL L x)) := ⟨rfl, rfl⟩
  obtain ⟨M, hM⟩ : ∃ M, M = putL L x := ⟨_, rfl⟩
  rw [← hM] at hv
  have hMl := putL_len L x
  rw [← hM] at hMl
  have hMe : Hid (M = L.take (putPos L x.fSub) ++ [x] ++ L.drop (putPos L x.fSub)) := hM
  clear hM
  have hW : Below w.heap.size w (w.alloc (.cells #[.int .i64 x.fSub, .int .i64 x.fSeq, .int .i64 x.fLen] 30)) := by go_grown
  have hr0 : Rd MapD.cells 3 (w.alloc (.cells #[.int .i64 x.fSub, .int .i64 x.fSeq, .int .i64 x.fLen] 30)) 0 (w.heap.size + 1) A L := hr.later hW (Nat.le_refl _) (by omega)
  by_cases h6 : (L.length : Int) ≤ 40
  · have d6 : decide ((41 : Int) ≤ (L.length : Int)) = false := by simp; omega
    go_enter Try.func7, Try.ntmps7
    go_wp2_with (at_builtin; refine wpList_append_rd _ rfl (.tmp 9) (.tmp 10) rfl slMap MapD.cells_length MapD.one w.heap.size _ [] L rfl (Own.emptyAt _ w.heap.size _ _ (size1 w _) (by omega)) A L.length cap 0 w.heap.size rfl rfl (hr.later (by (repeat' (first | (with_reducible exact Below.refl _ _) | (with_reducible assumption) | (with_reducible refine Below.alloc ?_ ?_ _) | (with_reducible refine Below.drew ?_) | (with_reducible refine below_drewN ?_ _) | (with_reducible refine Below.setCell ?_ ?_ _) | (with_reducible refine bvia ?_ (by with_reducible assumption) ?_) | go_size))) (Nat.le_refl _) (Nat.le_refl _)) (by simp; omega) (by go_size) ?_; intro v1 w2 O1 G1 A1; have hB2 : Below w.heap.size w w2 := Own.below (c := MapD.cells) (sz := 3) (L := []) (Own.emptyAt _ w.heap.size _ _ (size1 w _) (by omega)) G1 (by (repeat' (first | (with_reducible exact Below.refl _ _) | (with_reducible assumption) | (with_reducible refine Below.alloc ?_ ?_ _) | (with_reducible refine Below.drew ?_) | (with_reducible refine below_drewN ?_ _) | (with_reducible refine Below.setCell ?_ ?_ _) | (with_reducible refine bvia ?_ (by with_reducible assumption) ?_) | go_size))) (Nat.le_refl _) (by go_size); have hz2 := G1.size; simp at hz2; have rw2_0 : w2.cell? ⟨w.heap.size, 0, none⟩ = some (.int .i64 x.fSub) := (by rw [G1.cell_far _ (by show w.heap.size < _; simp; omega) (by intro hk; have h9 : w.heap.size = w.heap.size + 1 := Option.some.inj hk; omega), World.cell?_alloc_lt _ _ _ (by show w.heap.size < _; simp)]; simp); have rw2_1 : w2.cell? ⟨w.heap.size, 1, none⟩ = some (.int .i64 x.fSeq) := (by rw [G1.cell_far _ (by show w.heap.size < _; simp; omega) (by intro hk; have h9 : w.heap.size = w.heap.size + 1 := Option.some.inj hk; omega), World.cell?_alloc_lt _ _ _ (by show w.heap.size < _; simp)]; simp); have rw2_2 : w2.cell? ⟨w.heap.size, 2, none⟩ = some (.int .i64 x.fLen) := (by rw [G1.cell_far _ (by show w.heap.size < _; simp; omega) (by intro hk; have h9 : w.heap.size = w.heap.size + 1 := Option.some.inj hk; omega), World.cell?_alloc_lt _ _ _ (by show w.heap.size < _; simp)]; simp))
    have HO1 := Lib.hid O1
    clear O1 A1 G1
    · skip
      go_loopw [7] (fun i wr => ∃ k : Nat, k ≤ L.length ∧ i = .int .i64 k ∧ LessTo L x.fSub k ∧ Below w2.heap.size w2 wr) (fun i _ => L.length - (intOf i).toNat)
      case atStart => exact ⟨0, Nat.zero_le _, rfl, LessTo.zero _ _, Below.refl _ _⟩
      case round =>
        obtain ⟨k, hk, rfl, hN, hBr⟩ := hrel
        have hBz := hBr.size
        have hB3 : Below w.heap.size w wr := hB2.trans (hBr.mono (by omega))
        have rwr_0 : wr.cell? ⟨w.heap.size, 0, none⟩ = some (.int .i64 x.fSub) := (by rw [hBr.cell (by show w.heap.size < w2.heap.size; omega)]; assumption)
        have rwr_1 : wr.cell? ⟨w.heap.size, 1, none⟩ = some (.int .i64 x.fSeq) := (by rw [hBr.cell (by show w.heap.size < w2.heap.size; omega)]; assumption)
        have rwr_2 : wr.cell? ⟨w.heap.size, 2, none⟩ = some (.int .i64 x.fLen) := (by rw [hBr.cell (by show w.heap.size < w2.heap.size; omega)]; assumption)
        have HBr := Lib.hid hBr
        clear hBr
        have hcase : (∃ h : k < L.length, L[k].fSub < x.fSub) ∨ (∃ h : k < L.length, ¬ L[k].fSub < x.fSub) ∨ k = L.length := by
          rcases Nat.lt_or_ge k L.length with h | h
          · by_cases h' : L[k].fSub < x.fSub
            · exact .inl ⟨h, h'⟩
            · exact .inr (.inl ⟨h, h'⟩)
          · exact .inr (.inr (by omega))
        have hk0 : (0 : Int) ≤ (k : Int) := by omega
        rcases hcase with ⟨hlt', hq⟩ | hrest
        · obtain ⟨g, o, rfl, _, hg, hcell⟩ := hr.at_ (by omega)
          have a0 : wr.cell? ⟨g, o + k * 3, none⟩ = some (.int .i64 L[k].fSub) := by
            rw [hB3.cell (p := ⟨g, o + k * 3, none⟩) hg]; exact hcell k hlt' 0 (by decide)
          clear hcell
          have hki : (k : Int) < (L.length : Int) := by omega
          have d1 : decide (k < L.length) = true := by simp; omega
          have d2 : decide ((k : Int) < (L.length : Int)) = true := by simp; omega
          have d3 : decide (L[k].fSub < x.fSub) = true := by simpa using hq
          have hN' := hN.succ hlt' hq
          clear hq
          go_wp2
          go_quiet (fail)
          go_wp2
          have hBr := HBr.out
          go_roundw
          case rel => exact ⟨k + 1, by omega, by go_num, hN', by (repeat' (first | (with_reducible exact Below.refl _ _) | (with_reducible assumption) | (with_reducible refine Below.alloc ?_ ?_ _) | (with_reducible refine Below.drew ?_) | (with_reducible refine below_drewN ?_ _) | (with_reducible refine Below.setCell ?_ ?_ _) | (with_reducible refine bvia ?_ (by with_reducible assumption) ?_) | go_size))⟩
          case measure => simp [intOf]; omega
        · have hpos : putPos L x.fSub = k := putPos_end L x.fSub k hk hN (by
            rcases hrest with ⟨_, h⟩ | rfl
            · exact fun _ => h
            · exact fun h => absurd h (by omega))
          have HMe : Hid (M = [] ++ L.take k ++ [x] ++ L.drop k) := by show M = _; rw [hMe.out, hpos, List.nil_append]
          clear hpos hMe
          have b2 : (k : Int) ≤ (cap : Int) := by omega
          have b3 : (k : Int) ≤ (L.length : Int) := by omega
          have b4 : (L.length : Int) ≤ (cap : Int) := by omega
          have hsplit : (∃ h : k < L.length, ¬ L[k].fSub < x.fSub ∧ ∃ g o, A = some ⟨g, o, none⟩ ∧ wr.cell? ⟨g, o + k * 3, none⟩ = some (.int .i64 L[k].fSub)) ∨ k = L.length := by
            rcases hrest with ⟨h, hq⟩ | h
            · obtain ⟨g, o, rfl, _, hg, hcell⟩ := hr.at_ (by omega)
              exact .inl ⟨h, hq, g, o, rfl, by rw [hB3.cell (p := ⟨g, o + k * 3, none⟩) hg]; exact hcell k h 0 (by decide)⟩
            · exact .inr h
          clear hrest
          have HN := Lib.hid hN
          clear hN
          rcases hsplit with ⟨hlt', hq, g, o, rfl, a0⟩ | hkl
          have hki : (k : Int) < (L.length : Int) := by omega
          have d1 : decide (k < L.length) = true := by simp; omega
          have d2 : decide ((k : Int) < (L.length : Int)) = true := by simp; omega
          have d3 : decide (L[k].fSub < x.fSub) = false := by simpa using hq
          obtain ⟨sel, hsel, hrs⟩ := cut_sel hr cap k hle
          have HLn : Hid (∀ W, Below w.heap.size w W → Rd MapD.cells 3 W 0 w.heap.size (sel (some ⟨g, o, none⟩) (some ⟨g, o + k * 3, none⟩)) (L.drop k)) := fun W hb => hrs.later hb (Nat.le_refl _) (Nat.le_refl _)
          clear hq hrs
          rotate_left
          have d1 : decide (k < L.length) = false := by simp; omega
          have d2 : decide ((k : Int) < (L.length : Int)) = false := by simp; omega
          have HK : Hid (L.drop k = []) := by show L.drop k = []; rw [hkl]; exact List.drop_length
          obtain ⟨sel, hsel⟩ : ∃ sel : Option Addr → Option Addr → Option Addr, ∀ x y, (if cap = k then x else y) = sel x y := ⟨_, fun _ _ => rfl⟩
          clear hkl
          all_goals
            go_wp2
            go_quiet (fail)
            go_wp2_with fail
            refine wp_world _ (fun W => W.heap.size = wr.heap.size ∧ Below wr.heap.size wr W) ⟨?_, ?_⟩ ?_
            · simp
            · (repeat' (first | (with_reducible exact Below.refl _ _) | (with_reducible assumption) | (with_reducible refine Below.alloc ?_ ?_ _) | (with_reducible refine Below.drew ?_) | (with_reducible refine below_drewN ?_ _) | (with_reducible refine Below.setCell ?_ ?_ _) | (with_reducible refine bvia ?_ (by with_reducible assumption) ?_) | go_size))
            · rintro W ⟨hWz, hWb⟩
              have hB4 : Below w.heap.size w W := hB3.trans (hWb.mono (by omega))
              have hWs : w.heap.size < W.heap.size := by omega
              have HW2 : Hid (Below w2.heap.size w2 W) := HBr.out.trans (hWb.mono (by omega))
              have hW2 : w2.heap.size ≤ W.heap.size := by omega
              have HWz := Lib.hid hWz
              clear hWz
              have rW_0 : W.cell? ⟨w.heap.size, 0, none⟩ = some (.int .i64 x.fSub) := (by rw [hWb.cell (by show w.heap.size < wr.heap.size; omega)]; assumption)
              have rW_1 : W.cell? ⟨w.heap.size, 1, none⟩ = some (.int .i64 x.fSeq) := (by rw [hWb.cell (by show w.heap.size < wr.heap.size; omega)]; assumption)
              have rW_2 : W.cell? ⟨w.heap.size, 2, none⟩ = some (.int .i64 x.fLen) := (by rw [hWb.cell (by show w.heap.size < wr.heap.size; omega)]; assumption)
              clear rwr_0 rw2_0 rwr_1 rw2_1 rwr_2 rw2_2
              go_region_held3 (fun w' => w'.cell? ⟨w.heap.size, 0, none⟩ = some (.int .i64 x.fSub) ∧ w'.cell? ⟨w.heap.size, 1, none⟩ = some (.int .i64 x.fSeq) ∧ w'.cell? ⟨w.heap.size, 2, none⟩ = some (.int .i64 x.fLen)) (first | (refine ⟨?_, ?_, ?_⟩ <;> assumption) | go_keep)
                (first
                  | ((refine step_append_rd _ (by rfl) (.tmp 32) (.tmp 35) (by rfl) slMap MapD.cells_length MapD.one W.heap.size _ [] (L.take k) (by rfl) (Own.empty _ W.heap.size _ (Nat.le_refl _)) _ _ _ 0 w.heap.size (by rfl) (by simp; omega) (by exact (hr.take k).later (by (repeat' (first | (with_reducible exact Below.refl _ _) | (with_reducible assumption) | (with_reducible refine Below.alloc ?_ ?_ _) | (with_reducible refine Below.drew ?_) | (with_reducible refine below_drewN ?_ _) | (with_reducible refine Below.setCell ?_ ?_ _) | (with_reducible refine bvia ?_ (by with_reducible assumption) ?_) | go_size))) (Nat.le_refl _) (Nat.le_refl _)) (by simp; omega) (by go_size) ?_; intro v4 w4 O4 G4 A4; have hq4 : Below w.heap.size w w4 := Own.below2 G4 (Own.empty (c := MapD.cells) (sz := 3) _ W.heap.size _ (Nat.le_refl _)) (by (repeat' (first | (with_reducible exact Below.refl _ _) | (with_reducible assumption) | (with_reducible refine Below.alloc ?_ ?_ _) | (with_reducible refine Below.drew ?_) | (with_reducible refine below_drewN ?_ _) | (with_reducible refine Below.setCell ?_ ?_ _) | (with_reducible refine bvia ?_ (by with_reducible assumption) ?_) | go_size))) hB4.size (by go_size); have hz4 := G4.size; simp at hz4; have hy4 : W.heap.size ≤ w4.heap.size := (by omega); have HS4 : Hid (Below W.heap.size W w4) := Own.below2 G4 (Own.empty (c := MapD.cells) (sz := 3) _ W.heap.size _ (Nat.le_refl _)) (by (repeat' (first | (with_reducible exact Below.refl _ _) | (with_reducible assumption) | (with_reducible refine Below.alloc ?_ ?_ _) | (with_reducible refine Below.drew ?_) | (with_reducible refine below_drewN ?_ _) | (with_reducible refine Below.setCell ?_ ?_ _) | (with_reducible refine bvia ?_ (by with_reducible assumption) ?_) | go_size))) (Nat.le_refl _) (by go_size); have rw4_0 : w4.cell? ⟨w.heap.size, 0, none⟩ = some (.int .i64 x.fSub) := (by rw [HS4.out.cell hWs]; assumption); have rw4_1 : w4.cell? ⟨w.heap.size, 1, none⟩ = some (.int .i64 x.fSeq) := (by rw [HS4.out.cell hWs]; assumption); have rw4_2 : w4.cell? ⟨w.heap.size, 2, none⟩ = some (.int .i64 x.fLen) := (by rw [HS4.out.cell hWs]; assumption)))
                  | ((refine step_append_rd _ (by rfl) (.tmp 32) (.tmp 35) (by rfl) slMap MapD.cells_length MapD.one W.heap.size _ [] (L.take k) (by rfl) ((Own.empty _ W.heap.size _ (Nat.le_refl _)).alloc _) _ _ _ 0 w.heap.size (by rfl) (by simp; omega) (by exact (hr.take k).later (by (repeat' (first | (with_reducible exact Below.refl _ _) | (with_reducible assumption) | (with_reducible refine Below.alloc ?_ ?_ _) | (with_reducible refine Below.drew ?_) | (with_reducible refine below_drewN ?_ _) | (with_reducible refine Below.setCell ?_ ?_ _) | (with_reducible refine bvia ?_ (by with_reducible assumption) ?_) | go_size))) (Nat.le_refl _) (Nat.le_refl _)) (by simp; omega) (by go_size) ?_; intro v4 w4 O4 G4 A4; have hq4 : Below w.heap.size w w4 := Own.below2 G4 ((Own.empty (c := MapD.cells) (sz := 3) _ W.heap.size _ (Nat.le_refl _)).alloc _) (by (repeat' (first | (with_reducible exact Below.refl _ _) | (with_reducible assumption) | (with_reducible refine Below.alloc ?_ ?_ _) | (with_reducible refine Below.drew ?_) | (with_reducible refine below_drewN ?_ _) | (with_reducible refine Below.setCell ?_ ?_ _) | (with_reducible refine bvia ?_ (by with_reducible assumption) ?_) | go_size))) hB4.size (by go_size); have hz4 := G4.size; simp at hz4; have hy4 : W.heap.size ≤ w4.heap.size := (by omega); have HS4 : Hid (Below W.heap.size W w4) := Own.below2 G4 ((Own.empty (c := MapD.cells) (sz := 3) _ W.heap.size _ (Nat.le_refl _)).alloc _) (by (repeat' (first | (with_reducible exact Below.refl _ _) | (with_reducible assumption) | (with_reducible refine Below.alloc ?_ ?_ _) | (with_reducible refine Below.drew ?_) | (with_reducible refine below_drewN ?_ _) | (with_reducible refine Below.setCell ?_ ?_ _) | (with_reducible refine bvia ?_ (by with_reducible assumption) ?_) | go_size))) (Nat.le_refl _) (by go_size); have hX : w4.heap[W.heap.size + 1]? = some (.cells x.arr 30 (0, 0)) := (G4.block _ (by simp) (by intro hk; have h9 : W.heap.size + 1 = W.heap.size := Option.some.inj hk; omega)).trans (by rw [← size1 W (Obj.cells #[] 30)]; exact heap_alloc_new _ _); have HX := Lib.hid hX; clear hX; have rw4_0 : w4.cell? ⟨w.heap.size, 0, none⟩ = some (.int .i64 x.fSub) := (by rw [HS4.out.cell hWs]; assumption); have rw4_1 : w4.cell? ⟨w.heap.size, 1, none⟩ = some (.int .i64 x.fSeq) := (by rw [HS4.out.cell hWs]; assumption); have rw4_2 : w4.cell? ⟨w.heap.size, 2, none⟩ = some (.int .i64 x.fLen) := (by rw [HS4.out.cell hWs]; assumption)))
                  | ((refine step_append_rd _ (by rfl) (.tmp 32) (.tmp 35) (by rfl) slMap MapD.cells_length MapD.one W.heap.size _ [] (L.take k) (by rfl) (Own.emptyAt _ W.heap.size _ (W.heap.size + 1) (size1 _ _) (by omega)) _ _ _ 0 w.heap.size (by rfl) (by simp; omega) (by exact (hr.take k).later (by (repeat' (first | (with_reducible exact Below.refl _ _) | (with_reducible assumption) | (with_reducible refine Below.alloc ?_ ?_ _) | (with_reducible refine Below.drew ?_) | (with_reducible refine below_drewN ?_ _) | (with_reducible refine Below.setCell ?_ ?_ _) | (with_reducible refine bvia ?_ (by with_reducible assumption) ?_) | go_size))) (Nat.le_refl _) (Nat.le_refl _)) (by simp; omega) (by go_size) ?_; intro v4 w4 O4 G4 A4; have hq4 : Below w.heap.size w w4 := Own.below2 G4 (Own.emptyAt (c := MapD.cells) (sz := 3) _ W.heap.size _ (W.heap.size + 1) (size1 _ _) (by omega)) (by (repeat' (first | (with_reducible exact Below.refl _ _) | (with_reducible assumption) | (with_reducible refine Below.alloc ?_ ?_ _) | (with_reducible refine Below.drew ?_) | (with_reducible refine below_drewN ?_ _) | (with_reducible refine Below.setCell ?_ ?_ _) | (with_reducible refine bvia ?_ (by with_reducible assumption) ?_) | go_size))) hB4.size (by go_size); have hz4 := G4.size; simp at hz4; have hy4 : W.heap.size ≤ w4.heap.size := (by omega); have HS4 : Hid (Below W.heap.size W w4) := Own.below2 G4 (Own.emptyAt (c := MapD.cells) (sz := 3) _ W.heap.size _ (W.heap.size + 1) (size1 _ _) (by omega)) (by (repeat' (first | (with_reducible exact Below.refl _ _) | (with_reducible assumption) | (with_reducible refine Below.alloc ?_ ?_ _) | (with_reducible refine Below.drew ?_) | (with_reducible refine below_drewN ?_ _) | (with_reducible refine Below.setCell ?_ ?_ _) | (with_reducible refine bvia ?_ (by with_reducible assumption) ?_) | go_size))) (Nat.le_refl _) (by go_size); have hX : w4.heap[W.heap.size]? = some (.cells x.arr 30 (0, 0)) := (G4.block _ (by simp; omega) (by intro hk; have h9 : W.heap.size = W.heap.size + 1 := Option.some.inj hk; omega)).trans ((Below.heap_alloc _ _ _ (by simp)).trans (heap_alloc_new _ _)); have HX := Lib.hid hX; clear hX; have rw4_0 : w4.cell? ⟨w.heap.size, 0, none⟩ = some (.int .i64 x.fSub) := (by rw [HS4.out.cell hWs]; assumption); have rw4_1 : w4.cell? ⟨w.heap.size, 1, none⟩ = some (.int .i64 x.fSeq) := (by rw [HS4.out.cell hWs]; assumption); have rw4_2 : w4.cell? ⟨w.heap.size, 2, none⟩ = some (.int .i64 x.fLen) := (by rw [HS4.out.cell hWs]; assumption)))
                  | ((refine step_append_rd _ (by rfl) (.tmp 36) (.tmp 38) (by rfl) slMap MapD.cells_length MapD.one W.heap.size v4 ([] ++ L.take k) [x] (by rfl) (O4.alloc _) (some ⟨w4.heap.size, 0, none⟩) 1 1 0 (w4.heap.size + 1) (by rfl) (by rfl) (by exact rd_one _ _ _ _ MapD.cells_length rfl _ rfl _ (by omega)) (by simp; omega) (by simp; omega) ?_; intro v5 w5 O5 G5 A5; have hq5 : Below w.heap.size w w5 := (O4.alloc _).below G5 (by (repeat' (first | (with_reducible exact Below.refl _ _) | (with_reducible assumption) | (with_reducible refine Below.alloc ?_ ?_ _) | (with_reducible refine Below.drew ?_) | (with_reducible refine below_drewN ?_ _) | (with_reducible refine Below.setCell ?_ ?_ _) | (with_reducible refine bvia ?_ (by with_reducible assumption) ?_) | go_size))) (by exact hB4.size) (by simp; omega); have hz5 := G5.size; simp at hz5; have hz5' : W.heap.size ≤ w5.heap.size := (by omega); have HS5 : Hid (Below W.heap.size W w5) := (O4.alloc _).below G5 (HS4.out.alloc (by omega) _) (Nat.le_refl _) (by simp; omega); have rw5_0 : w5.cell? ⟨w.heap.size, 0, none⟩ = some (.int .i64 x.fSub) := (by rw [HS5.out.cell hWs]; assumption); have rw5_1 : w5.cell? ⟨w.heap.size, 1, none⟩ = some (.int .i64 x.fSeq) := (by rw [HS5.out.cell hWs]; assumption); have rw5_2 : w5.cell? ⟨w.heap.size, 2, none⟩ = some (.int .i64 x.fLen) := (by rw [HS5.out.cell hWs]; assumption)))
                  | ((refine step_append_rd _ (by rfl) (.tmp 36) (.tmp 38) (by rfl) slMap MapD.cells_length MapD.one W.heap.size v4 ([] ++ L.take k) [x] (by rfl) O4 _ _ _ 0 w4.heap.size (by rfl) (by rfl) (by exact rd_one_blk x MapD.cells_length rfl HX.out) (by simp; omega) (by exact hy4) ?_; intro v5 w5 O5 G5 A5; have hq5 : Below w.heap.size w w5 := O4.below G5 hq4 (by exact hB4.size) (by omega); have hz5 := G5.size; have hz5' : W.heap.size ≤ w5.heap.size := (by omega); have HS5 : Hid (Below W.heap.size W w5) := O4.below G5 HS4.out (Nat.le_refl _) hy4; have rw5_0 : w5.cell? ⟨w.heap.size, 0, none⟩ = some (.int .i64 x.fSub) := (by rw [HS5.out.cell hWs]; assumption); have rw5_1 : w5.cell? ⟨w.heap.size, 1, none⟩ = some (.int .i64 x.fSeq) := (by rw [HS5.out.cell hWs]; assumption); have rw5_2 : w5.cell? ⟨w.heap.size, 2, none⟩ = some (.int .i64 x.fLen) := (by rw [HS5.out.cell hWs]; assumption)))
                  | fail)
              all_goals
                have O1r := (HO1.out.later HW2.out (Nat.le_refl _)).later HS5.out (Nat.le_refl _)
                rw [List.nil_append] at O1r
                have HO1r := Lib.hid O1r
                clear O1r
                (try clear HX)
                go_wp2_with (at_builtin; refine wpList_append_rd _ rfl (.tmp 40) (.tmp 43) rfl slMap MapD.cells_length MapD.one W.heap.size v5 ([] ++ L.take k ++ [x]) (L.drop k) rfl O5 _ _ _ 0 w.heap.size rfl (by simp) (by first | exact HLn.out _ hq5 | exact (hr.drop k).later hq5 (Nat.le_refl _) (Nat.le_refl _) | (rw [HK.out]; exact Rd.nil)) (by simp; omega) (by exact hz5') ?_; intro v6 w5' O6 G6 A6)
                have hB6' : Below w.heap.size w w5' := O5.below G6 hq5 (by exact hB4.size) (by omega)
                rw [← HMe.out] at O6
                have hz6' := hB6'.size
                have O1q := HO1r.out.grown G6 (fun q h1 h2 => by have h3 := (O5.lt h1).1; have h4 := (HO1.out.lt h2).2; omega)
                clear HO1r
                go_wp2_with fail
                refine (sMapsOk_own _ M _ _ O6).mono ?_
                rintro e w6 ⟨rfl, hb6⟩
                have hz6 := hb6.size
                have hB6 : Below w.heap.size w w6 := hB6'.trans (hb6.mono (by omega))
                by_cases hok : mapsOk M = true
                · have hv' : Hid (putR L x = M ∧ putOk L x = true) := ⟨by rw [hv.out.1, if_pos hok], by rw [hv.out.2, hok]⟩
                  go_wp2
                  go_ret2
                  exact ⟨_, by rw [hv'.out.2]; rfl, by rw [hv'.out.1]; exact (O6.later hb6 (Nat.le_refl _)).up (by omega), hB6⟩
                · have hok' : mapsOk M = false := by simpa using hok
                  have hv' : Hid (putR L x = L ∧ putOk L x = false) := ⟨by rw [hv.out.1, if_neg hok], by rw [hv.out.2, hok']⟩
                  clear hok
                  go_wp2
                  go_ret2
                  exact ⟨_, by rw [hv'.out.2]; rfl, by rw [hv'.out.1]; exact (O1q.later hb6 (Nat.le_refl _)).up (by omega), hB6⟩
  · have hM6 : mapsOk M = false := mapsOk_long (by omega)
    have d6 : decide ((41 : Int) ≤ (L.length : Int)) = true := by simp; omega
    have hv' : Hid (putR L x = L ∧ putOk L x = false) := ⟨by rw [hv.out.1, if_neg (by simp [hM6])], by rw [hv.out.2, hM6]⟩
    clear hM6
    go_enter Try.func7, Try.ntmps7
    go_wp2_with (at_builtin; refine wpList_append_rd _ rfl (.tmp 9) (.tmp 10) rfl slMap MapD.cells_length MapD.one w.heap.size _ [] L rfl (Own.emptyAt _ w.heap.size _ _ (size1 w _) (by omega)) A L.length cap 0 w.heap.size rfl rfl (hr.later (by (repeat' (first | (with_reducible exact Below.refl _ _) | (with_reducible assumption) | (with_reducible refine Below.alloc ?_ ?_ _) | (with_reducible refine Below.drew ?_) | (with_reducible refine below_drewN ?_ _) | (with_reducible refine Below.setCell ?_ ?_ _) | (with_reducible refine bvia ?_ (by with_reducible assumption) ?_) | go_size))) (Nat.le_refl _) (Nat.le_refl _)) (by simp; omega) (by go_size) ?_; intro v1 w1 O1 G1 A1; have hB1 : Below w.heap.size w w1 := Own.below (c := MapD.cells) (sz := 3) (L := []) (Own.emptyAt _ w.heap.size _ _ (size1 w _) (by omega)) G1 (by (repeat' (first | (with_reducible exact Below.refl _ _) | (with_reducible assumption) | (with_reducible refine Below.alloc ?_ ?_ _) | (with_reducible refine Below.drew ?_) | (with_reducible refine below_drewN ?_ _) | (with_reducible refine Below.setCell ?_ ?_ _) | (with_reducible refine bvia ?_ (by with_reducible assumption) ?_) | go_size))) (Nat.le_refl _) (by go_size))
    go_ret2
    exact ⟨v1, by rw [hv'.out.2]; rfl, by rw [hv'.out.1]; simpa using O1, hB1⟩

end Go.Proofs.Ytofeiadogdhngaa
