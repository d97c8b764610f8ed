/- PutHalf (program and reference): for every slice that can be read. -/
import Derived.Test.YtcnklfddokpbiaaHalfsOk
import Derived.Test.YtcnklfddokpbiaaDropHalf
namespace Go.Proofs.Ytcnklfddokpbiaa
set_option linter.unusedSimpArgs false
set_option linter.unusedVariables false
open Go.RowKit

/-- What PutHalf makes of a list. -/
def insH (L : List HalfD) (x : HalfD) (z : Int) : List HalfD := if z < 0 then L ++ [x] else L.set z.toNat x
def putHL (L : List HalfD) (x : HalfD) : List HalfD := insH L x (halfAt L x.fRoadOwn x.fRoadFar x.fRoadPort)
def putHOk (L : List HalfD) (x : HalfD) : Bool := halfsOk (putHL L x)
def putHR (L : List HalfD) (x : HalfD) : List HalfD := if putHOk L x then putHL L x else L
theorem insH_len (L : List HalfD) (x : HalfD) (z : Int) : L.length ≤ (insH L x z).length ∧ (insH L x z).length ≤ L.length + 1 := by
  unfold insH; split
  · rw [List.length_append, List.length_singleton]; omega
  · rw [List.length_set]; omega
theorem putHR_le (L : List HalfD) (x : HalfD) : (putHR L x).length ≤ L.length + 1 := by
  unfold putHR; split
  · exact (insH_len _ _ _).2
  · omega
theorem iHalfsOk_own (v : Value) (M : List HalfD) (base : Nat) (W : World) (h : Own W base 42 HalfD.cells 8 v M) : Calls Try.prog 16 #[v] W fun e w' => e = .returned (.bool (halfsOk M)) ∧ Below W.heap.size W w' := by
  obtain ⟨A, cap, rfl, h1, h2, r⟩ := h.rd0 HalfD.cells_length
  exact iHalfsOk A cap M W r h1 h2
theorem sHalfsOk_own (v : Value) (M : List HalfD) (base : Nat) (W : World) (h : Own W base 42 HalfD.cells 8 v M) : Calls Try.prog 15 #[v] W fun e w' => e = .returned (.bool (halfsOk M)) ∧ Below W.heap.size W w' := by
  obtain ⟨A, cap, rfl, h1, h2, r⟩ := h.rd0 HalfD.cells_length
  exact sHalfsOk A cap M W r h1 h2
set_option maxRecDepth 100000 in
set_option maxHeartbeats 4000000 in
theorem iPutHalf (A : Option Addr) (cap : Nat) (L : List HalfD) (x : HalfD) (w : World) (hr : Rd HalfD.cells 8 w 0 w.heap.size A L) (hle : L.length ≤ cap) (hcm : cap ≤ maxLen) (hn : L.length ≤ 4294967290) :
    Calls Try.prog 25 #[.slice A L.length cap, x.val] w (RetSl w 42 HalfD.cells 8 (putHR L x) fun v => .tuple #[v, .bool (putHOk L x)]) := by
  unfold maxLen at hcm
  have hC := fun W hr => iHalfAt A cap L x.fRoadOwn x.fRoadFar x.fRoadPort W hr (by unfold maxLen; omega)
  have hlo := findI_lo (roadIs x.fRoadOwn x.fRoadFar x.fRoadPort) L
  have hlt := findI_lt (roadIs x.fRoadOwn x.fRoadFar x.fRoadPort) L
  have hv : Hid (putHR L x = (if halfsOk (insH L x (halfAt L x.fRoadOwn x.fRoadFar x.fRoadPort)) then insH L x (halfAt L x.fRoadOwn x.fRoadFar x.fRoadPort) else L) ∧ putHOk L x = halfsOk (insH L x (halfAt L x.fRoadOwn x.fRoadFar x.fRoadPort))) := ⟨rfl, rfl⟩
  have HC := Lib.hid hC
  clear hC
  change halfAt L x.fRoadOwn x.fRoadFar x.fRoadPort = -1 ∨ 0 ≤ halfAt L x.fRoadOwn x.fRoadFar x.fRoadPort at hlo
  change halfAt L x.fRoadOwn x.fRoadFar x.fRoadPort < L.length at hlt
  generalize halfAt L x.fRoadOwn x.fRoadFar x.fRoadPort = z at *
  obtain ⟨M, hM⟩ : ∃ M, M = insH L x z := ⟨_, rfl⟩
  rw [← hM] at hv
  have hMl := insH_len L x z
  rw [← hM] at hMl
  have HM := Lib.hid hM
  clear hM
  have hW : Below w.heap.size w (w.alloc (.cells #[.int .i64 x.fRoadOwn, .int .i64 x.fRoadFar, .int .i64 x.fRoadPort, .int .i64 x.fTheirs, .int .i64 x.fMine, .int .i64 x.fGive, .int .i64 x.fTake, .int .i64 x.fUntil] 42)) := by go_grown
  have hr0 : Rd HalfD.cells 8 (w.alloc (.cells #[.int .i64 x.fRoadOwn, .int .i64 x.fRoadFar, .int .i64 x.fRoadPort, .int .i64 x.fTheirs, .int .i64 x.fMine, .int .i64 x.fGive, .int .i64 x.fTake, .int .i64 x.fUntil] 42)) 0 (w.heap.size + 1) A L := hr.later hW (Nat.le_refl _) (by omega)
  go_enter Try.func25, Try.ntmps25
  go_wp2_with fail
  refine (iCopyHalf _ _ _ L _ rfl (by simpa using hr0) (by omega)).mono ?_
  rintro e w1 ⟨v1, rfl, O1', hb1⟩
  have hz1 := hb1.size
  simp at hz1
  have hB1 : Below w.heap.size w w1 := hW.trans (hb1.mono (by simp))
  have O1 : Own w1 w.heap.size 42 HalfD.cells 8 v1 L := O1'.up (by simp)
  have rw1_0 : w1.cell? ⟨w.heap.size, 0, none⟩ = some (.int .i64 x.fRoadOwn) := (by rw [hb1.cell (by simp)]; simp)
  have rw1_1 : w1.cell? ⟨w.heap.size, 1, none⟩ = some (.int .i64 x.fRoadFar) := (by rw [hb1.cell (by simp)]; simp)
  have rw1_2 : w1.cell? ⟨w.heap.size, 2, none⟩ = some (.int .i64 x.fRoadPort) := (by rw [hb1.cell (by simp)]; simp)
  have rw1_3 : w1.cell? ⟨w.heap.size, 3, none⟩ = some (.int .i64 x.fTheirs) := (by rw [hb1.cell (by simp)]; simp)
  have rw1_4 : w1.cell? ⟨w.heap.size, 4, none⟩ = some (.int .i64 x.fMine) := (by rw [hb1.cell (by simp)]; simp)
  have rw1_5 : w1.cell? ⟨w.heap.size, 5, none⟩ = some (.int .i64 x.fGive) := (by rw [hb1.cell (by simp)]; simp)
  have rw1_6 : w1.cell? ⟨w.heap.size, 6, none⟩ = some (.int .i64 x.fTake) := (by rw [hb1.cell (by simp)]; simp)
  have rw1_7 : w1.cell? ⟨w.heap.size, 7, none⟩ = some (.int .i64 x.fUntil) := (by rw [hb1.cell (by simp)]; simp)
  go_wp2_with fail
  refine (HC.out _ (hr.later hB1 (Nat.le_refl _) hB1.size)).mono ?_
  rintro e w2 ⟨rfl, hb2⟩
  have hz2 := hb2.size
  have hB2 : Below w.heap.size w w2 := hB1.trans (hb2.mono (by omega))
  have rw2_0 : w2.cell? ⟨w.heap.size, 0, none⟩ = some (.int .i64 x.fRoadOwn) := (by rw [hb2.cell (by show w.heap.size < w1.heap.size; omega)]; assumption)
  have rw2_1 : w2.cell? ⟨w.heap.size, 1, none⟩ = some (.int .i64 x.fRoadFar) := (by rw [hb2.cell (by show w.heap.size < w1.heap.size; omega)]; assumption)
  have rw2_2 : w2.cell? ⟨w.heap.size, 2, none⟩ = some (.int .i64 x.fRoadPort) := (by rw [hb2.cell (by show w.heap.size < w1.heap.size; omega)]; assumption)
  have rw2_3 : w2.cell? ⟨w.heap.size, 3, none⟩ = some (.int .i64 x.fTheirs) := (by rw [hb2.cell (by show w.heap.size < w1.heap.size; omega)]; assumption)
  have rw2_4 : w2.cell? ⟨w.heap.size, 4, none⟩ = some (.int .i64 x.fMine) := (by rw [hb2.cell (by show w.heap.size < w1.heap.size; omega)]; assumption)
  have rw2_5 : w2.cell? ⟨w.heap.size, 5, none⟩ = some (.int .i64 x.fGive) := (by rw [hb2.cell (by show w.heap.size < w1.heap.size; omega)]; assumption)
  have rw2_6 : w2.cell? ⟨w.heap.size, 6, none⟩ = some (.int .i64 x.fTake) := (by rw [hb2.cell (by show w.heap.size < w1.heap.size; omega)]; assumption)
  have rw2_7 : w2.cell? ⟨w.heap.size, 7, none⟩ = some (.int .i64 x.fUntil) := (by rw [hb2.cell (by show w.heap.size < w1.heap.size; omega)]; assumption)
  clear rw1_0 rw1_1 rw1_2 rw1_3 rw1_4 rw1_5 rw1_6 rw1_7
  have HO2 := Lib.hid (O1.later hb2 (Nat.le_refl _))
  clear O1 hb2
  by_cases h0 : 0 ≤ z
  · obtain ⟨k, rfl⟩ := Int.eq_ofNat_of_zero_le h0
    have hk : k < L.length := by omega
    have hMe : Hid (M = L.set k x) := by show M = _; rw [HM.out]; unfold insH; rw [if_neg (by omega), Int.toNat_natCast]
    have b1 : (0 : Int) ≤ (k : Int) := by omega
    have b2 : (k : Int) < (L.length : Int) := by omega
    rcases HO2.out.form with ⟨rfl, hL⟩ | ⟨g1, c1, cur, rfl, hbg, hg1, hlc, hcm1, hcs, hct⟩
    · subst hL; simp at hk
    · have HG1 := Lib.hid hg1
      have HCT := Lib.hid hct
      have HCS := Lib.hid hcs
      have hsz : k * 8 + 8 ≤ cur.size := by rw [hcs]; omega
      clear hg1 hct hcs
      go_wp2_with (refine wpList_store_part rfl rfl 42 (.tmp 19) (.tmp 18) rfl g1 (k * 8) rfl 42 cur x.arr rfl HG1.out hsz (by kernel_rfl) (by simp [Value.oneCell']) ?_; intro w3 hg3 hgr3 hs3)
      have hB3 : Below w.heap.size w w3 := hB2.grown hgr3 (by omega) (by rintro q ⟨⟩; omega)
      have O3 : Own w3 w.heap.size 42 HalfD.cells 8 (.slice (some ⟨g1, 0, none⟩) L.length c1) M := by rw [hMe.out]; exact Own.put HalfD.cells_length (by omega) hlc hcm1 HCS.out HCT.out hk rfl hg3
      clear hg3 hgr3 HG1 HCT HCS
      clear rw2_0 rw2_1 rw2_2 rw2_3 rw2_4 rw2_5 rw2_6 rw2_7
      go_wp2_with fail
      refine (iHalfsOk_own _ M _ _ O3).mono ?_
      rintro e w6 ⟨rfl, hb6⟩
      have hz6 := hb6.size
      have hB6 : Below w.heap.size w w6 := hB3.trans (hb6.mono (by omega))
      by_cases hok : halfsOk M = true
      · have hv' : Hid (putHR L x = M ∧ putHOk L x = true) := ⟨by rw [hv.out.1, if_pos hok], by rw [hv.out.2, hok]⟩
        go_wp2
        go_ret2
        exact ⟨_, by rw [hv'.out.2]; rfl, by rw [hv'.out.1]; exact (O3.later hb6 (Nat.le_refl _)).up (by omega), hB6⟩
      · have hok' : halfsOk M = false := by simpa using hok
        have hv' : Hid (putHR L x = L ∧ putHOk L x = false) := ⟨by rw [hv.out.1, if_neg hok], by rw [hv.out.2, hok']⟩
        clear hok
        go_wp2_with fail
        refine (iCopyHalf _ _ _ L _ rfl (hr.later hB6 (Nat.le_refl _) hB6.size) (by omega)).mono ?_
        rintro e w7 ⟨v7, rfl, O7, hb7⟩
        go_wp2
        go_ret2
        exact ⟨v7, by rw [hv'.out.2]; rfl, by rw [hv'.out.1]; exact O7.up (by omega), hB6.trans (hb7.mono (by omega))⟩
  · have hMe : Hid (M = L ++ [x]) := by show M = _; rw [HM.out]; unfold insH; rw [if_pos (by omega)]
    have hge : decide (0 ≤ z) = false := by simp; omega
    go_wp2_with (at_builtin; refine wpList_append_rd _ rfl (.tmp 20) (.tmp 22) rfl slHalf HalfD.cells_length HalfD.one w.heap.size _ L [x] rfl (HO2.out.alloc _) (some ⟨w2.heap.size, 0, none⟩) 1 1 0 (w2.heap.size + 1) rfl rfl (rd_one _ _ _ _ HalfD.cells_length rfl _ rfl _ (by omega)) (by simp; omega) (by simp; omega) ?_; intro v3 w3 O3 G3 A3)
    have hB3 : Below w.heap.size w w3 := Own.below2 G3 (HO2.out.alloc _) (by go_grown) (Nat.le_refl _) (by simp; omega)
    rw [← hMe.out] at O3
    have hz3 := hB3.size
    clear rw2_0 rw2_1 rw2_2 rw2_3 rw2_4 rw2_5 rw2_6 rw2_7
    go_wp2_with fail
    refine (iHalfsOk_own _ M _ _ O3).mono ?_
    rintro e w6 ⟨rfl, hb6⟩
    have hz6 := hb6.size
    have hB6 : Below w.heap.size w w6 := hB3.trans (hb6.mono (by omega))
    by_cases hok : halfsOk M = true
    · have hv' : Hid (putHR L x = M ∧ putHOk L x = true) := ⟨by rw [hv.out.1, if_pos hok], by rw [hv.out.2, hok]⟩
      go_wp2
      go_ret2
      exact ⟨_, by rw [hv'.out.2]; rfl, by rw [hv'.out.1]; exact (O3.later hb6 (Nat.le_refl _)).up (by omega), hB6⟩
    · have hok' : halfsOk M = false := by simpa using hok
      have hv' : Hid (putHR L x = L ∧ putHOk L x = false) := ⟨by rw [hv.out.1, if_neg hok], by rw [hv.out.2, hok']⟩
      clear hok
      go_wp2_with fail
      refine (iCopyHalf _ _ _ L _ rfl (hr.later hB6 (Nat.le_refl _) hB6.size) (by omega)).mono ?_
      rintro e w7 ⟨v7, rfl, O7, hb7⟩
      go_wp2
      go_ret2
      exact ⟨v7, by rw [hv'.out.2]; rfl, by rw [hv'.out.1]; exact O7.up (by omega), hB6.trans (hb7.mono (by omega))⟩

set_option maxRecDepth 100000 in
set_option maxHeartbeats 4000000 in
theorem sPutHalf (A : Option Addr) (cap : Nat) (L : List HalfD) (x : HalfD) (w : World) (hr : Rd HalfD.cells 8 w 0 w.heap.size A L) (hle : L.length ≤ cap) (hcm : cap ≤ maxLen) (hn : L.length ≤ 4294967290) :
    Calls Try.prog 27 #[.slice A L.length cap, x.val] w (RetSl w 42 HalfD.cells 8 (putHR L x) fun v => .tuple #[v, .bool (putHOk L x)]) := by
  unfold maxLen at hcm
  have hC := fun W hr => sHalfAt A cap L x.fRoadOwn x.fRoadFar x.fRoadPort W hr (by unfold maxLen; omega)
  have hlo := findI_lo (roadIs x.fRoadOwn x.fRoadFar x.fRoadPort) L
  have hlt := findI_lt (roadIs x.fRoadOwn x.fRoadFar x.fRoadPort) L
  have hv : Hid (putHR L x = (if halfsOk (insH L x (halfAt L x.fRoadOwn x.fRoadFar x.fRoadPort)) then insH L x (halfAt L x.fRoadOwn x.fRoadFar x.fRoadPort) else L) ∧ putHOk L x = halfsOk (insH L x (halfAt L x.fRoadOwn x.fRoadFar x.fRoadPort))) := ⟨rfl, rfl⟩
  have HC := Lib.hid hC
  clear hC
  change halfAt L x.fRoadOwn x.fRoadFar x.fRoadPort = -1 ∨ 0 ≤ halfAt L x.fRoadOwn x.fRoadFar x.fRoadPort at hlo
  change halfAt L x.fRoadOwn x.fRoadFar x.fRoadPort < L.length at hlt
  generalize halfAt L x.fRoadOwn x.fRoadFar x.fRoadPort = z at *
  obtain ⟨M, hM⟩ : ∃ M, M = insH L x z := ⟨_, rfl⟩
  rw [← hM] at hv
  have hMl := insH_len L x z
  rw [← hM] at hMl
  have HM := Lib.hid hM
  clear hM
  have hW : Below w.heap.size w (w.alloc (.cells #[.int .i64 x.fRoadOwn, .int .i64 x.fRoadFar, .int .i64 x.fRoadPort, .int .i64 x.fTheirs, .int .i64 x.fMine, .int .i64 x.fGive, .int .i64 x.fTake, .int .i64 x.fUntil] 42)) := by go_grown
  have hr0 : Rd HalfD.cells 8 (w.alloc (.cells #[.int .i64 x.fRoadOwn, .int .i64 x.fRoadFar, .int .i64 x.fRoadPort, .int .i64 x.fTheirs, .int .i64 x.fMine, .int .i64 x.fGive, .int .i64 x.fTake, .int .i64 x.fUntil] 42)) 0 (w.heap.size + 1) A L := hr.later hW (Nat.le_refl _) (by omega)
  go_enter Try.func27, Try.ntmps27
  have HE := Lib.hid (Own.emptyAt (c := HalfD.cells) (sz := 8) (w.alloc (.cells #[.int .i64 x.fRoadOwn, .int .i64 x.fRoadFar, .int .i64 x.fRoadPort, .int .i64 x.fTheirs, .int .i64 x.fMine, .int .i64 x.fGive, .int .i64 x.fTake, .int .i64 x.fUntil] 42)) w.heap.size 42 (w.heap.size + 1) (size1 w _) (by omega))
  go_wp2_with (at_builtin; refine wpList_append_rd _ rfl (.tmp 8) (.tmp 9) rfl slHalf HalfD.cells_length HalfD.one w.heap.size _ [] L rfl HE.out A L.length cap 0 w.heap.size rfl rfl (by exact hr.later (by (repeat' (first | (with_reducible exact Below.refl _ _) | (with_reducible assumption) | (with_reducible refine Below.alloc ?_ ?_ _) | (with_reducible refine Below.drew ?_) | (with_reducible refine below_drewN ?_ _) | (with_reducible refine Below.setCell ?_ ?_ _) | (with_reducible refine bvia ?_ (by with_reducible assumption) ?_) | go_size))) (Nat.le_refl _) (Nat.le_refl _)) (by simp; omega) (by go_size) ?_; intro v1 w1 O1 G1 A1; have hB1 : Below w.heap.size w w1 := Own.below2 G1 HE.out (by (repeat' (first | (with_reducible exact Below.refl _ _) | (with_reducible assumption) | (with_reducible refine Below.alloc ?_ ?_ _) | (with_reducible refine Below.drew ?_) | (with_reducible refine below_drewN ?_ _) | (with_reducible refine Below.setCell ?_ ?_ _) | (with_reducible refine bvia ?_ (by with_reducible assumption) ?_) | go_size))) (Nat.le_refl _) (by go_size); have hz1 := G1.size; simp at hz1; rw [List.nil_append] at O1; have rw1_0 : w1.cell? ⟨w.heap.size, 0, none⟩ = some (.int .i64 x.fRoadOwn) := (by rw [G1.cell_far _ (by show w.heap.size < _; simp; omega) (by intro hk; have h9 : w.heap.size = w.heap.size + 1 := Option.some.inj hk; omega), World.cell?_alloc_lt _ _ _ (by show w.heap.size < _; simp)]; simp); have rw1_1 : w1.cell? ⟨w.heap.size, 1, none⟩ = some (.int .i64 x.fRoadFar) := (by rw [G1.cell_far _ (by show w.heap.size < _; simp; omega) (by intro hk; have h9 : w.heap.size = w.heap.size + 1 := Option.some.inj hk; omega), World.cell?_alloc_lt _ _ _ (by show w.heap.size < _; simp)]; simp); have rw1_2 : w1.cell? ⟨w.heap.size, 2, none⟩ = some (.int .i64 x.fRoadPort) := (by rw [G1.cell_far _ (by show w.heap.size < _; simp; omega) (by intro hk; have h9 : w.heap.size = w.heap.size + 1 := Option.some.inj hk; omega), World.cell?_alloc_lt _ _ _ (by show w.heap.size < _; simp)]; simp); have rw1_3 : w1.cell? ⟨w.heap.size, 3, none⟩ = some (.int .i64 x.fTheirs) := (by rw [G1.cell_far _ (by show w.heap.size < _; simp; omega) (by intro hk; have h9 : w.heap.size = w.heap.size + 1 := Option.some.inj hk; omega), World.cell?_alloc_lt _ _ _ (by show w.heap.size < _; simp)]; simp); have rw1_4 : w1.cell? ⟨w.heap.size, 4, none⟩ = some (.int .i64 x.fMine) := (by rw [G1.cell_far _ (by show w.heap.size < _; simp; omega) (by intro hk; have h9 : w.heap.size = w.heap.size + 1 := Option.some.inj hk; omega), World.cell?_alloc_lt _ _ _ (by show w.heap.size < _; simp)]; simp); have rw1_5 : w1.cell? ⟨w.heap.size, 5, none⟩ = some (.int .i64 x.fGive) := (by rw [G1.cell_far _ (by show w.heap.size < _; simp; omega) (by intro hk; have h9 : w.heap.size = w.heap.size + 1 := Option.some.inj hk; omega), World.cell?_alloc_lt _ _ _ (by show w.heap.size < _; simp)]; simp); have rw1_6 : w1.cell? ⟨w.heap.size, 6, none⟩ = some (.int .i64 x.fTake) := (by rw [G1.cell_far _ (by show w.heap.size < _; simp; omega) (by intro hk; have h9 : w.heap.size = w.heap.size + 1 := Option.some.inj hk; omega), World.cell?_alloc_lt _ _ _ (by show w.heap.size < _; simp)]; simp); have rw1_7 : w1.cell? ⟨w.heap.size, 7, none⟩ = some (.int .i64 x.fUntil) := (by rw [G1.cell_far _ (by show w.heap.size < _; simp; omega) (by intro hk; have h9 : w.heap.size = w.heap.size + 1 := Option.some.inj hk; omega), World.cell?_alloc_lt _ _ _ (by show w.heap.size < _; simp)]; simp); clear G1)
  go_wp2_with fail
  refine (HC.out _ (hr.later hB1 (Nat.le_refl _) hB1.size)).mono ?_
  rintro e w2 ⟨rfl, hb2⟩
  have hz2 := hb2.size
  have hB2 : Below w.heap.size w w2 := hB1.trans (hb2.mono (by omega))
  have rw2_0 : w2.cell? ⟨w.heap.size, 0, none⟩ = some (.int .i64 x.fRoadOwn) := (by rw [hb2.cell (by show w.heap.size < w1.heap.size; omega)]; assumption)
  have rw2_1 : w2.cell? ⟨w.heap.size, 1, none⟩ = some (.int .i64 x.fRoadFar) := (by rw [hb2.cell (by show w.heap.size < w1.heap.size; omega)]; assumption)
  have rw2_2 : w2.cell? ⟨w.heap.size, 2, none⟩ = some (.int .i64 x.fRoadPort) := (by rw [hb2.cell (by show w.heap.size < w1.heap.size; omega)]; assumption)
  have rw2_3 : w2.cell? ⟨w.heap.size, 3, none⟩ = some (.int .i64 x.fTheirs) := (by rw [hb2.cell (by show w.heap.size < w1.heap.size; omega)]; assumption)
  have rw2_4 : w2.cell? ⟨w.heap.size, 4, none⟩ = some (.int .i64 x.fMine) := (by rw [hb2.cell (by show w.heap.size < w1.heap.size; omega)]; assumption)
  have rw2_5 : w2.cell? ⟨w.heap.size, 5, none⟩ = some (.int .i64 x.fGive) := (by rw [hb2.cell (by show w.heap.size < w1.heap.size; omega)]; assumption)
  have rw2_6 : w2.cell? ⟨w.heap.size, 6, none⟩ = some (.int .i64 x.fTake) := (by rw [hb2.cell (by show w.heap.size < w1.heap.size; omega)]; assumption)
  have rw2_7 : w2.cell? ⟨w.heap.size, 7, none⟩ = some (.int .i64 x.fUntil) := (by rw [hb2.cell (by show w.heap.size < w1.heap.size; omega)]; assumption)
  clear rw1_0 rw1_1 rw1_2 rw1_3 rw1_4 rw1_5 rw1_6 rw1_7
  have HO2 := Lib.hid (O1.later hb2 (Nat.le_refl _))
  clear O1 hb2
  by_cases h0 : 0 ≤ z
  · obtain ⟨k, rfl⟩ := Int.eq_ofNat_of_zero_le h0
    have hk : k < L.length := by omega
    have hMe : Hid (M = L.set k x) := by show M = _; rw [HM.out]; unfold insH; rw [if_neg (by omega), Int.toNat_natCast]
    have b1 : (0 : Int) ≤ (k : Int) := by omega
    have b2 : (k : Int) < (L.length : Int) := by omega
    rcases HO2.out.form with ⟨rfl, hL⟩ | ⟨g1, c1, cur, rfl, hbg, hg1, hlc, hcm1, hcs, hct⟩
    · subst hL; simp at hk
    · have HG1 := Lib.hid hg1
      have HCT := Lib.hid hct
      have HCS := Lib.hid hcs
      have hsz : k * 8 + 8 ≤ cur.size := by rw [hcs]; omega
      clear hg1 hct hcs
      go_wp2_with (refine wpList_store_part rfl rfl 42 (.tmp 20) (.tmp 19) rfl g1 (k * 8) rfl 42 cur x.arr rfl HG1.out hsz (by kernel_rfl) (by simp [Value.oneCell']) ?_; intro w3 hg3 hgr3 hs3)
      have hB3 : Below w.heap.size w w3 := hB2.grown hgr3 (by omega) (by rintro q ⟨⟩; omega)
      have O3 : Own w3 w.heap.size 42 HalfD.cells 8 (.slice (some ⟨g1, 0, none⟩) L.length c1) M := by rw [hMe.out]; exact Own.put HalfD.cells_length (by omega) hlc hcm1 HCS.out HCT.out hk rfl hg3
      clear hg3 hgr3 HG1 HCT HCS
      clear rw2_0 rw2_1 rw2_2 rw2_3 rw2_4 rw2_5 rw2_6 rw2_7
      go_wp2_with fail
      refine (sHalfsOk_own _ M _ _ O3).mono ?_
      rintro e w6 ⟨rfl, hb6⟩
      have hz6 := hb6.size
      have hB6 : Below w.heap.size w w6 := hB3.trans (hb6.mono (by omega))
      by_cases hok : halfsOk M = true
      · have hv' : Hid (putHR L x = M ∧ putHOk L x = true) := ⟨by rw [hv.out.1, if_pos hok], by rw [hv.out.2, hok]⟩
        go_wp2
        go_ret2
        exact ⟨_, by rw [hv'.out.2]; rfl, by rw [hv'.out.1]; exact (O3.later hb6 (Nat.le_refl _)).up (by omega), hB6⟩
      · have hok' : halfsOk M = false := by simpa using hok
        have hv' : Hid (putHR L x = L ∧ putHOk L x = false) := ⟨by rw [hv.out.1, if_neg hok], by rw [hv.out.2, hok']⟩
        clear hok
        have HE := Lib.hid (Own.empty (c := HalfD.cells) (sz := 8) w6 w.heap.size 42 hB6.size)
        go_wp2_with (at_builtin; refine wpList_append_rd _ rfl (.tmp 28) (.tmp 29) rfl slHalf HalfD.cells_length HalfD.one w.heap.size _ [] L rfl HE.out A L.length cap 0 w.heap.size rfl rfl (by exact hr.later (by (repeat' (first | (with_reducible exact Below.refl _ _) | (with_reducible assumption) | (with_reducible refine Below.alloc ?_ ?_ _) | (with_reducible refine Below.drew ?_) | (with_reducible refine below_drewN ?_ _) | (with_reducible refine Below.setCell ?_ ?_ _) | (with_reducible refine bvia ?_ (by with_reducible assumption) ?_) | go_size))) (Nat.le_refl _) (Nat.le_refl _)) (by simp; omega) (by go_size) ?_; intro v7 w7 O7 G7 A7)
        have hB7 : Below w.heap.size w w7 := Own.below2 G7 HE.out (by (repeat' (first | (with_reducible exact Below.refl _ _) | (with_reducible assumption) | (with_reducible refine Below.alloc ?_ ?_ _) | (with_reducible refine Below.drew ?_) | (with_reducible refine below_drewN ?_ _) | (with_reducible refine Below.setCell ?_ ?_ _) | (with_reducible refine bvia ?_ (by with_reducible assumption) ?_) | go_size))) (Nat.le_refl _) (by go_size)
        go_ret2
        exact ⟨v7, by rw [hv'.out.2]; rfl, by rw [hv'.out.1]; exact O7, hB7⟩
  · have hMe : Hid (M = L ++ [x]) := by show M = _; rw [HM.out]; unfold insH; rw [if_pos (by omega)]
    have hge : decide (0 ≤ z) = false := by simp; omega
    go_wp2_with (at_builtin; refine wpList_append_rd _ rfl (.tmp 21) (.tmp 23) rfl slHalf HalfD.cells_length HalfD.one w.heap.size _ L [x] rfl (HO2.out.alloc _) (some ⟨w2.heap.size, 0, none⟩) 1 1 0 (w2.heap.size + 1) rfl rfl (rd_one _ _ _ _ HalfD.cells_length rfl _ rfl _ (by omega)) (by simp; omega) (by simp; omega) ?_; intro v3 w3 O3 G3 A3)
    have hB3 : Below w.heap.size w w3 := Own.below2 G3 (HO2.out.alloc _) (by go_grown) (Nat.le_refl _) (by simp; omega)
    rw [← hMe.out] at O3
    have hz3 := hB3.size
    clear rw2_0 rw2_1 rw2_2 rw2_3 rw2_4 rw2_5 rw2_6 rw2_7
    go_wp2_with fail
    refine (sHalfsOk_own _ M _ _ O3).mono ?_
    rintro e w6 ⟨rfl, hb6⟩
    have hz6 := hb6.size
    have hB6 : Below w.heap.size w w6 := hB3.trans (hb6.mono (by omega))
    by_cases hok : halfsOk M = true
    · have hv' : Hid (putHR L x = M ∧ putHOk L x = true) := ⟨by rw [hv.out.1, if_pos hok], by rw [hv.out.2, hok]⟩
      go_wp2
      go_ret2
      exact ⟨_, by rw [hv'.out.2]; rfl, by rw [hv'.out.1]; exact (O3.later hb6 (Nat.le_refl _)).up (by omega), hB6⟩
    · have hok' : halfsOk M = false := by simpa using hok
      have hv' : Hid (putHR L x = L ∧ putHOk L x = false) := ⟨by rw [hv.out.1, if_neg hok], by rw [hv.out.2, hok']⟩
      clear hok
      have HE := Lib.hid (Own.empty (c := HalfD.cells) (sz := 8) w6 w.heap.size 42 hB6.size)
      go_wp2_with (at_builtin; refine wpList_append_rd _ rfl (.tmp 28) (.tmp 29) rfl slHalf HalfD.cells_length HalfD.one w.heap.size _ [] L rfl HE.out A L.length cap 0 w.heap.size rfl rfl (by exact hr.later (by (repeat' (first | (with_reducible exact Below.refl _ _) | (with_reducible assumption) | (with_reducible refine Below.alloc ?_ ?_ _) | (with_reducible refine Below.drew ?_) | (with_reducible refine below_drewN ?_ _) | (with_reducible refine Below.setCell ?_ ?_ _) | (with_reducible refine bvia ?_ (by with_reducible assumption) ?_) | go_size))) (Nat.le_refl _) (Nat.le_refl _)) (by simp; omega) (by go_size) ?_; intro v7 w7 O7 G7 A7)
      have hB7 : Below w.heap.size w w7 := Own.below2 G7 HE.out (by (repeat' (first | (with_reducible exact Below.refl _ _) | (with_reducible assumption) | (with_reducible refine Below.alloc ?_ ?_ _) | (with_reducible refine Below.drew ?_) | (with_reducible refine below_drewN ?_ _) | (with_reducible refine Below.setCell ?_ ?_ _) | (with_reducible refine bvia ?_ (by with_reducible assumption) ?_) | go_size))) (Nat.le_refl _) (by go_size)
      go_ret2
      exact ⟨v7, by rw [hv'.out.2]; rfl, by rw [hv'.out.1]; exact O7, hB7⟩

end Go.Proofs.Ytcnklfddokpbiaa
