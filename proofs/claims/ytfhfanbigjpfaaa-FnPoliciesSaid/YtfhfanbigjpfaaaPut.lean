/- PutAddr (program and reference): for every slice that can be read. -/
import Derived.Test.YtfhfanbigjpfaaaDrop
import Derived.Test.YtfhfanbigjpfaaaAddrsOk
namespace Go.Proofs.Ytfhfanbigjpfaaa
set_option linter.unusedSimpArgs false
set_option linter.unusedVariables false
open Go.RowKit
attribute [local go_sem ↓] Go.wp_at_zero Go.wp_at_succ

/-- How many addresses at the head have a smaller id. -/
def putPos : List AddrD → Int → Nat
  | [], _ => 0
  | a :: L, id => if a.fId < id then putPos L id + 1 else 0
theorem putPos_le (L : List AddrD) (id : Int) : putPos L id ≤ L.length := by
  induction L with
  | nil => exact Nat.le_refl _
  | cons a L ih => unfold putPos; split <;> simp <;> omega
/-- The first k have smaller ids. -/
def LessTo (L : List AddrD) (id : Int) (k : Nat) : Prop := ∀ (i : Nat) (hi : i < L.length), i < k → L[i].fId < id
theorem LessTo.zero (L : List AddrD) (id : Int) : LessTo L id 0 := fun i hi h => absurd h (by omega)
theorem LessTo.succ {L : List AddrD} {id : Int} {k : Nat} (h : LessTo L id k) (hk : k < L.length) (hn : L[k].fId < id) : LessTo L id (k + 1) := fun i hi hik => by
  rcases Nat.lt_or_ge i k with h' | h'
  · exact h i hi h'
  · obtain rfl : i = k := by omega
    exact hn
theorem putPos_end : ∀ (L : List AddrD) (id : Int) (k : Nat), k ≤ L.length → LessTo L id k → (∀ h : k < L.length, ¬ L[k].fId < id) → putPos L id = k := by
  intro L
  induction L with
  | nil => intro id k hk _ _; simp at hk; subst hk; rfl
  | cons a L ih =>
    intro id k hk hl hn
    unfold putPos
    cases k with
    | zero => exact if_neg (hn (Nat.succ_pos _))
    | succ k =>
      have h0 : a.fId < id := hl 0 (Nat.succ_pos _) (by omega)
      rw [if_pos h0, ih id k (by simpa using hk) (fun i hi hik => hl (i + 1) (Nat.succ_lt_succ hi) (by omega)) (fun h => hn (Nat.succ_lt_succ h))]
/-- What PutAddr makes of a list. -/
def insK (L : List AddrD) (x : AddrD) (z : Int) : List AddrD := if z < 0 then L.take (putPos L x.fId) ++ [x] ++ L.drop (putPos L x.fId) else L.set z.toNat x
def putL (L : List AddrD) (x : AddrD) : List AddrD := insK L x (addrAt L x.fId)
def putOk (L : List AddrD) (x : AddrD) : Bool := addrsOk (putL L x)
def putR (L : List AddrD) (x : AddrD) : List AddrD := if putOk L x then putL L x else L
theorem insK_len (L : List AddrD) (x : AddrD) (z : Int) : L.length ≤ (insK L x z).length ∧ (insK L x z).length ≤ L.length + 1 := by
  have := putPos_le L x.fId
  unfold insK; split
  · rw [List.length_append, List.length_append, List.length_take, List.length_drop, List.length_singleton]; omega
  · rw [List.length_set]; omega
theorem putR_le (L : List AddrD) (x : AddrD) : (putR L x).length ≤ L.length + 1 := by
  unfold putR; split
  · exact (insK_len _ _ _).2
  · omega
theorem addrsOk_long {L : List AddrD} (h : 6 < L.length) : addrsOk L = false := aok_long (by omega)
theorem sAddrsOk_own (v : Value) (M : List AddrD) (base : Nat) (W : World) (h : Own W base 56 AddrD.cells 4 v M) : Calls Try.prog 49 #[v] W fun e w' => e = .returned (.bool (addrsOk M)) ∧ Below W.heap.size W w' := by
  obtain ⟨A, cap, rfl, h1, h2, r⟩ := h.rd0 AddrD.cells_length
  exact sAddrsOk A cap M W r h1 h2
set_option maxHeartbeats 4000000 in
theorem sPutAddr (A : Option Addr) (cap : Nat) (L : List AddrD) (x : AddrD) (w : World) (hr : Rd AddrD.cells 4 w 0 w.heap.size A L) (hle : L.length ≤ cap) (hcm : cap ≤ maxLen) (hn : L.length ≤ 4294967290) :
    Calls Try.prog 47 #[.slice A L.length cap, x.val] w (RetSl w 56 AddrD.cells 4 (putR L x) fun v => .tuple #[v, .bool (putOk L x)]) := by
  unfold maxLen at hcm
  have hC := fun W hr => sAddrAt A cap L x.fId W hr (by unfold maxLen; omega)
  have hlo := findI_lo (fun a : AddrD => a.fId == x.fId) L
  have hlt := findI_lt (fun a : AddrD => a.fId == x.fId) L
  have hv : Hid (putR L x = (if addrsOk (insK L x (addrAt L x.fId)) then insK L x (addrAt L x.fId) else L) ∧ putOk L x = addrsOk (insK L x (addrAt L x.fId))) := ⟨rfl, rfl⟩
  have HC := Lib.hid hC
  clear hC
  change addrAt L x.fId = -1 ∨ 0 ≤ addrAt L x.fId at hlo
  change addrAt L x.fId < L.length at hlt
  generalize addrAt L x.fId = z at *
  obtain ⟨M, hM⟩ : ∃ M, M = insK L x z := ⟨_, rfl⟩
  rw [← hM] at hv
  have hMl := insK_len L x z
  rw [← hM] at hMl
  have HM := Lib.hid hM
  clear hM
  have hW : Below w.heap.size w (w.alloc (.cells #[.int .i64 x.fId, .int .i64 x.fAddr, .bool x.fSpare, .bool x.fTold] 56)) := by go_grown
  have hr0 : Rd AddrD.cells 4 (w.alloc (.cells #[.int .i64 x.fId, .int .i64 x.fAddr, .bool x.fSpare, .bool x.fTold] 56)) 0 (w.heap.size + 1) A L := hr.later hW (Nat.le_refl _) (by omega)
  by_cases h6 : (L.length : Int) ≤ 6
  · have d6 : decide ((6 : Int) < (L.length : Int)) = false := by simp; omega
    go_enter Try.func47, Try.ntmps47
    go_wp2_with (first
      | (at_builtin; refine wpList_append_rd _ rfl (.tmp 9) (.tmp 10) rfl slAddr AddrD.cells_length AddrD.one w.heap.size _ [] L rfl (Own.emptyAt _ w.heap.size _ _ (size1 w _) (by omega)) A L.length cap 0 w.heap.size rfl rfl (hr.later (by (repeat' (first | (with_reducible exact Below.refl _ _) | (with_reducible assumption) | (with_reducible refine Below.alloc ?_ ?_ _) | (with_reducible refine Below.drew ?_) | (with_reducible refine below_drewN ?_ _) | (with_reducible refine Below.setCell ?_ ?_ _) | (with_reducible refine bvia ?_ (by with_reducible assumption) ?_) | go_size))) (Nat.le_refl _) (Nat.le_refl _)) (by simp; omega) (by go_size) ?_; intro v1 w1 O1 G1 A1; have hB1 : Below w.heap.size w w1 := Own.below (c := AddrD.cells) (sz := 4) (L := []) (Own.emptyAt _ w.heap.size _ _ (size1 w _) (by omega)) G1 (by (repeat' (first | (with_reducible exact Below.refl _ _) | (with_reducible assumption) | (with_reducible refine Below.alloc ?_ ?_ _) | (with_reducible refine Below.drew ?_) | (with_reducible refine below_drewN ?_ _) | (with_reducible refine Below.setCell ?_ ?_ _) | (with_reducible refine bvia ?_ (by with_reducible assumption) ?_) | go_size))) (Nat.le_refl _) (by go_size); have hz1 := G1.size; simp at hz1; have rw1_0 : w1.cell? ⟨w.heap.size, 0, none⟩ = some (.int .i64 x.fId) := (by rw [G1.cell_far _ (by show w.heap.size < _; simp; omega) (by intro hk; have h9 : w.heap.size = w.heap.size + 1 := Option.some.inj hk; omega), World.cell?_alloc_lt _ _ _ (by show w.heap.size < _; simp)]; simp); have rw1_1 : w1.cell? ⟨w.heap.size, 1, none⟩ = some (.int .i64 x.fAddr) := (by rw [G1.cell_far _ (by show w.heap.size < _; simp; omega) (by intro hk; have h9 : w.heap.size = w.heap.size + 1 := Option.some.inj hk; omega), World.cell?_alloc_lt _ _ _ (by show w.heap.size < _; simp)]; simp); have rw1_2 : w1.cell? ⟨w.heap.size, 2, none⟩ = some (.bool x.fSpare) := (by rw [G1.cell_far _ (by show w.heap.size < _; simp; omega) (by intro hk; have h9 : w.heap.size = w.heap.size + 1 := Option.some.inj hk; omega), World.cell?_alloc_lt _ _ _ (by show w.heap.size < _; simp)]; simp); have rw1_3 : w1.cell? ⟨w.heap.size, 3, none⟩ = some (.bool x.fTold) := (by rw [G1.cell_far _ (by show w.heap.size < _; simp; omega) (by intro hk; have h9 : w.heap.size = w.heap.size + 1 := Option.some.inj hk; omega), World.cell?_alloc_lt _ _ _ (by show w.heap.size < _; simp)]; simp))
      | (at_builtin; refine wpList_append_rd _ rfl (.tmp 16) (.tmp 17) rfl slAddr AddrD.cells_length AddrD.one w.heap.size _ [] L rfl (Own.empty w1 w.heap.size _ hB1.size) A L.length cap 0 w.heap.size rfl rfl (hr.later (by (repeat' (first | (with_reducible exact Below.refl _ _) | (with_reducible assumption) | (with_reducible refine Below.alloc ?_ ?_ _) | (with_reducible refine Below.drew ?_) | (with_reducible refine below_drewN ?_ _) | (with_reducible refine Below.setCell ?_ ?_ _) | (with_reducible refine bvia ?_ (by with_reducible assumption) ?_) | go_size))) (Nat.le_refl _) (Nat.le_refl _)) (by simp; omega) (by go_size) ?_; intro v2 w2 O2 G2 A2; have hB2 : Below w.heap.size w w2 := Own.below (c := AddrD.cells) (sz := 4) (L := []) (Own.empty _ w.heap.size _ hB1.size) G2 (by (repeat' (first | (with_reducible exact Below.refl _ _) | (with_reducible assumption) | (with_reducible refine Below.alloc ?_ ?_ _) | (with_reducible refine Below.drew ?_) | (with_reducible refine below_drewN ?_ _) | (with_reducible refine Below.setCell ?_ ?_ _) | (with_reducible refine bvia ?_ (by with_reducible assumption) ?_) | go_size))) (Nat.le_refl _) (by go_size); have hz2 := G2.size; simp at hz2; have O1' := (O1.alloc (Obj.cells #[] 56)).grown G2 (fun k h1 h2 => by have h8 := (O1.lt h2).2; have h9 : w1.heap.size = k := Option.some.inj h1; omega); have rw2_0 : w2.cell? ⟨w.heap.size, 0, none⟩ = some (.int .i64 x.fId) := (by rw [G2.cell_far _ (by show w.heap.size < _; simp; omega) (by intro hk; have h9 : w.heap.size = w1.heap.size := Option.some.inj hk; omega), World.cell?_alloc_lt _ _ _ (by show w.heap.size < w1.heap.size; omega)]; assumption); have rw2_1 : w2.cell? ⟨w.heap.size, 1, none⟩ = some (.int .i64 x.fAddr) := (by rw [G2.cell_far _ (by show w.heap.size < _; simp; omega) (by intro hk; have h9 : w.heap.size = w1.heap.size := Option.some.inj hk; omega), World.cell?_alloc_lt _ _ _ (by show w.heap.size < w1.heap.size; omega)]; assumption); have rw2_2 : w2.cell? ⟨w.heap.size, 2, none⟩ = some (.bool x.fSpare) := (by rw [G2.cell_far _ (by show w.heap.size < _; simp; omega) (by intro hk; have h9 : w.heap.size = w1.heap.size := Option.some.inj hk; omega), World.cell?_alloc_lt _ _ _ (by show w.heap.size < w1.heap.size; omega)]; assumption); have rw2_3 : w2.cell? ⟨w.heap.size, 3, none⟩ = some (.bool x.fTold) := (by rw [G2.cell_far _ (by show w.heap.size < _; simp; omega) (by intro hk; have h9 : w.heap.size = w1.heap.size := Option.some.inj hk; omega), World.cell?_alloc_lt _ _ _ (by show w.heap.size < w1.heap.size; omega)]; assumption); clear rw1_0 rw1_1 rw1_2 rw1_3))
    refine (HC.out _ (hr.later hB2 (Nat.le_refl _) hB2.size)).mono ?_
    rintro e ws ⟨rfl, rfl⟩
    have HO1 := Lib.hid O1'
    have HO2 := Lib.hid O2
    have HL1 : Hid (∀ q, v1.ownBlock = some q → q < w1.heap.size) := fun q hq => (O1.lt hq).2
    have HA2 : Hid (∀ q, v2.ownBlock = some q → w1.heap.size ≤ q) := fun q hq => by
      rcases A2 with h | h
      · rw [h] at hq
        exact Nat.le_of_eq (Option.some.inj hq)
      · rw [h] at hq
        have := Option.some.inj hq
        simp at this
        omega
    clear O1' O1 O2 A1 A2
    by_cases h0 : 0 ≤ z
    · obtain ⟨k, rfl⟩ := Int.eq_ofNat_of_zero_le h0
      have hk : k < L.length := by omega
      have hMe : Hid (M = L.set k x) := by show M = _; rw [HM.out]; unfold insK; rw [if_neg (by omega), Int.toNat_natCast]
      have b1 : (0 : Int) ≤ (k : Int) := by omega
      have b2 : (k : Int) < (L.length : Int) := by omega
      rcases HO2.out.form with ⟨rfl, hL⟩ | ⟨g1, c1, cur, rfl, hbg, hg1, hlc, hcm1, hcs, hct⟩
      · rw [List.nil_append] at hL; subst hL; simp at hk
      · rw [List.nil_append] at hlc hct
        have HG1 := Lib.hid hg1
        have HCT := Lib.hid hct
        have HCS := Lib.hid hcs
        have hsz : k * 4 + 4 ≤ cur.size := by rw [hcs]; omega
        have hne : ∀ q, v1.ownBlock = some q → some q = some g1 → False := fun q h1 h2 => by
          have h3 := HO1.out.lt h1
          cases h2
          have h4 : w1.heap.size ≤ g1 := HA2.out g1 rfl
          have := HL1.out _ h1
          omega
        clear hg1 hct hcs
        go_wp2_with (refine wpList_store_part rfl rfl 56 (.tmp 28) (.tmp 27) rfl g1 (k * 4) rfl 56 cur x.arr rfl HG1.out hsz (by kernel_rfl) (by simp [Value.oneCell']) ?_; intro w3 hg3 hgr3 hs3)
        have hB3 : Below w.heap.size w w3 := hB2.grown hgr3 (by omega) (by rintro q ⟨⟩; omega)
        have O3 : Own w3 w.heap.size 56 AddrD.cells 4 (.slice (some ⟨g1, 0, none⟩) L.length c1) M := by rw [hMe.out]; exact Own.put AddrD.cells_length (by omega) hlc hcm1 HCS.out HCT.out hk rfl hg3
        have O1'' := HO1.out.grown hgr3 (fun q h1 h2 => hne q h2 h1.symm)
        rw [List.nil_append] at O1''
        clear hg3 hgr3 HG1 HCT HCS hne rw2_0 rw2_1 rw2_2 rw2_3
        go_wp2_with fail
        refine (sAddrsOk_own _ M _ _ O3).mono ?_
        rintro e w6 ⟨rfl, hb6⟩
        have hz6 := hb6.size
        have hB6 : Below w.heap.size w w6 := hB3.trans (hb6.mono (by omega))
        by_cases hok : addrsOk M = true
        · have hv' : Hid (putR L x = M ∧ putOk L x = true) := ⟨by rw [hv.out.1, if_pos hok], by rw [hv.out.2, hok]⟩
          go_wp2
          go_ret2
          exact ⟨_, by rw [hv'.out.2]; rfl, by rw [hv'.out.1]; exact (O3.later hb6 (Nat.le_refl _)).up (by omega), hB6⟩
        · have hok' : addrsOk M = false := by simpa using hok
          have hv' : Hid (putR L x = L ∧ putOk L x = false) := ⟨by rw [hv.out.1, if_neg hok], by rw [hv.out.2, hok']⟩
          clear hok
          go_wp2
          go_ret2
          exact ⟨_, by rw [hv'.out.2]; rfl, by rw [hv'.out.1]; exact (O1''.later hb6 (Nat.le_refl _)).up (by omega), hB6⟩
    · have hMe : Hid (M = L.take (putPos L x.fId) ++ [x] ++ L.drop (putPos L x.fId)) := by show M = _; rw [HM.out]; unfold insK; rw [if_pos (by omega)]
      have hge : decide (0 ≤ z) = false := by simp; omega
      clear HO2 HA2 HL1
      go_wp2_with fail
      go_loopw [8] (fun i wr => ∃ k : Nat, k ≤ L.length ∧ i = .int .i64 k ∧ LessTo L x.fId k ∧ Below w2.heap.size w2 wr) (fun i _ => L.length - (intOf i).toNat)
      case atStart => exact ⟨0, Nat.zero_le _, rfl, LessTo.zero _ _, Below.refl _ _⟩
      case round =>
        obtain ⟨k, hk, rfl, hN, hBr⟩ := hrel
        have hBz := hBr.size
        have hB3 : Below w.heap.size w wr := hB2.trans (hBr.mono (by omega))
        have rwr_0 : wr.cell? ⟨w.heap.size, 0, none⟩ = some (.int .i64 x.fId) := (by rw [hBr.cell (by show w.heap.size < w2.heap.size; omega)]; assumption)
        have rwr_1 : wr.cell? ⟨w.heap.size, 1, none⟩ = some (.int .i64 x.fAddr) := (by rw [hBr.cell (by show w.heap.size < w2.heap.size; omega)]; assumption)
        have rwr_2 : wr.cell? ⟨w.heap.size, 2, none⟩ = some (.bool x.fSpare) := (by rw [hBr.cell (by show w.heap.size < w2.heap.size; omega)]; assumption)
        have rwr_3 : wr.cell? ⟨w.heap.size, 3, none⟩ = some (.bool x.fTold) := (by rw [hBr.cell (by show w.heap.size < w2.heap.size; omega)]; assumption)
        have HBr := Lib.hid hBr
        clear hBr
        have hcase : (∃ h : k < L.length, L[k].fId < x.fId) ∨ (∃ h : k < L.length, ¬ L[k].fId < x.fId) ∨ k = L.length := by
          rcases Nat.lt_or_ge k L.length with h | h
          · by_cases h' : L[k].fId < x.fId
            · exact .inl ⟨h, h'⟩
            · exact .inr (.inl ⟨h, h'⟩)
          · exact .inr (.inr (by omega))
        have hk0 : (0 : Int) ≤ (k : Int) := by omega
        rcases hcase with ⟨hlt', hq⟩ | hrest
        · obtain ⟨g, o, rfl, _, hg, hcell⟩ := hr.at_ (by omega)
          have a0 : wr.cell? ⟨g, o + k * 4, none⟩ = some (.int .i64 L[k].fId) := by
            rw [hB3.cell (p := ⟨g, o + k * 4, none⟩) hg]; exact hcell k hlt' 0 (by decide)
          clear hcell
          have hki : (k : Int) < (L.length : Int) := by omega
          have d1 : decide (k < L.length) = true := by simp; omega
          have d2 : decide ((k : Int) < (L.length : Int)) = true := by simp; omega
          have d3 : decide (L[k].fId < x.fId) = true := by simpa using hq
          have hN' := hN.succ hlt' hq
          clear hq
          go_wp2
          go_quiet (fail)
          go_wp2
          have hBr := HBr.out
          go_roundw
          case rel => exact ⟨k + 1, by omega, by go_num, hN', by (repeat' (first | (with_reducible exact Below.refl _ _) | (with_reducible assumption) | (with_reducible refine Below.alloc ?_ ?_ _) | (with_reducible refine Below.drew ?_) | (with_reducible refine below_drewN ?_ _) | (with_reducible refine Below.setCell ?_ ?_ _) | (with_reducible refine bvia ?_ (by with_reducible assumption) ?_) | go_size))⟩
          case measure => simp [intOf]; omega
        · have hpos : putPos L x.fId = k := putPos_end L x.fId k hk hN (by
            rcases hrest with ⟨_, h⟩ | rfl
            · exact fun _ => h
            · exact fun h => absurd h (by omega))
          have HMe : Hid (M = [] ++ L.take k ++ [x] ++ L.drop k) := by show M = _; rw [hMe.out, hpos, List.nil_append]
          clear hpos hMe
          have b2 : (k : Int) ≤ (cap : Int) := by omega
          have b3 : (k : Int) ≤ (L.length : Int) := by omega
          have b4 : (L.length : Int) ≤ (cap : Int) := by omega
          have hsplit : (∃ h : k < L.length, ¬ L[k].fId < x.fId ∧ ∃ g o, A = some ⟨g, o, none⟩ ∧ wr.cell? ⟨g, o + k * 4, none⟩ = some (.int .i64 L[k].fId)) ∨ k = L.length := by
            rcases hrest with ⟨h, hq⟩ | h
            · obtain ⟨g, o, rfl, _, hg, hcell⟩ := hr.at_ (by omega)
              exact .inl ⟨h, hq, g, o, rfl, by rw [hB3.cell (p := ⟨g, o + k * 4, none⟩) hg]; exact hcell k h 0 (by decide)⟩
            · exact .inr h
          clear hrest
          have HN := Lib.hid hN
          clear hN
          rcases hsplit with ⟨hlt', hq, g, o, rfl, a0⟩ | hkl
          have hki : (k : Int) < (L.length : Int) := by omega
          have d1 : decide (k < L.length) = true := by simp; omega
          have d2 : decide ((k : Int) < (L.length : Int)) = true := by simp; omega
          have d3 : decide (L[k].fId < x.fId) = false := by simpa using hq
          obtain ⟨sel, hsel, hrs⟩ := cut_sel hr cap k hle
          have HLn : Hid (∀ W, Below w.heap.size w W → Rd AddrD.cells 4 W 0 w.heap.size (sel (some ⟨g, o, none⟩) (some ⟨g, o + k * 4, none⟩)) (L.drop k)) := fun W hb => hrs.later hb (Nat.le_refl _) (Nat.le_refl _)
          clear hq hrs
          rotate_left
          have d1 : decide (k < L.length) = false := by simp; omega
          have d2 : decide ((k : Int) < (L.length : Int)) = false := by simp; omega
          have HK : Hid (L.drop k = []) := by show L.drop k = []; rw [hkl]; exact List.drop_length
          obtain ⟨sel, hsel⟩ : ∃ sel : Option Addr → Option Addr → Option Addr, ∀ x y, (if cap = k then x else y) = sel x y := ⟨_, fun _ _ => rfl⟩
          clear hkl
          all_goals
            go_wp2
            go_quiet (fail)
            go_wp2_with fail
            refine wp_world _ (fun W => W.heap.size = wr.heap.size ∧ Below wr.heap.size wr W) ⟨?_, ?_⟩ ?_
            · simp
            · (repeat' (first | (with_reducible exact Below.refl _ _) | (with_reducible assumption) | (with_reducible refine Below.alloc ?_ ?_ _) | (with_reducible refine Below.drew ?_) | (with_reducible refine below_drewN ?_ _) | (with_reducible refine Below.setCell ?_ ?_ _) | (with_reducible refine bvia ?_ (by with_reducible assumption) ?_) | go_size))
            · rintro W ⟨hWz, hWb⟩
              have hB4 : Below w.heap.size w W := hB3.trans (hWb.mono (by omega))
              have hWs : w.heap.size < W.heap.size := by omega
              have HW2 : Hid (Below w2.heap.size w2 W) := HBr.out.trans (hWb.mono (by omega))
              have hW2 : w2.heap.size ≤ W.heap.size := by omega
              have HWz := Lib.hid hWz
              clear hWz
              have rW_0 : W.cell? ⟨w.heap.size, 0, none⟩ = some (.int .i64 x.fId) := (by rw [hWb.cell (by show w.heap.size < wr.heap.size; omega)]; assumption)
              have rW_1 : W.cell? ⟨w.heap.size, 1, none⟩ = some (.int .i64 x.fAddr) := (by rw [hWb.cell (by show w.heap.size < wr.heap.size; omega)]; assumption)
              have rW_2 : W.cell? ⟨w.heap.size, 2, none⟩ = some (.bool x.fSpare) := (by rw [hWb.cell (by show w.heap.size < wr.heap.size; omega)]; assumption)
              have rW_3 : W.cell? ⟨w.heap.size, 3, none⟩ = some (.bool x.fTold) := (by rw [hWb.cell (by show w.heap.size < wr.heap.size; omega)]; assumption)
              clear rwr_0 rw2_0 rwr_1 rw2_1 rwr_2 rw2_2 rwr_3 rw2_3
              go_region_held3 (fun w' => w'.cell? ⟨w.heap.size, 0, none⟩ = some (.int .i64 x.fId) ∧ w'.cell? ⟨w.heap.size, 1, none⟩ = some (.int .i64 x.fAddr) ∧ w'.cell? ⟨w.heap.size, 2, none⟩ = some (.bool x.fSpare) ∧ w'.cell? ⟨w.heap.size, 3, none⟩ = some (.bool x.fTold)) (first | (refine ⟨?_, ?_, ?_, ?_⟩ <;> assumption) | go_keep)
                (first
                  | ((refine step_append_rd _ (by rfl) (.tmp 45) (.tmp 48) (by rfl) slAddr AddrD.cells_length AddrD.one W.heap.size _ [] (L.take k) (by rfl) (Own.empty _ W.heap.size _ (Nat.le_refl _)) _ _ _ 0 w.heap.size (by rfl) (by simp; omega) (by exact (hr.take k).later (by (repeat' (first | (with_reducible exact Below.refl _ _) | (with_reducible assumption) | (with_reducible refine Below.alloc ?_ ?_ _) | (with_reducible refine Below.drew ?_) | (with_reducible refine below_drewN ?_ _) | (with_reducible refine Below.setCell ?_ ?_ _) | (with_reducible refine bvia ?_ (by with_reducible assumption) ?_) | go_size))) (Nat.le_refl _) (Nat.le_refl _)) (by simp; omega) (by go_size) ?_; intro v4 w4 O4 G4 A4; have hq4 : Below w.heap.size w w4 := Own.below2 G4 (Own.empty (c := AddrD.cells) (sz := 4) _ W.heap.size _ (Nat.le_refl _)) (by (repeat' (first | (with_reducible exact Below.refl _ _) | (with_reducible assumption) | (with_reducible refine Below.alloc ?_ ?_ _) | (with_reducible refine Below.drew ?_) | (with_reducible refine below_drewN ?_ _) | (with_reducible refine Below.setCell ?_ ?_ _) | (with_reducible refine bvia ?_ (by with_reducible assumption) ?_) | go_size))) hB4.size (by go_size); have hz4 := G4.size; simp at hz4; have hy4 : W.heap.size ≤ w4.heap.size := (by omega); have HS4 : Hid (Below W.heap.size W w4) := Own.below2 G4 (Own.empty (c := AddrD.cells) (sz := 4) _ W.heap.size _ (Nat.le_refl _)) (by (repeat' (first | (with_reducible exact Below.refl _ _) | (with_reducible assumption) | (with_reducible refine Below.alloc ?_ ?_ _) | (with_reducible refine Below.drew ?_) | (with_reducible refine below_drewN ?_ _) | (with_reducible refine Below.setCell ?_ ?_ _) | (with_reducible refine bvia ?_ (by with_reducible assumption) ?_) | go_size))) (Nat.le_refl _) (by go_size); have rw4_0 : w4.cell? ⟨w.heap.size, 0, none⟩ = some (.int .i64 x.fId) := (by rw [HS4.out.cell hWs]; assumption); have rw4_1 : w4.cell? ⟨w.heap.size, 1, none⟩ = some (.int .i64 x.fAddr) := (by rw [HS4.out.cell hWs]; assumption); have rw4_2 : w4.cell? ⟨w.heap.size, 2, none⟩ = some (.bool x.fSpare) := (by rw [HS4.out.cell hWs]; assumption); have rw4_3 : w4.cell? ⟨w.heap.size, 3, none⟩ = some (.bool x.fTold) := (by rw [HS4.out.cell hWs]; assumption)))
                  | ((refine step_append_rd _ (by rfl) (.tmp 45) (.tmp 48) (by rfl) slAddr AddrD.cells_length AddrD.one W.heap.size _ [] (L.take k) (by rfl) ((Own.empty _ W.heap.size _ (Nat.le_refl _)).alloc _) _ _ _ 0 w.heap.size (by rfl) (by simp; omega) (by exact (hr.take k).later (by (repeat' (first | (with_reducible exact Below.refl _ _) | (with_reducible assumption) | (with_reducible refine Below.alloc ?_ ?_ _) | (with_reducible refine Below.drew ?_) | (with_reducible refine below_drewN ?_ _) | (with_reducible refine Below.setCell ?_ ?_ _) | (with_reducible refine bvia ?_ (by with_reducible assumption) ?_) | go_size))) (Nat.le_refl _) (Nat.le_refl _)) (by simp; omega) (by go_size) ?_; intro v4 w4 O4 G4 A4; have hq4 : Below w.heap.size w w4 := Own.below2 G4 ((Own.empty (c := AddrD.cells) (sz := 4) _ W.heap.size _ (Nat.le_refl _)).alloc _) (by (repeat' (first | (with_reducible exact Below.refl _ _) | (with_reducible assumption) | (with_reducible refine Below.alloc ?_ ?_ _) | (with_reducible refine Below.drew ?_) | (with_reducible refine below_drewN ?_ _) | (with_reducible refine Below.setCell ?_ ?_ _) | (with_reducible refine bvia ?_ (by with_reducible assumption) ?_) | go_size))) hB4.size (by go_size); have hz4 := G4.size; simp at hz4; have hy4 : W.heap.size ≤ w4.heap.size := (by omega); have HS4 : Hid (Below W.heap.size W w4) := Own.below2 G4 ((Own.empty (c := AddrD.cells) (sz := 4) _ W.heap.size _ (Nat.le_refl _)).alloc _) (by (repeat' (first | (with_reducible exact Below.refl _ _) | (with_reducible assumption) | (with_reducible refine Below.alloc ?_ ?_ _) | (with_reducible refine Below.drew ?_) | (with_reducible refine below_drewN ?_ _) | (with_reducible refine Below.setCell ?_ ?_ _) | (with_reducible refine bvia ?_ (by with_reducible assumption) ?_) | go_size))) (Nat.le_refl _) (by go_size); have hX : w4.heap[W.heap.size + 1]? = some (.cells x.arr 56 (0, 0)) := (G4.block _ (by simp) (by intro hk; have h9 : W.heap.size + 1 = W.heap.size := Option.some.inj hk; omega)).trans (by rw [← size1 W (Obj.cells #[] 56)]; exact heap_alloc_new _ _); have HX := Lib.hid hX; clear hX; have rw4_0 : w4.cell? ⟨w.heap.size, 0, none⟩ = some (.int .i64 x.fId) := (by rw [HS4.out.cell hWs]; assumption); have rw4_1 : w4.cell? ⟨w.heap.size, 1, none⟩ = some (.int .i64 x.fAddr) := (by rw [HS4.out.cell hWs]; assumption); have rw4_2 : w4.cell? ⟨w.heap.size, 2, none⟩ = some (.bool x.fSpare) := (by rw [HS4.out.cell hWs]; assumption); have rw4_3 : w4.cell? ⟨w.heap.size, 3, none⟩ = some (.bool x.fTold) := (by rw [HS4.out.cell hWs]; assumption)))
                  | ((refine step_append_rd _ (by rfl) (.tmp 45) (.tmp 48) (by rfl) slAddr AddrD.cells_length AddrD.one W.heap.size _ [] (L.take k) (by rfl) (Own.emptyAt _ W.heap.size _ (W.heap.size + 1) (size1 _ _) (by omega)) _ _ _ 0 w.heap.size (by rfl) (by simp; omega) (by exact (hr.take k).later (by (repeat' (first | (with_reducible exact Below.refl _ _) | (with_reducible assumption) | (with_reducible refine Below.alloc ?_ ?_ _) | (with_reducible refine Below.drew ?_) | (with_reducible refine below_drewN ?_ _) | (with_reducible refine Below.setCell ?_ ?_ _) | (with_reducible refine bvia ?_ (by with_reducible assumption) ?_) | go_size))) (Nat.le_refl _) (Nat.le_refl _)) (by simp; omega) (by go_size) ?_; intro v4 w4 O4 G4 A4; have hq4 : Below w.heap.size w w4 := Own.below2 G4 (Own.emptyAt (c := AddrD.cells) (sz := 4) _ W.heap.size _ (W.heap.size + 1) (size1 _ _) (by omega)) (by (repeat' (first | (with_reducible exact Below.refl _ _) | (with_reducible assumption) | (with_reducible refine Below.alloc ?_ ?_ _) | (with_reducible refine Below.drew ?_) | (with_reducible refine below_drewN ?_ _) | (with_reducible refine Below.setCell ?_ ?_ _) | (with_reducible refine bvia ?_ (by with_reducible assumption) ?_) | go_size))) hB4.size (by go_size); have hz4 := G4.size; simp at hz4; have hy4 : W.heap.size ≤ w4.heap.size := (by omega); have HS4 : Hid (Below W.heap.size W w4) := Own.below2 G4 (Own.emptyAt (c := AddrD.cells) (sz := 4) _ W.heap.size _ (W.heap.size + 1) (size1 _ _) (by omega)) (by (repeat' (first | (with_reducible exact Below.refl _ _) | (with_reducible assumption) | (with_reducible refine Below.alloc ?_ ?_ _) | (with_reducible refine Below.drew ?_) | (with_reducible refine below_drewN ?_ _) | (with_reducible refine Below.setCell ?_ ?_ _) | (with_reducible refine bvia ?_ (by with_reducible assumption) ?_) | go_size))) (Nat.le_refl _) (by go_size); have hX : w4.heap[W.heap.size]? = some (.cells x.arr 56 (0, 0)) := (G4.block _ (by simp; omega) (by intro hk; have h9 : W.heap.size = W.heap.size + 1 := Option.some.inj hk; omega)).trans ((Below.heap_alloc _ _ _ (by simp)).trans (heap_alloc_new _ _)); have HX := Lib.hid hX; clear hX; have rw4_0 : w4.cell? ⟨w.heap.size, 0, none⟩ = some (.int .i64 x.fId) := (by rw [HS4.out.cell hWs]; assumption); have rw4_1 : w4.cell? ⟨w.heap.size, 1, none⟩ = some (.int .i64 x.fAddr) := (by rw [HS4.out.cell hWs]; assumption); have rw4_2 : w4.cell? ⟨w.heap.size, 2, none⟩ = some (.bool x.fSpare) := (by rw [HS4.out.cell hWs]; assumption); have rw4_3 : w4.cell? ⟨w.heap.size, 3, none⟩ = some (.bool x.fTold) := (by rw [HS4.out.cell hWs]; assumption)))
                  | ((refine step_append_rd _ (by rfl) (.tmp 49) (.tmp 51) (by rfl) slAddr AddrD.cells_length AddrD.one W.heap.size v4 ([] ++ L.take k) [x] (by rfl) (O4.alloc _) (some ⟨w4.heap.size, 0, none⟩) 1 1 0 (w4.heap.size + 1) (by rfl) (by rfl) (by exact rd_one _ _ _ _ AddrD.cells_length rfl _ rfl _ (by omega)) (by simp; omega) (by simp; omega) ?_; intro v5 w5 O5 G5 A5; have hq5 : Below w.heap.size w w5 := (O4.alloc _).below G5 (by (repeat' (first | (with_reducible exact Below.refl _ _) | (with_reducible assumption) | (with_reducible refine Below.alloc ?_ ?_ _) | (with_reducible refine Below.drew ?_) | (with_reducible refine below_drewN ?_ _) | (with_reducible refine Below.setCell ?_ ?_ _) | (with_reducible refine bvia ?_ (by with_reducible assumption) ?_) | go_size))) (by exact hB4.size) (by simp; omega); have hz5 := G5.size; simp at hz5; have hz5' : W.heap.size ≤ w5.heap.size := (by omega); have HS5 : Hid (Below W.heap.size W w5) := (O4.alloc _).below G5 (HS4.out.alloc (by omega) _) (Nat.le_refl _) (by simp; omega); have rw5_0 : w5.cell? ⟨w.heap.size, 0, none⟩ = some (.int .i64 x.fId) := (by rw [HS5.out.cell hWs]; assumption); have rw5_1 : w5.cell? ⟨w.heap.size, 1, none⟩ = some (.int .i64 x.fAddr) := (by rw [HS5.out.cell hWs]; assumption); have rw5_2 : w5.cell? ⟨w.heap.size, 2, none⟩ = some (.bool x.fSpare) := (by rw [HS5.out.cell hWs]; assumption); have rw5_3 : w5.cell? ⟨w.heap.size, 3, none⟩ = some (.bool x.fTold) := (by rw [HS5.out.cell hWs]; assumption)))
                  | ((refine step_append_rd _ (by rfl) (.tmp 49) (.tmp 51) (by rfl) slAddr AddrD.cells_length AddrD.one W.heap.size v4 ([] ++ L.take k) [x] (by rfl) O4 _ _ _ 0 w4.heap.size (by rfl) (by rfl) (by exact rd_one_blk x AddrD.cells_length rfl HX.out) (by simp; omega) (by exact hy4) ?_; intro v5 w5 O5 G5 A5; have hq5 : Below w.heap.size w w5 := O4.below G5 hq4 (by exact hB4.size) (by omega); have hz5 := G5.size; have hz5' : W.heap.size ≤ w5.heap.size := (by omega); have HS5 : Hid (Below W.heap.size W w5) := O4.below G5 HS4.out (Nat.le_refl _) hy4; have rw5_0 : w5.cell? ⟨w.heap.size, 0, none⟩ = some (.int .i64 x.fId) := (by rw [HS5.out.cell hWs]; assumption); have rw5_1 : w5.cell? ⟨w.heap.size, 1, none⟩ = some (.int .i64 x.fAddr) := (by rw [HS5.out.cell hWs]; assumption); have rw5_2 : w5.cell? ⟨w.heap.size, 2, none⟩ = some (.bool x.fSpare) := (by rw [HS5.out.cell hWs]; assumption); have rw5_3 : w5.cell? ⟨w.heap.size, 3, none⟩ = some (.bool x.fTold) := (by rw [HS5.out.cell hWs]; assumption)))
                  | fail)
              all_goals
                have O1r := (HO1.out.later HW2.out (Nat.le_refl _)).later HS5.out (Nat.le_refl _)
                rw [List.nil_append] at O1r
                have HO1r := Lib.hid O1r
                clear O1r
                (try clear HX)
                go_wp2_with (at_builtin; refine wpList_append_rd _ rfl (.tmp 53) (.tmp 56) rfl slAddr AddrD.cells_length AddrD.one W.heap.size v5 ([] ++ L.take k ++ [x]) (L.drop k) rfl O5 _ _ _ 0 w.heap.size rfl (by simp) (by first | exact HLn.out _ hq5 | exact (hr.drop k).later hq5 (Nat.le_refl _) (Nat.le_refl _) | (rw [HK.out]; exact Rd.nil)) (by simp; omega) (by exact hz5') ?_; intro v6 w5' O6 G6 A6)
                have hB6' : Below w.heap.size w w5' := O5.below G6 hq5 (by exact hB4.size) (by omega)
                rw [← HMe.out] at O6
                have hz6' := hB6'.size
                have O1q := HO1r.out.grown G6 (fun q h1 h2 => by have h3 := (O5.lt h1).1; have h4 := (HO1.out.lt h2).2; omega)
                clear HO1r
                go_wp2_with fail
                refine (sAddrsOk_own _ M _ _ O6).mono ?_
                rintro e w6 ⟨rfl, hb6⟩
                have hz6 := hb6.size
                have hB6 : Below w.heap.size w w6 := hB6'.trans (hb6.mono (by omega))
                by_cases hok : addrsOk M = true
                · have hv' : Hid (putR L x = M ∧ putOk L x = true) := ⟨by rw [hv.out.1, if_pos hok], by rw [hv.out.2, hok]⟩
                  go_wp2
                  go_ret2
                  exact ⟨_, by rw [hv'.out.2]; rfl, by rw [hv'.out.1]; exact (O6.later hb6 (Nat.le_refl _)).up (by omega), hB6⟩
                · have hok' : addrsOk M = false := by simpa using hok
                  have hv' : Hid (putR L x = L ∧ putOk L x = false) := ⟨by rw [hv.out.1, if_neg hok], by rw [hv.out.2, hok']⟩
                  clear hok
                  go_wp2
                  go_ret2
                  exact ⟨_, by rw [hv'.out.2]; rfl, by rw [hv'.out.1]; exact (O1q.later hb6 (Nat.le_refl _)).up (by omega), hB6⟩
  · have hM6 : addrsOk M = false := addrsOk_long (by omega)
    have d6 : decide ((6 : Int) < (L.length : Int)) = true := by simp; omega
    have hv' : Hid (putR L x = L ∧ putOk L x = false) := ⟨by rw [hv.out.1, if_neg (by simp [hM6])], by rw [hv.out.2, hM6]⟩
    clear hM6
    go_enter Try.func47, Try.ntmps47
    go_wp2_with (at_builtin; refine wpList_append_rd _ rfl (.tmp 9) (.tmp 10) rfl slAddr AddrD.cells_length AddrD.one w.heap.size _ [] L rfl (Own.emptyAt _ w.heap.size _ _ (size1 w _) (by omega)) A L.length cap 0 w.heap.size rfl rfl (hr.later (by (repeat' (first | (with_reducible exact Below.refl _ _) | (with_reducible assumption) | (with_reducible refine Below.alloc ?_ ?_ _) | (with_reducible refine Below.drew ?_) | (with_reducible refine below_drewN ?_ _) | (with_reducible refine Below.setCell ?_ ?_ _) | (with_reducible refine bvia ?_ (by with_reducible assumption) ?_) | go_size))) (Nat.le_refl _) (Nat.le_refl _)) (by simp; omega) (by go_size) ?_; intro v1 w1 O1 G1 A1; have hB1 : Below w.heap.size w w1 := Own.below (c := AddrD.cells) (sz := 4) (L := []) (Own.emptyAt _ w.heap.size _ _ (size1 w _) (by omega)) G1 (by (repeat' (first | (with_reducible exact Below.refl _ _) | (with_reducible assumption) | (with_reducible refine Below.alloc ?_ ?_ _) | (with_reducible refine Below.drew ?_) | (with_reducible refine below_drewN ?_ _) | (with_reducible refine Below.setCell ?_ ?_ _) | (with_reducible refine bvia ?_ (by with_reducible assumption) ?_) | go_size))) (Nat.le_refl _) (by go_size))
    go_ret2
    exact ⟨v1, by rw [hv'.out.2]; rfl, by rw [hv'.out.1]; simpa using O1, hB1⟩

end Go.Proofs.Ytfhfanbigjpfaaa
