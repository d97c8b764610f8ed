/- The walk of FnAddrs: for every input. -/
import Derived.Test.YtibjnpbkchopnaaLaw0
import Derived.Test.YtibjnpbkchopnaaDrawAddr
import Derived.Test.YtibjnpbkchopnaaAddrLaw
import Derived.Deep.RegionHeld3
import Derived.Deep.DrawnRows
import Derived.StillTailTactics
namespace Go.Proofs.Ytibjnpbkchopnaa
set_option linter.unusedSimpArgs false
set_option linter.unusedVariables false
open Go.RowKit

set_option maxHeartbeats 1000000 in
theorem sameAddrs_same (A B : Option Addr) (ca cb : Nat) (L : List AddrD) (w : World) (hr : Rd AddrD.cells 4 w 0 w.heap.size A L) (hr2 : Rd AddrD.cells 4 w 0 w.heap.size B L) (hn : L.length ≤ maxLen) :
    Calls Try.prog 30 #[.slice A L.length ca, .slice B L.length cb] w fun e w' => e = .returned (.bool true) ∧ Below w.heap.size w w' := by
  unfold maxLen at hn
  go_enter Try.func30, Try.ntmps30
  go_wp2_with fail
  go_loopw [5] (fun i wr => ∃ k : Nat, k ≤ L.length ∧ i = .int .i64 k ∧ ∃ n, wr = w.drewN n) (fun i _ => L.length - (intOf i).toNat)
  case atStart => exact ⟨0, Nat.zero_le _, rfl, 0, rfl⟩
  case round =>
    obtain ⟨k, hk, rfl, n, rfl⟩ := hrel
    by_cases hlt : k < L.length
    · obtain ⟨g, o, rfl, _, hg, hcell⟩ := hr.at_ (by omega)
      obtain ⟨g2, o2, rfl, _, hg2, hcell2⟩ := hr2.at_ (by omega)
      have a0 := hcell k hlt 0 (by decide)
      have a1 := hcell k hlt 1 (by decide)
      have a2 := hcell k hlt 2 (by decide)
      have a3 := hcell k hlt 3 (by decide)
      have b0 := hcell2 k hlt 0 (by decide)
      have b1 := hcell2 k hlt 1 (by decide)
      have b2 := hcell2 k hlt 2 (by decide)
      have b3 := hcell2 k hlt 3 (by decide)
      simp [AddrD.cells] at a0 a1 a2 a3 b0 b1 b2 b3
      clear hcell hcell2
      have hki : (k : Int) < (L.length : Int) := by omega
      have hk0 : (0 : Int) ≤ (k : Int) := by omega
      go_wp2_with fail
      go_quiet (fail)
      go_wp2
      go_roundw
      case rel => exact ⟨k + 1, by omega, by go_num, _, by first | rfl | exact World.drewN_drewN _ _ _⟩
      case measure => simp [intOf]; omega
    · go_wp2
      go_ret
      exact ⟨rfl, below_drewN (Below.refl _ _) n⟩
set_option maxRecDepth 100000 in
set_option maxHeartbeats 4000000 in
theorem walk_FnAddrs (A0 : Option Addr) (cap0 : Nat) (L0 : List Int) (w : World) (hle : L0.length ≤ cap0) (hcap : cap0 ≤ maxLen) (_ : ∀ x ∈ L0, (Lit.int .u8 x).wf = true) (hr : Rd bcells 1 w 0 w.heap.size A0 L0) :
    Calls Try.prog 8 #[.slice A0 L0.length cap0] w fun e w' => e = .returned (.bool true) ∧ Below w.heap.size w w' := by
  have hm0 : L0.length ≤ maxLen := Nat.le_trans hle hcap
  by_cases hbig : (1048576 : Int) < L0.length
  · have d0 : decide ((1048576 : Int) < (L0.length : Int)) = true := decide_eq_true hbig
    go_enter Try.func8, Try.ntmps8
    go_wp2_with fail
    refine (big_any _ _ _ _ hm0).mono ?_
    rintro e w1 ⟨rfl, rfl⟩
    go_wp2
    go_ret
    exact ⟨rfl, Below.refl _ _⟩
  have d0 : decide ((1048576 : Int) < (L0.length : Int)) = false := decide_eq_false hbig
  go_enter Try.func8, Try.ntmps8
  go_wp2_with fail
  refine (big_any _ _ _ _ hm0).mono ?_
  rintro e w1 ⟨rfl, rfl⟩
  go_wp2_with fail
  refine (DrawPutAddr_some A0 cap0 L0 _ hr (by omega)).mono ?_
  rintro e w1 ⟨v, L, a, rfl, O1, hL, hb1⟩
  obtain ⟨A, cap, rfl, hle1, hcm1, -⟩ := O1.rd0 AddrD.cells_length
  have hz1 := hb1.size
  go_wp2_with fail
  go_wp2_with fail
  refine (iPutAddr A cap L a _ (by exact (O1.rdv AddrD.cells_length).later (by (repeat' (first | (with_reducible exact Below.refl _ _) | (with_reducible assumption) | (with_reducible refine Below.alloc ?_ ?_ _) | (with_reducible refine Below.drew ?_) | (with_reducible refine below_drewN ?_ _) | (with_reducible refine Below.setCell ?_ ?_ _) | (with_reducible refine bvia ?_ (by with_reducible assumption) ?_) | go_size)) : Below w1.heap.size w1 _) (Nat.le_refl _) (by go_size)) hle1 hcm1 (by omega)).mono ?_
  rintro e w2 ⟨v2, rfl, O2, hb2⟩
  obtain ⟨hc, hf⟩ := bcell hb2
  have hc2_0 := fun o => hc (w1.heap.size) o (by go_size)
  have hf2_0 := fun o => hf (w1.heap.size) o (by go_size)
  have hz2_0 : w1.heap.size < w2.heap.size := Nat.lt_of_lt_of_le (by go_size) hb2.size
  clear hc hf
  have hz2 := hb2.size
  try simp at hz2
  have O1' := O1.later (by (repeat' (first | (with_reducible exact Below.refl _ _) | (with_reducible assumption) | (with_reducible refine Below.alloc ?_ ?_ _) | (with_reducible refine Below.drew ?_) | (with_reducible refine below_drewN ?_ _) | (with_reducible refine Below.setCell ?_ ?_ _) | (with_reducible refine bvia ?_ (by with_reducible assumption) ?_) | go_size)) : Below w1.heap.size w1 w2) (Nat.le_refl _)
  have hB2 : Below w.heap.size w w2 := hb1.trans ((by (repeat' (first | (with_reducible exact Below.refl _ _) | (with_reducible assumption) | (with_reducible refine Below.alloc ?_ ?_ _) | (with_reducible refine Below.drew ?_) | (with_reducible refine below_drewN ?_ _) | (with_reducible refine Below.setCell ?_ ?_ _) | (with_reducible refine bvia ?_ (by with_reducible assumption) ?_) | go_size)) : Below w1.heap.size w1 w2).mono hz1)
  simp only [World.size_alloc] at O2
  have x0_2 : w2.cell? ⟨w1.heap.size, 0, none⟩ = some (.int .i64 a.fId) := by rw [hc2_0]; simp [go_sem]
  have x1_2 : w2.cell? ⟨w1.heap.size, 1, none⟩ = some (.int .i64 a.fAddr) := by rw [hc2_0]; simp [go_sem]
  have x2_2 : w2.cell? ⟨w1.heap.size, 2, none⟩ = some (.bool a.fSpare) := by rw [hc2_0]; simp [go_sem]
  have x3_2 : w2.cell? ⟨w1.heap.size, 3, none⟩ = some (.bool a.fTold) := by rw [hc2_0]; simp [go_sem]
  clear hc2_0 hf2_0 hb2
  cases hok : putOk L a with
  | false =>
    have hR : putR L a = L := by unfold putR; rw [hok]; rfl
    rw [hR] at O2
    obtain ⟨A2, cap2, rfl, -, -, -⟩ := O2.rd0 AddrD.cells_length
    have HO1 := Lib.hid O1'
    have HO2 := Lib.hid O2
    clear hR O1 O1' O2
    go_wp2_with fail
    refine (sameAddrs_same A2 A _ _ L _ (HO2.out.rdv AddrD.cells_length) (HO1.out.rdv AddrD.cells_length) (by unfold maxLen; omega)).mono ?_
    rintro e w3 ⟨rfl, hb3⟩
    have hB3 := hB2.trans (hb3.mono (by omega))
    clear hb3
    go_wp2
    go_ret
    exact ⟨rfl, hB3⟩
  | true =>
    have hR : putR L a = putL L a := by unfold putR; rw [hok]; rfl
    rw [hR] at O2
    obtain ⟨p, hp, hpa, hat, hdel, hdl, hun⟩ := addr_law L a hok
    have hoM : addrsOk (putL L a) = true := hok
    have hlen : (putL L a).length ≤ L.length + 1 := by rw [← hR]; exact putR_le L a
    clear hR
    generalize putL L a = M at O2 hp hpa hat hdel hdl hun hoM hlen
    have HAT := Lib.hid hat
    have HDEL := Lib.hid hdel
    have HOM := Lib.hid hoM
    have HDOK : Hid (dropOk M a.fId = true) := by unfold Hid dropOk; rw [hat]; simp
    have HDL : (dropL M a.fId).length + 1 = M.length := hdl
    have HUN := Lib.hid hun
    obtain ⟨A2, cap2, rfl, hle2, hcm2, -⟩ := O2.rd0 AddrD.cells_length
    have hmM : M.length ≤ maxLen := Nat.le_trans hle2 hcm2
    have HO2 := Lib.hid O2
    clear hat hdel hoM hun hdl O1 O1' O2
    go_wp2_with fail
    refine (iAddrAt A2 cap2 M a.fId _ (HO2.out.rdv AddrD.cells_length) hmM).mono ?_
    rintro e w3 ⟨rfl, hb3⟩
    rw [HAT.out]
    have hz3 := hb3.size
    have HO3 := Lib.hid (HO2.out.later hb3 (Nat.le_refl _))
    have hB3 := hB2.trans (hb3.mono (by omega))
    have x0_3 : w3.cell? ⟨w1.heap.size, 0, none⟩ = some (.int .i64 a.fId) := (hb3.cell (by show w1.heap.size < _; omega)).trans x0_2
    have x1_3 : w3.cell? ⟨w1.heap.size, 1, none⟩ = some (.int .i64 a.fAddr) := (hb3.cell (by show w1.heap.size < _; omega)).trans x1_2
    have x2_3 : w3.cell? ⟨w1.heap.size, 2, none⟩ = some (.bool a.fSpare) := (hb3.cell (by show w1.heap.size < _; omega)).trans x2_2
    have x3_3 : w3.cell? ⟨w1.heap.size, 3, none⟩ = some (.bool a.fTold) := (hb3.cell (by show w1.heap.size < _; omega)).trans x3_2
    clear hb3 HO2 hB2
    clear x0_2 x1_2 x2_2 x3_2
    obtain ⟨g, o, hgo, hglo, hghi, hcell⟩ := (HO3.out.rdv AddrD.cells_length).at_ (by omega)
    subst hgo
    have e0 : w3.cell? ⟨g, o + p * 4, none⟩ = some (.int .i64 a.fId) := by have := hcell p hp 0 (by decide); rw [List.getElem?_eq_getElem hp] at hpa; rw [Option.some.inj hpa] at this; simpa [AddrD.cells] using this
    have e1 : w3.cell? ⟨g, o + p * 4 + 1, none⟩ = some (.int .i64 a.fAddr) := by have := hcell p hp 1 (by decide); rw [List.getElem?_eq_getElem hp] at hpa; rw [Option.some.inj hpa] at this; simpa [AddrD.cells] using this
    have e2 : w3.cell? ⟨g, o + p * 4 + 2, none⟩ = some (.bool a.fSpare) := by have := hcell p hp 2 (by decide); rw [List.getElem?_eq_getElem hp] at hpa; rw [Option.some.inj hpa] at this; simpa [AddrD.cells] using this
    have e3 : w3.cell? ⟨g, o + p * 4 + 3, none⟩ = some (.bool a.fTold) := by have := hcell p hp 3 (by decide); rw [List.getElem?_eq_getElem hp] at hpa; rw [Option.some.inj hpa] at this; simpa [AddrD.cells] using this
    have hpi : (p : Int) < (M.length : Int) := by omega
    have hp0 : (0 : Int) ≤ (p : Int) := by omega
    clear hcell hpa
    have dg1 : decide ((M.length : Int) ≤ (p : Int)) = false := decide_eq_false (by omega)
    have dg2 : decide (M.length ≤ p) = false := decide_eq_false (by omega)
    go_wp2_with fail
    go_region_held3 (fun w' => w'.cell? ⟨w1.heap.size, 0, none⟩ = some (.int .i64 a.fId) ∧ w'.cell? ⟨w1.heap.size, 1, none⟩ = some (.int .i64 a.fAddr) ∧ w'.cell? ⟨w1.heap.size, 2, none⟩ = some (.bool a.fSpare) ∧ w'.cell? ⟨w1.heap.size, 3, none⟩ = some (.bool a.fTold) ∧ w'.cell? ⟨g, o + p * 4, none⟩ = some (.int .i64 a.fId) ∧ w'.cell? ⟨g, o + p * 4 + 1, none⟩ = some (.int .i64 a.fAddr) ∧ w'.cell? ⟨g, o + p * 4 + 2, none⟩ = some (.bool a.fSpare) ∧ w'.cell? ⟨g, o + p * 4 + 3, none⟩ = some (.bool a.fTold)) (first | (refine ⟨?_, ?_, ?_, ?_, ?_, ?_, ?_, ?_⟩ <;> assumption) | go_keep)
      (first
        | (go_at_call 14; refine (sAddrsOk _ cap2 M _ (by exact (HO3.out.rdv AddrD.cells_length).later (by (repeat' (first | (with_reducible exact Below.refl _ _) | (with_reducible assumption) | (with_reducible refine Below.alloc ?_ ?_ _) | (with_reducible refine Below.drew ?_) | (with_reducible refine below_drewN ?_ _) | (with_reducible refine Below.setCell ?_ ?_ _) | (with_reducible refine bvia ?_ (by with_reducible assumption) ?_) | go_size))) (Nat.le_refl _) (by go_size)) hle2 hcm2).mono ?_; rintro e w4 ⟨rfl, hb4⟩; rw [HOM.out]; have hq4 : Below w3.heap.size w3 w4 := (by (repeat' (first | (with_reducible exact Below.refl _ _) | (with_reducible assumption) | (with_reducible refine Below.alloc ?_ ?_ _) | (with_reducible refine Below.drew ?_) | (with_reducible refine below_drewN ?_ _) | (with_reducible refine Below.setCell ?_ ?_ _) | (with_reducible refine bvia ?_ (by with_reducible assumption) ?_) | go_size))); have x0_4 : w4.cell? ⟨w1.heap.size, 0, none⟩ = some (.int .i64 a.fId) := (hq4.cell (by show w1.heap.size < _; omega)).trans x0_3; have x1_4 : w4.cell? ⟨w1.heap.size, 1, none⟩ = some (.int .i64 a.fAddr) := (hq4.cell (by show w1.heap.size < _; omega)).trans x1_3; have x2_4 : w4.cell? ⟨w1.heap.size, 2, none⟩ = some (.bool a.fSpare) := (hq4.cell (by show w1.heap.size < _; omega)).trans x2_3; have x3_4 : w4.cell? ⟨w1.heap.size, 3, none⟩ = some (.bool a.fTold) := (hq4.cell (by show w1.heap.size < _; omega)).trans x3_3; have e0_4 : w4.cell? ⟨g, o + p * 4, none⟩ = some (.int .i64 a.fId) := (hq4.cell hghi).trans e0; have e1_4 : w4.cell? ⟨g, o + p * 4 + 1, none⟩ = some (.int .i64 a.fAddr) := (hq4.cell hghi).trans e1; have e2_4 : w4.cell? ⟨g, o + p * 4 + 2, none⟩ = some (.bool a.fSpare) := (hq4.cell hghi).trans e2; have e3_4 : w4.cell? ⟨g, o + p * 4 + 3, none⟩ = some (.bool a.fTold) := (hq4.cell hghi).trans e3)
        | fail)
    have hz4 := hq4.size
    have HO4 := Lib.hid (HO3.out.later hq4 (Nat.le_refl _))
    have hB4 := hB3.trans (hq4.mono (by omega))
    clear hb4 HO3 hB3 e0 e1 e2 e3 e0_4 e1_4 e2_4 e3_4
    clear x0_3 x1_3 x2_3 x3_3
    go_wp2_with fail
    refine (iDropAddr _ cap2 M a.fId _ (by exact HO4.out.rdv AddrD.cells_length) hle2 hcm2 (by omega)).mono ?_
    rintro e w5 ⟨v5, rfl, O5, hb5⟩
    rw [HDOK.out]
    obtain ⟨A5, cap5, rfl, hle5, hcm5, -⟩ := O5.rd0 AddrD.cells_length
    have hz5 := hb5.size
    have HO5 := Lib.hid (HO4.out.later hb5 (Nat.le_refl _))
    have HD5 := Lib.hid O5
    have hB5 := hB4.trans (hb5.mono (by omega))
    have x0_5 : w5.cell? ⟨w1.heap.size, 0, none⟩ = some (.int .i64 a.fId) := (hb5.cell (by show w1.heap.size < _; omega)).trans x0_4
    have x1_5 : w5.cell? ⟨w1.heap.size, 1, none⟩ = some (.int .i64 a.fAddr) := (hb5.cell (by show w1.heap.size < _; omega)).trans x1_4
    have x2_5 : w5.cell? ⟨w1.heap.size, 2, none⟩ = some (.bool a.fSpare) := (hb5.cell (by show w1.heap.size < _; omega)).trans x2_4
    have x3_5 : w5.cell? ⟨w1.heap.size, 3, none⟩ = some (.bool a.fTold) := (hb5.cell (by show w1.heap.size < _; omega)).trans x3_4
    clear hb5 HO4 hB4 O5
    clear x0_4 x1_4 x2_4 x3_4
    go_wp2_with fail
    refine (iUntoldOf _ cap2 M _ (by exact HO5.out.rdv AddrD.cells_length) (by omega)).mono ?_
    rintro e w6 ⟨v6, rfl, O6, hb6⟩
    obtain ⟨A6, cap6, rfl, -, hcm6, -⟩ := O6.rd0 icell_length
    have hz6 := hb6.size
    have HO6 := Lib.hid (HO5.out.later hb6 (Nat.le_refl _))
    have HD6 := Lib.hid (HD5.out.later hb6 (Nat.le_refl _))
    have hB6 := hB5.trans (hb6.mono (by omega))
    have x0_6 : w6.cell? ⟨w1.heap.size, 0, none⟩ = some (.int .i64 a.fId) := (hb6.cell (by show w1.heap.size < _; omega)).trans x0_5
    have x1_6 : w6.cell? ⟨w1.heap.size, 1, none⟩ = some (.int .i64 a.fAddr) := (hb6.cell (by show w1.heap.size < _; omega)).trans x1_5
    have x2_6 : w6.cell? ⟨w1.heap.size, 2, none⟩ = some (.bool a.fSpare) := (hb6.cell (by show w1.heap.size < _; omega)).trans x2_5
    have x3_6 : w6.cell? ⟨w1.heap.size, 3, none⟩ = some (.bool a.fTold) := (hb6.cell (by show w1.heap.size < _; omega)).trans x3_5
    clear hb6 HO5 HD5 hB5 O6
    clear x0_5 x1_5 x2_5 x3_5
    have hdl4 : (dropL M a.fId).length ≤ 4294967296 := by omega
    go_wp2_with fail
    refine (iUntoldOf _ cap5 (dropL M a.fId) _ (by exact HD6.out.rdv AddrD.cells_length) hdl4).mono ?_
    rintro e w7 ⟨v7, rfl, O7, hb7⟩
    obtain ⟨A7, cap7, rfl, -, hcm7, -⟩ := O7.rd0 icell_length
    have hz7 := hb7.size
    have HO7 := Lib.hid (HO6.out.later hb7 (Nat.le_refl _))
    have HD7 := Lib.hid (HD6.out.later hb7 (Nat.le_refl _))
    have hB7 := hB6.trans (hb7.mono (by omega))
    have x0_7 : w7.cell? ⟨w1.heap.size, 0, none⟩ = some (.int .i64 a.fId) := (hb7.cell (by show w1.heap.size < _; omega)).trans x0_6
    have x1_7 : w7.cell? ⟨w1.heap.size, 1, none⟩ = some (.int .i64 a.fAddr) := (hb7.cell (by show w1.heap.size < _; omega)).trans x1_6
    have x2_7 : w7.cell? ⟨w1.heap.size, 2, none⟩ = some (.bool a.fSpare) := (hb7.cell (by show w1.heap.size < _; omega)).trans x2_6
    have x3_7 : w7.cell? ⟨w1.heap.size, 3, none⟩ = some (.bool a.fTold) := (hb7.cell (by show w1.heap.size < _; omega)).trans x3_6
    clear hb7 HO6 HD6 hB6 O7
    clear x0_6 x1_6 x2_6 x3_6
    have hun := HUN.out
    have hU : (untold M).length ≤ M.length ∧ (untold (dropL M a.fId)).length ≤ M.length := ⟨untold_le M, Nat.le_trans (untold_le _) (by omega)⟩
    clear HUN
    generalize (untold M).length = U1 at hun hU ⊢
    generalize (untold (dropL M a.fId)).length = U2 at hun hU ⊢
    have dl : (((dropL M a.fId).length : Int) == (M.length : Int) - 1) = true := by simp; omega
    have dn : (((U1 : Int) - (U2 : Int)) == 1) = !a.fTold := by
      cases ht : a.fTold <;> rw [ht] at hun <;> simp at hun ⊢ <;> omega
    clear hun
    go_wp2_with fail
    refine (iAddrsOk _ cap2 M _ (by exact HO7.out.rdv AddrD.cells_length) hle2 hcm2).mono ?_
    rintro e w8 ⟨rfl, hb8⟩
    rw [HOM.out]
    have hz8 := hb8.size
    have HD8 := Lib.hid (HD7.out.later hb8 (Nat.le_refl _))
    have hB8 := hB7.trans (hb8.mono (by omega))
    have x0_8 : w8.cell? ⟨w1.heap.size, 0, none⟩ = some (.int .i64 a.fId) := (hb8.cell (by show w1.heap.size < _; omega)).trans x0_7
    have x1_8 : w8.cell? ⟨w1.heap.size, 1, none⟩ = some (.int .i64 a.fAddr) := (hb8.cell (by show w1.heap.size < _; omega)).trans x1_7
    have x2_8 : w8.cell? ⟨w1.heap.size, 2, none⟩ = some (.bool a.fSpare) := (hb8.cell (by show w1.heap.size < _; omega)).trans x2_7
    have x3_8 : w8.cell? ⟨w1.heap.size, 3, none⟩ = some (.bool a.fTold) := (hb8.cell (by show w1.heap.size < _; omega)).trans x3_7
    clear hb8 HO7 HD7 hB7
    clear x0_7 x1_7 x2_7 x3_7
    go_wp2_with fail
    refine (iAddrAt _ cap5 (dropL M a.fId) a.fId _ (by exact HD8.out.rdv AddrD.cells_length) (by omega)).mono ?_
    rintro e w9 ⟨rfl, hb9⟩
    rw [HDEL.out]
    have hB9 := hB8.trans (hb9.mono (by omega))
    have x0_9 : w9.cell? ⟨w1.heap.size, 0, none⟩ = some (.int .i64 a.fId) := (hb9.cell (by show w1.heap.size < _; omega)).trans x0_8
    have x1_9 : w9.cell? ⟨w1.heap.size, 1, none⟩ = some (.int .i64 a.fAddr) := (hb9.cell (by show w1.heap.size < _; omega)).trans x1_8
    have x2_9 : w9.cell? ⟨w1.heap.size, 2, none⟩ = some (.bool a.fSpare) := (hb9.cell (by show w1.heap.size < _; omega)).trans x2_8
    have x3_9 : w9.cell? ⟨w1.heap.size, 3, none⟩ = some (.bool a.fTold) := (hb9.cell (by show w1.heap.size < _; omega)).trans x3_8
    clear hb9 HD8 hB8
    clear x0_8 x1_8 x2_8 x3_8
    go_wp2
    go_ret
    exact ⟨rfl, hB9⟩
end Go.Proofs.Ytibjnpbkchopnaa
