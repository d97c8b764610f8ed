/- DropAddr (program and reference): for every slice that can be read. -/
import Derived.Test.YtibjnpbkchopnaaAddrAt
import Derived.Test.YtibjnpbkchopnaaAddrO
import Derived.Deep.RegionHeld3
import Derived.Deep.DrawnRows
namespace Go.Proofs.Ytibjnpbkchopnaa
set_option linter.unusedSimpArgs false
set_option linter.unusedVariables false
open Go.RowKit
attribute [local go_sem ↓] Go.wp_at_zero Go.wp_at_succ

theorem findI_lt {α : Type} (p : α → Bool) (L : List α) : findI p L < L.length := by
  induction L with
  | nil => simp [findI]
  | cons x L ih =>
    unfold findI
    by_cases h : p x = true
    · rw [if_pos h, List.length_cons]; omega
    · rw [if_neg h, List.length_cons]; simp only; split <;> omega
/-- What DropAddr computes. -/
def dropK (L : List AddrD) (k : Int) : List AddrD := if k < 0 then L else L.take k.toNat ++ L.drop (k.toNat + 1)
def dropL (L : List AddrD) (id : Int) : List AddrD := dropK L (addrAt L id)
def dropOk (L : List AddrD) (id : Int) : Bool := decide (0 ≤ addrAt L id)
theorem dropK_le (L : List AddrD) (k : Int) : (dropK L k).length ≤ L.length := by
  unfold dropK; split
  · exact Nat.le_refl _
  · rw [List.length_append, List.length_take, List.length_drop]; omega
theorem dropL_le (L : List AddrD) (id : Int) : (dropL L id).length ≤ L.length := dropK_le _ _
set_option maxHeartbeats 2000000 in
theorem iDropAddr (A : Option Addr) (cap : Nat) (L : List AddrD) (id : Int) (w : World) (hr : Rd AddrD.cells 4 w 0 w.heap.size A L) (hle : L.length ≤ cap) (hcm : cap ≤ maxLen) (hn : L.length ≤ 4294967295) :
    Calls Try.prog 23 #[.slice A L.length cap, .int .i64 id] w (RetSl w 40 AddrD.cells 4 (dropL L id) fun v => .tuple #[v, .bool (dropOk L id)]) := by
  unfold maxLen at hcm
  have hC := fun W hr => iAddrAt A cap L id W hr (by unfold maxLen; omega)
  have hlo := findI_lo (fun a : AddrD => a.fId == id) L
  have hlt := findI_lt (fun a : AddrD => a.fId == id) L
  have e1 : dropL L id = dropK L (addrAt L id) := rfl
  have e2 : dropOk L id = decide (0 ≤ addrAt L id) := rfl
  rw [e1, e2]
  clear e1 e2
  have HC := Lib.hid hC
  clear hC
  change addrAt L id = -1 ∨ 0 ≤ addrAt L id at hlo
  change addrAt L id < L.length at hlt
  generalize addrAt L id = z at *
  by_cases h0 : 0 ≤ z
  · obtain ⟨k, rfl⟩ := Int.eq_ofNat_of_zero_le h0
    have hk : k < L.length := by omega
    obtain ⟨g, o, rfl, _, hg, _⟩ := hr.at_ (by omega)
    have hm : Hid (dropK L (k : Int) = L.take k ++ L.drop (k + 1)) := by show dropK L (k : Int) = _; unfold dropK; rw [if_neg (by omega), Int.toNat_natCast]
    have b1 : (0 : Int) ≤ (k : Int) := by omega
    have b2 : (k : Int) ≤ (cap : Int) := by omega
    have b3 : (k : Int) + 1 ≤ (L.length : Int) := by omega
    have b4 : (L.length : Int) ≤ (cap : Int) := by omega
    have b5 : (0 : Int) ≤ (k : Int) + 1 := by omega
    have b7 : ((k : Int) + 1).toNat = k + 1 := by omega
    have b6 : IntKind.i64.wrap ((k : Int) + 1) = (k : Int) + 1 := IntWalk.i64_in _ (by omega)
    have d0 : decide ((k : Int) < 0) = false := by simp
    go_enter Try.func23, Try.ntmps23
    go_wp2_with fail
    refine (HC.out _ hr).mono ?_
    rintro e w1 ⟨rfl, hb1⟩
    have hz1 := hb1.size
    have hr1 := hr.later hb1 (Nat.le_refl _) hz1
    go_wp2_with fail
    obtain ⟨sel, hsel, hrs⟩ := cut_sel hr cap (k + 1) hle
    have HRS := Lib.hid hrs
    clear hrs
    go_region_held3 (fun _ => True) (trivial)
      (first
        | (go_at_call 34; refine (iCopyAddr _ k _ (L.take k) _ (by simp; omega) (by exact hr1.take k) (by simp; omega)).mono ?_; rintro e w2 ⟨v2, rfl, O2, hb2⟩; have hq2 : Below w.heap.size w w2 := (by first | exact hb1.trans (hb2.mono hz1) | exact hb1.drew.trans (hb2.mono hz1)); have hz2 : w1.heap.size ≤ w2.heap.size := hb2.size)
        | ((refine step_append_rd _ (by rfl) (.tmp 17) (.tmp 21) (by rfl) slAddr AddrD.cells_length AddrD.one w1.heap.size v2 (L.take k) (L.drop (k + 1)) (by rfl) O2 _ _ _ 0 w.heap.size (by rfl) (by simp) (by exact HRS.out.later hq2 (Nat.le_refl _) (Nat.le_refl _)) (by simp; omega) hz2 ?_; intro v3 w3 O3 G3 A3))
        | fail)
    have hq3 : Below w.heap.size w w3 := O2.below G3 hq2 (by exact hz1) (by omega)
    go_wp2
    go_ret2
    exact ⟨v3, rfl, by rw [hm.out]; exact O3.up hz1, hq3⟩
  · have hm : Hid (dropK L z = L) := by show dropK L z = _; unfold dropK; rw [if_pos (by omega)]
    have d0 : decide (z < 0) = true := by simp; omega
    have d1 : Hid (decide (0 ≤ z) = false) := by show decide (0 ≤ z) = false; simp; omega
    go_enter Try.func23, Try.ntmps23
    go_wp2_with fail
    refine (HC.out _ hr).mono ?_
    rintro e w1 ⟨rfl, hb1⟩
    have hz1 := hb1.size
    have hr1 := hr.later hb1 (Nat.le_refl _) hz1
    go_wp2_with fail
    refine (iCopyAddr _ _ _ L _ rfl hr1 (by omega)).mono ?_
    rintro e w2 ⟨v2, rfl, O2, hb2⟩
    go_wp2
    go_ret2
    exact ⟨v2, by rw [d1.out]; rfl, by rw [hm.out]; exact O2.up hz1, hb1.trans (hb2.mono hz1)⟩
set_option maxHeartbeats 2000000 in
theorem sDropAddr (A : Option Addr) (cap : Nat) (L : List AddrD) (id : Int) (w : World) (hr : Rd AddrD.cells 4 w 0 w.heap.size A L) (hle : L.length ≤ cap) (hcm : cap ≤ maxLen) (hn : L.length ≤ 4294967295) :
    Calls Try.prog 22 #[.slice A L.length cap, .int .i64 id] w (RetSl w 40 AddrD.cells 4 (dropL L id) fun v => .tuple #[v, .bool (dropOk L id)]) := by
  unfold maxLen at hcm
  have hC := fun W hr => sAddrAt A cap L id W hr (by unfold maxLen; omega)
  have hlo := findI_lo (fun a : AddrD => a.fId == id) L
  have hlt := findI_lt (fun a : AddrD => a.fId == id) L
  have e1 : dropL L id = dropK L (addrAt L id) := rfl
  have e2 : dropOk L id = decide (0 ≤ addrAt L id) := rfl
  rw [e1, e2]
  clear e1 e2
  have HC := Lib.hid hC
  clear hC
  change addrAt L id = -1 ∨ 0 ≤ addrAt L id at hlo
  change addrAt L id < L.length at hlt
  generalize addrAt L id = z at *
  by_cases h0 : 0 ≤ z
  · obtain ⟨k, rfl⟩ := Int.eq_ofNat_of_zero_le h0
    have hk : k < L.length := by omega
    obtain ⟨g, o, rfl, _, hg, _⟩ := hr.at_ (by omega)
    have hm : Hid (dropK L (k : Int) = L.take k ++ L.drop (k + 1)) := by show dropK L (k : Int) = _; unfold dropK; rw [if_neg (by omega), Int.toNat_natCast]
    have b1 : (0 : Int) ≤ (k : Int) := by omega
    have b2 : (k : Int) ≤ (cap : Int) := by omega
    have b3 : (k : Int) + 1 ≤ (L.length : Int) := by omega
    have b4 : (L.length : Int) ≤ (cap : Int) := by omega
    have d0 : decide ((k : Int) < 0) = false := by simp
    have hE := Own.empty (c := AddrD.cells) (sz := 4) w w.heap.size 40 (Nat.le_refl _)
    have HE := Lib.hid hE
    clear hE
    have hrE : Rd AddrD.cells 4 (w.alloc (.cells #[] 40)) 0 w.heap.size (some ⟨g, o, none⟩) L := hr.keep fun p _ hp => World.cell?_alloc_lt w _ p hp
    obtain ⟨sel, hsel, hrs⟩ := cut_sel hr cap (k + 1) hle
    have HRS := Lib.hid hrs
    clear hrs
    go_enter Try.func22, Try.ntmps22
    go_wp2_with fail
    refine (HC.out _ hr).mono ?_
    rintro e ws ⟨rfl, rfl⟩
    go_wp2_with (first
      | (at_builtin; refine wpList_append_rd _ rfl (.tmp 16) (.tmp 19) rfl slAddr AddrD.cells_length AddrD.one w.heap.size _ [] (L.take k) rfl HE.out _ _ _ 0 w.heap.size rfl (by simp; omega) (hrE.take k) (by simp; omega) (by simp) ?_; intro v1 w1 O1 G1 A1; have hq1 : Below w.heap.size w w1 := HE.out.below G1 (by go_grown) (Nat.le_refl _) (by simp); have hz1 := hq1.size)
      | (at_builtin; refine wpList_append_rd _ rfl (.tmp 21) (.tmp 25) rfl slAddr AddrD.cells_length AddrD.one w.heap.size v1 ([] ++ L.take k) (L.drop (k + 1)) rfl O1 _ _ _ 0 w.heap.size rfl (by simp) (by exact HRS.out.later hq1 (Nat.le_refl _) (Nat.le_refl _)) (by simp; omega) hz1 ?_; intro v2 w2 O2 G2 A2))
    have hq2 : Below w.heap.size w w2 := O1.below G2 hq1 (Nat.le_refl _) hz1
    go_ret2
    exact ⟨v2, rfl, by rw [hm.out]; exact O2, hq2⟩
  · have hm : Hid (dropK L z = L) := by show dropK L z = _; unfold dropK; rw [if_pos (by omega)]
    have d0 : decide (z < 0) = true := by simp; omega
    have d1 : Hid (decide (0 ≤ z) = false) := by show decide (0 ≤ z) = false; simp; omega
    have hrE : Rd AddrD.cells 4 (w.alloc (.cells #[] 40)) 0 w.heap.size A L := hr.keep fun p _ hp => World.cell?_alloc_lt w _ p hp
    go_enter Try.func22, Try.ntmps22
    go_wp2_with fail
    refine (HC.out _ hr).mono ?_
    rintro e ws ⟨rfl, rfl⟩
    go_wp2_with (at_builtin; refine wpList_append_rd _ rfl (.tmp 13) (.tmp 14) rfl slAddr AddrD.cells_length AddrD.one w.heap.size _ [] L rfl (Own.empty w w.heap.size _ (Nat.le_refl _)) A L.length cap 0 w.heap.size rfl rfl hrE (by simp; omega) (by simp) ?_; intro v1 w1 O1 G1 A1)
    go_ret2
    exact ⟨v1, by rw [d1.out]; rfl, by rw [hm.out]; exact O1, (Own.empty w w.heap.size _ (Nat.le_refl _)).below (c := AddrD.cells) (sz := 4) G1 (by go_grown) (Nat.le_refl _) (by simp)⟩
end Go.Proofs.Ytibjnpbkchopnaa
