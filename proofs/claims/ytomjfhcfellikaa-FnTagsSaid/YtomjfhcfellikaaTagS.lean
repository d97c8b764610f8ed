/- toTag, toTagS, eqTag, eqTagS, markTagS, heldTagS, szTagS: for every slice that can be read. -/
import Derived.Test.YtomjfhcfellikaaTy
import Derived.Test.YtomjfhcfellikaaPart
import Derived.Test.YtomjfhcfellikaaMark
import Derived.StillTailTactics
namespace Go.Proofs.Ytomjfhcfellikaa
set_option linter.unusedSimpArgs false
set_option linter.unusedVariables false
open Go.RowKit

theorem toTag_any (x : TagD) (w : World) : Calls Try.prog 17 #[x.val] w fun e w' => e = .returned x.val ∧ Below w.heap.size w w' := by
  go_enter Try.func17, Try.ntmps17
  go_wp2
  go_returns
  exact ⟨rfl, by go_grown⟩
theorem infoTag : (Try.prog.info? 23).map (fun i => (i.zero, i.size, i.bytes)) = some (some (.agg #[.int .i64 0, .int .i64 0, .int .i64 0, .int .i64 0, .int .i64 0]), 5, 40) := by kernel_rfl
set_option maxHeartbeats 400000 in
theorem toTagS_any (A : Option Addr) (cap : Nat) (L : List TagD) (w : World) (hr : Rd TagD.cells 5 w 0 w.heap.size A L) (hn : L.length ≤ 1048576) :
    Calls Try.prog 33 #[.slice A L.length cap] w fun e w' => e = .returned (.slice (some ⟨w.heap.size, 0, none⟩) L.length L.length) ∧ w'.heap[w.heap.size]? = some (.cells (L.flatMap TagD.cells).toArray 23 (0, 0)) ∧ Below w.heap.size w w' := by
  obtain ⟨i0, hi0, hz0, hz1, hz2⟩ := info_parts infoTag
  go_enter Try.func33, Try.ntmps33
  go_wp2_with (at_make; refine wpList_make_full _ rfl _ _ _ rfl w.heap.size 23 i0 _ 5 Try.underlying33 hi0 hz0 hz1 _ _ _ _ L.length rfl rfl (by omega) (by omega) (by rw [hz2]; omega) (by simp only [maxLen]; omega) (Nat.le_refl _) ?_; intro w1 hown1 hg1)
  have hF := Fill.start (c := TagD.cells) hown1
  have hB : Below w.heap.size w w1 := (Below.refl _ _).grown hg1 (Nat.le_refl _) (by simp)
  have hlt1 : w.heap.size < w1.heap.size := by obtain ⟨rest, _, h⟩ := hF; exact (Array.getElem?_eq_some_iff.1 h).1
  clear hown1 hg1
  go_loopw [4] (fun i wr => ∃ k : Nat, k ≤ L.length ∧ i = .int .i64 k ∧ Fill wr w.heap.size 23 TagD.cells 5 L k ∧ Below w.heap.size w wr ∧ w.heap.size < wr.heap.size) (fun i _ => L.length - (intOf i).toNat)
  case atStart => exact ⟨0, Nat.zero_le _, rfl, hF, hB, hlt1⟩
  case round =>
    obtain ⟨k, hk, rfl, hF, hB, hsz⟩ := hrel
    by_cases hlt : k < L.length
    · obtain ⟨g, o, rfl, _, hg, hcell⟩ := hr.at_ (by omega)
      have hx : ∀ j v, (L[k].cells)[j]? = some v → wr.cell? ⟨g, o + k * 5 + j, none⟩ = some v := fun j v hv => by
        have hj : j < 5 := (List.getElem?_eq_some_iff.1 hv).1
        rw [hB.cell (p := ⟨g, o + k * 5 + j, none⟩) hg, hcell k hlt j hj, hv]
      have HX := Lib.hid hx
      clear hx hcell
      obtain ⟨rest, hrest, hG⟩ := hF
      have HR := Lib.hid hrest
      have HG := Lib.hid hG
      clear hrest hG
      have hki : (k : Int) < (L.length : Int) := by omega
      go_wp2_with (first
        | (refine wpList_load_part rfl 31 (.tmp 18) rfl g _ rfl L[k].cells _ HX.out Try.underlying31 rfl (by kernel_rfl) ?_)
        | (go_at_call 17; refine (toTag_any L[k] _).mono ?_; rintro e w2 ⟨rfl, hb2⟩)
        | (refine wpList_store_part rfl rfl 23 (.tmp 21) (.tmp 20) rfl w.heap.size (k * 5) rfl 23 _ L[k].arr rfl ((hb2.block _ hsz).trans HG.out) (Fill.size TagD.cells_length hlt HR.out) (by kernel_rfl) (by simp [Value.oneCell']) ?_; intro w3 hg3 hgr3 hs3))
      have hF3 := Fill.step TagD.cells_length hlt HR.out rfl hg3
      have hB2 : Below w.heap.size w w2 := hB.trans (hb2.mono (by omega))
      have hB3 : Below w.heap.size w w3 := hB2.grown hgr3 (by have := hB2.size; omega) (by rintro q ⟨⟩; exact Nat.le_refl _)
      have hsz3 : w.heap.size < w3.heap.size := by rw [hs3]; have := hb2.size; omega
      clear hg3 hgr3 hs3 HX HR HG hb2
      go_roundw
      case rel => exact ⟨k + 1, by omega, by go_num, hF3, hB3, hsz3⟩
      case measure => simp [intOf]; omega
    · go_wp2
      go_ret
      obtain rfl : k = L.length := by omega
      exact ⟨rfl, hF.done, hB⟩
theorem eqTag_same (x : TagD) (w : World) : Calls Try.prog 11 #[x.val, x.val] w fun e w' => e = .returned (.bool true) ∧ Below w.heap.size w w' := by
  go_enter Try.func11, Try.ntmps11
  go_wp2
  go_ret
  exact ⟨rfl, by go_grown⟩
set_option maxHeartbeats 400000 in
theorem eqTagS_same (A B : Option Addr) (ca cb : Nat) (L : List TagD) (w : World) (hr : Rd TagD.cells 5 w 0 w.heap.size A L) (hr2 : Rd TagD.cells 5 w 0 w.heap.size B L) (hn : L.length ≤ maxLen) :
    Calls Try.prog 36 #[.slice A L.length ca, .slice B L.length cb] w fun e w' => e = .returned (.bool true) ∧ Below w.heap.size w w' := by
  unfold maxLen at hn
  go_enter Try.func36, Try.ntmps36
  go_wp2_with fail
  go_loopw [5] (fun i wr => ∃ k : Nat, k ≤ L.length ∧ i = .int .i64 k ∧ Below w.heap.size w wr) (fun i _ => L.length - (intOf i).toNat)
  case atStart => exact ⟨0, Nat.zero_le _, rfl, Below.refl _ _⟩
  case round =>
    obtain ⟨k, hk, rfl, hB⟩ := hrel
    by_cases hlt : k < L.length
    · obtain ⟨g, o, rfl, _, hg, hcell⟩ := hr.at_ (by omega)
      obtain ⟨g2, o2, rfl, _, hg2, hcell2⟩ := hr2.at_ (by omega)
      have hx : ∀ j v, (L[k].cells)[j]? = some v → wr.cell? ⟨g, o + k * 5 + j, none⟩ = some v := fun j v hv => by
        have hj : j < 5 := (List.getElem?_eq_some_iff.1 hv).1
        rw [hB.cell (p := ⟨g, o + k * 5 + j, none⟩) hg, hcell k hlt j hj, hv]
      have hy : ∀ j v, (L[k].cells)[j]? = some v → wr.cell? ⟨g2, o2 + k * 5 + j, none⟩ = some v := fun j v hv => by
        have hj : j < 5 := (List.getElem?_eq_some_iff.1 hv).1
        rw [hB.cell (p := ⟨g2, o2 + k * 5 + j, none⟩) hg2, hcell2 k hlt j hj, hv]
      have a0 : wr.cell? ⟨g, o + k * 5, none⟩ = some (.int .i64 L[k].fKind) := hx 0 _ rfl
      have b0 : wr.cell? ⟨g2, o2 + k * 5, none⟩ = some (.int .i64 L[k].fKind) := hy 0 _ rfl
      have a1 : wr.cell? ⟨g, o + k * 5 + 1, none⟩ = some (.int .i64 L[k].fOne) := hx 1 _ rfl
      have b1 : wr.cell? ⟨g2, o2 + k * 5 + 1, none⟩ = some (.int .i64 L[k].fOne) := hy 1 _ rfl
      have a2 : wr.cell? ⟨g, o + k * 5 + 2, none⟩ = some (.int .i64 L[k].fTwo) := hx 2 _ rfl
      have b2 : wr.cell? ⟨g2, o2 + k * 5 + 2, none⟩ = some (.int .i64 L[k].fTwo) := hy 2 _ rfl
      have a3 : wr.cell? ⟨g, o + k * 5 + 3, none⟩ = some (.int .i64 L[k].fA) := hx 3 _ rfl
      have b3 : wr.cell? ⟨g2, o2 + k * 5 + 3, none⟩ = some (.int .i64 L[k].fA) := hy 3 _ rfl
      have a4 : wr.cell? ⟨g, o + k * 5 + 4, none⟩ = some (.int .i64 L[k].fB) := hx 4 _ rfl
      have b4 : wr.cell? ⟨g2, o2 + k * 5 + 4, none⟩ = some (.int .i64 L[k].fB) := hy 4 _ rfl
      clear hx hy hcell hcell2
      have hki : (k : Int) < (L.length : Int) := by omega
      have hk0 : (0 : Int) ≤ (k : Int) := by omega
      go_wp2_with fail
      go_still_tail 8, (by kernel_rfl)
      go_wp2_with (go_at_call 11; refine (eqTag_same L[k] _).mono ?_; rintro e w2 ⟨rfl, hb2⟩)
      have hB2 : Below w.heap.size w w2 := hB.trans (Below.trans (Below.drew (Below.refl _ _)) (hb2.mono (by have := hB.size; simpa using this)))
      clear hb2 a0 b0 a1 b1 a2 b2 a3 b3 a4 b4
      go_roundw
      case rel => exact ⟨k + 1, by omega, by go_num, hB2⟩
      case measure => simp [intOf]; omega
    · go_wp2
      go_ret
      exact ⟨rfl, hB⟩
/-- What markTagS writes into element i, from k0 on. -/
def mkTag (k0 : Int) (i : Nat) : TagD := ⟨k0 + 5 * (i : Int), k0 + 5 * (i : Int) + 1, k0 + 5 * (i : Int) + 1 + 1, k0 + 5 * (i : Int) + 1 + 1 + 1, k0 + 5 * (i : Int) + 1 + 1 + 1 + 1⟩
set_option maxRecDepth 100000 in
set_option maxHeartbeats 2000000 in
theorem markTagS_any (g n cap base : Nat) (xs : List Value) (k0 : Int) (w : World) (hown : w.ownsRow base 23 5 (.slice (some ⟨g, 0, none⟩) n cap) n xs) (hnc : n ≤ cap) (hm : cap ≤ maxLen) (hb : base ≤ g) (h0 : 0 ≤ k0) (h1 : k0 ≤ 1000000000) (hn : n ≤ 2000000) :
    Calls Try.prog 38 #[.slice (some ⟨g, 0, none⟩) n cap, .int .i64 k0] w fun e w' => e = .returned (.int .i64 (k0 + 5 * (n : Int))) ∧ w'.ownsRow base 23 5 (.slice (some ⟨g, 0, none⟩) n cap) n ((markL (mkTag k0) n).flatMap TagD.cells) ∧ w.grownBy w' (some g) := by
  have hP := PM.start (c := TagD.cells) (mkTag k0) hown
  clear hown
  go_enter Try.func38, Try.ntmps38
  go_wp2_with fail
  go_loopw [1, 5] (fun q i wr => ∃ k : Nat, k ≤ n ∧ i = .int .i64 k ∧ q = .int .i64 (k0 + 5 * (k : Int)) ∧ PM wr g 23 (cap * 5) (pat TagD.cells 5 (mkTag k0)) (k * 5) ∧ w.grownBy wr (some g)) (fun _ i _ => n - (intOf i).toNat)
  case atStart => exact ⟨0, Nat.zero_le _, rfl, by simp, by simpa using hP, World.grownBy.refl w _⟩
  case round =>
    obtain ⟨k, hk, rfl, rfl, hP, hG⟩ := hrel
    by_cases hlt : k < n
    · have hcap : k * 5 + 5 ≤ cap * 5 := by omega
      obtain ⟨u0, c0⟩ := hP.cell (i := k * 5) (by omega)
      have f0 := hP.free (k * 5)
      obtain ⟨u1, c1⟩ := hP.cell (i := k * 5 + 1) (by omega)
      have f1 := hP.free (k * 5 + 1)
      obtain ⟨u2, c2⟩ := hP.cell (i := k * 5 + 2) (by omega)
      have f2 := hP.free (k * 5 + 2)
      obtain ⟨u3, c3⟩ := hP.cell (i := k * 5 + 3) (by omega)
      have f3 := hP.free (k * 5 + 3)
      obtain ⟨u4, c4⟩ := hP.cell (i := k * 5 + 4) (by omega)
      have f4 := hP.free (k * 5 + 4)
      have HP := Lib.hid (((((hP.step (by omega) (pat_at (mkTag k0) k 0 (by decide) rfl)).step (by omega) (pat_at (mkTag k0) k 1 (by decide) rfl)).step (by omega) (pat_at (mkTag k0) k 2 (by decide) rfl)).step (by omega) (pat_at (mkTag k0) k 3 (by decide) rfl)).step (by omega) (pat_at (mkTag k0) k 4 (by decide) rfl))
      have HG := Lib.hid (only_set (only_set (only_set (only_set (only_set hG (k * 5) (.int .i64 (k0 + 5 * (k : Int)))) (k * 5 + 1) (.int .i64 (k0 + 5 * (k : Int) + 1))) (k * 5 + 2) (.int .i64 (k0 + 5 * (k : Int) + 1 + 1))) (k * 5 + 3) (.int .i64 (k0 + 5 * (k : Int) + 1 + 1 + 1))) (k * 5 + 4) (.int .i64 (k0 + 5 * (k : Int) + 1 + 1 + 1 + 1)))
      clear hP hG
      have hki : (k : Int) < (n : Int) := by omega
      go_wp2
      go_roundw
      case rel => exact ⟨k + 1, by omega, by go_num, by go_num, by rw [show (k + 1) * 5 = k * 5 + 1 + 1 + 1 + 1 + 1 from by omega]; exact HP.out, HG.out⟩
      case measure => simp [intOf]; omega
    · obtain rfl : k = n := by omega
      go_wp2
      go_ret
      exact ⟨rfl, PM.done TagD.cells_length hb hnc hm hP, hG⟩
set_option maxRecDepth 100000 in
set_option maxHeartbeats 2000000 in
theorem heldTagS_any (A : Option Addr) (n cap : Nat) (k0 : Int) (w : World) (lo hi : Nat) (hr : Rd TagD.cells 5 w lo hi A (markL (mkTag k0) n)) (h0 : 0 ≤ k0) (h1 : k0 ≤ 1000000000) (hn : n ≤ 2000000) :
    Calls Try.prog 40 #[.slice A n cap, .int .i64 k0] w fun e w' => e = .returned (.int .i64 (k0 + 5 * (n : Int))) ∧ w = w' := by
  have hl := markL_length (mkTag k0) n
  have HL := Lib.hid hl
  clear hl
  go_enter Try.func40, Try.ntmps40
  go_wp2_with fail
  go_loop [1, 5] (fun q i => ∃ k : Nat, k ≤ n ∧ i = .int .i64 k ∧ q = .int .i64 (k0 + 5 * (k : Int))) (fun _ i => n - (intOf i).toNat)
  case atStart => exact ⟨0, Nat.zero_le _, rfl, by simp⟩
  case round =>
    obtain ⟨k, hk, rfl, rfl⟩ := hrel
    by_cases hlt : k < n
    · obtain ⟨g, o, rfl, _, _, hcell⟩ := hr.at_ (by rw [HL.out]; omega)
      have hx : ∀ j v, ((mkTag k0 k).cells)[j]? = some v → w.cell? ⟨g, o + k * 5 + j, none⟩ = some v := fun j v hv => by
        have hj : j < 5 := (List.getElem?_eq_some_iff.1 hv).1
        rw [hcell k (by rw [HL.out]; omega) j hj, markL_get, hv]
      have a0 : w.cell? ⟨g, o + k * 5, none⟩ = some (.int .i64 (k0 + 5 * (k : Int))) := hx 0 _ rfl
      have a1 : w.cell? ⟨g, o + k * 5 + 1, none⟩ = some (.int .i64 (k0 + 5 * (k : Int) + 1)) := hx 1 _ rfl
      have a2 : w.cell? ⟨g, o + k * 5 + 2, none⟩ = some (.int .i64 (k0 + 5 * (k : Int) + 1 + 1)) := hx 2 _ rfl
      have a3 : w.cell? ⟨g, o + k * 5 + 3, none⟩ = some (.int .i64 (k0 + 5 * (k : Int) + 1 + 1 + 1)) := hx 3 _ rfl
      have a4 : w.cell? ⟨g, o + k * 5 + 4, none⟩ = some (.int .i64 (k0 + 5 * (k : Int) + 1 + 1 + 1 + 1)) := hx 4 _ rfl
      clear hx hcell
      have hki : (k : Int) < (n : Int) := by omega
      go_wp2
      go_round
      case rel => exact ⟨k + 1, by omega, by go_num, by go_num⟩
      case measure => simp [intOf]; omega
    · obtain rfl : k = n := by omega
      go_wp2
      go_ret
      exact ⟨rfl, rfl⟩
theorem szTagS_any (A : Option Addr) (n cap : Nat) (l : Int) (w : World) (h0 : 0 ≤ l) (h1 : l ≤ 1048576) (hn : n ≤ maxLen) : Calls Try.prog 31 #[.slice A n cap, .int .i64 l] w fun e w' => e = .returned (.int .i64 (szI l n)) ∧ w = w' := by
  unfold maxLen at hn
  by_cases h : (n : Int) ≤ l
  · have hv : Hid (szI l n = l - n) := if_pos h
    go_enter Try.func31, Try.ntmps31
    go_wp2
    go_ret
    exact ⟨ret_int hv.out.symm, rfl⟩
  · have hv : Hid (szI l n = -1) := if_neg h
    go_enter Try.func31, Try.ntmps31
    go_wp2
    go_ret
    exact ⟨ret_int hv.out.symm, rfl⟩
end Go.Proofs.Ytomjfhcfellikaa
