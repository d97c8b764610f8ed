/- RunBucket (program and reference): for every argument. -/
import Derived.Test.YtkeldhffhiekpaaFilled
import Derived.Test.YtkeldhffhiekpaaIntS
import Derived.Test.YtkeldhffhiekpaaBoolS
import Derived.Test.YtkeldhffhiekpaaRet
namespace Go.Proofs.Ytkeldhffhiekpaa
set_option linter.unusedSimpArgs false
set_option linter.unusedVariables false
open Go.RowKit

def tk (r b : Int) (s : Int × List Bool) : Int × List Bool := (takeH r b s.1, s.2 ++ [takeOk r b s.1])
def tks (r b : Int) : Nat → Int × List Bool → Int × List Bool
  | 0, s => s
  | n + 1, s => tk r b (tks r b n s)
def cntN (n : Int) : Nat := (min n 20).toNat
def rndB (r b : Int) (s : Int × List Bool) (n : Int) : Int × List Bool := tks r b (cntN n) (fillH r b s.1 1, s.2)
def runTo (r b h : Int) (L : List Int) (k : Nat) : Int × List Bool := (L.take k).foldl (rndB r b) (h, [])
def runOk (r b h : Int) (L : List Int) : Bool := bokB r b h && decide ((L.length : Int) ≤ 200)
/-- What RunBucket computes. -/
def runB (r b h : Int) (L : List Int) : List Bool := if runOk r b h L then (runTo r b h L L.length).2 else []
theorem runTo_succ {r b h : Int} {L : List Int} {k : Nat} (hk : k < L.length) : runTo r b h L (k + 1) = rndB r b (runTo r b h L k) L[k] := by
  unfold runTo; rw [List.take_succ_eq_append_getElem hk, List.foldl_append]; rfl
theorem tks_len (r b : Int) (n : Nat) (s : Int × List Bool) : (tks r b n s).2.length = s.2.length + n := by
  induction n with
  | zero => rfl
  | succ n ih => simp only [tks, tk, List.length_append, ih, List.length_singleton]; omega
theorem cntN_le (n : Int) : cntN n ≤ 20 := by unfold cntN; omega
theorem runTo_len (r b h : Int) (L : List Int) : ∀ k, k ≤ L.length → (runTo r b h L k).2.length ≤ 20 * k
  | 0, _ => Nat.zero_le _
  | k + 1, hk => by
    rw [runTo_succ (by omega)]
    unfold rndB
    rw [tks_len]
    have := runTo_len r b h L k (by omega)
    have := cntN_le L[k]
    simp only
    omega
theorem runB_le (r b h : Int) (L : List Int) : (runB r b h L).length ≤ 4000 := by
  unfold runB
  split
  · rename_i h1
    have := runTo_len r b h L L.length (Nat.le_refl _)
    unfold runOk at h1
    simp at h1
    omega
  · exact Nat.zero_le _
theorem run_yes {r b h : Int} {L : List Int} (h1 : runOk r b h L = true) : runB r b h L = (runTo r b h L L.length).2 := if_pos h1
theorem run_no {r b h : Int} {L : List Int} (h1 : runOk r b h L = false) : runB r b h L = [] := by unfold runB; rw [h1]; rfl
set_option maxRecDepth 100000 in
set_option maxHeartbeats 4000000 in
theorem iRunBucket (r b h : Int) (A : Option Addr) (cap : Nat) (L : List Int) (w : World) (hr : Rd icell 1 w 0 w.heap.size A L) (hm : L.length ≤ maxLen) :
    Calls Try.prog 24 #[bkt r b h, .slice A L.length cap] w (RetSl w 4 bocell 1 (runB r b h L) fun v => v) := by
  unfold maxLen at hm
  have hW : Below w.heap.size w (w.alloc (.cells #[.int .i64 r, .int .i64 b, .int .i64 h] 25)) := by go_grown
  by_cases k0 : bokB r b h = true
  · by_cases k1 : (L.length : Int) ≤ 200
    · have hv := Lib.hid (run_yes (show runOk r b h L = true by unfold runOk; rw [k0]; simpa using k1))
      have d1 : decide ((200 : Int) < (L.length : Int)) = false := by simp; omega
      go_enter Try.func24, Try.ntmps24
      go_wp2_with fail
      refine (iBucketOk r b h _).mono ?_
      rintro e w1 ⟨rfl, hb1⟩
      have hz1 := hb1.size
      simp at hz1
      have hB1 : Below w.heap.size w w1 := hW.trans (hb1.mono hW.size)
      have G1 := Lib.hid ((hb1.block w.heap.size (by simp)).trans (heap_alloc_new w _))
      clear hb1
      go_wp2_with fail
      go_loopw [5, 21] (fun v i wr => ∃ k : Nat, k ≤ L.length ∧ i = .int .i64 k ∧ Own wr (w.heap.size + 1) 4 bocell 1 v (runTo r b h L k).2 ∧ wr.heap[w.heap.size]? = some (.cells #[.int .i64 r, .int .i64 b, .int .i64 (runTo r b h L k).1] 25 (0, 0)) ∧ Below w.heap.size w wr) (fun _ i _ => L.length - (intOf i).toNat)
      case atStart => exact ⟨0, Nat.zero_le _, rfl, Own.nil _ _ _, G1.out, hB1⟩
      case round =>
        obtain ⟨k, hk, rfl, hO, hG, hB⟩ := hrel
        obtain ⟨wo, rfl⟩ : ∃ wo : World, wo = wr := ⟨_, rfl⟩
        have hBz := hB.size
        have hGl : w.heap.size < wo.heap.size := (Array.getElem?_eq_some_iff.1 hG).1
        by_cases hlt : k < L.length
        · obtain ⟨g, o, rfl, _, hg, hcell⟩ := hr.at_ (by omega)
          have a0 : wo.cell? ⟨g, o + k, none⟩ = some (.int .i64 L[k]) := by
            have := hcell k hlt 0 (by decide)
            rw [hB.cell (p := ⟨g, o + k, none⟩) hg]
            simpa using this
          clear hcell
          have hki : (k : Int) < (L.length : Int) := by omega
          have hst := Lib.hid (runTo_succ (r := r) (b := b) (h := h) hlt)
          have hln := runTo_len r b h L k hk
          obtain ⟨s, hs⟩ : ∃ s, s = runTo r b h L k := ⟨_, rfl⟩
          rw [← hs] at hO hG hst hln
          clear hs
          obtain ⟨h', out⟩ := s
          simp only at hO hG hln
          have r0 : wo.cell? ⟨w.heap.size, 0, none⟩ = some (.int .i64 r) := by rw [cell_of_row _ _ _ _ _ (0, 0) hG]; rfl
          have r1 : wo.cell? ⟨w.heap.size, 1, none⟩ = some (.int .i64 b) := by rw [cell_of_row _ _ _ _ _ (0, 0) hG]; rfl
          have r2 : wo.cell? ⟨w.heap.size, 2, none⟩ = some (.int .i64 h') := by rw [cell_of_row _ _ _ _ _ (0, 0) hG]; rfl
          have HG := Lib.hid hG
          have HO := Lib.hid hO
          clear hG hO
          obtain ⟨n, hn⟩ : ∃ n, n = L[k] := ⟨_, rfl⟩
          rw [← hn] at a0 hst
          clear hn
          go_wp2_with fail
          refine (iFilled r b h' 1 _).mono ?_
          rintro e w2 ⟨rfl, hb2⟩
          have hz2 := hb2.size
          have HG2 := Lib.hid ((hb2.block w.heap.size hGl).trans HG.out)
          have HO2 := Lib.hid (HO.out.later hb2 (Nat.le_refl _))
          have hB2 : Below w.heap.size w w2 := hB.trans (hb2.mono (by omega))
          clear r0 r1 r2 HG HO hb2
          go_wp2_with (refine wpList_store_row rfl rfl 25 (.tmp 2) (.tmp 26) rfl w.heap.size rfl 25 _ _ rfl HG2.out rfl (by kernel_rfl) (by simp [Value.oneCell']) ?_; intro w3 hg3 hgr3 hs3)
          have HG3 := Lib.hid hg3
          have HO3 := Lib.hid (HO2.out.grown hgr3 (fun q e1 e2 => by have := (HO2.out.lt e2).1; cases e1; omega))
          have hB3 : Below w.heap.size w w3 := hB2.grown hgr3 (by omega) (by rintro q ⟨⟩; exact Nat.le_refl _)
          have hc20 := cntN_le n
          have hcn : ((cntN n : Nat) : Int) = max 0 (min n 20) := by unfold cntN; omega
          have hcb : Hid (cntN n = cntN n) := rfl
          obtain ⟨c, hc⟩ : ∃ c, c = cntN n := ⟨_, rfl⟩
          have hst2 : Hid (runTo r b h L (k + 1) = tks r b c (fillH r b h' 1, out)) := by show _ = _; rw [hst.out, hc]; rfl
          rw [← hc] at hc20 hcn
          clear hc hcb hg3 hgr3 HG2 HO2
          obtain ⟨h2, hh2⟩ : ∃ h2, h2 = fillH r b h' 1 := ⟨_, rfl⟩
          rw [← hh2] at HG3 hst2
          clear hh2
          go_loopw [5, 8] (fun v i wr => ∃ j : Nat, j ≤ c ∧ i = .int .i64 j ∧ Own wr (w.heap.size + 1) 4 bocell 1 v (tks r b j (h2, out)).2 ∧ wr.heap[w.heap.size]? = some (.cells #[.int .i64 r, .int .i64 b, .int .i64 (tks r b j (h2, out)).1] 25 (0, 0)) ∧ Below w.heap.size w wr) (fun _ i _ => c - (intOf i).toNat)
          case atStart => exact ⟨0, Nat.zero_le _, rfl, HO3.out, HG3.out, hB3⟩
          case round =>
            obtain ⟨j, hj, rfl, hO, hG, hB4⟩ := hrel
            have hBz4 := hB4.size
            have hGl4 : w.heap.size < wr.heap.size := (Array.getElem?_eq_some_iff.1 hG).1
            by_cases hjc : j < c
            · have hln2 := tks_len r b j (h2, out)
              have hts : Hid (tks r b (j + 1) (h2, out) = tk r b (tks r b j (h2, out))) := rfl
              obtain ⟨s, hs⟩ : ∃ s, s = tks r b j (h2, out) := ⟨_, rfl⟩
              rw [← hs] at hO hG hln2 hts
              clear hs
              obtain ⟨h3, out3⟩ := s
              simp only at hO hG hln2
              have HL2 := Lib.hid hln2
              clear hln2
              have hlo : out3.length ≤ 5000 := by rw [HL2.out]; omega
              have r0 : wr.cell? ⟨w.heap.size, 0, none⟩ = some (.int .i64 r) := by rw [cell_of_row _ _ _ _ _ (0, 0) hG]; rfl
              have r1 : wr.cell? ⟨w.heap.size, 1, none⟩ = some (.int .i64 b) := by rw [cell_of_row _ _ _ _ _ (0, 0) hG]; rfl
              have r2 : wr.cell? ⟨w.heap.size, 2, none⟩ = some (.int .i64 h3) := by rw [cell_of_row _ _ _ _ _ (0, 0) hG]; rfl
              have HG := Lib.hid hG
              have HO := Lib.hid hO
              clear hG hO
              have hjn : (j : Int) < n := by omega
              have hj20 : (j : Int) < 20 := by omega
              by_cases hn20 : n ≤ 20
              all_goals
                go_wp2_with fail
                refine (iTakeOne r b h3 _).mono ?_
                rintro e w5 ⟨rfl, hb5⟩
                have hz5 := hb5.size
                have HG5 := Lib.hid ((hb5.block w.heap.size hGl4).trans HG.out)
                have HO5 := Lib.hid (HO.out.later hb5 (Nat.le_refl _))
                have hB5 : Below w.heap.size w w5 := hB4.trans (hb5.mono (by omega))
                clear r0 r1 r2 hb5
                go_wp2_with (first
                  | (refine wpList_store_row rfl rfl 25 (.tmp 2) (.tmp 38) rfl w.heap.size rfl 25 #[.int .i64 r, .int .i64 b, .int .i64 h3] #[.int .i64 r, .int .i64 b, .int .i64 (takeH r b h3)] (by rfl) (by exact (Below.heap_alloc _ _ _ (by omega)).trans HG5.out) (by rfl) (by kernel_rfl) (by simp [Value.oneCell']) ?_; intro w6 hg6 hgr6 hs6; have HG6 := Lib.hid hg6; have HO6 := Lib.hid ((HO5.out.alloc _).grown hgr6 (fun q e1 e2 => (by have := ((HO5.out.alloc (Obj.cells #[] 0)).lt e2).1; cases e1; omega))); have hB6 : Below w.heap.size w w6 := (hB5.alloc (by omega) _).grown hgr6 (by simp; omega) (by rintro q ⟨⟩; exact Nat.le_refl _); have hz6 := hB6.size; have hz6' : w5.heap.size ≤ w6.heap.size := (by simp at hs6; omega); clear hg6 hgr6 hs6)
                  | (at_builtin; refine wpList_append_rd _ rfl (.tmp 39) (.tmp 41) rfl slBool bocell_length bocell_one (w.heap.size + 1) _ out3 [takeOk r b h3] rfl (HO6.out.alloc _) (some ⟨w6.heap.size, 0, none⟩) 1 1 0 (w6.heap.size + 1) rfl rfl (rd_one _ _ _ _ bocell_length rfl _ rfl _ (by omega)) (by simp; omega) (by simp; omega) ?_; intro v7 w7 O7 G7 A7))
                have hB7 : Below w.heap.size w w7 := Own.below2 G7 (HO6.out.alloc _) (by go_grown) (by omega) (by simp; omega)
                have hG7 : w7.heap[w.heap.size]? = some (.cells #[.int .i64 r, .int .i64 b, .int .i64 (takeH r b h3)] 25 (0, 0)) := (G7.block _ (by simp; omega) (by intro hq; have := ((HO6.out.alloc (Obj.cells #[] 0)).lt hq.symm).1; omega)).trans ((Below.heap_alloc _ _ _ (by omega)).trans HG6.out)
                clear G7 A7
                go_roundw
                case rel => exact ⟨j + 1, by omega, by go_num, by rw [hts.out]; exact O7, by rw [hts.out]; exact hG7, hB7⟩
                case measure => simp [intOf]; omega
            · obtain rfl : j = c := by omega
              rw [← hst2.out] at hO hG
              have hjn : ¬ ((j : Int) < n ∧ (j : Int) < 20) := by omega
              have HO := Lib.hid hO
              have HG := Lib.hid hG
              clear hO hG
              by_cases hn20 : n ≤ 20
              · have hd : ¬ (j : Int) < n := by omega
                clear hjn
                go_wp2
                go_roundw
                case rel => exact ⟨k + 1, by omega, by go_num, HO.out, HG.out, hB4⟩
                case measure => simp [intOf]; omega
              · have hd : ¬ (j : Int) < 20 := by omega
                clear hjn
                go_wp2
                go_roundw
                case rel => exact ⟨k + 1, by omega, by go_num, HO.out, HG.out, hB4⟩
                case measure => simp [intOf]; omega
        · obtain rfl : k = L.length := by omega
          rw [← hv.out] at hO
          go_wp2
          go_ret
          exact ⟨_, rfl, hO.up (by omega), hB⟩
    · have hv := Lib.hid (run_no (show runOk r b h L = false by unfold runOk; rw [k0]; simpa using k1))
      have d1 : decide ((200 : Int) < (L.length : Int)) = true := by simp; omega
      go_enter Try.func24, Try.ntmps24
      go_wp2_with fail
      refine (iBucketOk r b h _).mono ?_
      rintro e w1 ⟨rfl, hb1⟩
      go_wp2
      go_ret
      exact ⟨_, rfl, by rw [hv.out]; exact Own.nil _ _ _, hW.trans (hb1.mono hW.size)⟩
  · have k0 : bokB r b h = false := by simpa using k0
    have hv := Lib.hid (run_no (L := L) (show runOk r b h L = false by unfold runOk; rw [k0]; rfl))
    go_enter Try.func24, Try.ntmps24
    go_wp2_with fail
    refine (iBucketOk r b h _).mono ?_
    rintro e w1 ⟨rfl, hb1⟩
    go_wp2
    go_ret
    exact ⟨_, rfl, by rw [hv.out]; exact Own.nil _ _ _, hW.trans (hb1.mono hW.size)⟩
set_option maxRecDepth 100000 in
set_option maxHeartbeats 4000000 in
theorem sRunBucket (r b h : Int) (A : Option Addr) (cap : Nat) (L : List Int) (w : World) (hr : Rd icell 1 w 0 w.heap.size A L) (hm : L.length ≤ maxLen) :
    Calls Try.prog 22 #[bkt r b h, .slice A L.length cap] w (RetSl w 4 bocell 1 (runB r b h L) fun v => v) := by
  unfold maxLen at hm
  have hW : Below w.heap.size w ((w.alloc (.cells #[.int .i64 r, .int .i64 b, .int .i64 h] 25)).alloc (.cells #[] 4)) := by go_grown
  have HE := Lib.hid (Own.emptyAt (c := bocell) (sz := 1) (w.alloc (.cells #[.int .i64 r, .int .i64 b, .int .i64 h] 25)) (w.heap.size + 1) 4 (w.heap.size + 1) (size1 w _) (Nat.le_refl _))
  by_cases k0 : bokB r b h = true
  · by_cases k1 : (L.length : Int) ≤ 200
    · have hv := Lib.hid (run_yes (show runOk r b h L = true by unfold runOk; rw [k0]; simpa using k1))
      have d1 : decide ((200 : Int) < (L.length : Int)) = false := by simp; omega
      go_enter Try.func22, Try.ntmps22
      go_wp2_with fail
      refine (sBucketOk r b h _).mono ?_
      rintro e w1 ⟨rfl, hb1⟩
      have hz1 := hb1.size
      simp at hz1
      have hB1 : Below w.heap.size w w1 := hW.trans (hb1.mono hW.size)
      have G1 := Lib.hid ((hb1.block w.heap.size (by simp; omega)).trans ((Below.heap_alloc _ _ _ (by simp)).trans (heap_alloc_new w _)))
      have O1 := Lib.hid (HE.out.later hb1 (Nat.le_refl _))
      clear hb1
      go_wp2_with fail
      go_loopw [5, 6, 7, 8] (fun v i _ _ wr => ∃ k : Nat, k ≤ L.length ∧ i = .int .i64 k ∧ Own wr (w.heap.size + 1) 4 bocell 1 v (runTo r b h L k).2 ∧ wr.heap[w.heap.size]? = some (.cells #[.int .i64 r, .int .i64 b, .int .i64 (runTo r b h L k).1] 25 (0, 0)) ∧ Below w.heap.size w wr) (fun _ i _ _ _ => L.length - (intOf i).toNat)
      case atStart => exact ⟨0, Nat.zero_le _, rfl, O1.out, G1.out, hB1⟩
      case round =>
        obtain ⟨k, hk, rfl, hO, hG, hB⟩ := hrel
        obtain ⟨wo, rfl⟩ : ∃ wo : World, wo = wr := ⟨_, rfl⟩
        have hBz := hB.size
        have hGl : w.heap.size < wo.heap.size := (Array.getElem?_eq_some_iff.1 hG).1
        by_cases hlt : k < L.length
        · obtain ⟨g, o, rfl, _, hg, hcell⟩ := hr.at_ (by omega)
          have aW : Hid (∀ W : World, Below w.heap.size w W → W.cell? ⟨g, o + k, none⟩ = some (.int .i64 L[k])) := fun W hb => by
            have := hcell k hlt 0 (by decide)
            rw [hb.cell (p := ⟨g, o + k, none⟩) hg]
            simpa using this
          clear hcell
          have hk0 : (0 : Int) ≤ (k : Int) := by omega
          have hki : (k : Int) < (L.length : Int) := by omega
          have hst := Lib.hid (runTo_succ (r := r) (b := b) (h := h) hlt)
          have hln := runTo_len r b h L k hk
          obtain ⟨s, hs⟩ : ∃ s, s = runTo r b h L k := ⟨_, rfl⟩
          rw [← hs] at hO hG hst hln
          clear hs
          obtain ⟨h', out⟩ := s
          simp only at hO hG hln
          have r0 : wo.cell? ⟨w.heap.size, 0, none⟩ = some (.int .i64 r) := by rw [cell_of_row _ _ _ _ _ (0, 0) hG]; rfl
          have r1 : wo.cell? ⟨w.heap.size, 1, none⟩ = some (.int .i64 b) := by rw [cell_of_row _ _ _ _ _ (0, 0) hG]; rfl
          have r2 : wo.cell? ⟨w.heap.size, 2, none⟩ = some (.int .i64 h') := by rw [cell_of_row _ _ _ _ _ (0, 0) hG]; rfl
          have HG := Lib.hid hG
          have HO := Lib.hid hO
          clear hG hO
          obtain ⟨n, hn⟩ : ∃ n, n = L[k] := ⟨_, rfl⟩
          rw [← hn] at aW hst
          clear hn
          go_wp2_with fail
          refine (sFilled r b h' 1 _).mono ?_
          rintro e w2 ⟨rfl, hb2⟩
          have hz2 := hb2.size
          have HG2 := Lib.hid ((hb2.block w.heap.size hGl).trans HG.out)
          have HO2 := Lib.hid (HO.out.later hb2 (Nat.le_refl _))
          have hB2 : Below w.heap.size w w2 := hB.trans (hb2.mono (by omega))
          clear r0 r1 r2 HG HO hb2
          go_wp2_with (refine wpList_store_row rfl rfl 25 (.tmp 2) (.tmp 26) rfl w.heap.size rfl 25 _ _ rfl HG2.out rfl (by kernel_rfl) (by simp [Value.oneCell']) ?_; intro w3 hg3 hgr3 hs3)
          have HG3 := Lib.hid hg3
          have HO3 := Lib.hid (HO2.out.grown hgr3 (fun q e1 e2 => by have := (HO2.out.lt e2).1; cases e1; omega))
          have hB3 : Below w.heap.size w w3 := hB2.grown hgr3 (by omega) (by rintro q ⟨⟩; exact Nat.le_refl _)
          have hc20 := cntN_le n
          have hcn : ((cntN n : Nat) : Int) = max 0 (min n 20) := by unfold cntN; omega
          have hcb : Hid (cntN n = cntN n) := rfl
          obtain ⟨c, hc⟩ : ∃ c, c = cntN n := ⟨_, rfl⟩
          have hst2 : Hid (runTo r b h L (k + 1) = tks r b c (fillH r b h' 1, out)) := by show _ = _; rw [hst.out, hc]; rfl
          rw [← hc] at hc20 hcn
          clear hc hcb hg3 hgr3 HG2 HO2
          obtain ⟨h2, hh2⟩ : ∃ h2, h2 = fillH r b h' 1 := ⟨_, rfl⟩
          rw [← hh2] at HG3 hst2
          clear hh2
          go_loopw [5, 7, 8] (fun v i _ wr => ∃ j : Nat, j ≤ c ∧ i = .int .i64 j ∧ Own wr (w.heap.size + 1) 4 bocell 1 v (tks r b j (h2, out)).2 ∧ wr.heap[w.heap.size]? = some (.cells #[.int .i64 r, .int .i64 b, .int .i64 (tks r b j (h2, out)).1] 25 (0, 0)) ∧ Below w.heap.size w wr) (fun _ i _ _ => c - (intOf i).toNat)
          case atStart => exact ⟨0, Nat.zero_le _, rfl, HO3.out, HG3.out, hB3⟩
          case round =>
            obtain ⟨j, hj, rfl, hO, hG, hB4⟩ := hrel
            have hBz4 := hB4.size
            have a0 := aW.out wr hB4
            have hGl4 : w.heap.size < wr.heap.size := (Array.getElem?_eq_some_iff.1 hG).1
            by_cases hjc : j < c
            · have hln2 := tks_len r b j (h2, out)
              have hts : Hid (tks r b (j + 1) (h2, out) = tk r b (tks r b j (h2, out))) := rfl
              obtain ⟨s, hs⟩ : ∃ s, s = tks r b j (h2, out) := ⟨_, rfl⟩
              rw [← hs] at hO hG hln2 hts
              clear hs
              obtain ⟨h3, out3⟩ := s
              simp only at hO hG hln2
              have HL2 := Lib.hid hln2
              clear hln2
              have hlo : out3.length ≤ 5000 := by rw [HL2.out]; omega
              have r0 : wr.cell? ⟨w.heap.size, 0, none⟩ = some (.int .i64 r) := by rw [cell_of_row _ _ _ _ _ (0, 0) hG]; rfl
              have r1 : wr.cell? ⟨w.heap.size, 1, none⟩ = some (.int .i64 b) := by rw [cell_of_row _ _ _ _ _ (0, 0) hG]; rfl
              have r2 : wr.cell? ⟨w.heap.size, 2, none⟩ = some (.int .i64 h3) := by rw [cell_of_row _ _ _ _ _ (0, 0) hG]; rfl
              have HG := Lib.hid hG
              have HO := Lib.hid hO
              clear hG hO
              have hjn : (j : Int) < n := by omega
              have hj20 : (j : Int) < 20 := by omega
              go_wp2_with fail
              refine (sTakeOne r b h3 _).mono ?_
              rintro e w5 ⟨rfl, hb5⟩
              have hz5 := hb5.size
              have HG5 := Lib.hid ((hb5.block w.heap.size hGl4).trans HG.out)
              have HO5 := Lib.hid (HO.out.later hb5 (Nat.le_refl _))
              have hB5 : Below w.heap.size w w5 := hB4.trans (hb5.mono (by omega))
              clear r0 r1 r2 hb5
              go_wp2_with (first
                | (refine wpList_store_row rfl rfl 25 (.tmp 2) (.tmp 42) rfl w.heap.size rfl 25 #[.int .i64 r, .int .i64 b, .int .i64 h3] #[.int .i64 r, .int .i64 b, .int .i64 (takeH r b h3)] (by rfl) (by exact HG5.out) (by rfl) (by kernel_rfl) (by simp [Value.oneCell']) ?_; intro w6 hg6 hgr6 hs6; have HG6 := Lib.hid hg6; have HO6 := Lib.hid (HO5.out.grown hgr6 (fun q e1 e2 => (by have := (HO5.out.lt e2).1; cases e1; omega))); have hB6 : Below w.heap.size w w6 := hB5.grown hgr6 (by omega) (by rintro q ⟨⟩; exact Nat.le_refl _); have hz6 := hB6.size; have hz6' : w5.heap.size ≤ w6.heap.size := (by omega); clear hg6 hgr6 hs6)
                | (at_builtin; refine wpList_append_rd _ rfl (.tmp 44) (.tmp 46) rfl slBool bocell_length bocell_one (w.heap.size + 1) _ out3 [takeOk r b h3] rfl (HO6.out.alloc _) (some ⟨w6.heap.size, 0, none⟩) 1 1 0 (w6.heap.size + 1) rfl rfl (rd_one _ _ _ _ bocell_length rfl _ rfl _ (by omega)) (by simp; omega) (by simp; omega) ?_; intro v7 w7 O7 G7 A7))
              have hB7 : Below w.heap.size w w7 := Own.below2 G7 (HO6.out.alloc _) (by go_grown) (by omega) (by simp; omega)
              have hG7 : w7.heap[w.heap.size]? = some (.cells #[.int .i64 r, .int .i64 b, .int .i64 (takeH r b h3)] 25 (0, 0)) := (G7.block _ (by simp; omega) (by intro hq; have := ((HO6.out.alloc (Obj.cells #[] 0)).lt hq.symm).1; omega)).trans ((Below.heap_alloc _ _ _ (by omega)).trans HG6.out)
              clear G7 A7
              go_roundw
              case rel => exact ⟨j + 1, by omega, by go_num, by rw [hts.out]; exact O7, by rw [hts.out]; exact hG7, hB7⟩
              case measure => simp [intOf]; omega
            · obtain rfl : j = c := by omega
              rw [← hst2.out] at hO hG
              have hjn : ¬ ((j : Int) < n ∧ (j : Int) < 20) := by omega
              have HO := Lib.hid hO
              have HG := Lib.hid hG
              clear hO hG
              by_cases hjn1 : (j : Int) < n
              · have hd : decide ((j : Int) < n) = true := by simpa using hjn1
                have hd2 : decide ((j : Int) < 20) = false := by simp; omega
                clear hjn
                go_wp2
                go_roundw
                case rel => exact ⟨k + 1, by omega, by go_num, HO.out, HG.out, hB4⟩
                case measure => simp [intOf]; omega
              · have hd : decide ((j : Int) < n) = false := by simpa using hjn1
                clear hjn
                go_wp2
                go_roundw
                case rel => exact ⟨k + 1, by omega, by go_num, HO.out, HG.out, hB4⟩
                case measure => simp [intOf]; omega
        · obtain rfl : k = L.length := by omega
          rw [← hv.out] at hO
          go_wp2
          go_ret
          exact ⟨_, rfl, hO.up (by omega), hB⟩
    · have hv := Lib.hid (run_no (show runOk r b h L = false by unfold runOk; rw [k0]; simpa using k1))
      have d1 : decide ((200 : Int) < (L.length : Int)) = true := by simp; omega
      go_enter Try.func22, Try.ntmps22
      go_wp2_with fail
      refine (sBucketOk r b h _).mono ?_
      rintro e w1 ⟨rfl, hb1⟩
      go_wp2
      go_ret
      exact ⟨_, rfl, by rw [hv.out]; exact (HE.out.later hb1 (Nat.le_refl _)).up (by omega), hW.trans (hb1.mono hW.size)⟩
  · have k0 : bokB r b h = false := by simpa using k0
    have hv := Lib.hid (run_no (L := L) (show runOk r b h L = false by unfold runOk; rw [k0]; rfl))
    go_enter Try.func22, Try.ntmps22
    go_wp2_with fail
    refine (sBucketOk r b h _).mono ?_
    rintro e w1 ⟨rfl, hb1⟩
    go_wp2
    go_ret
    exact ⟨_, rfl, by rw [hv.out]; exact (HE.out.later hb1 (Nat.le_refl _)).up (by omega), hW.trans (hb1.mono hW.size)⟩
end Go.Proofs.Ytkeldhffhiekpaa
