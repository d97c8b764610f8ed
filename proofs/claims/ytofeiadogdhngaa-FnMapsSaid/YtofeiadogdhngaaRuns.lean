/- Runs (program and reference): for every slice that can be read. -/
import Derived.Test.YtofeiadogdhngaaMapsOk
import Derived.StillTailTactics
import Derived.Deep.DeepCutAuto
namespace Go.Proofs.Ytofeiadogdhngaa
set_option linter.unusedSimpArgs false
set_option linter.unusedVariables false
open Go.RowKit

/-- The bounds of a map in a list that is in order. -/
def bndM (q : MapD) : Prop := 0 ≤ q.fSub ∧ q.fSub ≤ 1000000000 ∧ 0 ≤ q.fSeq ∧ q.fSeq ≤ 1000000000 ∧ 1 ≤ q.fLen ∧ q.fLen ≤ 100000
/-- q and m are one run. -/
def joinB (q m : MapD) : Bool := q.fSub + q.fLen == m.fSub && (q.fSeq + q.fLen == m.fSeq && decide (q.fLen + m.fLen ≤ 100000))
def runStep (out : List MapD) (m : MapD) : List MapD := if out.length = 0 then out ++ [m] else if joinB (nthM out (out.length - 1)) m then out.set (out.length - 1) ⟨(nthM out (out.length - 1)).fSub, (nthM out (out.length - 1)).fSeq, (nthM out (out.length - 1)).fLen + m.fLen⟩ else out ++ [m]
def runsTo (L : List MapD) (k : Nat) : List MapD := (L.take k).foldl runStep []
/-- What Runs computes. -/
def runs (L : List MapD) : List MapD := if mapsOk L then runsTo L L.length else []
theorem runsTo_succ {L : List MapD} {k : Nat} (h : k < L.length) : runsTo L (k + 1) = runStep (runsTo L k) L[k] := by
  unfold runsTo; rw [List.take_succ_eq_append_getElem h, List.foldl_append]; rfl
theorem runStep_len (out : List MapD) (m : MapD) : (runStep out m).length ≤ out.length + 1 := by
  unfold runStep
  split
  · simp
  · split
    · rw [List.length_set]; omega
    · simp
theorem runsTo_le (L : List MapD) : ∀ k, k ≤ L.length → (runsTo L k).length ≤ k
  | 0, _ => Nat.le_refl _
  | k + 1, h => by
    rw [runsTo_succ (by omega)]
    have := runStep_len (runsTo L k) L[k]
    have := runsTo_le L k (by omega)
    omega
theorem runs_le (L : List MapD) : (runs L).length ≤ L.length := by
  unfold runs; split
  · exact runsTo_le L _ (Nat.le_refl _)
  · exact Nat.zero_le _
theorem runStep_bd {out : List MapD} {m : MapD} (h : ∀ q ∈ out, bndM q) (hm : bndM m) : ∀ q ∈ runStep out m, bndM q := by
  intro q hq
  unfold runStep at hq
  split at hq
  · rcases List.mem_append.1 hq with h1 | h1
    · exact h q h1
    · rw [List.mem_singleton.1 h1]; exact hm
  · rename_i hl
    split at hq
    · rename_i hj
      rcases List.mem_or_eq_of_mem_set hq with h1 | h1
      · exact h q h1
      · have hlt : out.length - 1 < out.length := by omega
        have hb := h _ (List.getElem_mem hlt)
        rw [← nthM_at hlt] at hb
        simp only [joinB, Bool.and_eq_true, decide_eq_true_eq, beq_iff_eq] at hj
        unfold bndM at *
        rw [h1]
        simp only
        omega
    · rcases List.mem_append.1 hq with h1 | h1
      · exact h q h1
      · rw [List.mem_singleton.1 h1]; exact hm
theorem mapsOk_bd {L : List MapD} (h : mapsOk L = true) {k : Nat} (hk : k < L.length) : bndM L[k] := by
  unfold mapsOk at h
  rw [Bool.and_eq_true, List.all_eq_true] at h
  have := mok_bd (h.2 k (by simpa using hk))
  rw [nthM_at hk] at this
  exact this
theorem runsTo_bd {L : List MapD} (h : mapsOk L = true) : ∀ k, k ≤ L.length → ∀ q ∈ runsTo L k, bndM q
  | 0, _ => fun q hq => by simp [runsTo] at hq
  | k + 1, hk => by
    rw [runsTo_succ (by omega)]
    exact runStep_bd (runsTo_bd h k (by omega)) (mapsOk_bd h (by omega))
theorem step_nil {out : List MapD} {m : MapD} (h : out.length = 0) : runStep out m = out ++ [m] := if_pos h
theorem step_far {out : List MapD} {m : MapD} {n : Nat} (h : out.length = n + 1) (hj : joinB (nthM out n) m = false) : runStep out m = out ++ [m] := by
  unfold runStep
  rw [if_neg (by omega), show out.length - 1 = n by omega, hj]
  rfl
theorem step_join {out : List MapD} {m : MapD} {n : Nat} (h : out.length = n + 1) (hj : joinB (nthM out n) m = true) : runStep out m = out.set n ⟨(nthM out n).fSub, (nthM out n).fSeq, (nthM out n).fLen + m.fLen⟩ := by
  unfold runStep
  rw [if_neg (by omega), show out.length - 1 = n by omega, hj]
  rfl
theorem runs_yes {L : List MapD} (h : mapsOk L = true) : runs L = runsTo L L.length := if_pos h
theorem runs_no {L : List MapD} (h : mapsOk L = false) : runs L = [] := by unfold runs; rw [h]; rfl
set_option maxRecDepth 100000 in
set_option maxHeartbeats 4000000 in
theorem iRuns (A : Option Addr) (cap : Nat) (L : List MapD) (w : World) (hr : Rd MapD.cells 3 w 0 w.heap.size A L) (hle : L.length ≤ cap) (hcm : cap ≤ maxLen) :
    Calls Try.prog 15 #[.slice A L.length cap] w (RetSl w 30 MapD.cells 3 (runs L) fun v => v) := by
  have HC := Lib.hid (fun W hr => iMapsOk A cap L W hr hle hcm)
  unfold maxLen at hcm
  by_cases hok : mapsOk L = true
  · have hv := Lib.hid (runs_yes hok)
    have hbd := Lib.hid (fun k hk => runsTo_bd hok k hk)
    have hel := Lib.hid (fun k (hk : k < L.length) => mapsOk_bd hok hk)
    have h40 : L.length ≤ 40 := by
      have h9 := hok
      unfold mapsOk at h9
      rw [Bool.and_eq_true] at h9
      simpa using h9.1
    go_enter Try.func15, Try.ntmps15
    go_wp2_with fail
    refine (HC.out _ hr).mono ?_
    rintro e w0 ⟨rfl, hb0⟩
    go_wp2_with fail
    go_loopw [3, 12] (fun v i wr => ∃ k : Nat, k ≤ L.length ∧ i = .int .i64 k ∧ Own wr w.heap.size 30 MapD.cells 3 v (runsTo L k) ∧ Below w.heap.size w wr) (fun _ i _ => L.length - (intOf i).toNat)
    case atStart => exact ⟨0, Nat.zero_le _, rfl, Own.nil _ _ _, by (repeat' (first | (with_reducible exact Below.refl _ _) | (with_reducible assumption) | (with_reducible refine Below.alloc ?_ ?_ _) | (with_reducible refine Below.drew ?_) | (with_reducible refine below_drewN ?_ _) | (with_reducible refine Below.setCell ?_ ?_ _) | (with_reducible refine bvia ?_ (by with_reducible assumption) ?_) | go_size))⟩
    case round =>
      obtain ⟨k, hk, rfl, hO, hB⟩ := hrel
      have hBz := hB.size
      by_cases hlt : k < L.length
      · obtain ⟨g, o, rfl, _, hg, hcell⟩ := hr.at_ (by omega)
        have hx : ∀ j v, (L[k].cells)[j]? = some v → wr.cell? ⟨g, o + k * 3 + j, none⟩ = some v := fun j v hv => by
          have hj : j < 3 := (List.getElem?_eq_some_iff.1 hv).1
          rw [hB.cell (p := ⟨g, o + k * 3 + j, none⟩) hg, hcell k hlt j hj, hv]
        have HX := Lib.hid hx
        clear hx hcell
        have hki : (k : Int) < (L.length : Int) := by omega
        have hk0 : (0 : Int) ≤ (k : Int) := by omega
        obtain ⟨m1, m2, m3, m4, m5, m6⟩ := hel.out k hlt
        have hln := runsTo_le L k hk
        have hst := Lib.hid (runsTo_succ hlt)
        have hqb := hbd.out k hk
        obtain ⟨M, hM⟩ : ∃ M, M = runsTo L k := ⟨_, rfl⟩
        rw [← hM] at hO hln hst hqb
        clear hM
        have HQ := Lib.hid hqb
        clear hqb
        by_cases hne : M.length = 0
        · have hs : Hid (runsTo L (k + 1) = M ++ [L[k]]) := by show _ = _; rw [hst.out, step_nil hne]
          obtain rfl : M = [] := List.eq_nil_of_length_eq_zero hne
          rcases hO.form with ⟨rfl, _⟩ | ⟨g1, c1, cur, rfl, _, _, _, hc1, _, _⟩
          all_goals
            (try simp only [List.length_nil] at hO)
            have HO := Lib.hid hO
            clear hO
            have d0 : decide ((0 : Int) ≤ (-1 : Int)) = false := by decide
            go_wp2_with (refine wpList_load_part rfl 30 (.tmp 14) rfl g _ rfl L[k].row _ HX.out Try.underlying30 rfl (by kernel_rfl) ?_)
            go_quiet (fail)
            go_upto_region 10 with (fail)
            refine wp_world _ (fun W => W.heap[wr.heap.size]? = some (.cells #[.int .i64 L[k].fSub, .int .i64 L[k].fSeq, .int .i64 L[k].fLen] 30 (0, 0)) ∧ Below wr.heap.size wr W ∧ wr.heap.size < W.heap.size) ⟨?_, ?_, ?_⟩ ?_
            · show (wr.alloc _).heap[wr.heap.size]? = _
              exact heap_alloc_new wr _
            · (repeat' (first | (with_reducible exact Below.refl _ _) | (with_reducible assumption) | (with_reducible refine Below.alloc ?_ ?_ _) | (with_reducible refine Below.drew ?_) | (with_reducible refine below_drewN ?_ _) | (with_reducible refine Below.setCell ?_ ?_ _) | (with_reducible refine bvia ?_ (by with_reducible assumption) ?_) | go_size))
            · simp
            rintro W ⟨hbx, hbW, hWz⟩
            have HW := Lib.hid (HO.out.later hbW (Nat.le_refl _))
            have hBW : Below w.heap.size w W := hB.trans (hbW.mono hBz)
            have x0 : W.cell? ⟨wr.heap.size, 0, none⟩ = some (.int .i64 L[k].fSub) := by rw [cell_of_row _ _ _ _ _ (0, 0) hbx]; rfl
            have x1 : W.cell? ⟨wr.heap.size, 1, none⟩ = some (.int .i64 L[k].fSeq) := by rw [cell_of_row _ _ _ _ _ (0, 0) hbx]; rfl
            have x2 : W.cell? ⟨wr.heap.size, 2, none⟩ = some (.int .i64 L[k].fLen) := by rw [cell_of_row _ _ _ _ _ (0, 0) hbx]; rfl
            have HBX := Lib.hid hbx
            clear hbx
            go_wp2_with (at_builtin; refine wpList_append_rd _ rfl (.tmp 74) (.tmp 76) rfl slMap MapD.cells_length MapD.one w.heap.size _ [] [L[k]] rfl (HW.out.alloc _) (some ⟨W.heap.size, 0, none⟩) 1 1 0 (W.heap.size + 1) rfl rfl (rd_one _ _ _ _ MapD.cells_length rfl _ rfl _ (by omega)) (by first | (simp; done) | (simp; omega)) (by simp; omega) ?_; intro v1 w1 O1 G1 A1)
            have hB1 : Below w.heap.size w w1 := Own.below2 G1 (HW.out.alloc _) (by (repeat' (first | (with_reducible exact Below.refl _ _) | (with_reducible assumption) | (with_reducible refine Below.alloc ?_ ?_ _) | (with_reducible refine Below.drew ?_) | (with_reducible refine below_drewN ?_ _) | (with_reducible refine Below.setCell ?_ ?_ _) | (with_reducible refine bvia ?_ (by with_reducible assumption) ?_) | go_size))) (Nat.le_refl _) (by simp; omega)
            clear G1 A1
            go_roundw
            case rel => exact ⟨k + 1, by omega, by go_num, by rw [hs.out]; exact O1, hB1⟩
            case measure => simp [intOf]; omega
        · obtain ⟨n, hn⟩ : ∃ n, M.length = n + 1 := ⟨M.length - 1, by omega⟩
          have hnl : n < M.length := by omega
          have hnl2 : n + 1 ≤ 40 := by omega
          rcases hO.form with ⟨_, h0⟩ | ⟨g1, c1, cur, rfl, hbg, _, hlc, hc1, _, _⟩
          · subst h0; simp at hn
          · rw [hn] at hO hlc
            have hnt := nthM_at hnl
            obtain ⟨q1, q2, q3, q4, q5, q6⟩ := HQ.out _ (List.getElem_mem hnl)
            have c0 : wr.cell? ⟨g1, n * 3, none⟩ = some (.int .i64 M[n].fSub) := hO.cellAt MapD.cells_length n hnl 0 (by decide)
            have c1' : wr.cell? ⟨g1, n * 3 + 1, none⟩ = some (.int .i64 M[n].fSeq) := hO.cellAt MapD.cells_length n hnl 1 (by decide)
            have c2 : wr.cell? ⟨g1, n * 3 + 2, none⟩ = some (.int .i64 M[n].fLen) := hO.cellAt MapD.cells_length n hnl 2 (by decide)
            have hgl : g1 < wr.heap.size := (hO.lt rfl).2
            have fz := hO.free (n * 3 + 2)
            have hset := Lib.hid (fun (W : World) (h : Own W w.heap.size 30 MapD.cells 3 (.slice (some ⟨g1, 0, none⟩) (n + 1) c1) M) => h.set1 (x := ⟨M[n].fSub, M[n].fSeq, M[n].fLen + L[k].fLen⟩) MapD.cells_length hnl (j := 2) (u := .int .i64 (M[n].fLen + L[k].fLen)) (by decide) rfl)
            have HO := Lib.hid hO
            clear hO
            have b1 : (n : Int) < (n : Int) + 1 := by omega
            have b0 : (0 : Int) ≤ (n : Int) := by omega
            have b2 : (n : Int) + 1 - 1 = (n : Int) := by omega
            have e1 : IntKind.i64.wrap (M[n].fSub + M[n].fLen) = M[n].fSub + M[n].fLen := IntWalk.i64_in _ (by omega)
            have e2 : IntKind.i64.wrap (M[n].fSeq + M[n].fLen) = M[n].fSeq + M[n].fLen := IntWalk.i64_in _ (by omega)
            have e3 : IntKind.i64.wrap (M[n].fLen + L[k].fLen) = M[n].fLen + L[k].fLen := IntWalk.i64_in _ (by omega)
            have dn : decide ((0 : Int) ≤ (n : Int)) = true := by simp
            by_cases t1 : (M[n].fSub + M[n].fLen == L[k].fSub) = true
            · by_cases t2 : (M[n].fSeq + M[n].fLen == L[k].fSeq) = true
              · by_cases t3 : M[n].fLen + L[k].fLen ≤ 100000
                · have d3 : decide (M[n].fLen + L[k].fLen ≤ 100000) = true := by simpa using t3
                  have hj : joinB M[n] L[k] = true := by simp [joinB, t1, t2, t3]
                  have hs : Hid (runsTo L (k + 1) = M.set n ⟨M[n].fSub, M[n].fSeq, M[n].fLen + L[k].fLen⟩) := by show _ = _; rw [hst.out, step_join hn (by rw [hnt]; exact hj), hnt]
                  clear hj hnt t3
                  go_wp2_with (refine wpList_load_part rfl 30 (.tmp 14) rfl g _ rfl L[k].row _ HX.out Try.underlying30 rfl (by kernel_rfl) ?_)
                  go_quiet (fail)
                  go_upto_region 9 with (fail)
                  refine wp_world _ (fun W => W.heap[wr.heap.size]? = some (.cells #[.int .i64 L[k].fSub, .int .i64 L[k].fSeq, .int .i64 L[k].fLen] 30 (0, 0)) ∧ Below wr.heap.size wr W ∧ wr.heap.size < W.heap.size) ⟨?_, ?_, ?_⟩ ?_
                  · show (wr.alloc _).heap[wr.heap.size]? = _
                    exact heap_alloc_new wr _
                  · (repeat' (first | (with_reducible exact Below.refl _ _) | (with_reducible assumption) | (with_reducible refine Below.alloc ?_ ?_ _) | (with_reducible refine Below.drew ?_) | (with_reducible refine below_drewN ?_ _) | (with_reducible refine Below.setCell ?_ ?_ _) | (with_reducible refine bvia ?_ (by with_reducible assumption) ?_) | go_size))
                  · simp
                  rintro W ⟨hbx, hbW, hWz⟩
                  have HW := Lib.hid (HO.out.later hbW (Nat.le_refl _))
                  have hBW : Below w.heap.size w W := hB.trans (hbW.mono hBz)
                  have x2 : W.cell? ⟨wr.heap.size, 2, none⟩ = some (.int .i64 L[k].fLen) := by rw [cell_of_row _ _ _ _ _ (0, 0) hbx]; rfl
                  have y2 : W.cell? ⟨g1, n * 3 + 2, none⟩ = some (.int .i64 M[n].fLen) := by rw [hbW.cell hgl]; exact c2
                  have fzW := HW.out.free (n * 3 + 2)
                  clear hbx
                  go_still_tail 10, (by kernel_rfl)
                  go_wp2
                  go_roundw
                  case rel => exact ⟨k + 1, by omega, by go_num, by rw [hs.out]; exact hset.out _ (by first | exact HW.out | exact HW.out.drew | exact HW.out.drewN _), by (repeat' (first | (with_reducible exact Below.refl _ _) | (with_reducible assumption) | (with_reducible refine Below.alloc ?_ ?_ _) | (with_reducible refine Below.drew ?_) | (with_reducible refine below_drewN ?_ _) | (with_reducible refine Below.setCell ?_ ?_ _) | (with_reducible refine bvia ?_ (by with_reducible assumption) ?_) | go_size))⟩
                  case measure => simp [intOf]; omega
                · have d3 : decide (M[n].fLen + L[k].fLen ≤ 100000) = false := by simpa using t3
                  have hs : Hid (runsTo L (k + 1) = M ++ [L[k]]) := by show _ = _; rw [hst.out, step_far hn (by rw [hnt]; simp [joinB, d3])]
                  clear hnt t3
                  go_wp2_with (refine wpList_load_part rfl 30 (.tmp 14) rfl g _ rfl L[k].row _ HX.out Try.underlying30 rfl (by kernel_rfl) ?_)
                  go_quiet (fail)
                  go_upto_region 10 with (fail)
                  refine wp_world _ (fun W => W.heap[wr.heap.size]? = some (.cells #[.int .i64 L[k].fSub, .int .i64 L[k].fSeq, .int .i64 L[k].fLen] 30 (0, 0)) ∧ Below wr.heap.size wr W ∧ wr.heap.size < W.heap.size) ⟨?_, ?_, ?_⟩ ?_
                  · show (wr.alloc _).heap[wr.heap.size]? = _
                    exact heap_alloc_new wr _
                  · (repeat' (first | (with_reducible exact Below.refl _ _) | (with_reducible assumption) | (with_reducible refine Below.alloc ?_ ?_ _) | (with_reducible refine Below.drew ?_) | (with_reducible refine below_drewN ?_ _) | (with_reducible refine Below.setCell ?_ ?_ _) | (with_reducible refine bvia ?_ (by with_reducible assumption) ?_) | go_size))
                  · simp
                  rintro W ⟨hbx, hbW, hWz⟩
                  have HW := Lib.hid (HO.out.later hbW (Nat.le_refl _))
                  have hBW : Below w.heap.size w W := hB.trans (hbW.mono hBz)
                  have x0 : W.cell? ⟨wr.heap.size, 0, none⟩ = some (.int .i64 L[k].fSub) := by rw [cell_of_row _ _ _ _ _ (0, 0) hbx]; rfl
                  have x1 : W.cell? ⟨wr.heap.size, 1, none⟩ = some (.int .i64 L[k].fSeq) := by rw [cell_of_row _ _ _ _ _ (0, 0) hbx]; rfl
                  have x2 : W.cell? ⟨wr.heap.size, 2, none⟩ = some (.int .i64 L[k].fLen) := by rw [cell_of_row _ _ _ _ _ (0, 0) hbx]; rfl
                  have HBX := Lib.hid hbx
                  clear hbx
                  go_wp2_with (at_builtin; refine wpList_append_rd _ rfl (.tmp 74) (.tmp 76) rfl slMap MapD.cells_length MapD.one w.heap.size _ M [L[k]] rfl (HW.out.alloc _) (some ⟨W.heap.size, 0, none⟩) 1 1 0 (W.heap.size + 1) rfl rfl (rd_one _ _ _ _ MapD.cells_length rfl _ rfl _ (by omega)) (by first | (simp; done) | (simp; omega)) (by simp; omega) ?_; intro v1 w1 O1 G1 A1)
                  have hB1 : Below w.heap.size w w1 := Own.below2 G1 (HW.out.alloc _) (by (repeat' (first | (with_reducible exact Below.refl _ _) | (with_reducible assumption) | (with_reducible refine Below.alloc ?_ ?_ _) | (with_reducible refine Below.drew ?_) | (with_reducible refine below_drewN ?_ _) | (with_reducible refine Below.setCell ?_ ?_ _) | (with_reducible refine bvia ?_ (by with_reducible assumption) ?_) | go_size))) (Nat.le_refl _) (by simp; omega)
                  clear G1 A1
                  go_roundw
                  case rel => exact ⟨k + 1, by omega, by go_num, by rw [hs.out]; exact O1, hB1⟩
                  case measure => simp [intOf]; omega
              · have t2 : (M[n].fSeq + M[n].fLen == L[k].fSeq) = false := by simpa using t2
                have hs : Hid (runsTo L (k + 1) = M ++ [L[k]]) := by show _ = _; rw [hst.out, step_far hn (by rw [hnt]; simp [joinB, t2])]
                clear hnt
                go_wp2_with (refine wpList_load_part rfl 30 (.tmp 14) rfl g _ rfl L[k].row _ HX.out Try.underlying30 rfl (by kernel_rfl) ?_)
                go_quiet (fail)
                go_upto_region 10 with (fail)
                refine wp_world _ (fun W => W.heap[wr.heap.size]? = some (.cells #[.int .i64 L[k].fSub, .int .i64 L[k].fSeq, .int .i64 L[k].fLen] 30 (0, 0)) ∧ Below wr.heap.size wr W ∧ wr.heap.size < W.heap.size) ⟨?_, ?_, ?_⟩ ?_
                · show (wr.alloc _).heap[wr.heap.size]? = _
                  exact heap_alloc_new wr _
                · (repeat' (first | (with_reducible exact Below.refl _ _) | (with_reducible assumption) | (with_reducible refine Below.alloc ?_ ?_ _) | (with_reducible refine Below.drew ?_) | (with_reducible refine below_drewN ?_ _) | (with_reducible refine Below.setCell ?_ ?_ _) | (with_reducible refine bvia ?_ (by with_reducible assumption) ?_) | go_size))
                · simp
                rintro W ⟨hbx, hbW, hWz⟩
                have HW := Lib.hid (HO.out.later hbW (Nat.le_refl _))
                have hBW : Below w.heap.size w W := hB.trans (hbW.mono hBz)
                have x0 : W.cell? ⟨wr.heap.size, 0, none⟩ = some (.int .i64 L[k].fSub) := by rw [cell_of_row _ _ _ _ _ (0, 0) hbx]; rfl
                have x1 : W.cell? ⟨wr.heap.size, 1, none⟩ = some (.int .i64 L[k].fSeq) := by rw [cell_of_row _ _ _ _ _ (0, 0) hbx]; rfl
                have x2 : W.cell? ⟨wr.heap.size, 2, none⟩ = some (.int .i64 L[k].fLen) := by rw [cell_of_row _ _ _ _ _ (0, 0) hbx]; rfl
                have HBX := Lib.hid hbx
                clear hbx
                go_wp2_with (at_builtin; refine wpList_append_rd _ rfl (.tmp 74) (.tmp 76) rfl slMap MapD.cells_length MapD.one w.heap.size _ M [L[k]] rfl (HW.out.alloc _) (some ⟨W.heap.size, 0, none⟩) 1 1 0 (W.heap.size + 1) rfl rfl (rd_one _ _ _ _ MapD.cells_length rfl _ rfl _ (by omega)) (by first | (simp; done) | (simp; omega)) (by simp; omega) ?_; intro v1 w1 O1 G1 A1)
                have hB1 : Below w.heap.size w w1 := Own.below2 G1 (HW.out.alloc _) (by (repeat' (first | (with_reducible exact Below.refl _ _) | (with_reducible assumption) | (with_reducible refine Below.alloc ?_ ?_ _) | (with_reducible refine Below.drew ?_) | (with_reducible refine below_drewN ?_ _) | (with_reducible refine Below.setCell ?_ ?_ _) | (with_reducible refine bvia ?_ (by with_reducible assumption) ?_) | go_size))) (Nat.le_refl _) (by simp; omega)
                clear G1 A1
                go_roundw
                case rel => exact ⟨k + 1, by omega, by go_num, by rw [hs.out]; exact O1, hB1⟩
                case measure => simp [intOf]; omega
            · have t1 : (M[n].fSub + M[n].fLen == L[k].fSub) = false := by simpa using t1
              have hs : Hid (runsTo L (k + 1) = M ++ [L[k]]) := by show _ = _; rw [hst.out, step_far hn (by rw [hnt]; simp [joinB, t1])]
              clear hnt
              go_wp2_with (refine wpList_load_part rfl 30 (.tmp 14) rfl g _ rfl L[k].row _ HX.out Try.underlying30 rfl (by kernel_rfl) ?_)
              go_quiet (fail)
              go_upto_region 10 with (fail)
              refine wp_world _ (fun W => W.heap[wr.heap.size]? = some (.cells #[.int .i64 L[k].fSub, .int .i64 L[k].fSeq, .int .i64 L[k].fLen] 30 (0, 0)) ∧ Below wr.heap.size wr W ∧ wr.heap.size < W.heap.size) ⟨?_, ?_, ?_⟩ ?_
              · show (wr.alloc _).heap[wr.heap.size]? = _
                exact heap_alloc_new wr _
              · (repeat' (first | (with_reducible exact Below.refl _ _) | (with_reducible assumption) | (with_reducible refine Below.alloc ?_ ?_ _) | (with_reducible refine Below.drew ?_) | (with_reducible refine below_drewN ?_ _) | (with_reducible refine Below.setCell ?_ ?_ _) | (with_reducible refine bvia ?_ (by with_reducible assumption) ?_) | go_size))
              · simp
              rintro W ⟨hbx, hbW, hWz⟩
              have HW := Lib.hid (HO.out.later hbW (Nat.le_refl _))
              have hBW : Below w.heap.size w W := hB.trans (hbW.mono hBz)
              have x0 : W.cell? ⟨wr.heap.size, 0, none⟩ = some (.int .i64 L[k].fSub) := by rw [cell_of_row _ _ _ _ _ (0, 0) hbx]; rfl
              have x1 : W.cell? ⟨wr.heap.size, 1, none⟩ = some (.int .i64 L[k].fSeq) := by rw [cell_of_row _ _ _ _ _ (0, 0) hbx]; rfl
              have x2 : W.cell? ⟨wr.heap.size, 2, none⟩ = some (.int .i64 L[k].fLen) := by rw [cell_of_row _ _ _ _ _ (0, 0) hbx]; rfl
              have HBX := Lib.hid hbx
              clear hbx
              go_wp2_with (at_builtin; refine wpList_append_rd _ rfl (.tmp 74) (.tmp 76) rfl slMap MapD.cells_length MapD.one w.heap.size _ M [L[k]] rfl (HW.out.alloc _) (some ⟨W.heap.size, 0, none⟩) 1 1 0 (W.heap.size + 1) rfl rfl (rd_one _ _ _ _ MapD.cells_length rfl _ rfl _ (by omega)) (by first | (simp; done) | (simp; omega)) (by simp; omega) ?_; intro v1 w1 O1 G1 A1)
              have hB1 : Below w.heap.size w w1 := Own.below2 G1 (HW.out.alloc _) (by (repeat' (first | (with_reducible exact Below.refl _ _) | (with_reducible assumption) | (with_reducible refine Below.alloc ?_ ?_ _) | (with_reducible refine Below.drew ?_) | (with_reducible refine below_drewN ?_ _) | (with_reducible refine Below.setCell ?_ ?_ _) | (with_reducible refine bvia ?_ (by with_reducible assumption) ?_) | go_size))) (Nat.le_refl _) (by simp; omega)
              clear G1 A1
              go_roundw
              case rel => exact ⟨k + 1, by omega, by go_num, by rw [hs.out]; exact O1, hB1⟩
              case measure => simp [intOf]; omega
      · obtain rfl : k = L.length := by omega
        rw [← hv.out] at hO
        go_wp2
        go_ret
        exact ⟨_, rfl, hO, hB⟩
  · have hok : mapsOk L = false := by simpa using hok
    have hv := Lib.hid (runs_no hok)
    go_enter Try.func15, Try.ntmps15
    go_wp2_with fail
    refine (HC.out _ hr).mono ?_
    rintro e w0 ⟨rfl, hb0⟩
    go_wp2
    go_ret
    exact ⟨_, rfl, by rw [hv.out]; exact Own.nil _ _ _, hb0⟩
set_option maxRecDepth 100000 in
set_option maxHeartbeats 4000000 in
theorem sRuns (A : Option Addr) (cap : Nat) (L : List MapD) (w : World) (hr : Rd MapD.cells 3 w 0 w.heap.size A L) (hle : L.length ≤ cap) (hcm : cap ≤ maxLen) :
    Calls Try.prog 14 #[.slice A L.length cap] w (RetSl w 30 MapD.cells 3 (runs L) fun v => v) := by
  have HC := Lib.hid (fun W hr => sMapsOk A cap L W hr hle hcm)
  unfold maxLen at hcm
  have hW : Below w.heap.size w (w.alloc (.cells #[] 30)) := by go_grown
  have hrE := hr.later hW (Nat.le_refl _) hW.size
  by_cases hok : mapsOk L = true
  · have hv := Lib.hid (runs_yes hok)
    have hbd := Lib.hid (fun k hk => runsTo_bd hok k hk)
    have hel := Lib.hid (fun k (hk : k < L.length) => mapsOk_bd hok hk)
    have h40 : L.length ≤ 40 := by
      have h9 := hok
      unfold mapsOk at h9
      rw [Bool.and_eq_true] at h9
      simpa using h9.1
    go_enter Try.func14, Try.ntmps14
    go_wp2_with fail
    refine (HC.out _ hrE).mono ?_
    rintro e w0 ⟨rfl, hb0⟩
    have hB0 : Below w.heap.size w w0 := hW.trans (hb0.mono hW.size)
    have O0 := Lib.hid ((Own.empty (c := MapD.cells) (sz := 3) w w.heap.size 30 (Nat.le_refl _)).later hb0 (Nat.le_refl _))
    go_wp2_with fail
    go_loopw [3, 4] (fun v i wr => ∃ k : Nat, k ≤ L.length ∧ i = .int .i64 k ∧ Own wr w.heap.size 30 MapD.cells 3 v (runsTo L k) ∧ Below w.heap.size w wr) (fun _ i _ => L.length - (intOf i).toNat)
    case atStart => exact ⟨0, Nat.zero_le _, rfl, O0.out, hB0⟩
    case round =>
      obtain ⟨k, hk, rfl, hO, hB⟩ := hrel
      have hBz := hB.size
      by_cases hlt : k < L.length
      · obtain ⟨g, o, rfl, _, hg, hcell⟩ := hr.at_ (by omega)
        have hx : ∀ j v, (L[k].cells)[j]? = some v → wr.cell? ⟨g, o + k * 3 + j, none⟩ = some v := fun j v hv => by
          have hj : j < 3 := (List.getElem?_eq_some_iff.1 hv).1
          rw [hB.cell (p := ⟨g, o + k * 3 + j, none⟩) hg, hcell k hlt j hj, hv]
        have a0 : wr.cell? ⟨g, o + k * 3, none⟩ = some (.int .i64 L[k].fSub) := hx 0 _ rfl
        have a1 : wr.cell? ⟨g, o + k * 3 + 1, none⟩ = some (.int .i64 L[k].fSeq) := hx 1 _ rfl
        have a2 : wr.cell? ⟨g, o + k * 3 + 2, none⟩ = some (.int .i64 L[k].fLen) := hx 2 _ rfl
        have HX := Lib.hid hx
        clear hx hcell
        have hki : (k : Int) < (L.length : Int) := by omega
        have hk0 : (0 : Int) ≤ (k : Int) := by omega
        obtain ⟨m1, m2, m3, m4, m5, m6⟩ := hel.out k hlt
        have hln := runsTo_le L k hk
        have hst := Lib.hid (runsTo_succ hlt)
        have hqb := hbd.out k hk
        obtain ⟨M, hM⟩ : ∃ M, M = runsTo L k := ⟨_, rfl⟩
        rw [← hM] at hO hln hst hqb
        clear hM
        have HQ := Lib.hid hqb
        clear hqb
        by_cases hne : M.length = 0
        · have hs : Hid (runsTo L (k + 1) = M ++ [L[k]]) := by show _ = _; rw [hst.out, step_nil hne]
          obtain rfl : M = [] := List.eq_nil_of_length_eq_zero hne
          rcases hO.form with ⟨rfl, _⟩ | ⟨g1, c1, cur, rfl, _, _, _, hc1, _, _⟩
          all_goals
            (try simp only [List.length_nil] at hO)
            have HO := Lib.hid hO
            clear hO
            have d0 : decide ((0 : Int) ≤ (-1 : Int)) = false := by decide
            go_wp2_with fail
            go_quiet (fail)
            go_upto_region 10 with (fail)
            refine wp_world _ (fun W => Below wr.heap.size wr W) (by (repeat' (first | (with_reducible exact Below.refl _ _) | (with_reducible assumption) | (with_reducible refine Below.alloc ?_ ?_ _) | (with_reducible refine Below.drew ?_) | (with_reducible refine below_drewN ?_ _) | (with_reducible refine Below.setCell ?_ ?_ _) | (with_reducible refine bvia ?_ (by with_reducible assumption) ?_) | go_size))) ?_
            rintro W hbW
            have hWz := hbW.size
            have HW := Lib.hid (HO.out.later hbW (Nat.le_refl _))
            have hBW : Below w.heap.size w W := hB.trans (hbW.mono hBz)
            have hgw : g < wr.heap.size := by omega
            have HXW : Hid (∀ j v, (L[k].cells)[j]? = some v → W.cell? ⟨g, o + k * 3 + j, none⟩ = some v) := fun j v hv => by rw [hbW.cell (p := ⟨g, o + k * 3 + j, none⟩) hgw]; exact HX.out j v hv
            have z2 : W.cell? ⟨g, o + k * 3 + 2, none⟩ = some (.int .i64 L[k].fLen) := HXW.out 2 _ rfl
            go_wp2_with (first | (refine wpList_load_part rfl 30 (.tmp 92) rfl g _ rfl L[k].row _ HXW.out Try.underlying30 rfl (by kernel_rfl) ?_) | (at_builtin; refine wpList_append_rd _ rfl (.tmp 89) (.tmp 94) rfl slMap MapD.cells_length MapD.one w.heap.size _ [] [L[k]] rfl (HW.out.alloc _) (some ⟨W.heap.size, 0, none⟩) 1 1 0 (W.heap.size + 1) rfl rfl (rd_one _ _ _ _ MapD.cells_length rfl _ rfl _ (by omega)) (by first | (simp; done) | (simp; omega)) (by simp; omega) ?_; intro v1 w1 O1 G1 A1))
            have hB1 : Below w.heap.size w w1 := Own.below2 G1 (HW.out.alloc _) (by (repeat' (first | (with_reducible exact Below.refl _ _) | (with_reducible assumption) | (with_reducible refine Below.alloc ?_ ?_ _) | (with_reducible refine Below.drew ?_) | (with_reducible refine below_drewN ?_ _) | (with_reducible refine Below.setCell ?_ ?_ _) | (with_reducible refine bvia ?_ (by with_reducible assumption) ?_) | go_size))) (Nat.le_refl _) (by simp; omega)
            clear G1 A1
            go_roundw
            case rel => exact ⟨k + 1, by omega, by go_num, by rw [hs.out]; exact O1, hB1⟩
            case measure => simp [intOf]; omega
        · obtain ⟨n, hn⟩ : ∃ n, M.length = n + 1 := ⟨M.length - 1, by omega⟩
          have hnl : n < M.length := by omega
          have hnl2 : n + 1 ≤ 40 := by omega
          rcases hO.form with ⟨_, h0⟩ | ⟨g1, c1, cur, rfl, hbg, _, hlc, hc1, _, _⟩
          · subst h0; simp at hn
          · rw [hn] at hO hlc
            have hnt := nthM_at hnl
            obtain ⟨q1, q2, q3, q4, q5, q6⟩ := HQ.out _ (List.getElem_mem hnl)
            have c0 : wr.cell? ⟨g1, n * 3, none⟩ = some (.int .i64 M[n].fSub) := hO.cellAt MapD.cells_length n hnl 0 (by decide)
            have c1' : wr.cell? ⟨g1, n * 3 + 1, none⟩ = some (.int .i64 M[n].fSeq) := hO.cellAt MapD.cells_length n hnl 1 (by decide)
            have c2 : wr.cell? ⟨g1, n * 3 + 2, none⟩ = some (.int .i64 M[n].fLen) := hO.cellAt MapD.cells_length n hnl 2 (by decide)
            have hgl : g1 < wr.heap.size := (hO.lt rfl).2
            have fz := hO.free (n * 3 + 2)
            have hset := Lib.hid (fun (W : World) (h : Own W w.heap.size 30 MapD.cells 3 (.slice (some ⟨g1, 0, none⟩) (n + 1) c1) M) => h.set1 (x := ⟨M[n].fSub, M[n].fSeq, M[n].fLen + L[k].fLen⟩) MapD.cells_length hnl (j := 2) (u := .int .i64 (M[n].fLen + L[k].fLen)) (by decide) rfl)
            have HO := Lib.hid hO
            clear hO
            have b1 : (n : Int) < (n : Int) + 1 := by omega
            have b0 : (0 : Int) ≤ (n : Int) := by omega
            have b2 : (n : Int) + 1 - 1 = (n : Int) := by omega
            have e1 : IntKind.i64.wrap (M[n].fSub + M[n].fLen) = M[n].fSub + M[n].fLen := IntWalk.i64_in _ (by omega)
            have e2 : IntKind.i64.wrap (M[n].fSeq + M[n].fLen) = M[n].fSeq + M[n].fLen := IntWalk.i64_in _ (by omega)
            have e3 : IntKind.i64.wrap (M[n].fLen + L[k].fLen) = M[n].fLen + L[k].fLen := IntWalk.i64_in _ (by omega)
            have dn : decide ((0 : Int) ≤ (n : Int)) = true := by simp
            by_cases t1 : (M[n].fSub + M[n].fLen == L[k].fSub) = true
            · by_cases t2 : (M[n].fSeq + M[n].fLen == L[k].fSeq) = true
              · by_cases t3 : M[n].fLen + L[k].fLen ≤ 100000
                · have d3 : decide (M[n].fLen + L[k].fLen ≤ 100000) = true := by simpa using t3
                  have hj : joinB M[n] L[k] = true := by simp [joinB, t1, t2, t3]
                  have hs : Hid (runsTo L (k + 1) = M.set n ⟨M[n].fSub, M[n].fSeq, M[n].fLen + L[k].fLen⟩) := by show _ = _; rw [hst.out, step_join hn (by rw [hnt]; exact hj), hnt]
                  clear hj hnt t3
                  go_wp2_with fail
                  go_quiet (fail)
                  go_upto_region 9 with (fail)
                  refine wp_world _ (fun W => Below wr.heap.size wr W) (by (repeat' (first | (with_reducible exact Below.refl _ _) | (with_reducible assumption) | (with_reducible refine Below.alloc ?_ ?_ _) | (with_reducible refine Below.drew ?_) | (with_reducible refine below_drewN ?_ _) | (with_reducible refine Below.setCell ?_ ?_ _) | (with_reducible refine bvia ?_ (by with_reducible assumption) ?_) | go_size))) ?_
                  rintro W hbW
                  have hWz := hbW.size
                  have HW := Lib.hid (HO.out.later hbW (Nat.le_refl _))
                  have hBW : Below w.heap.size w W := hB.trans (hbW.mono hBz)
                  have y2 : W.cell? ⟨g1, n * 3 + 2, none⟩ = some (.int .i64 M[n].fLen) := by rw [hbW.cell hgl]; exact c2
                  have fzW := HW.out.free (n * 3 + 2)
                  have hgw : g < wr.heap.size := by omega
                  have HXW : Hid (∀ j v, (L[k].cells)[j]? = some v → W.cell? ⟨g, o + k * 3 + j, none⟩ = some v) := fun j v hv => by rw [hbW.cell (p := ⟨g, o + k * 3 + j, none⟩) hgw]; exact HX.out j v hv
                  have z2 : W.cell? ⟨g, o + k * 3 + 2, none⟩ = some (.int .i64 L[k].fLen) := HXW.out 2 _ rfl
                  go_still_tail 15, (by kernel_rfl)
                  go_wp2
                  go_roundw
                  case rel => exact ⟨k + 1, by omega, by go_num, by rw [hs.out]; exact hset.out _ (by first | exact HW.out | exact HW.out.drew | exact HW.out.drewN _), by (repeat' (first | (with_reducible exact Below.refl _ _) | (with_reducible assumption) | (with_reducible refine Below.alloc ?_ ?_ _) | (with_reducible refine Below.drew ?_) | (with_reducible refine below_drewN ?_ _) | (with_reducible refine Below.setCell ?_ ?_ _) | (with_reducible refine bvia ?_ (by with_reducible assumption) ?_) | go_size))⟩
                  case measure => simp [intOf]; omega
                · have d3 : decide (M[n].fLen + L[k].fLen ≤ 100000) = false := by simpa using t3
                  have hs : Hid (runsTo L (k + 1) = M ++ [L[k]]) := by show _ = _; rw [hst.out, step_far hn (by rw [hnt]; simp [joinB, d3])]
                  clear hnt t3
                  go_wp2_with fail
                  go_quiet (fail)
                  go_upto_region 10 with (fail)
                  refine wp_world _ (fun W => Below wr.heap.size wr W) (by (repeat' (first | (with_reducible exact Below.refl _ _) | (with_reducible assumption) | (with_reducible refine Below.alloc ?_ ?_ _) | (with_reducible refine Below.drew ?_) | (with_reducible refine below_drewN ?_ _) | (with_reducible refine Below.setCell ?_ ?_ _) | (with_reducible refine bvia ?_ (by with_reducible assumption) ?_) | go_size))) ?_
                  rintro W hbW
                  have hWz := hbW.size
                  have HW := Lib.hid (HO.out.later hbW (Nat.le_refl _))
                  have hBW : Below w.heap.size w W := hB.trans (hbW.mono hBz)
                  have hgw : g < wr.heap.size := by omega
                  have HXW : Hid (∀ j v, (L[k].cells)[j]? = some v → W.cell? ⟨g, o + k * 3 + j, none⟩ = some v) := fun j v hv => by rw [hbW.cell (p := ⟨g, o + k * 3 + j, none⟩) hgw]; exact HX.out j v hv
                  have z2 : W.cell? ⟨g, o + k * 3 + 2, none⟩ = some (.int .i64 L[k].fLen) := HXW.out 2 _ rfl
                  go_wp2_with (first | (refine wpList_load_part rfl 30 (.tmp 92) rfl g _ rfl L[k].row _ HXW.out Try.underlying30 rfl (by kernel_rfl) ?_) | (at_builtin; refine wpList_append_rd _ rfl (.tmp 89) (.tmp 94) rfl slMap MapD.cells_length MapD.one w.heap.size _ M [L[k]] rfl (HW.out.alloc _) (some ⟨W.heap.size, 0, none⟩) 1 1 0 (W.heap.size + 1) rfl rfl (rd_one _ _ _ _ MapD.cells_length rfl _ rfl _ (by omega)) (by first | (simp; done) | (simp; omega)) (by simp; omega) ?_; intro v1 w1 O1 G1 A1))
                  have hB1 : Below w.heap.size w w1 := Own.below2 G1 (HW.out.alloc _) (by (repeat' (first | (with_reducible exact Below.refl _ _) | (with_reducible assumption) | (with_reducible refine Below.alloc ?_ ?_ _) | (with_reducible refine Below.drew ?_) | (with_reducible refine below_drewN ?_ _) | (with_reducible refine Below.setCell ?_ ?_ _) | (with_reducible refine bvia ?_ (by with_reducible assumption) ?_) | go_size))) (Nat.le_refl _) (by simp; omega)
                  clear G1 A1
                  go_roundw
                  case rel => exact ⟨k + 1, by omega, by go_num, by rw [hs.out]; exact O1, hB1⟩
                  case measure => simp [intOf]; omega
              · have t2 : (M[n].fSeq + M[n].fLen == L[k].fSeq) = false := by simpa using t2
                have hs : Hid (runsTo L (k + 1) = M ++ [L[k]]) := by show _ = _; rw [hst.out, step_far hn (by rw [hnt]; simp [joinB, t2])]
                clear hnt
                go_wp2_with fail
                go_quiet (fail)
                go_upto_region 10 with (fail)
                refine wp_world _ (fun W => Below wr.heap.size wr W) (by (repeat' (first | (with_reducible exact Below.refl _ _) | (with_reducible assumption) | (with_reducible refine Below.alloc ?_ ?_ _) | (with_reducible refine Below.drew ?_) | (with_reducible refine below_drewN ?_ _) | (with_reducible refine Below.setCell ?_ ?_ _) | (with_reducible refine bvia ?_ (by with_reducible assumption) ?_) | go_size))) ?_
                rintro W hbW
                have hWz := hbW.size
                have HW := Lib.hid (HO.out.later hbW (Nat.le_refl _))
                have hBW : Below w.heap.size w W := hB.trans (hbW.mono hBz)
                have hgw : g < wr.heap.size := by omega
                have HXW : Hid (∀ j v, (L[k].cells)[j]? = some v → W.cell? ⟨g, o + k * 3 + j, none⟩ = some v) := fun j v hv => by rw [hbW.cell (p := ⟨g, o + k * 3 + j, none⟩) hgw]; exact HX.out j v hv
                have z2 : W.cell? ⟨g, o + k * 3 + 2, none⟩ = some (.int .i64 L[k].fLen) := HXW.out 2 _ rfl
                go_wp2_with (first | (refine wpList_load_part rfl 30 (.tmp 92) rfl g _ rfl L[k].row _ HXW.out Try.underlying30 rfl (by kernel_rfl) ?_) | (at_builtin; refine wpList_append_rd _ rfl (.tmp 89) (.tmp 94) rfl slMap MapD.cells_length MapD.one w.heap.size _ M [L[k]] rfl (HW.out.alloc _) (some ⟨W.heap.size, 0, none⟩) 1 1 0 (W.heap.size + 1) rfl rfl (rd_one _ _ _ _ MapD.cells_length rfl _ rfl _ (by omega)) (by first | (simp; done) | (simp; omega)) (by simp; omega) ?_; intro v1 w1 O1 G1 A1))
                have hB1 : Below w.heap.size w w1 := Own.below2 G1 (HW.out.alloc _) (by (repeat' (first | (with_reducible exact Below.refl _ _) | (with_reducible assumption) | (with_reducible refine Below.alloc ?_ ?_ _) | (with_reducible refine Below.drew ?_) | (with_reducible refine below_drewN ?_ _) | (with_reducible refine Below.setCell ?_ ?_ _) | (with_reducible refine bvia ?_ (by with_reducible assumption) ?_) | go_size))) (Nat.le_refl _) (by simp; omega)
                clear G1 A1
                go_roundw
                case rel => exact ⟨k + 1, by omega, by go_num, by rw [hs.out]; exact O1, hB1⟩
                case measure => simp [intOf]; omega
            · have t1 : (M[n].fSub + M[n].fLen == L[k].fSub) = false := by simpa using t1
              have hs : Hid (runsTo L (k + 1) = M ++ [L[k]]) := by show _ = _; rw [hst.out, step_far hn (by rw [hnt]; simp [joinB, t1])]
              clear hnt
              go_wp2_with fail
              go_quiet (fail)
              go_upto_region 10 with (fail)
              refine wp_world _ (fun W => Below wr.heap.size wr W) (by (repeat' (first | (with_reducible exact Below.refl _ _) | (with_reducible assumption) | (with_reducible refine Below.alloc ?_ ?_ _) | (with_reducible refine Below.drew ?_) | (with_reducible refine below_drewN ?_ _) | (with_reducible refine Below.setCell ?_ ?_ _) | (with_reducible refine bvia ?_ (by with_reducible assumption) ?_) | go_size))) ?_
              rintro W hbW
              have hWz := hbW.size
              have HW := Lib.hid (HO.out.later hbW (Nat.le_refl _))
              have hBW : Below w.heap.size w W := hB.trans (hbW.mono hBz)
              have hgw : g < wr.heap.size := by omega
              have HXW : Hid (∀ j v, (L[k].cells)[j]? = some v → W.cell? ⟨g, o + k * 3 + j, none⟩ = some v) := fun j v hv => by rw [hbW.cell (p := ⟨g, o + k * 3 + j, none⟩) hgw]; exact HX.out j v hv
              have z2 : W.cell? ⟨g, o + k * 3 + 2, none⟩ = some (.int .i64 L[k].fLen) := HXW.out 2 _ rfl
              go_wp2_with (first | (refine wpList_load_part rfl 30 (.tmp 92) rfl g _ rfl L[k].row _ HXW.out Try.underlying30 rfl (by kernel_rfl) ?_) | (at_builtin; refine wpList_append_rd _ rfl (.tmp 89) (.tmp 94) rfl slMap MapD.cells_length MapD.one w.heap.size _ M [L[k]] rfl (HW.out.alloc _) (some ⟨W.heap.size, 0, none⟩) 1 1 0 (W.heap.size + 1) rfl rfl (rd_one _ _ _ _ MapD.cells_length rfl _ rfl _ (by omega)) (by first | (simp; done) | (simp; omega)) (by simp; omega) ?_; intro v1 w1 O1 G1 A1))
              have hB1 : Below w.heap.size w w1 := Own.below2 G1 (HW.out.alloc _) (by (repeat' (first | (with_reducible exact Below.refl _ _) | (with_reducible assumption) | (with_reducible refine Below.alloc ?_ ?_ _) | (with_reducible refine Below.drew ?_) | (with_reducible refine below_drewN ?_ _) | (with_reducible refine Below.setCell ?_ ?_ _) | (with_reducible refine bvia ?_ (by with_reducible assumption) ?_) | go_size))) (Nat.le_refl _) (by simp; omega)
              clear G1 A1
              go_roundw
              case rel => exact ⟨k + 1, by omega, by go_num, by rw [hs.out]; exact O1, hB1⟩
              case measure => simp [intOf]; omega
      · obtain rfl : k = L.length := by omega
        rw [← hv.out] at hO
        go_wp2
        go_ret
        exact ⟨_, rfl, hO, hB⟩
  · have hok : mapsOk L = false := by simpa using hok
    have hv := Lib.hid (runs_no hok)
    go_enter Try.func14, Try.ntmps14
    go_wp2_with fail
    refine (HC.out _ hrE).mono ?_
    rintro e w0 ⟨rfl, hb0⟩
    go_wp2
    go_ret
    exact ⟨_, rfl, by rw [hv.out]; exact (Own.empty (c := MapD.cells) (sz := 3) w w.heap.size 30 (Nat.le_refl _)).later hb0 (Nat.le_refl _), hW.trans (hb0.mono hW.size)⟩
end Go.Proofs.Ytofeiadogdhngaa
