/- The plain law of FnMaps: what was put among maps tells where its bytes are; what is cut off ends ahead of the place; runs tell the same as the maps. -/
import Derived.Test.YtofeiadogdhngaaPutMap
import Derived.Test.YtofeiadogdhngaaRuns
namespace Go.Proofs.Ytofeiadogdhngaa
set_option linter.unusedSimpArgs false
set_option linter.unusedVariables false
open Go.RowKit

def seqHit (sub : Int) (m : MapD) : Bool := winB sub m.fSub (m.fSub + m.fLen - 1)
/-- What SeqAt computes. -/
def seqAt (L : List MapD) (sub : Int) : Int × Bool := if mapsOk L then (match L.find? (seqHit sub) with | some m => (m.fSeq + sub - m.fSub, true) | none => (0, false)) else (0, false)
/-- What CutMaps leaves of a list that is in order. -/
def cutM (L : List MapD) (sub : Int) : List MapD := L.filter fun m => decide (sub < m.fSub + m.fLen)
/-- Each ends ahead of those behind it. -/
def OrdM (L : List MapD) : Prop := L.Pairwise fun x y => x.fSub + x.fLen ≤ y.fSub
theorem mok_at {M : List MapD} (h : mapsOk M = true) {k : Nat} (hk : k < M.length) : mokB M k = true := by
  unfold mapsOk at h
  simp only [Bool.and_eq_true, List.all_eq_true, List.mem_range] at h
  exact h.2 k hk
theorem mok_step {M : List MapD} (h : mapsOk M = true) {k : Nat} (hk : k + 1 < M.length) : (M[k]'(by omega)).fSub + (M[k]'(by omega)).fLen ≤ M[k + 1].fSub := by
  have := mok_at h hk
  unfold mokB at this
  simp only [Bool.and_eq_true, Bool.or_eq_true, decide_eq_true_eq] at this
  rcases this.2 with h1 | h1
  · omega
  · rw [nthM_at hk, show k + 1 - 1 = k from rfl, nthM_at (by omega)] at h1
    exact h1
theorem mok_lt {M : List MapD} (h : mapsOk M = true) : ∀ (d i : Nat) (hj : i + 1 + d < M.length), (M[i]'(by omega)).fSub + (M[i]'(by omega)).fLen ≤ M[i + 1 + d].fSub := by
  intro d
  induction d with
  | zero => intro i hj; exact mok_step h hj
  | succ d ih =>
    intro i hj
    have h1 := ih i (by omega)
    have h2 := mok_step h (k := i + 1 + d) (by omega)
    have h3 := mapsOk_bd h (k := i + 1 + d) (by omega)
    unfold bndM at h3
    have e : i + 1 + (d + 1) = i + 1 + d + 1 := rfl
    simp only [e]
    omega
theorem mok_ord {M : List MapD} (h : mapsOk M = true) : OrdM M := by
  unfold OrdM
  rw [List.pairwise_iff_getElem]
  intro i j hi hj hij
  have := mok_lt h (j - i - 1) i (by omega)
  have e : i + 1 + (j - i - 1) = j := by omega
  simp only [e] at this
  exact this
theorem mok_of {M : List MapD} (hl : M.length ≤ 40) (hb : ∀ q ∈ M, bndM q) (ho : OrdM M) : mapsOk M = true := by
  unfold mapsOk
  simp only [Bool.and_eq_true, List.all_eq_true, List.mem_range, decide_eq_true_eq]
  refine ⟨hl, fun k hk => ?_⟩
  have h1 := hb _ (List.getElem_mem hk)
  unfold bndM at h1
  unfold mokB winB
  rw [nthM_at hk]
  simp only [Bool.and_eq_true, Bool.or_eq_true, decide_eq_true_eq]
  refine ⟨⟨⟨by omega, by omega⟩, by omega⟩, ?_⟩
  by_cases h0 : k = 0
  · exact .inl h0
  · right
    rw [nthM_at (by omega)]
    unfold OrdM at ho
    rw [List.pairwise_iff_getElem] at ho
    exact ho (k - 1) k (by omega) hk (by omega)
/-- At one place there is one map. -/
theorem hit_one {M : List MapD} (hb : ∀ q ∈ M, bndM q) (ho : OrdM M) {x y : MapD} (hx : x ∈ M) (hy : y ∈ M) {sub : Int} (h1 : seqHit sub x = true) (h2 : seqHit sub y = true) : x = y := by
  obtain ⟨i, hi, rfl⟩ := List.getElem_of_mem hx
  obtain ⟨j, hj, rfl⟩ := List.getElem_of_mem hy
  unfold OrdM at ho
  rw [List.pairwise_iff_getElem] at ho
  unfold seqHit winB at h1 h2
  simp only [Bool.and_eq_true, decide_eq_true_eq] at h1 h2
  rcases Nat.lt_trichotomy i j with h | h | h
  · have := ho i j hi hj h; omega
  · subst h; rfl
  · have := ho j i hj hi h; omega
theorem seqAt_hit {M : List MapD} (h : mapsOk M = true) {x : MapD} (hx : x ∈ M) {sub : Int} (h1 : seqHit sub x = true) : seqAt M sub = (x.fSeq + sub - x.fSub, true) := by
  unfold seqAt
  rw [if_pos h]
  cases hf : M.find? (seqHit sub) with
  | none => rw [List.find?_eq_none] at hf; exact absurd h1 (hf x hx)
  | some y =>
    have hy := List.mem_of_find?_eq_some hf
    have hp := List.find?_some hf
    have hb : ∀ q ∈ M, bndM q := fun q hq => by obtain ⟨i, hi, rfl⟩ := List.getElem_of_mem hq; exact mapsOk_bd h hi
    rw [hit_one hb (mok_ord h) hx hy h1 hp]
theorem runStep_snoc (out : List MapD) (q m : MapD) : runStep (out ++ [q]) m = if joinB q m then out ++ [⟨q.fSub, q.fSeq, q.fLen + m.fLen⟩] else out ++ [q] ++ [m] := by
  unfold runStep
  have hl : (out ++ [q]).length - 1 = out.length := by simp
  have hn : nthM (out ++ [q]) out.length = q := by simp [nthM]
  rw [if_neg (by simp), hl, hn]
  split
  · simp
  · rfl
structure RunInv (M : List MapD) (k : Nat) (out : List MapD) : Prop where
  ord : OrdM out
  last : (k = 0 ∧ out = []) ∨ ∃ (o : List MapD) (q : MapD), out = o ++ [q] ∧ 0 < k ∧ ∀ h : k - 1 < M.length, q.fSub + q.fLen = M[k - 1].fSub + M[k - 1].fLen
  cover : ∀ (j : Nat) (hj : j < M.length), j < k → ∃ q ∈ out, q.fSub ≤ M[j].fSub ∧ M[j].fSub < q.fSub + q.fLen ∧ q.fSeq - q.fSub = M[j].fSeq - M[j].fSub
theorem run_inv {M : List MapD} (h : mapsOk M = true) : ∀ k, k ≤ M.length → RunInv M k (runsTo M k)
  | 0, _ => ⟨by simp [runsTo, OrdM], .inl ⟨rfl, by simp [runsTo]⟩, fun j hj h0 => absurd h0 (by omega)⟩
  | k + 1, hk => by
    have ih := run_inv h k (by omega)
    have hbd := runsTo_bd h k (by omega)
    have hm := mapsOk_bd h (k := k) (by omega)
    rw [runsTo_succ (by omega)]
    generalize runsTo M k = out at ih hbd
    obtain ⟨m, hme⟩ : ∃ m, M[k] = m := ⟨_, rfl⟩
    rw [hme]
    rw [hme] at hm
    unfold bndM at hm
    obtain ⟨hord, hlast, hcov⟩ := ih
    rcases hlast with ⟨rfl, rfl⟩ | ⟨o, q, rfl, hk0, hq⟩
    · have e : runStep [] m = [m] := by simp [runStep]
      rw [e]
      refine ⟨by simp [OrdM], .inr ⟨[], m, rfl, by omega, fun _ => by simp [hme]⟩, fun j hj hj0 => ?_⟩
      obtain rfl : j = 0 := by omega
      exact ⟨m, by simp, by rw [hme]; omega, by rw [hme]; omega, by rw [hme]⟩
    · have hqe := hq (by omega)
      have hst := mok_step h (k := k - 1) (by omega)
      have e1 : k - 1 + 1 = k := by omega
      simp only [e1, hme] at hst
      have hqb := hbd q (by simp)
      unfold bndM at hqb
      unfold OrdM at hord
      rw [List.pairwise_append] at hord
      obtain ⟨ho1, -, ho2⟩ := hord
      have ho3 : ∀ x ∈ o, x.fSub + x.fLen ≤ q.fSub := fun x hx => ho2 x hx q (by simp)
      rw [runStep_snoc]
      split
      · rename_i hj
        simp only [joinB, Bool.and_eq_true, decide_eq_true_eq, beq_iff_eq] at hj
        refine ⟨?_, .inr ⟨o, ⟨q.fSub, q.fSeq, q.fLen + m.fLen⟩, rfl, by omega, fun _ => ?_⟩, fun j hjl hjk => ?_⟩
        · unfold OrdM
          rw [List.pairwise_append]
          exact ⟨ho1, by simp, fun x hx y hy => by rw [List.mem_singleton.1 hy]; exact ho3 x hx⟩
        · simp only [Nat.add_sub_cancel, hme]; omega
        · by_cases hjk2 : j < k
          · obtain ⟨y, hy, h1, h2, h3⟩ := hcov j hjl hjk2
            rcases List.mem_append.1 hy with hy | hy
            · exact ⟨y, by simp [hy], h1, h2, h3⟩
            · rw [List.mem_singleton.1 hy] at h1 h2 h3
              exact ⟨⟨q.fSub, q.fSeq, q.fLen + m.fLen⟩, by simp, h1, by simp only; omega, h3⟩
          · obtain rfl : j = k := by omega
            exact ⟨⟨q.fSub, q.fSeq, q.fLen + m.fLen⟩, by simp, by simp only [hme]; omega, by simp only [hme]; omega, by simp only [hme]; omega⟩
      · refine ⟨?_, .inr ⟨o ++ [q], m, rfl, by omega, fun _ => by simp [hme]⟩, fun j hjl hjk => ?_⟩
        · unfold OrdM
          rw [List.pairwise_append]
          refine ⟨?_, by simp, fun x hx y hy => ?_⟩
          · rw [List.pairwise_append]; exact ⟨ho1, by simp, ho2⟩
          · rw [List.mem_singleton.1 hy]
            rcases List.mem_append.1 hx with hx | hx
            · have := ho3 x hx; omega
            · rw [List.mem_singleton.1 hx]; omega
        · by_cases hjk2 : j < k
          · obtain ⟨y, hy, h1, h2, h3⟩ := hcov j hjl hjk2
            exact ⟨y, List.mem_append_left _ hy, h1, h2, h3⟩
          · obtain rfl : j = k := by omega
            exact ⟨m, by simp, by rw [hme]; omega, by rw [hme]; omega, by rw [hme]⟩
theorem map_law (L : List MapD) (m : MapD) (h : putOk L m = true) :
    seqAt (putL L m) (m.fSub + m.fLen - 1) = (m.fSeq + m.fLen - 1, true) ∧ mapsOk (runs (putL L m)) = true ∧ seqAt (runs (putL L m)) m.fSub = (m.fSeq, true) ∧ (seqAt (cutM (putL L m) (m.fSub + m.fLen)) m.fSub).2 = false ∧
      (runs (putL L m)).length ≤ (putL L m).length ∧ (putL L m).length = L.length + 1 ∧ bndM m ∧ (cutM (putL L m) (m.fSub + m.fLen)).length ≤ (putL L m).length := by
  have hmem : m ∈ putL L m := by unfold putL; simp
  have hok : mapsOk (putL L m) = true := h
  have hlen : (putL L m).length = L.length + 1 := by have := putPos_le L m.fSub; unfold putL; simp; omega
  generalize putL L m = M at hmem hok hlen
  have hb : ∀ q ∈ M, bndM q := fun q hq => by obtain ⟨i, hi, rfl⟩ := List.getElem_of_mem hq; exact mapsOk_bd hok hi
  have hm := hb m hmem
  have hmb := hm
  unfold bndM at hm
  have hrl := runs_le M
  have hl40 : M.length ≤ 40 := by unfold mapsOk at hok; simp only [Bool.and_eq_true, decide_eq_true_eq] at hok; exact hok.1
  have hinv := run_inv hok M.length (Nat.le_refl _)
  have hbr := runsTo_bd hok M.length (Nat.le_refl _)
  rw [← runs_yes hok] at hinv hbr
  have hokr := mok_of (by omega) hbr hinv.ord
  refine ⟨?_, hokr, ?_, ?_, hrl, hlen, hmb, List.length_filter_le _ _⟩
  · rw [seqAt_hit hok hmem (by simp [seqHit, winB]; omega)]
    congr 1
    omega
  · obtain ⟨j, hj, hje⟩ := List.getElem_of_mem hmem
    obtain ⟨q, hq, h1, h2, h3⟩ := hinv.cover j hj hj
    rw [hje] at h1 h2 h3
    rw [seqAt_hit hokr hq (by simp [seqHit, winB]; omega)]
    congr 1
    omega
  · unfold seqAt
    split
    · cases hf : (cutM M (m.fSub + m.fLen)).find? (seqHit m.fSub) with
      | none => rfl
      | some y =>
        have hy := List.mem_of_find?_eq_some hf
        have hp := List.find?_some hf
        unfold cutM at hy
        rw [List.mem_filter] at hy
        have := hit_one hb (mok_ord hok) hmem hy.1 (sub := m.fSub) (by simp [seqHit, winB]; omega) hp
        subst this
        have := hy.2
        simp at this
    · rfl
end Go.Proofs.Ytofeiadogdhngaa
