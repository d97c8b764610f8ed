/- The plain law of FnHalfs: a half that was put is there, at its road, and none when it was dropped; the younger ones are those whose time has not come. -/
import Derived.Test.YtcnklfddokpbiaaPutHalf
import Derived.Test.YtcnklfddokpbiaaDropHalf
import Derived.Test.YtcnklfddokpbiaaYounger
namespace Go.Proofs.Ytcnklfddokpbiaa
set_option linter.unusedSimpArgs false
set_option linter.unusedVariables false
open Go.RowKit

def rdOf (x : HalfD) : RoadD := ⟨x.fRoadOwn, x.fRoadFar, x.fRoadPort⟩
def atOf (L : List HalfD) (x : HalfD) : Int := halfAt L x.fRoadOwn x.fRoadFar x.fRoadPort
theorem hok_at {M : List HalfD} (h : halfsOk M = true) {k : Nat} (hk : k < M.length) : hokB M k = true := by
  unfold halfsOk at h
  simp only [Bool.and_eq_true, List.all_eq_true, List.mem_range] at h
  exact h.2 k hk
theorem hok_first {M : List HalfD} (h : halfsOk M = true) {k : Nat} (hk : k < M.length) : atOf M M[k] = k := by
  have := hok_at h hk
  unfold hokB at this
  simp only [Bool.and_eq_true] at this
  have h1 := this.1
  rw [nthH_at hk] at h1
  unfold hfirst at h1
  simpa [atOf] using h1
theorem findI_bound {α : Type} (p : α → Bool) (L : List α) : findI p L < L.length := by
  induction L with
  | nil => simp [findI]
  | cons x L ih =>
    unfold findI
    split
    · simp
    · simp only [List.length_cons]
      split <;> omega
theorem findI_ge {α : Type} (p : α → Bool) (L : List α) (x : α) (hx : x ∈ L) (hp : p x = true) : 0 ≤ findI p L := by
  induction L with
  | nil => cases hx
  | cons y L ih =>
    unfold findI
    split
    · omega
    · rename_i hy
      have hxl : x ∈ L := by
        rcases List.mem_cons.1 hx with h | h
        · subst h; exact absurd hp hy
        · exact h
      have := ih hxl
      simp only
      split <;> omega
theorem puth_at (L : List HalfD) (x : HalfD) : ∃ p, ∃ hp : p < (putHL L x).length, (putHL L x)[p] = x := by
  unfold putHL insH
  split
  · exact ⟨L.length, by simp, by simp⟩
  · rename_i hz
    have hlt := findI_bound (roadIs x.fRoadOwn x.fRoadFar x.fRoadPort) L
    have hz' : (halfAt L x.fRoadOwn x.fRoadFar x.fRoadPort).toNat < L.length := by unfold halfAt at hz ⊢; omega
    exact ⟨_, by simpa using hz', by simp⟩
theorem road_eq {a b : HalfD} (h : roadIs a.fRoadOwn a.fRoadFar a.fRoadPort b = true) (M : List HalfD) : atOf M b = atOf M a := by
  unfold roadIs at h
  simp only [Bool.and_eq_true, beq_iff_eq] at h
  unfold atOf
  rw [h.1, h.2.1, h.2.2]
theorem half_law' (M : List HalfD) (x : HalfD) (hok : halfsOk M = true) (p : Nat) (hp : p < M.length) (hpx : M[p] = x) :
    p < M.length ∧ M[p]? = some x ∧ atOf M x = p ∧ atOf (dropL M (rdOf x)) x = -1 ∧ (dropL M (rdOf x)).length + 1 = M.length ∧ atOf (young M x.fUntil) x = -1 ∧ 0 ≤ atOf (young M (x.fUntil - 1)) x ∧ 0 ≤ x.fUntil ∧ x.fUntil ≤ 1000000000 := by
  have hat : atOf M x = p := by rw [← hpx]; exact hok_first hok hp
  have uniq : ∀ (i : Nat) (hi : i < M.length), roadIs x.fRoadOwn x.fRoadFar x.fRoadPort M[i] = true → i = p := by
    intro i hi h
    have h1 := road_eq h M
    rw [hok_first hok hi, hat] at h1
    omega
  have hdrop : dropL M (rdOf x) = M.take p ++ M.drop (p + 1) := by
    unfold dropL dropK rdOf
    have : halfAt M x.fRoadOwn x.fRoadFar x.fRoadPort = p := hat
    simp only [this]
    rw [if_neg (by omega)]
    simp
  have hu : 0 ≤ x.fUntil ∧ x.fUntil ≤ 1000000000 := by
    have := hok_at hok hp
    unfold hokB at this
    simp only [Bool.and_eq_true] at this
    have h1 := this.2
    rw [nthH_at hp, hpx] at h1
    unfold hnum numB winB at h1
    simp at h1
    omega
  refine ⟨hp, by rw [List.getElem?_eq_getElem hp, hpx], hat, ?_, ?_, ?_, ?_, hu⟩
  · rw [hdrop]
    refine findI_none _ _ (fun i hi => ?_)
    rw [List.getElem_append]
    split
    · rename_i h1
      simp at h1
      rw [List.getElem_take]
      cases hb : roadIs x.fRoadOwn x.fRoadFar x.fRoadPort M[i] with
      | false => rfl
      | true => have := uniq i (by omega) hb; omega
    · rename_i h1
      simp at h1 hi
      rw [List.getElem_drop]
      simp only [List.length_take]
      have h2 : p + 1 + (i - min p M.length) < M.length := by omega
      cases hb : roadIs x.fRoadOwn x.fRoadFar x.fRoadPort M[p + 1 + (i - min p M.length)] with
      | false => rfl
      | true => have := uniq _ h2 hb; omega
  · rw [hdrop]; simp; omega
  · refine findI_none _ _ (fun i hi => ?_)
    have hm := List.getElem_mem hi
    unfold young at hm
    rw [List.mem_filter] at hm
    obtain ⟨j, hj, hje⟩ := List.getElem_of_mem hm.1
    cases hb : roadIs x.fRoadOwn x.fRoadFar x.fRoadPort (young M x.fUntil)[i] with
    | false => rfl
    | true =>
      have h1 := uniq j hj (by rw [hje]; exact hb)
      subst h1
      have h2 := hm.2
      rw [← hje, hpx] at h2
      simp at h2
  · refine findI_ge _ _ x ?_ (by simp [roadIs])
    unfold young
    rw [List.mem_filter]
    exact ⟨hpx ▸ List.getElem_mem hp, by simp; omega⟩
theorem half_law (L : List HalfD) (x : HalfD) (h : putHOk L x = true) :
    ∃ p : Nat, p < (putHL L x).length ∧ (putHL L x)[p]? = some x ∧ atOf (putHL L x) x = p ∧ atOf (dropL (putHL L x) (rdOf x)) x = -1 ∧ (dropL (putHL L x) (rdOf x)).length + 1 = (putHL L x).length ∧
      atOf (young (putHL L x) x.fUntil) x = -1 ∧ 0 ≤ atOf (young (putHL L x) (x.fUntil - 1)) x ∧ 0 ≤ x.fUntil ∧ x.fUntil ≤ 1000000000 := by
  obtain ⟨p, hp, hpx⟩ := puth_at L x
  exact ⟨p, half_law' _ x h p hp hpx⟩
end Go.Proofs.Ytcnklfddokpbiaa
