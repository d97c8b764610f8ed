/- The plain law of FnAddrs: an address that was put is there, at its place by Id, and none when it was dropped. -/
import Derived.Test.YtibjnpbkchopnaaPut
import Derived.Test.YtibjnpbkchopnaaUntold
namespace Go.Proofs.Ytibjnpbkchopnaa
set_option linter.unusedSimpArgs false
set_option linter.unusedVariables false
open Go.RowKit

theorem aok_at {M : List AddrD} (h : addrsOk M = true) {k : Nat} (hk : k < M.length) : aokB M k = true := by
  unfold addrsOk at h
  simp only [Bool.and_eq_true, List.all_eq_true, List.mem_range] at h
  exact h.2 k hk
theorem ids_step {M : List AddrD} (h : addrsOk M = true) {k : Nat} (hk : k + 1 < M.length) : (M[k]'(by omega)).fId < M[k + 1].fId := by
  have := aok_at h hk
  unfold aokB at this
  simp only [Bool.and_eq_true, Bool.or_eq_true, decide_eq_true_eq] at this
  rcases this.1.2 with h1 | h1
  · omega
  · rw [nthA_at hk, show k + 1 - 1 = k from rfl, nthA_at (by omega)] at h1
    exact h1
theorem ids_lt {M : List AddrD} (h : addrsOk M = true) : ∀ (d i : Nat) (hj : i + 1 + d < M.length), (M[i]'(by omega)).fId < M[i + 1 + d].fId := by
  intro d
  induction d with
  | zero => intro i hj; exact ids_step h hj
  | succ d ih =>
    intro i hj
    have h1 := ih i (by omega)
    have h2 := ids_step h (k := i + 1 + d) (by omega)
    have e : i + 1 + (d + 1) = i + 1 + d + 1 := rfl
    simp only [e]
    omega
theorem ids_lt' {M : List AddrD} (h : addrsOk M = true) {i j : Nat} (hij : i < j) (hj : j < M.length) : (M[i]'(by omega)).fId < M[j].fId := by
  have := ids_lt h (j - i - 1) i (by omega)
  have e : i + 1 + (j - i - 1) = j := by omega
  simp only [e] at this
  exact this
theorem put_at (L : List AddrD) (a : AddrD) : ∃ p, ∃ hp : p < (putL L a).length, (putL L a)[p] = a := by
  unfold putL insK
  have hlt := findI_lt (fun x : AddrD => x.fId == a.fId) L
  split
  · have := putPos_le L a.fId
    refine ⟨putPos L a.fId, by simp; omega, ?_⟩
    rw [List.getElem_append_left (by simp; omega), List.getElem_append_right (by simp; omega)]
    simp
  · rename_i hz
    have hz' : (addrAt L a.fId).toNat < L.length := by unfold addrAt at hz ⊢; omega
    refine ⟨(addrAt L a.fId).toNat, by simpa using hz', ?_⟩
    simp
theorem addr_law' (M : List AddrD) (a : AddrD) (hok : addrsOk M = true) (p : Nat) (hp : p < M.length) (hpa : M[p] = a) :
    p < M.length ∧ M[p]? = some a ∧ addrAt M a.fId = p ∧ addrAt (dropL M a.fId) a.fId = -1 ∧ (dropL M a.fId).length + 1 = M.length ∧
      (untold M).length = (untold (dropL M a.fId)).length + (if a.fTold then 0 else 1) := by
  have hat : addrAt M a.fId = p := by
    refine findI_hit _ M p hp (fun i hi hip => ?_) (by simp [hpa])
    have := ids_lt' hok hip hp
    rw [hpa] at this
    simp
    omega
  have hdrop : dropL M a.fId = M.take p ++ M.drop (p + 1) := by
    unfold dropL dropK
    rw [hat, if_neg (by omega)]
    simp
  refine ⟨hp, by rw [List.getElem?_eq_getElem hp, hpa], hat, ?_, ?_, ?_⟩
  · rw [hdrop]
    refine findI_none _ _ (fun i hi => ?_)
    rw [List.getElem_append]
    split
    · rename_i h1
      simp at h1
      rw [List.getElem_take]
      have := ids_lt' hok (i := i) (j := p) (by omega) hp
      rw [hpa] at this
      simp
      omega
    · rename_i h1
      simp at h1 hi
      rw [List.getElem_drop]
      simp only [List.length_take]
      have h2 : p + 1 + (i - min p M.length) < M.length := by omega
      have := ids_lt' hok (i := p) (j := p + 1 + (i - min p M.length)) (by omega) h2
      rw [hpa] at this
      simp
      omega
  · rw [hdrop]; simp; omega
  · rw [hdrop]
    have e : M = M.take p ++ ([a] ++ M.drop (p + 1)) := by
      rw [List.singleton_append, ← hpa, List.getElem_cons_drop, List.take_append_drop]
    have u : ∀ X Y : List AddrD, (untold (X ++ Y)).length = (untold X).length + (untold Y).length := by intro X Y; simp [untold]
    have h1 : (untold M).length = (untold (M.take p ++ ([a] ++ M.drop (p + 1)))).length := congrArg (fun X => (untold X).length) e
    have h2 : (untold [a]).length = if a.fTold then 0 else 1 := by cases h : a.fTold <;> simp [untold, h]
    rw [h1, u, u, u, h2]
    omega
theorem addr_law (L : List AddrD) (a : AddrD) (h : putOk L a = true) :
    ∃ p : Nat, p < (putL L a).length ∧ (putL L a)[p]? = some a ∧ addrAt (putL L a) a.fId = p ∧ addrAt (dropL (putL L a) a.fId) a.fId = -1 ∧ (dropL (putL L a) a.fId).length + 1 = (putL L a).length ∧
      (untold (putL L a)).length = (untold (dropL (putL L a) a.fId)).length + (if a.fTold then 0 else 1) := by
  obtain ⟨p, hp, hpa⟩ := put_at L a
  exact ⟨p, addr_law' _ a h p hp hpa⟩
end Go.Proofs.Ytibjnpbkchopnaa
