/- The plain law of FnPolicies: what a policy wants are roads from own addresses, as many as it says; none is missing when all are there. -/
import Derived.Test.YtfhfanbigjpfaaaWanted0
import Derived.Test.YtfhfanbigjpfaaaMissing
namespace Go.Proofs.Ytfhfanbigjpfaaa
set_option linter.unusedSimpArgs false
set_option linter.unusedVariables false
open Go.RowKit

def FromOf (O : List AddrD) (L : List RoadD) : Prop := ∀ r ∈ L, ∃ a ∈ O, a.fAddr = r.fOwn
theorem stepW_from {O : List AddrD} {L : List RoadD} {r : RoadD} (h : FromOf O L) (hr : ∃ a ∈ O, a.fAddr = r.fOwn) : FromOf O (stepW L r) := by
  unfold stepW
  split
  · intro x hx
    rcases List.mem_append.1 hx with hx | hx
    · exact h x hx
    · rw [List.mem_singleton.1 hx]; exact hr
  · exact h
theorem row_from {O : List AddrD} {a : AddrD} (ha : a ∈ O) : ∀ (F : List AddrD) (L : List RoadD), FromOf O L → FromOf O (F.foldl (fun o b => stepW o (mkR a b 0)) L)
  | [], _, h => h
  | b :: F, L, h => row_from ha F _ (stepW_from h ⟨a, ha, rfl⟩)
theorem mesh_from {O : List AddrD} (F : List AddrD) : ∀ (P : List AddrD) (L : List RoadD), (∀ a ∈ P, a ∈ O) → FromOf O L → FromOf O (P.foldl (fun o a => rowTo F a o F.length) L)
  | [], _, _, h => h
  | a :: P, L, hp, h => by
    refine mesh_from F P _ (fun x hx => hp x (by simp [hx])) ?_
    unfold rowTo
    exact row_from (hp a (by simp)) _ _ h
theorem nthW_mem {O : List AddrD} (h : 0 < O.length) : nthW O 0 ∈ O := by rw [nthW_at h]; exact List.getElem_mem _
theorem wanted_from (p : PolicyD) (O F : List AddrD) : FromOf O (wanted p O F) := by
  unfold wanted
  split
  · rename_i hw
    have hO : 0 < O.length := by
      unfold wantOk winB at hw
      simp only [Bool.and_eq_true, decide_eq_true_eq] at hw
      omega
    split
    · unfold meshTo
      exact mesh_from F _ _ (fun a ha => List.mem_of_mem_take ha) (fun r hr => by cases hr)
    · unfold manyTo
      intro r hr
      obtain ⟨i, _, rfl⟩ := List.mem_map.1 hr
      exact ⟨_, nthW_mem hO, rfl⟩
  · intro r hr; cases hr
theorem stepW_mono (L : List RoadD) (r : RoadD) : L.length ≤ (stepW L r).length ∧ 0 < (stepW L r).length := by
  unfold stepW
  split
  · simp
  · omega
theorem row_mono (a : AddrD) : ∀ (F : List AddrD) (L : List RoadD), L.length ≤ (F.foldl (fun o b => stepW o (mkR a b 0)) L).length ∧ (F ≠ [] → 0 < (F.foldl (fun o b => stepW o (mkR a b 0)) L).length)
  | [], _ => ⟨Nat.le_refl _, fun h => absurd rfl h⟩
  | b :: F, L => by
    have h1 := stepW_mono L (mkR a b 0)
    have h2 := (row_mono a F (stepW L (mkR a b 0))).1
    simp only [List.foldl_cons]
    exact ⟨by omega, fun _ => by omega⟩
theorem mesh_mono (F : List AddrD) : ∀ (P : List AddrD) (L : List RoadD), L.length ≤ (P.foldl (fun o a => rowTo F a o F.length) L).length ∧ (P ≠ [] → F ≠ [] → 0 < (P.foldl (fun o a => rowTo F a o F.length) L).length)
  | [], _ => ⟨Nat.le_refl _, fun h => absurd rfl h⟩
  | a :: P, L => by
    have h1 := row_mono a F L
    have h2 := (mesh_mono F P (rowTo F a L F.length)).1
    have e : rowTo F a L F.length = F.foldl (fun o b => stepW o (mkR a b 0)) L := by unfold rowTo; rw [List.take_length]
    simp only [List.foldl_cons]
    rw [e] at h2 ⊢
    exact ⟨by omega, fun _ hf => by have := h1.2 hf; omega⟩
theorem wanted_some (p : PolicyD) (O F : List AddrD) (h : wanted p O F = []) : polOk p.fKind p.fMany = false ∨ O.length = 0 ∨ F.length = 0 ∨ 6 < O.length ∨ 6 < F.length := by
  cases hp : polOk p.fKind p.fMany with
  | false => exact .inl rfl
  | true =>
    right
    by_cases hw : wantOk p O F = true
    · exfalso
      have hw' := hw
      unfold wantOk winB at hw'
      simp only [Bool.and_eq_true, decide_eq_true_eq] at hw'
      have hO : O ≠ [] := by intro e; rw [e] at hw'; simp at hw'
      have hF : F ≠ [] := by intro e; rw [e] at hw'; simp at hw'
      unfold wanted at h
      rw [if_pos hw] at h
      split at h
      · have := (mesh_mono F (O.take O.length) []).2 (by rw [List.take_length]; exact hO) hF
        unfold meshTo at h
        rw [h] at this
        simp at this
      · unfold manyTo manyN at h
        have h1 := congrArg List.length h
        simp at h1
        unfold polOk winB at hp
        split at h1
        · rename_i h2
          rw [h2] at hp
          simp at hp
          omega
        · omega
    · have hf : wantOk p O F = false := by simpa using hw
      unfold wantOk winB at hf
      rw [hp] at hf
      simp at hf
      omega
theorem hasR_mem {L : List RoadD} {r : RoadD} (h : r ∈ L) : hasR L r = true := by
  unfold hasR
  rw [List.any_eq_true]
  exact ⟨r, h, by simp [sameR]⟩
theorem missing_self {L : List RoadD} (h : L.length ≤ 8) : missing L L = [] := by
  unfold missing
  rw [if_pos (by omega)]
  unfold missTo
  rw [List.take_length, List.filter_eq_nil_iff]
  intro r hr
  simp [hasR_mem hr]
theorem missing_nil {L : List RoadD} (h : L.length ≤ 8) : missing L [] = L := by
  unfold missing
  rw [if_pos (by simp; omega)]
  unfold missTo
  rw [List.take_length, List.filter_eq_self]
  intro r hr
  simp [hasR]
/-- Some of the first k addresses is a. -/
def hasTo (O : List AddrD) (a : Int) (k : Nat) : Bool := (O.take k).any fun x => x.fAddr == a
theorem hasTo_succ {O : List AddrD} {a : Int} {k : Nat} (h : k < O.length) : hasTo O a (k + 1) = (hasTo O a k || O[k].fAddr == a) := by
  unfold hasTo
  rw [List.take_succ_eq_append_getElem h, List.any_append]
  simp
theorem hasTo_all {O : List AddrD} {L : List RoadD} (h : FromOf O L) {i : Nat} (hi : i < L.length) : hasTo O L[i].fOwn O.length = true := by
  obtain ⟨a, ha, he⟩ := h _ (List.getElem_mem hi)
  unfold hasTo
  rw [List.take_length, List.any_eq_true]
  exact ⟨a, ha, by simp [he]⟩
end Go.Proofs.Ytfhfanbigjpfaaa
