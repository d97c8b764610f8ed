/- What WantedOf computes, in plain words. -/
import Derived.Test.YtfhfanbigjpfaaaPolicy0
import Derived.Test.YtfhfanbigjpfaaaRoadO
namespace Go.Proofs.Ytfhfanbigjpfaaa
set_option linter.unusedSimpArgs false
set_option linter.unusedVariables false
open Go.RowKit
def mkR (a b : AddrD) (p : Int) : RoadD := ⟨a.fAddr, b.fAddr, p⟩
def stepW (o : List RoadD) (r : RoadD) : List RoadD := if o.length < 8 then o ++ [r] else o
def rowTo (F : List AddrD) (a : AddrD) (o : List RoadD) (j : Nat) : List RoadD := (F.take j).foldl (fun o b => stepW o (mkR a b 0)) o
def meshTo (O F : List AddrD) (i : Nat) : List RoadD := (O.take i).foldl (fun o a => rowTo F a o F.length) []
def manyTo (a b : AddrD) (k : Nat) : List RoadD := (List.range k).map fun (i : Nat) => mkR a b (i : Int)
def nthW (L : List AddrD) (k : Nat) : AddrD := L.getD k ⟨0, 0, false, false⟩
theorem nthW_at {L : List AddrD} {k : Nat} (h : k < L.length) : nthW L k = L[k] := by simp [nthW, h]
def wantOk (p : PolicyD) (O F : List AddrD) : Bool := polOk p.fKind p.fMany && (winB O.length 1 6 && winB F.length 1 6)
def manyN (p : PolicyD) : Nat := if p.fKind == 2 then p.fMany.toNat else 1
/-- What WantedOf computes. -/
def wanted (p : PolicyD) (O F : List AddrD) : List RoadD := if wantOk p O F then (if p.fKind == 1 then meshTo O F O.length else manyTo (nthW O 0) (nthW F 0) (manyN p)) else []
theorem rowTo_succ {F : List AddrD} {a : AddrD} {o : List RoadD} {j : Nat} (h : j < F.length) : rowTo F a o (j + 1) = stepW (rowTo F a o j) (mkR a F[j] 0) := by
  unfold rowTo; rw [List.take_succ_eq_append_getElem h, List.foldl_append]; rfl
theorem meshTo_succ {O F : List AddrD} {i : Nat} (h : i < O.length) : meshTo O F (i + 1) = rowTo F O[i] (meshTo O F i) F.length := by
  unfold meshTo; rw [List.take_succ_eq_append_getElem h, List.foldl_append]; rfl
theorem stepW_yes {o : List RoadD} {r : RoadD} (h : o.length < 8) : stepW o r = o ++ [r] := if_pos h
theorem stepW_no {o : List RoadD} {r : RoadD} (h : ¬ o.length < 8) : stepW o r = o := if_neg h
theorem fold_full (a : AddrD) : ∀ (l : List AddrD) (o : List RoadD), ¬ o.length < 8 → l.foldl (fun o b => stepW o (mkR a b 0)) o = o
  | [], _, _ => rfl
  | b :: l, o, h => by rw [List.foldl_cons, stepW_no h]; exact fold_full a l o h
theorem row_full {F : List AddrD} {a : AddrD} {o : List RoadD} {j : Nat} (h : ¬ (rowTo F a o j).length < 8) : rowTo F a o F.length = rowTo F a o j := by
  have e : F.foldl (fun o b => stepW o (mkR a b 0)) o = (F.drop j).foldl (fun o b => stepW o (mkR a b 0)) ((F.take j).foldl (fun o b => stepW o (mkR a b 0)) o) := by rw [← List.foldl_append, List.take_append_drop]
  show (F.take F.length).foldl (fun o b => stepW o (mkR a b 0)) o = (F.take j).foldl (fun o b => stepW o (mkR a b 0)) o
  rw [List.take_length, e]
  exact fold_full a _ _ h
theorem stepW_le {o : List RoadD} {r : RoadD} (h : o.length ≤ 8) : (stepW o r).length ≤ 8 := by
  unfold stepW; split
  · simp; omega
  · exact h
theorem fold_le (a : AddrD) : ∀ (l : List AddrD) (o : List RoadD), o.length ≤ 8 → (l.foldl (fun o b => stepW o (mkR a b 0)) o).length ≤ 8
  | [], _, h => h
  | b :: l, o, h => by rw [List.foldl_cons]; exact fold_le a l _ (stepW_le h)
theorem rowTo_le {F : List AddrD} {a : AddrD} {o : List RoadD} (j : Nat) (h : o.length ≤ 8) : (rowTo F a o j).length ≤ 8 := fold_le a _ _ h
theorem meshTo_le (O F : List AddrD) : ∀ i, i ≤ O.length → (meshTo O F i).length ≤ 8
  | 0, _ => Nat.zero_le _
  | i + 1, h => by rw [meshTo_succ (by omega)]; exact rowTo_le _ (meshTo_le O F i (by omega))
theorem manyTo_succ (a b : AddrD) (k : Nat) : manyTo a b (k + 1) = manyTo a b k ++ [mkR a b (k : Int)] := by
  unfold manyTo; rw [List.range_succ, List.map_append]; rfl
theorem manyTo_len (a b : AddrD) (k : Nat) : (manyTo a b k).length = k := by simp [manyTo]
theorem pol_many {p : PolicyD} (h : polOk p.fKind p.fMany = true) (hk : (p.fKind == 1) = false) : 1 ≤ manyN p ∧ manyN p ≤ 8 ∧ ((manyN p : Nat) : Int) = max 1 p.fMany ∧ (p.fKind == 2) = true ∧ ((manyN p : Nat) : Int) = p.fMany ∨ manyN p = 1 ∧ p.fMany = 0 ∧ (p.fKind == 2) = false := by
  unfold polOk manyN at *
  by_cases h2 : (p.fKind == 2) = true
  · rw [if_pos h2] at h ⊢
    simp [winB] at h
    left
    refine ⟨by omega, by omega, by omega, h2, by omega⟩
  · rw [if_neg h2] at h ⊢
    simp at h hk h2
    right
    refine ⟨rfl, by omega, by simpa using h2⟩
theorem wanted_le (p : PolicyD) (O F : List AddrD) : (wanted p O F).length ≤ 8 := by
  unfold wanted
  split
  · rename_i h
    split
    · exact meshTo_le O F _ (Nat.le_refl _)
    · rename_i hk
      rw [manyTo_len]
      have h0 : polOk p.fKind p.fMany = true := by unfold wantOk at h; simp only [Bool.and_eq_true] at h; exact h.1
      rcases pol_many h0 (by simpa using hk) with h | h <;> omega
  · exact Nat.zero_le _
theorem want_no {p : PolicyD} {O F : List AddrD} (h : wantOk p O F = false) : wanted p O F = [] := by unfold wanted; rw [h]; rfl
theorem want_mesh {p : PolicyD} {O F : List AddrD} (h : wantOk p O F = true) (hk : (p.fKind == 1) = true) : wanted p O F = meshTo O F O.length := by unfold wanted; rw [h, hk]; rfl
theorem want_many {p : PolicyD} {O F : List AddrD} (h : wantOk p O F = true) (hk : (p.fKind == 1) = false) : wanted p O F = manyTo (nthW O 0) (nthW F 0) (manyN p) := by unfold wanted; rw [h, hk]; rfl
end Go.Proofs.Ytfhfanbigjpfaaa
