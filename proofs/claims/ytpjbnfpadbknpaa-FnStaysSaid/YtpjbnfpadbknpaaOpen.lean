/- How the arguments of a statement are opened: small laws on the readings of structs and slices, for every program. -/
import Derived.Test.YtpjbnfpadbknpaaSl
import Derived.ProofKit
import Derived.OpenShut
import Derived.Deep.Slices
import Derived.Deep.Fields
import Derived.ChangeSame
namespace Go.Proofs.Ytpjbnfpadbknpaa
set_option linter.unusedSimpArgs false
set_option linter.unusedVariables false
open Go.RowKit Go.ChangeShapes Go.WideShapes Go.Deep

section
variable {H : Type} {enc : TypeId × Value → H} {P : Program} {w : World} {base : Nat} {spare : Nat → Bool} {held : Bool}

/-- A struct by value: its cells, read as the struct. -/
theorem open_struct {r : Reach} {b0 : Nat} {t : TypeId} {fs : Array Field} {v : Value} {d : DataW H} {p : List MemPlace} (hs : P.underlying t = some (.struct fs))
    (hv : Value.okWide P w r b0 t v) (h : DataW.Trod enc P w base spare held t v d p) :
    ∃ (l : List Value) (n : Nat) (y : DataW H × List MemPlace), v = .agg l.toArray ∧ DataW.trod enc P w base spare held n t l = some y := by
  obtain ⟨cs, rfl, _⟩ := okWide_struct hs hv
  obtain ⟨fuel, hf⟩ := h
  obtain ⟨l⟩ := cs
  exact ⟨l, fuel, _, rfl, by simpa [Value.cells] using hf⟩

/-- A slice whose elements read as 'c x': its elements as a list. -/
theorem open_rows {α : Type} {t e : TypeId} {fuel : Nat} {cs : List Value} {y : DataW H × List MemPlace} (c : α → List Value) (wf : α → Prop) (sz : Nat) (hc : ∀ x, (c x).length = sz) (hsz : 0 < sz)
    (ht : P.underlying t = some (.slice e)) (hC : P.cellsOf e = sz)
    (hel : ∀ (n : Nat) (cs : List Value) (y : DataW H × List MemPlace), DataW.trod enc P w base spare held n e cs = some y → ∃ x : α, cs = c x ∧ wf x)
    (h : DataW.trod enc P w base spare held fuel t cs = some y) :
    ∃ (A : Option Addr) (cap : Nat) (L : List α), cs = [.slice A L.length cap] ∧ L.length ≤ cap ∧ cap ≤ maxLen ∧ (∀ x ∈ L, wf x) ∧ Rd c sz w 0 w.heap.size A L := by
  rcases open_slice ht h with ⟨h0, _⟩ | ⟨a, len, cap, m, n, D, Pl, hcs, hb, hl, hm, hmm, hx, hi⟩
  · exact ⟨none, 0, [], h0, Nat.le_refl _, Nat.zero_le _, by simp, .inl rfl⟩
  · have hlm : len ≤ m := by rw [hmm]; split <;> omega
    have hall : ∀ i, i < len → ∃ x : α, w.cells? base (a.add (i * sz)) sz = some (c x) ∧ wf x := by
      intro i hil
      obtain ⟨cs', h1, h2⟩ := hi i (by omega)
      obtain ⟨x, rfl, hwx⟩ := hel _ _ _ h2
      rw [hC] at h1
      exact ⟨x, h1, hwx⟩
    obtain ⟨L, hL, hLx⟩ : ∃ L : List α, L.length = len ∧ ∀ i (hi : i < L.length), w.cells? base (a.add (i * sz)) sz = some (c L[i]) ∧ wf L[i] := by
      clear hcs hb hl hx hi hmm hlm
      induction len with
      | zero => exact ⟨[], rfl, fun i hi => absurd hi (by simp)⟩
      | succ len ih =>
        obtain ⟨L, hL, hLx⟩ := ih (fun i hi => hall i (by omega))
        obtain ⟨x, hx1, hx2⟩ := hall len (by omega)
        refine ⟨L ++ [x], by simp [hL], fun i hi => ?_⟩
        rw [List.getElem_append]
        split
        · exact hLx i _
        · have : i = len := by simp at hi; omega
          subst this
          simpa [hL] using ⟨hx1, hx2⟩
    refine ⟨some a, cap, L, by rw [hcs, hL], by omega, hm, fun x hx => ?_, ?_⟩
    · obtain ⟨i, hi, rfl⟩ := List.getElem_of_mem hx
      exact (hLx i hi).2
    · by_cases h0 : L = []
      · exact .inl h0
      · have hpos : 0 < L.length := List.length_pos_iff.2 h0
        have hcell : ∀ (i : Nat) (hi : i < L.length) (j : Nat), j < sz → w.cell? (a.add (i * sz + j)) = (c L[i])[j]? := by
          intro i hi j hj
          obtain ⟨_, _, hat⟩ := World.cells?_some (hLx i hi).1
          have := hat j hj
          rw [Go.Deep.add_add] at this
          exact this
        have h00 := hcell 0 hpos 0 hsz
        have hsome : (c L[0])[0]? = some ((c L[0])[0]'(by rw [hc]; exact hsz)) := List.getElem?_eq_getElem _
        rw [hsome] at h00
        have hlt := World.block_lt_of_cell? w _ h00
        have hspot : a.spot = none := by simpa [Addr.add] using World.cell?_spot h00
        obtain ⟨g, o, sp⟩ := a
        simp only at hspot
        subst hspot
        refine .inr ⟨g, o, rfl, Nat.zero_le _, by simpa [Addr.add] using hlt, fun k hk j hj => ?_⟩
        have := hcell k hk j hj
        rw [← this]
        congr 1
        unfold Addr.add
        by_cases hz : k * sz + j = 0
        · rw [if_pos hz, Nat.add_assoc, hz]; rfl
        · rw [if_neg hz, Nat.add_assoc]
end
end Go.Proofs.Ytpjbnfpadbknpaa
