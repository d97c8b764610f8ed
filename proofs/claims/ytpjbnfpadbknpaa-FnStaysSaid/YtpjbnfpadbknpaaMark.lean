/- A row whose cells are overwritten one after the other. -/
import Derived.Test.YtpjbnfpadbknpaaPart
import Derived.Lib.SmallJoins
namespace Go.Proofs.Ytpjbnfpadbknpaa
set_option linter.unusedSimpArgs false
set_option linter.unusedVariables false
open Go.RowKit

/-- What the functions sz.. leave of a budget l behind n letters. -/
def szI (l n : Int) : Int := if n ≤ l then l - n else -1

/-- Block g has N cells; the first m of them hold p. -/
def PM (w : World) (g : Nat) (e : TypeId) (N : Nat) (p : Nat → Value) (m : Nat) : Prop :=
  ∃ cur : Array Value, w.heap[g]? = some (.cells cur e (0, 0)) ∧ cur.size = N ∧ ∀ i, i < m → cur[i]? = some (p i)
theorem PM.step {w : World} {g : Nat} {e : TypeId} {N : Nat} {p : Nat → Value} {m : Nat} (h : PM w g e N p m) (hm : m < N) {v : Value} (hv : v = p m) : PM (w.setCell ⟨g, m, none⟩ v) g e N p (m + 1) := by
  obtain ⟨cur, h1, h2, h3⟩ := h
  refine ⟨cur.setIfInBounds m v, Joins.block_setCell h1 v, by simpa using h2, fun i hi => ?_⟩
  rw [Array.getElem?_setIfInBounds]
  by_cases hmi : m = i
  · subst hmi; rw [if_pos rfl, if_pos (by omega), hv]
  · rw [if_neg hmi]; exact h3 i (by omega)
theorem PM.cell {w : World} {g : Nat} {e : TypeId} {N : Nat} {p : Nat → Value} {m : Nat} (h : PM w g e N p m) {i : Nat} (hi : i < N) : ∃ u, w.cell? ⟨g, i, none⟩ = some u := by
  obtain ⟨cur, h1, h2, h3⟩ := h
  exact ⟨cur[i], by rw [cell_of_row w g i cur e (0, 0) h1]; exact Array.getElem?_eq_getElem (by omega)⟩
theorem PM.free {w : World} {g : Nat} {e : TypeId} {N : Nat} {p : Nat → Value} {m : Nat} (h : PM w g e N p m) (i : Nat) : w.frozen? ⟨g, i, none⟩ = false := by
  obtain ⟨cur, h1, h2, h3⟩ := h
  exact Joins.unfrozen_of_block h1 i
theorem only_set {a w : World} {g : Nat} (h : a.grownBy w (some g)) (i : Nat) (u : Value) : a.grownBy (w.setCell ⟨g, i, none⟩ u) (some g) :=
  ⟨h.os, h.tape, h.output, by simpa [World.setCell] using h.size, fun k hk hne => (Below.heap_setCell w ⟨g, i, none⟩ u k (fun e => hne (by rw [e]))).trans (h.block k hk hne)⟩
section
variable {α : Type} {c : α → List Value} {sz : Nat}
/-- The elements that a mark leaves: F 0, F 1, .. -/
def markL (F : Nat → α) (n : Nat) : List α := (List.range n).map F
theorem markL_length (F : Nat → α) (n : Nat) : (markL F n).length = n := by simp [markL]
theorem markL_get (F : Nat → α) (n k : Nat) (h : k < (markL F n).length) : (markL F n)[k] = F k := by simp [markL]
/-- Cell i of the row that a mark leaves. -/
def pat (c : α → List Value) (sz : Nat) (F : Nat → α) (i : Nat) : Value := ((c (F (i / sz)))[i % sz]?).getD undef
theorem pat_at (F : Nat → α) (k j : Nat) (hj : j < sz) {v : Value} (h : (c (F k))[j]? = some v) : v = pat c sz F (k * sz + j) := by
  unfold pat
  have h1 : (k * sz + j) / sz = k := by rw [Nat.add_comm, Nat.add_mul_div_right _ _ (by omega), Nat.div_eq_of_lt hj, Nat.zero_add]
  have h2 : (k * sz + j) % sz = j := by rw [Nat.add_comm, Nat.add_mul_mod_self_right, Nat.mod_eq_of_lt hj]
  rw [h1, h2, h]; rfl
theorem PM.start {w : World} {g n cap : Nat} {e : TypeId} {base : Nat} {xs : List Value} (F : Nat → α) (h : w.ownsRow base e sz (.slice (some ⟨g, 0, none⟩) n cap) n xs) : PM w g e (cap * sz) (pat c sz F) 0 := by
  rcases h.2 with ⟨hv, _⟩ | ⟨g', cap', cur, hv, _, hg, _, _, hs, _⟩
  · cases hv
  · simp only [Value.slice.injEq, Option.some.injEq, Addr.mk.injEq, and_true] at hv
    obtain ⟨rfl, _, rfl⟩ := hv
    exact ⟨cur, hg, hs, fun i hi => absurd hi (by omega)⟩
theorem PM.done {w : World} {g n cap : Nat} {e : TypeId} {base : Nat} {F : Nat → α} (hc : ∀ x, (c x).length = sz) (hb : base ≤ g) (hn : n ≤ cap) (hm : cap ≤ maxLen) (h : PM w g e (cap * sz) (pat c sz F) (n * sz)) :
    w.ownsRow base e sz (.slice (some ⟨g, 0, none⟩) n cap) n ((markL F n).flatMap c) := by
  obtain ⟨cur, h1, h2, h3⟩ := h
  have hl := flat_length hc (markL F n)
  rw [markL_length] at hl
  refine ⟨hl, .inr ⟨g, cap, cur, rfl, hb, h1, hn, hm, h2, ?_⟩⟩
  have hsz : n * sz ≤ cur.size := by rw [h2]; exact Nat.mul_le_mul_right _ hn
  apply List.ext_getElem?
  intro i
  rw [List.getElem?_take]
  by_cases hi : i < n * sz
  · rw [if_pos hi, Array.getElem?_toList, h3 i hi]
    have hpos : 0 < sz := by rcases Nat.eq_zero_or_pos sz with h | h; · rw [h] at hi; omega
                             · exact h
    have hk : i / sz < n := (Nat.div_lt_iff_lt_mul hpos).2 hi
    have hj : i % sz < sz := Nat.mod_lt _ hpos
    have hf := flat_get hc (markL F n) (i / sz) (by rw [markL_length]; exact hk) (i % sz) hj
    rw [Nat.div_add_mod' i sz] at hf
    rw [hf, markL_get]
    unfold pat
    rw [List.getElem?_eq_getElem (by rw [hc]; exact hj)]; rfl
  · rw [if_neg hi, List.getElem?_eq_none (by omega)]
end
end Go.Proofs.Ytpjbnfpadbknpaa
