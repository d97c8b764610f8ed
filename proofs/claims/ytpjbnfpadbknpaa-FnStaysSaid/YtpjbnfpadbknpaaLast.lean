/- A region that draws its order and ends in a store that waits for all the rest: what the loads rest on need not hold behind that store. -/
import Derived.Test.YtpjbnfpadbknpaaMid
import Derived.StillTail
namespace Go.Proofs.Ytpjbnfpadbknpaa
set_option linter.unusedSimpArgs false
set_option linter.unusedVariables false
open Go.RowKit
section
variable {P : Program} {ops : Array Oper} {md : Region.Mode} {Q : Exit → Act → World → Prop} {S : World → Prop} {z : Nat}
/-- Every order serves, and S holds behind each operation but number z. -/
def AnyBut (P : Program) (md : Region.Mode) (ops : Array Oper) (Q : Exit → Act → World → Prop) (S : World → Prop) (z : Nat) : Nat → Array Bool → Act → World → Prop
  | 0, done, a, w => Region.ready md ops done = [] ∧ Q .normal a w
  | n + 1, done, a, w => (Region.ready md ops done = [] → Q .normal a w) ∧
      ∀ i, i ∈ Region.ready md ops done → wpOp P ops Q i (fun a' w' => (i ≠ z → S w') ∧ AnyBut P md ops Q S z n (done.setIfInBounds i true) a' w') a w
theorem AnyBut.any : ∀ (n : Nat) (done : Array Bool) (a : Act) (w : World), AnyBut P md ops Q S z n done a w → wpAny P md ops Q n done a w
  | 0, _, _, _, h => h
  | n + 1, _, _, _, h => ⟨h.1, fun i hi => wpOp_mono (fun a' w' k => AnyBut.any n _ a' w' k.2) (h.2 i hi)⟩
/-- What waits for i is not ready before i is done. -/
theorem wait_not_ready {i j : Nat} {done : Array Bool} (hw : Region.waitsFor md ops j i = true) (hi : i ∈ Region.ready md ops done) : ¬ j ∈ Region.ready md ops done := by
  intro hj
  obtain ⟨oj, hoj, e, he, hb, hon⟩ := Region.waitsFor_spec hw
  obtain ⟨_, oj', hoj', hall⟩ := mem_ready.1 hj
  have e1 : oj = oj' := Option.some.inj (hoj.symm.trans hoj')
  subst e1
  have h1 := hall e he hb
  rw [hon] at h1
  have h0 := (mem_ready.1 hi).1
  rw [getD_both h0] at h1
  cases h1
theorem AnyBut.first {i : Nat} {oi : Oper} {v : Value} (hi : ops[i]? = some oi) (hsel : ∀ (j : Nat) (o : Oper) cs b, ops[j]? = some o → o.op ≠ .select cs b) (hQ : ∀ c a w, Q (.panic c) (a.put oi.dst v) w → Q (.panic c) a w)
    (hz : Region.waitsFor md ops z i = true) : ∀ (n : Nat) (done : Array Bool) (a : Act) (w : World),
      (∀ j oj, ops[j]? = some oj → j ≠ i → done.getD j true = false → (∀ e ∈ oj.after, Region.binds md e = true → e.on ≠ i) → oi.apart ops oj = true) →
      i ∈ Region.ready md ops done → YieldsIf P ops S oi v a → S w → AnyBut P md ops Q S z n (done.setIfInBounds i true) (a.put oi.dst v) w → AnyBut P md ops Q S z (n + 1) done a w := by
  intro n
  induction n with
  | zero =>
    intro done a w _ hr hy hS H
    refine ⟨fun h0 => (by rw [h0] at hr; cases hr), fun j hj => ?_⟩
    by_cases hji : j = i
    · subst hji; exact hy.wpOp hi hS ⟨fun _ => hS, H⟩
    · have hm := ready_mono hj hji
      rw [H.1] at hm
      cases hm
  | succ n ih =>
    intro done a w hfree hr hy hS H
    refine ⟨fun h0 => (by rw [h0] at hr; cases hr), fun j hj => ?_⟩
    by_cases hji : j = i
    · subst hji; exact hy.wpOp hi hS ⟨fun _ => hS, H⟩
    · have hjz : j ≠ z := fun e => wait_not_ready (e ▸ hz) hr hj
      have hrun := H.2 j (ready_mono hj hji)
      obtain ⟨hun, oj, hoj, hall⟩ := mem_ready.1 hj
      have hno : ∀ e ∈ oj.after, Region.binds md e = true → e.on ≠ i := fun e he hb hon => by
        have h1 := hall e he hb
        rw [hon, getD_both (mem_ready.1 hr).1] at h1
        cases h1
      have hsw := wpOp_putIf hoj (hfree j oj hoj hji hun hno) (fun cs b => hsel i oi cs b hi) (fun cs b => hsel j oj cs b hoj) hQ hy hrun
      refine wpOp_mono (fun a' w' k => ⟨fun _ => k.2.1 hjz, ih (done.setIfInBounds j true) a' w' ?_ (ready_mono hr (Ne.symm hji)) k.1 (k.2.1 hjz) ?_⟩) hsw
      · intro m om hm hmi hmu hmo
        refine hfree m om hm hmi ?_ hmo
        by_cases hjm : j = m
        · subst hjm; exact hun
        · rw [getD_set_ne true hjm] at hmu; exact hmu
      · rw [Array.setIfInBounds_comm _ _ hji]
        exact k.2.2
/-- Number i is taken now. -/
theorem AnyBut.take {i : Nat} {oi : Oper} {v : Value} {n : Nat} {done : Array Bool} {a : Act} {w : World} (hi : ops[i]? = some oi) (hs : Region.noSelect ops = true) (hf : Region.free md ops done i = true) (hr : (Region.ready md ops done).contains i = true) (hz : Region.waitsFor md ops z i = true)
    (hQ : ∀ c a w, Q (.panic c) (a.put oi.dst v) w → Q (.panic c) a w) (hy : YieldsIf P ops S oi v a) (hS : S w)
    (h : AnyBut P md ops Q S z n (done.setIfInBounds i true) (a.put oi.dst v) w) : AnyBut P md ops Q S z (n + 1) done a w :=
  AnyBut.first hi (Region.noSelect_spec hs) hQ hz n done a w (Region.free_spec hi hf) (by simpa using hr) hy hS h
/-- One operation alone is ready. -/
theorem AnyBut.one {i : Nat} {oi : Oper} {n : Nat} {done : Array Bool} {a : Act} {w : World} (hi : ops[i]? = some oi) (hr : Region.ready md ops done = [i])
    (h : ∀ K : Act → World → Prop, (∀ a' w', (i ≠ z → S w') → AnyBut P md ops Q S z n (done.setIfInBounds i true) a' w' → K a' w') → if Region.wanted oi (yielded ops a.tmps) then oi.wp P a w K Q else K (a.put oi.dst undef) w) : AnyBut P md ops Q S z (n + 1) done a w := by
  refine ⟨fun h0 => (by rw [h0] at hr; cases hr), fun j hj => ?_⟩
  rw [hr] at hj
  have e : j = i := by simpa using hj
  subst e
  have h1 := h (fun a' w' => (j ≠ z → S w') ∧ AnyBut P md ops Q S z n (done.setIfInBounds j true) a' w') (fun a' w' h1 h2 => ⟨h1, h2⟩)
  unfold wpOp
  simp only [hi]
  split
  · rename_i hw; rw [if_pos hw] at h1; exact .inl h1
  · rename_i hw; rw [if_neg hw] at h1; exact h1
theorem AnyBut.done {done : Array Bool} {a : Act} {w : World} (hr : Region.ready md ops done = []) (h : Q .normal a w) : ∀ n, AnyBut P md ops Q S z n done a w
  | 0 => ⟨hr, h⟩
  | _ + 1 => ⟨fun _ => h, by rw [hr]; intro i hi; cases hi⟩
theorem wp_region_but {id : Nat} {a : Act} {w : World} (z : Nat) (S : World → Prop) (hm : P.follows .mixedOrders = true) (h : AnyBut P .any ops Q S z ops.size (Array.replicate ops.size false) a w.drew) : (Code.region id ops true).wp P Q a w :=
  wp_region_any hm (AnyBut.any _ _ _ _ h)
end
end Go.Proofs.Ytpjbnfpadbknpaa
