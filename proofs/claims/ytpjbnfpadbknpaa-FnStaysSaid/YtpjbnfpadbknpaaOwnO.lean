/- Slices of the call's own that may begin in the midst of their block: they read as a list; one element appended. -/
import Derived.Test.YtpjbnfpadbknpaaOwn
import Derived.Test.YtpjbnfpadbknpaaVal
import Derived.ArgAppend
namespace Go.Proofs.Ytpjbnfpadbknpaa
set_option linter.unusedSimpArgs false
set_option linter.unusedVariables false
open Go.RowKit

section
variable {α : Type} {c : α → List Value} {sz base : Nat} {v : Value} {L : List α} {w w' : World}
/-- The slice v is the call's own (its block, if it has one, from base on), it may begin in the midst of its block, it reads as L, and its spare may be written. -/
def OwnO (w : World) (base : Nat) (c : α → List Value) (sz : Nat) (v : Value) (L : List α) : Prop :=
  (v = .slice none 0 0 ∧ L = []) ∨ ∃ g o cap, v = .slice (some ⟨g, o, none⟩) L.length cap ∧ base ≤ g ∧ g < w.heap.size ∧ L.length ≤ cap ∧ cap ≤ maxLen ∧
    (∀ k (hk : k < L.length) j, j < sz → w.cell? ⟨g, o + k * sz + j, none⟩ = (c L[k])[j]?) ∧ ∀ j, j < cap * sz → (w.cell? ⟨g, o + j, none⟩).isSome = true ∧ w.frozen? ⟨g, o + j, none⟩ = false
theorem OwnO.nil (w : World) (base : Nat) : OwnO w base c sz (.slice none 0 0) [] := .inl ⟨rfl, rfl⟩
theorem OwnO.lt (h : OwnO w base c sz v L) {k : Nat} (hk : v.ownBlock = some k) : base ≤ k ∧ k < w.heap.size := by
  rcases h with ⟨rfl, _⟩ | ⟨g, o, cap, rfl, h1, h2, _⟩
  · cases hk
  · cases hk; exact ⟨h1, h2⟩
theorem OwnO.keep (h : OwnO w base c sz v L) (hz : w.heap.size ≤ w'.heap.size) (hk : ∀ k, v.ownBlock = some k → base ≤ k → k < w.heap.size → w'.heap[k]? = w.heap[k]?) : OwnO w' base c sz v L := by
  rcases h with h | ⟨g, o, cap, rfl, h1, h2, h3, h4, h5, h6⟩
  · exact .inl h
  · have hg := hk g rfl h1 h2
    have hc : ∀ o, w'.cell? ⟨g, o, none⟩ = w.cell? ⟨g, o, none⟩ := fun o => by unfold World.cell?; rw [show (Addr.mk g o none).block = g from rfl, hg]
    have hf : ∀ o, w'.frozen? ⟨g, o, none⟩ = w.frozen? ⟨g, o, none⟩ := fun o => by unfold World.frozen?; rw [show (Addr.mk g o none).block = g from rfl, hg]
    exact .inr ⟨g, o, cap, rfl, h1, Nat.lt_of_lt_of_le h2 hz, h3, h4, fun k hk j hj => (hc _).trans (h5 k hk j hj), fun j hj => ⟨by rw [hc]; exact (h6 j hj).1, by rw [hf]; exact (h6 j hj).2⟩⟩
theorem OwnO.later {B : Nat} (h : OwnO w base c sz v L) (hb : Below B w w') (hB : w.heap.size ≤ B) : OwnO w' base c sz v L := h.keep hb.size fun k _ _ hk => hb.block k (Nat.lt_of_lt_of_le hk hB)
theorem OwnO.alloc (h : OwnO w base c sz v L) (o : Obj) : OwnO (w.alloc o) base c sz v L := h.later (by go_grown : Below w.heap.size w (w.alloc o)) (Nat.le_refl _)
theorem OwnO.touch {lo hi : Nat} (h : OwnO w base c sz v L) (ht : Touch lo hi w w') (hb : hi ≤ base) : OwnO w' base c sz v L := h.keep ht.size fun k _ hk hl => ht.block k hl (.inr (by omega))
theorem OwnO.up {base' : Nat} (h : OwnO w base c sz v L) (hb : base' ≤ base) : OwnO w base' c sz v L := by
  rcases h with h | ⟨g, o, cap, h0, h1, h2⟩
  · exact .inl h
  · exact .inr ⟨g, o, cap, h0, Nat.le_trans hb h1, h2⟩
theorem OwnO.rd (h : OwnO w base c sz v L) : ∃ A cap, v = .slice A L.length cap ∧ L.length ≤ cap ∧ cap ≤ maxLen ∧ Rd c sz w base w.heap.size A L := by
  rcases h with ⟨rfl, rfl⟩ | ⟨g, o, cap, rfl, h1, h2, h3, h4, h5, h6⟩
  · exact ⟨none, 0, rfl, Nat.le_refl _, Nat.zero_le _, .inl rfl⟩
  · exact ⟨_, cap, rfl, h3, h4, .inr ⟨g, o, rfl, h1, h2, h5⟩⟩
theorem OwnO.rdv {A : Option Addr} {n cap : Nat} (h : OwnO w base c sz (.slice A n cap) L) : Rd c sz w base w.heap.size A L := by
  obtain ⟨A', cap', h1, _, _, r⟩ := h.rd
  cases h1
  exact r
theorem Own.toO {e : TypeId} (hc : ∀ x, (c x).length = sz) (h : Own w base e c sz v L) : OwnO w base c sz v L := by
  have h0 := h
  rcases h.form with ⟨h1, h2⟩ | ⟨g, cap, cur, rfl, hb, hg, hn, hm, hs, ht⟩
  · exact .inl ⟨h1, h2⟩
  · refine .inr ⟨g, 0, cap, rfl, hb, (Array.getElem?_eq_some_iff.1 hg).1, hn, hm, fun k hk j hj => ?_, fun j hj => ?_⟩
    · rw [Nat.zero_add]; exact h0.cellAt hc k hk j hj
    · rw [Nat.zero_add]
      refine ⟨?_, h0.free j⟩
      rw [cell_of_row w g j cur e (0, 0) hg, Array.getElem?_eq_getElem (by omega)]
      rfl
/-- 's[k:]'. -/
theorem OwnO.cut {g o n cap : Nat} (h : OwnO w base c sz (.slice (some ⟨g, o, none⟩) n cap) L) (k : Nat) (hk : k ≤ L.length) (x : Option Addr) (hx : x = if cap = k then some ⟨g, o, none⟩ else some ⟨g, o + k * sz, none⟩) : OwnO w base c sz (.slice x (L.drop k).length (cap - k)) (L.drop k) := by
  rcases h with ⟨h1, _⟩ | ⟨g', o', cap', h1, h2, h3, h4, h5, h6, h7⟩
  · cases h1
  · cases h1
    by_cases hck : cap = k
    · subst hck
      rw [if_pos rfl] at hx
      subst hx
      refine .inr ⟨g, o, cap - cap, rfl, h2, h3, by simp; omega, by omega, fun i hi j hj => ?_, fun j hj => ?_⟩
      · rw [List.length_drop] at hi; omega
      · simp at hj
    · rw [if_neg hck] at hx
      subst hx
      refine .inr ⟨g, o + k * sz, cap - k, rfl, h2, h3, by simp; omega, by omega, fun i hi j hj => ?_, fun j hj => ?_⟩
      · rw [List.length_drop] at hi
        have := h6 (k + i) (by omega) j hj
        rw [Nat.add_mul, ← Nat.add_assoc] at this
        rw [this, List.getElem_drop]
      · have e1 : k * sz + j < cap * sz := by
          have : cap * sz = k * sz + (cap - k) * sz := by rw [← Nat.add_mul]; congr 1; omega
          omega
        have := h7 (k * sz + j) e1
        rwa [← Nat.add_assoc] at this
/-- 's[k:]', the address that the model gives under one name. -/
theorem OwnO.cut_sel {g o n cap : Nat} (h : OwnO w base c sz (.slice (some ⟨g, o, none⟩) n cap) L) (k : Nat) (hk : k ≤ L.length) :
    ∃ sel : Option Addr → Option Addr → Option Addr, (∀ x y, (if cap = k then x else y) = sel x y) ∧ OwnO w base c sz (.slice (sel (some ⟨g, o, none⟩) (some ⟨g, o + k * sz, none⟩)) (L.drop k).length (cap - k)) (L.drop k) :=
  ⟨fun x y => if cap = k then x else y, fun _ _ => rfl, h.cut k hk _ rfl⟩
theorem OwnO.setOther (h : OwnO w base c sz v L) {p : Addr} (hp : v.ownBlock ≠ some p.block) (u : Value) : OwnO (w.setCell p u) base c sz v L :=
  h.keep (by simp) fun k hk _ _ => Below.heap_setCell _ _ _ _ (fun e => hp (by rw [hk, e]))
end

theorem grown_setCells (b : Nat) : ∀ (vs : List Value) (o : Nat) (w : World), w.grownBy (w.setCells b o vs) (some b)
  | [], _, _ => ⟨rfl, rfl, rfl, Nat.le_refl _, fun _ _ _ => rfl⟩
  | v :: r, o, w => by
    have h := grown_setCells b r (o + 1) (w.setCell ⟨b, o, none⟩ v)
    exact ⟨h.os, h.tape, h.output, by have := h.size; simpa [World.setCells] using this, fun q hq hne => (h.block q (by simpa using hq) hne).trans (Below.heap_setCell _ _ _ _ (fun e => hne (congrArg some e)))⟩
section
variable {P : Program} {α : Type} {c : α → List Value} {sz : Nat} (w : World)
/-- One element more. -/
theorem run_append_o {t e : TypeId} (ty : TypeId) (hT : SlTy P t e sz) (hc : ∀ x, (c x).length = sz) (h1 : ∀ x, ∀ u ∈ c x, u.oneCell' = true) (base : Nat) (v : Value) (L : List α) (x : α) (hown : OwnO w base c sz v L) (ad : Addr) (k : Nat) (hx : ∀ j u, (c x)[j]? = some u → w.cell? (ad.add j) = some u) (hlen : L.length + 1 ≤ 1099511627776) (hb : base ≤ w.heap.size) :
    ∃ v' w', (Builtin.append_ #[t, t] ty #[v, .slice (some ad) 1 k]).run P w = .ok v' w' ∧ OwnO w' base c sz v' (L ++ [x]) ∧ w.grownBy w' v.ownBlock ∧ (v'.ownBlock = v.ownBlock ∨ ∃ k, v'.ownBlock = some k ∧ w.heap.size ≤ k) := by
  obtain ⟨ht, i, z, bytes, hi', hz, hs, hby, hzs, hsz, hbb⟩ := hT
  have hbytes : (L.length + 1) * bytes ≤ 140737488355328 := Nat.le_trans (Nat.mul_le_mul hlen hbb) (by decide)
  have hfl : (L.flatMap c).length = L.length * sz := flat_length hc L
  have hcx : (c x).length = 1 * sz := by rw [hc, Nat.one_mul]
  have e2 : L.flatMap c ++ c x = (L ++ [x]).flatMap c := by rw [List.flatMap_append]; simp
  rcases hown with ⟨rfl, rfl⟩ | ⟨g, o, cap, rfl, g1, g2, g3, g4, g5, g6⟩
  · obtain ⟨v', w', hrun, r1, r2, -⟩ := run_append_own (P := P) w w.heap.size t ty e i z sz bytes ht hi' hz hs hby hzs hsz (.slice none 0 0) 0 [] (World.ownsRow_nil w _ e sz) ad 1 k (c x) hcx hx (h1 x) (by unfold maxLen; omega) (by simpa using hbytes) (Nat.le_refl _)
    refine ⟨v', w', hrun, (Own.toO (e := e) (base := w.heap.size) hc (by unfold Own; simpa using r1)).up hb, r2, .inr ?_⟩
    rcases r1.2 with ⟨_, h0⟩ | ⟨g', cap', cur, rfl, hg', hg2, _⟩
    · omega
    · exact ⟨g', rfl, hg'⟩
  · have hat : ∀ j u, (L.flatMap c)[j]? = some u → w.cell? ((⟨g, o, none⟩ : Addr).add j) = some u := by
      intro j u hu
      have hj : j < L.length * sz := by rw [← hfl]; exact (List.getElem?_eq_some_iff.1 hu).1
      have hk : j / sz < L.length := (Nat.div_lt_iff_lt_mul hsz).2 hj
      have hq := g5 (j / sz) hk (j % sz) (Nat.mod_lt _ hsz)
      have hf := flat_get hc L (j / sz) hk (j % sz) (Nat.mod_lt _ hsz)
      rw [Nat.div_add_mod' j sz] at hf
      rw [addr_add, ← hu, hf, ← hq]
      congr 2
      rw [Nat.add_assoc, Nat.div_add_mod' j sz]
    by_cases hr : L.length + 1 ≤ cap
    · subst hs
      have hin : (L.length + 1) * i.size ≤ cap * i.size := Nat.mul_le_mul_right _ hr
      rw [Nat.add_mul] at hin
      have hfree : ∀ j, j < (c x).length → (w.cell? ⟨g, o + L.length * i.size + j, none⟩).isSome = true ∧ w.frozen? ⟨g, o + L.length * i.size + j, none⟩ = false := fun j hj => by
        have := g6 (L.length * i.size + j) (by omega)
        rwa [← Nat.add_assoc] at this
      have hrun := run_append_room_cells (P := P) w t ty e i ht hi' g o L.length cap ad 1 k (c x) hcx hx (h1 x) hr (fun j hj => (hfree j hj).1) (fun j hj => (hfree j hj).2)
      have hG := grown_setCells g (c x) (o + L.length * i.size) w
      refine ⟨_, _, hrun, .inr ⟨g, o, cap, by simp, g1, Nat.lt_of_lt_of_le g2 hG.size, by simpa using hr, g4, fun q hq j hj => ?_, fun j hj => ?_⟩, hG, .inl rfl⟩
      · rw [List.length_append, List.length_singleton] at hq
        by_cases hql : q < L.length
        · have hm : (q + 1) * i.size ≤ L.length * i.size := Nat.mul_le_mul_right _ hql
          rw [Nat.add_mul] at hm
          rw [World.cell?_setCells_out g _ _ _ _ (fun _ _ => Or.inl (by show o + q * i.size + j < o + L.length * i.size; omega))]
          rw [g5 q hql j hj]
          simp [List.getElem_append_left hql]
        · obtain rfl : q = L.length := by omega
          rw [World.cell?_setCells_in g (c x) (o + L.length * i.size) w (fun j hj => (hfree j hj).1) j (by rw [hc]; exact hj)]
          simp
      · rw [World.frozen?_setCells]
        refine ⟨?_, (g6 j hj).2⟩
        by_cases hin2 : L.length * i.size ≤ j ∧ j < L.length * i.size + (c x).length
        · have := World.cell?_setCells_in g (c x) (o + L.length * i.size) w (fun j hj => (hfree j hj).1) (j - L.length * i.size) (by omega)
          rw [show o + L.length * i.size + (j - L.length * i.size) = o + j by omega] at this
          rw [this]; rfl
        · rw [World.cell?_setCells_out g _ _ _ _ (fun _ _ => by show o + j < o + L.length * i.size ∨ o + L.length * i.size + (c x).length ≤ o + j; omega)]
          exact (g6 j hj).1
    · obtain ⟨v', w', hrun, r1, r2⟩ := run_append_arg_grows (P := P) w t ty e i z sz bytes ht hi' hz hs hby hzs hsz ⟨g, o, none⟩ L.length cap (L.flatMap c) hfl hat ad 1 k (c x) hcx hx (by omega) (by unfold maxLen; omega) hbytes
      refine ⟨v', w', hrun, ?_, ⟨r2.os, r2.tape, r2.output, r2.size, fun q hq _ => r2.block q hq (by simp)⟩, .inr ?_⟩
      · refine (Own.toO (e := e) (base := w.heap.size) hc ?_).up hb
        unfold Own
        rw [← e2, List.length_append]
        exact r1
      · rcases r1.2 with ⟨_, h0⟩ | ⟨g', cap', cur, rfl, hg', hg2, _⟩
        · omega
        · exact ⟨g', rfl, hg'⟩
theorem wpList_append_o {ops : Array Oper} {rest : List Oper} {o : Oper} {a : Act} {Q : Exit → Act → World → Prop} (hgd : o.guard = none) (s y : Operand) {t e : TypeId} (ho : o.op = .call { callee := .builtin .append, args := #[s, y], argTypes := #[t, t] })
    (hT : SlTy P t e sz) (hc : ∀ x, (c x).length = sz) (h1 : ∀ x, ∀ u ∈ c x, u.oneCell' = true) (base : Nat) (v : Value) (L : List α) (x : α) (hs : a.eval s = v) (hown : OwnO w base c sz v L) (ad : Addr) (k : Nat) (hy : a.eval y = .slice (some ad) 1 k) (hx : ∀ j u, (c x)[j]? = some u → w.cell? (ad.add j) = some u) (hlen : L.length + 1 ≤ 1099511627776) (hb : base ≤ w.heap.size)
    (h : ∀ v' w', OwnO w' base c sz v' (L ++ [x]) → w.grownBy w' v.ownBlock → (v'.ownBlock = v.ownBlock ∨ ∃ k, v'.ownBlock = some k ∧ w.heap.size ≤ k) → wpList P ops Q rest (a.put o.dst v') w') : wpList P ops Q (o :: rest) a w := by
  refine wpList_plain hgd fun K hK' => ?_
  obtain ⟨v', w', hrun, h2, h3, h4⟩ := run_append_o (P := P) w o.type hT hc h1 base v L x hown ad k hx hlen hb
  unfold Oper.wp
  simp [execOp, ho, resolve, invoke, builtin, hs, hy, hrun, Result.andThen]
  exact hK' _ _ (h v' w' h2 h3 h4)
end
end Go.Proofs.Ytpjbnfpadbknpaa
