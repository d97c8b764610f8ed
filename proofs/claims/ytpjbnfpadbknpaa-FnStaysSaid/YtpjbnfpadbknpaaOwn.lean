/- Slices of the call's own that read as a list; append onto them; an element of them overwritten. -/
import Derived.Test.YtpjbnfpadbknpaaPart
import Derived.Deep.AppendLies
namespace Go.Proofs.Ytpjbnfpadbknpaa
set_option linter.unusedSimpArgs false
set_option linter.unusedVariables false
open Go.RowKit

/-- A slice type t over element type e of sz cells. -/
def SlTy (P : Program) (t e : TypeId) (sz : Nat) : Prop :=
  P.underlying t = some (.slice e) ∧ ∃ i z bytes, P.info? e = some i ∧ i.zero = some z ∧ i.size = sz ∧ i.bytes = bytes ∧ z.cells.size = sz ∧ 0 < sz ∧ bytes ≤ 128
theorem SlTy.mk' {P : Program} {t e : TypeId} {z : Value} {sz bytes : Nat} (ht : P.underlying t = some (.slice e)) (h : (P.info? e).map (fun i => (i.zero, i.size, i.bytes)) = some (some z, sz, bytes)) (h1 : z.cells.size = sz) (h2 : 0 < sz) (h3 : bytes ≤ 128) : SlTy P t e sz := by
  obtain ⟨i, a, b, c, d⟩ := info_parts h
  exact ⟨ht, i, z, bytes, a, b, c, d, h1, h2, h3⟩

section
variable {α : Type} {c : α → List Value} {sz base : Nat} {e : TypeId} {v : Value} {L : List α} {w w' : World}
/-- The slice v is the call's own (its block, if it has one, from base on), and it reads as L. -/
def Own (w : World) (base : Nat) (e : TypeId) (c : α → List Value) (sz : Nat) (v : Value) (L : List α) : Prop := w.ownsRow base e sz v L.length (L.flatMap c)
theorem Own.nil (w : World) (base : Nat) (e : TypeId) : Own w base e c sz (.slice none 0 0) [] := World.ownsRow_nil w base e sz
theorem Own.empty (w : World) (base : Nat) (e : TypeId) (h : base ≤ w.heap.size) : Own (w.alloc (.cells #[] e)) base e c sz (.slice (some ⟨w.heap.size, 0, none⟩) 0 0) [] :=
  World.ownsRow_made w #[] 0 h (Nat.zero_le _) (by simp)
theorem size1 (w : World) (o : Obj) : (w.alloc o).heap.size = w.heap.size + 1 := by simp
theorem Own.emptyAt (w : World) (base : Nat) (e : TypeId) (g : Nat) (hg : w.heap.size = g) (h : base ≤ g) : Own (w.alloc (.cells #[] e)) base e c sz (.slice (some ⟨g, 0, none⟩) 0 0) [] := by
  subst hg
  exact Own.empty w base e h
theorem Own.form (h : Own w base e c sz v L) : (v = .slice none 0 0 ∧ L = []) ∨ ∃ g cap cur, v = .slice (some ⟨g, 0, none⟩) L.length cap ∧ base ≤ g ∧ w.heap[g]? = some (.cells cur e (0, 0)) ∧ L.length ≤ cap ∧ cap ≤ maxLen ∧ cur.size = cap * sz ∧ cur.toList.take (L.length * sz) = L.flatMap c := by
  rcases h.2 with ⟨h1, h2⟩ | h
  · exact .inl ⟨h1, List.eq_nil_of_length_eq_zero h2⟩
  · exact .inr h
theorem Own.lt (h : Own w base e c sz v L) {k : Nat} (hk : v.ownBlock = some k) : base ≤ k ∧ k < w.heap.size := World.ownsRow.lt h k hk
theorem Own.keep (h : Own w base e c sz v L) (hk : ∀ k, v.ownBlock = some k → base ≤ k → k < w.heap.size → w'.heap[k]? = w.heap[k]?) : Own w' base e c sz v L := by
  refine ⟨h.1, ?_⟩
  rcases h.2 with h1 | ⟨g, cap, cur, rfl, hb, hg, h3⟩
  · exact .inl h1
  · have hl := (Array.getElem?_eq_some_iff.1 hg).1
    exact .inr ⟨g, cap, cur, rfl, hb, (hk g rfl hb hl).trans hg, h3⟩
theorem Own.later {B : Nat} (h : Own w base e c sz v L) (hb : Below B w w') (hB : w.heap.size ≤ B) : Own w' base e c sz v L := h.keep fun k _ _ hk => hb.block k (Nat.lt_of_lt_of_le hk hB)
theorem Own.grown {row : Option Nat} (h : Own w base e c sz v L) (hb : w.grownBy w' row) (hr : ∀ k, row = some k → v.ownBlock = some k → False) : Own w' base e c sz v L :=
  h.keep fun k hk _ hlt => hb.block k hlt fun he => hr k he.symm hk
theorem Own.alloc (h : Own w base e c sz v L) (o : Obj) : Own (w.alloc o) base e c sz v L := World.ownsRow.alloc h o
theorem Own.drew (h : Own w base e c sz v L) : Own w.drew base e c sz v L := h.keep fun _ _ _ _ => rfl
theorem Own.drewN (h : Own w base e c sz v L) (n : Nat) : Own (w.drewN n) base e c sz v L := h.keep fun _ _ _ _ => rfl
theorem Own.up {base' : Nat} (h : Own w base e c sz v L) (hb : base' ≤ base) : Own w base' e c sz v L := by
  refine ⟨h.1, ?_⟩
  rcases h.2 with h1 | ⟨g, cap, cur, e1, h2, h3⟩
  · exact .inl h1
  · exact .inr ⟨g, cap, cur, e1, Nat.le_trans hb h2, h3⟩
theorem Own.rd (hc : ∀ x, (c x).length = sz) (h : Own w base e c sz v L) : ∃ A cap, v = .slice A L.length cap ∧ L.length ≤ cap ∧ cap ≤ maxLen ∧ Rd c sz w base w.heap.size A L := own_rd hc h
theorem Own.rd0 (hc : ∀ x, (c x).length = sz) (h : Own w base e c sz v L) : ∃ A cap, v = .slice A L.length cap ∧ L.length ≤ cap ∧ cap ≤ maxLen ∧ Rd c sz w 0 w.heap.size A L := by
  obtain ⟨A, cap, h1, h2, h3, h4⟩ := own_rd hc h
  exact ⟨A, cap, h1, h2, h3, h4.wide (Nat.zero_le _) (Nat.le_refl _)⟩
theorem Own.rdv {A : Option Addr} {n cap : Nat} (hc : ∀ x, (c x).length = sz) (h : Own w base e c sz (.slice A n cap) L) : Rd c sz w 0 w.heap.size A L := by
  obtain ⟨A', cap', h1, _, _, r⟩ := h.rd0 hc
  cases h1
  exact r
theorem Own.cellAt {g n cap : Nat} (hc : ∀ x, (c x).length = sz) (h : Own w base e c sz (.slice (some ⟨g, 0, none⟩) n cap) L) (k : Nat) (hk : k < L.length) (j : Nat) (hj : j < sz) : w.cell? ⟨g, k * sz + j, none⟩ = (c L[k])[j]? := by
  rcases h.rdv hc with h | ⟨g', o', h1, _, _, h4⟩
  · subst h; simp at hk
  · cases h1
    have := h4 k hk j hj
    rwa [Nat.zero_add] at this
theorem Own.free {g n cap : Nat} (h : Own w base e c sz (.slice (some ⟨g, 0, none⟩) n cap) L) (i : Nat) : w.frozen? ⟨g, i, none⟩ = false := by
  rcases h.form with ⟨h1, _⟩ | ⟨g', cap', cur, h1, _, hg, _⟩
  · cases h1
  · cases h1
    simp [World.frozen?, hg]
theorem Own.fresh {g : Nat} (hc : ∀ x, (c x).length = sz) (hb : base ≤ g) (hm : L.length ≤ maxLen) (h : w.heap[g]? = some (.cells (L.flatMap c).toArray e (0, 0))) : Own w base e c sz (.slice (some ⟨g, 0, none⟩) L.length L.length) L := own_of_fresh hc hb hm h
theorem Own.below {B : Nat} {w0 : World} (h : Own w base e c sz v L) (hg : w.grownBy w' v.ownBlock) (h0 : Below B w0 w) (hB : B ≤ base) (hz : B ≤ w.heap.size) : Below B w0 w' :=
  h0.grown hg hz fun k hk => Nat.le_trans hB (h.lt hk).1
theorem Own.below2 {B : Nat} {w0 : World} (hg : w.grownBy w' v.ownBlock) (h : Own w base e c sz v L) (h0 : Below B w0 w) (hB : B ≤ base) (hz : B ≤ w.heap.size) : Below B w0 w' := h.below hg h0 hB hz
theorem flat_drop (hc : ∀ x, (c x).length = sz) (L : List α) (k : Nat) : (L.flatMap c).drop (k * sz) = (L.drop k).flatMap c := by
  induction L generalizing k with
  | nil => simp
  | cons x L ih =>
    cases k with
    | zero => simp
    | succ k => rw [List.flatMap_cons, Nat.succ_mul, List.drop_append, List.drop_eq_nil_of_le (by rw [hc]; omega), List.nil_append, hc, show k * sz + sz - sz = k * sz by omega, ih, List.drop_succ_cons]
theorem flat_take (hc : ∀ x, (c x).length = sz) (L : List α) (k : Nat) : (L.flatMap c).take (k * sz) = (L.take k).flatMap c := by
  induction L generalizing k with
  | nil => simp
  | cons x L ih =>
    cases k with
    | zero => simp
    | succ k => rw [List.flatMap_cons, Nat.succ_mul, List.take_append, List.take_of_length_le (by rw [hc]; omega), hc, show k * sz + sz - sz = k * sz by omega, ih, List.take_succ_cons, List.flatMap_cons]
theorem flat_set (hc : ∀ x, (c x).length = sz) : ∀ (L : List α) (k : Nat) (hk : k < L.length) (j : Nat) (_ : j < sz) (u : Value) (x : α), c x = (c L[k]).set j u → (L.flatMap c).set (k * sz + j) u = (L.set k x).flatMap c := by
  intro L
  induction L with
  | nil => intro k hk; simp at hk
  | cons y L ih =>
    intro k hk j hj u x hx
    cases k with
    | zero =>
      rw [List.set_cons_zero, List.flatMap_cons, List.flatMap_cons, Nat.zero_mul, Nat.zero_add, List.set_append, if_pos (by rw [hc]; exact hj), hx]
      rfl
    | succ k =>
      rw [List.set_cons_succ, List.flatMap_cons, List.flatMap_cons, List.set_append, if_neg (by rw [hc, Nat.succ_mul]; omega), hc]
      have : (k + 1) * sz + j - sz = k * sz + j := by rw [Nat.succ_mul]; omega
      rw [this, ih k (Nat.lt_of_succ_lt_succ hk) j hj u x hx]
/-- One cell of an element is overwritten. -/
theorem Own.set1 {g n cap k j : Nat} {u : Value} {x : α} (hc : ∀ x, (c x).length = sz) (h : Own w base e c sz (.slice (some ⟨g, 0, none⟩) n cap) L) (hk : k < L.length) (hj : j < sz) (hx : c x = (c L[k]).set j u) : Own (w.setCell ⟨g, k * sz + j, none⟩ u) base e c sz (.slice (some ⟨g, 0, none⟩) n cap) (L.set k x) := by
  have hn : n = L.length := by
    rcases h.form with ⟨h1, _⟩ | ⟨_, _, _, h1, _⟩
    · cases h1
    · cases h1; rfl
  subst hn
  unfold Own
  rw [List.length_set, ← flat_set hc L k hk j hj u x hx]
  exact (World.ownsRow.stored h (k * sz + j) u).1
/-- One element is overwritten whole. -/
theorem Own.put {g cap k : Nat} {cur vs : Array Value} {x : α} (hc : ∀ x, (c x).length = sz) (hb : base ≤ g) (hn : L.length ≤ cap) (hm : cap ≤ maxLen) (hs : cur.size = cap * sz) (ht : cur.toList.take (L.length * sz) = L.flatMap c) (hk : k < L.length) (hvs : vs.toList = c x)
    (hg : w'.heap[g]? = some (.cells (cur.toList.take (k * sz) ++ vs.toList ++ cur.toList.drop (k * sz + vs.size)).toArray e (0, 0))) : Own w' base e c sz (.slice (some ⟨g, 0, none⟩) L.length cap) (L.set k x) := by
  have hvz : vs.size = sz := by rw [← Array.length_toList, hvs, hc]
  have h1 : k * sz + sz ≤ L.length * sz := by rw [← Nat.succ_mul]; exact Nat.mul_le_mul_right _ hk
  have h2 : L.length * sz ≤ cur.size := by rw [hs]; exact Nat.mul_le_mul_right _ hn
  have hcl : cur.toList.length = cur.size := Array.length_toList
  have e1 : cur.toList.take (k * sz) = (L.take k).flatMap c := by
    rw [← flat_take hc, ← ht, List.take_take, Nat.min_eq_left (by omega)]
  have e2 : (cur.toList.drop (k * sz + sz)).take (L.length * sz - (k * sz + sz)) = (L.drop (k + 1)).flatMap c := by
    rw [← flat_drop hc, ← ht, List.drop_take, Nat.succ_mul]
  have e3 : (L.set k x).flatMap c = (L.take k).flatMap c ++ c x ++ (L.drop (k + 1)).flatMap c := by
    rw [List.set_eq_take_append_cons_drop, if_pos hk, List.flatMap_append, List.flatMap_cons, List.append_assoc]
  have hlen : ((L.set k x).flatMap c).length = L.length * sz := by rw [flat_length hc, List.length_set]
  unfold Own
  rw [List.length_set]
  refine ⟨hlen, .inr ⟨g, cap, _, rfl, hb, hg, hn, hm, ?_, ?_⟩⟩
  · simp only [List.size_toArray, List.length_append, List.length_take, List.length_drop, Array.length_toList, hvz]
    omega
  · simp only
    have l1 : ((L.take k).flatMap c ++ c x).length = k * sz + sz := by rw [List.length_append, flat_length hc, List.length_take, Nat.min_eq_left (by omega), hc]
    rw [hvz, hvs, e1, e3, List.take_append (l₁ := (L.take k).flatMap c ++ c x), List.take_of_length_le (by omega), l1, e2]
end

section
variable {P : Program} {α : Type} {c : α → List Value} {sz : Nat} (w : World)
theorem run_append_rd {t e : TypeId} (ty : TypeId) (hT : SlTy P t e sz) (hc : ∀ x, (c x).length = sz) (h1 : ∀ x, ∀ u ∈ c x, u.oneCell' = true) (base : Nat) (v : Value) (L1 L2 : List α) (hown : Own w base e c sz v L1) (A : Option Addr) (m cap lo hi : Nat) (hm : m = L2.length) (hr : Rd c sz w lo hi A L2) (hlen : L1.length + L2.length ≤ 1099511627776) (hb : base ≤ w.heap.size) :
    ∃ v' w', (Builtin.append_ #[t, t] ty #[v, .slice A m cap]).run P w = .ok v' w' ∧ Own w' base e c sz v' (L1 ++ L2) ∧ w.grownBy w' v.ownBlock ∧ (v'.ownBlock = v.ownBlock ∨ v'.ownBlock = some w.heap.size) := by
  obtain ⟨ht, i, z, bytes, hi', hz, hs, hby, hzs, hsz, hbb⟩ := hT
  subst hm
  rcases A with _ | ad
  · have h0 : L2 = [] := by
      rcases hr with h | ⟨g, o, h, _⟩
      · exact h
      · cases h
    subst h0
    refine ⟨v, w, ?_, by simpa [Own] using hown, World.grownBy.refl w _, .inl rfl⟩
    rcases hown.2 with ⟨rfl, _⟩ | ⟨g, cp, cur, rfl, _, _, hnc, _⟩
    · simp [Builtin.append_, run_underlying ht, sizeOf, typeInfo, hi', Builtin.lenOf, Builtin.firstCells]
    · simp [Builtin.append_, run_underlying ht, sizeOf, typeInfo, hi', Builtin.lenOf, Builtin.firstCells, hnc, storeCells]
  · have hnews : ∀ j u, (L2.flatMap c)[j]? = some u → w.cell? (ad.add j) = some u := by
      intro j u hu
      rcases hr with h | ⟨g, o, hA, _, _, hcell⟩
      · subst h; simp at hu
      · cases hA
        have hj : j < L2.length * sz := by rw [← flat_length hc]; exact (List.getElem?_eq_some_iff.1 hu).1
        have hk : j / sz < L2.length := (Nat.div_lt_iff_lt_mul hsz).2 hj
        have hq := hcell (j / sz) hk (j % sz) (Nat.mod_lt _ hsz)
        have hf := flat_get hc L2 (j / sz) hk (j % sz) (Nat.mod_lt _ hsz)
        rw [Nat.div_add_mod' j sz] at hf
        rw [addr_add, ← hu, hf, ← hq]
        congr 2
        rw [Nat.add_assoc, Nat.div_add_mod' j sz]
    have hbytes : (L1.length + L2.length) * bytes ≤ 140737488355328 := Nat.le_trans (Nat.mul_le_mul hlen hbb) (by decide)
    obtain ⟨v', w', hrun, h2, h3, _, h5⟩ := run_append_own_at (P := P) w base t ty e i z sz bytes ht hi' hz hs hby hzs hsz v L1.length (L1.flatMap c) hown ad L2.length cap (L2.flatMap c) (flat_length hc L2) hnews
      (fun u hu => by obtain ⟨x, _, hx⟩ := List.mem_flatMap.1 hu; exact h1 x u hx) (by unfold maxLen; omega) hbytes hb
    refine ⟨v', w', hrun, ?_, h3, h5⟩
    unfold Own
    rw [List.length_append, List.flatMap_append]
    exact h2
theorem wp_append_rd {o : Oper} {a : Act} {K : Act → World → Prop} {Q : Exit → Act → World → Prop} (s x : Operand) {t e : TypeId} (ho : o.op = .call { callee := .builtin .append, args := #[s, x], argTypes := #[t, t] })
    (hT : SlTy P t e sz) (hc : ∀ x, (c x).length = sz) (h1 : ∀ x, ∀ u ∈ c x, u.oneCell' = true) (base : Nat) (v : Value) (L1 L2 : List α) (hs : a.eval s = v) (hown : Own w base e c sz v L1) (A : Option Addr) (m cap lo hi : Nat) (hx : a.eval x = .slice A m cap) (hm : m = L2.length) (hr : Rd c sz w lo hi A L2) (hlen : L1.length + L2.length ≤ 1099511627776) (hb : base ≤ w.heap.size)
    (h : ∀ v' w', Own w' base e c sz v' (L1 ++ L2) → w.grownBy w' v.ownBlock → (v'.ownBlock = v.ownBlock ∨ v'.ownBlock = some w.heap.size) → K (a.put o.dst v') w') : o.wp P a w K Q := by
  obtain ⟨v', w', hrun, h2, h3, h4⟩ := run_append_rd (P := P) w o.type hT hc h1 base v L1 L2 hown A m cap lo hi hm hr hlen hb
  unfold Oper.wp execOp
  simp only [ho, resolve, invoke, builtin, Sem.run_bind, Sem.run_pure, Result.andThen_ok, List.map_toArray, List.map_cons, List.map_nil, hs, hx, hrun]
  exact h v' w' h2 h3 h4
theorem wpList_append_rd {ops : Array Oper} {rest : List Oper} {o : Oper} {a : Act} {Q : Exit → Act → World → Prop} (hgd : o.guard = none) (s x : Operand) {t e : TypeId} (ho : o.op = .call { callee := .builtin .append, args := #[s, x], argTypes := #[t, t] })
    (hT : SlTy P t e sz) (hc : ∀ x, (c x).length = sz) (h1 : ∀ x, ∀ u ∈ c x, u.oneCell' = true) (base : Nat) (v : Value) (L1 L2 : List α) (hs : a.eval s = v) (hown : Own w base e c sz v L1) (A : Option Addr) (m cap lo hi : Nat) (hx : a.eval x = .slice A m cap) (hm : m = L2.length) (hr : Rd c sz w lo hi A L2) (hlen : L1.length + L2.length ≤ 1099511627776) (hb : base ≤ w.heap.size)
    (h : ∀ v' w', Own w' base e c sz v' (L1 ++ L2) → w.grownBy w' v.ownBlock → (v'.ownBlock = v.ownBlock ∨ v'.ownBlock = some w.heap.size) → wpList P ops Q rest (a.put o.dst v') w') : wpList P ops Q (o :: rest) a w :=
  wpList_plain hgd fun _ hK => wp_append_rd w s x ho hT hc h1 base v L1 L2 hs hown A m cap lo hi hx hm hr hlen hb fun v' w' h2 h3 h4 => hK _ _ (h v' w' h2 h3 h4)
theorem step_append_rd {ops : Array Oper} {o : Oper} {a : Act} {K : Act → World → Prop} {Q : Exit → Act → World → Prop} {E : Prop} (hgd : o.guard = none) (s x : Operand) {t e : TypeId} (ho : o.op = .call { callee := .builtin .append, args := #[s, x], argTypes := #[t, t] })
    (hT : SlTy P t e sz) (hc : ∀ x, (c x).length = sz) (h1 : ∀ x, ∀ u ∈ c x, u.oneCell' = true) (base : Nat) (v : Value) (L1 L2 : List α) (hs : a.eval s = v) (hown : Own w base e c sz v L1) (A : Option Addr) (m cap lo hi : Nat) (hx : a.eval x = .slice A m cap) (hm : m = L2.length) (hr : Rd c sz w lo hi A L2) (hlen : L1.length + L2.length ≤ 1099511627776) (hb : base ≤ w.heap.size)
    (h : ∀ v' w', Own w' base e c sz v' (L1 ++ L2) → w.grownBy w' v.ownBlock → (v'.ownBlock = v.ownBlock ∨ v'.ownBlock = some w.heap.size) → K (a.put o.dst v') w') :
    if Region.wanted o (yielded ops a.tmps) = true then Oper.wp P o a w K Q else E := by
  have hw : Region.wanted o (yielded ops a.tmps) = true := by simp [Region.wanted, hgd]
  rw [if_pos hw]
  exact wp_append_rd w s x ho hT hc h1 base v L1 L2 hs hown A m cap lo hi hx hm hr hlen hb h
end
section
variable {α : Type} {c : α → List Value} {sz : Nat}
/-- One element that lies in a new block. -/
theorem rd_one (w : World) (x : α) (arr : Array Value) (t : TypeId) (hc : ∀ x, (c x).length = sz) (h : arr = (c x).toArray) (g : Nat) (hg : g = w.heap.size) (hi : Nat) (hh : g < hi) : Rd c sz (w.alloc (.cells arr t)) 0 hi (some ⟨g, 0, none⟩) [x] := by
  subst hg h
  have := rd_of_fresh (w := w.alloc (.cells (c x).toArray t)) (L := [x]) hc 0 (Nat.zero_le _) (g := w.heap.size) (e := t) (by simpa using heap_alloc_new w _)
  rcases this with h | ⟨g, o, h1, h2, h3, h4⟩
  · cases h
  · cases h1; exact .inr ⟨_, _, rfl, h2, hh, h4⟩
theorem rd_one_blk {w : World} {g : Nat} {t : TypeId} {arr : Array Value} (x : α) (hc : ∀ x, (c x).length = sz) (h : arr = (c x).toArray) (hg : w.heap[g]? = some (.cells arr t (0, 0))) : Rd c sz w 0 w.heap.size (some ⟨g, 0, none⟩) [x] :=
  rd_of_fresh (L := [x]) hc 0 (Nat.zero_le _) (e := t) (by rw [hg, h]; simp)
theorem Rd.take {w : World} {lo hi : Nat} {A : Option Addr} {L : List α} (h : Rd c sz w lo hi A L) (k : Nat) : Rd c sz w lo hi A (L.take k) := by
  rcases h with h | ⟨g, o, h1, h2, h3, h4⟩
  · subst h; exact .inl (by simp)
  · exact .inr ⟨g, o, h1, h2, h3, fun i hi' j hj => by rw [List.length_take] at hi'; rw [h4 i (by omega) j hj, List.getElem_take]⟩
theorem Rd.drop {w : World} {lo hi g o : Nat} {L : List α} (h : Rd c sz w lo hi (some ⟨g, o, none⟩) L) (k : Nat) : Rd c sz w lo hi (some ⟨g, o + k * sz, none⟩) (L.drop k) := by
  rcases h with h | ⟨g', o', h1, h2, h3, h4⟩
  · subst h; exact .inl (by simp)
  · cases h1
    refine .inr ⟨g, o + k * sz, rfl, h2, h3, fun i hi' j hj => ?_⟩
    rw [List.length_drop] at hi'
    have := h4 (k + i) (by omega) j hj
    rw [Nat.add_mul, ← Nat.add_assoc] at this
    rw [this, List.getElem_drop]
/-- 's[k:]': the address that the model gives (the old one where k is the capacity), under one name; it reads as the rest. -/
theorem cut_sel {w : World} {lo hi g o : Nat} {L : List α} (h : Rd c sz w lo hi (some ⟨g, o, none⟩) L) (cap k : Nat) (hle : L.length ≤ cap) :
    ∃ sel : Option Addr → Option Addr → Option Addr, (∀ x y, (if cap = k then x else y) = sel x y) ∧ Rd c sz w lo hi (sel (some ⟨g, o, none⟩) (some ⟨g, o + k * sz, none⟩)) (L.drop k) := by
  refine ⟨fun x y => if cap = k then x else y, fun _ _ => rfl, ?_⟩
  by_cases hc : cap = k
  · simp only [hc, if_pos]
    rw [List.drop_eq_nil_of_le (by omega)]
    exact .inl rfl
  · simp only [hc, if_neg, not_false_eq_true]
    exact h.drop k
theorem Rd.nil {w : World} {lo hi : Nat} {A : Option Addr} : Rd c sz w lo hi A ([] : List α) := .inl rfl
end
end Go.Proofs.Ytpjbnfpadbknpaa
