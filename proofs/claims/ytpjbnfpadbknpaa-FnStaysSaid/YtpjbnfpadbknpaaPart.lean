/- A struct that lies inside a row: loaded, stored; rows of the call's own as lists of elements. -/
import Derived.Test.YtpjbnfpadbknpaaAgg
import Derived.Test.YtpjbnfpadbknpaaSl
import Derived.OwnWalk
import Derived.Laws.MakeOwn
namespace Go.Proofs.Ytpjbnfpadbknpaa
set_option linter.unusedSimpArgs false
set_option linter.unusedVariables false
open Go.RowKit

section
variable {P : Program}
theorem addr_add (g o j : Nat) : (⟨g, o, none⟩ : Addr).add j = ⟨g, o + j, none⟩ := by unfold Addr.add; split <;> simp_all
theorem run_loadVar_part (w : World) (g o : Nat) (ty : TypeId) (vs : List Value) (d : TypeDesc) (hc : ∀ j v, vs[j]? = some v → w.cell? ⟨g, o + j, none⟩ = some v)
    (hu : P.underlying ty = some d) (hd : (match d with | .struct _ | .array _ _ => true | _ => false) = true) (hi : (P.info? ty).map (·.size) = some vs.length) :
    (loadVar ty ⟨g, o, none⟩).run P w = .ok (.agg vs.toArray) w := by
  have hl : (loadCells ⟨g, o, none⟩ vs.length).run P w = .ok vs.toArray w :=
    run_loadCells_list (P := P) w ⟨g, o, none⟩ vs (fun j v hv => by rw [addr_add]; exact hc j v hv)
  cases hq : P.info? ty with
  | none => simp [hq] at hi
  | some i =>
    have hs : i.size = vs.length := by simpa [hq] using hi
    have hagg : (isAgg ty).run P w = .ok true w := by
      unfold isAgg
      rw [Sem.run_bind, run_underlying hu w]
      cases d <;> simp_all
    simp [loadVar, Sem.run_bind, hagg, sizeOf, typeInfo, hq, hs, hl]
theorem wpList_load_part {ops : Array Oper} {rest : List Oper} {o : Oper} {a : Act} {w : World} {Q : Exit → Act → World → Prop} (hgd : o.guard = none) (ty : TypeId) (x : Operand) (ho : o.op = .load ty x)
    (g f : Nat) (hx : a.eval x = .pointer (some ⟨g, f, none⟩)) (vs : List Value) (d : TypeDesc) (hc : ∀ j v, vs[j]? = some v → w.cell? ⟨g, f + j, none⟩ = some v)
    (hu : P.underlying ty = some d) (hd : (match d with | .struct _ | .array _ _ => true | _ => false) = true) (hi : (P.info? ty).map (·.size) = some vs.length)
    (h : wpList P ops Q rest (a.put o.dst (.agg vs.toArray)) w) : wpList P ops Q (o :: rest) a w :=
  wpList_plain hgd fun _ hK => by
    unfold Oper.wp execOp
    simp only [ho, hx, Instr.loadAt, Instr.sureAddr, Sem.run_bind, Sem.run_pure, Result.andThen_ok, run_loadVar_part w g f ty vs d hc hu hd hi]
    exact hK _ _ h
theorem run_storeVar_part (w : World) (g f : Nat) (t ty : TypeId) (cur : Array Value) (vs : Array Value) (hg : w.heap[g]? = some (.cells cur t (0, 0))) (hsz : f + vs.size ≤ cur.size)
    (hi : (P.info? ty).map (·.size) = some vs.size) (h1 : ∀ u ∈ vs.toList, u.oneCell' = true) :
    (storeVar ty ⟨g, f, none⟩ (.agg vs)).run P w = .ok () (w.setRow g (cur.toList.take f ++ vs.toList ++ cur.toList.drop (f + vs.size)).toArray) := by
  have h := run_storeCells_at (P := P) g f t vs.toList 0 cur w hg (by simpa using hsz) h1
  cases hq : P.info? ty with
  | none => simp [hq] at hi
  | some i =>
    have hs : i.size = vs.size := by simpa [hq] using hi
    simp only [Nat.add_zero, Array.length_toList] at h
    simp [storeVar, Sem.run_bind, sizeOf, typeInfo, hq, hs, Value.cells, h]
theorem wpList_store_part {ops : Array Oper} {rest : List Oper} {o : Oper} {a : Act} {w : World} {Q : Exit → Act → World → Prop} (hgd : o.guard = none) (hd : o.dst = none) (ty : TypeId) (x v : Operand) (ho : o.op = .store ty x v)
    (g f : Nat) (hx : a.eval x = .pointer (some ⟨g, f, none⟩)) (t : TypeId) (cur vs : Array Value) (hv : a.eval v = .agg vs) (hg : w.heap[g]? = some (.cells cur t (0, 0))) (hsz : f + vs.size ≤ cur.size)
    (hi : (P.info? ty).map (·.size) = some vs.size) (h1 : ∀ u ∈ vs.toList, u.oneCell' = true)
    (h : ∀ w', w'.heap[g]? = some (.cells (cur.toList.take f ++ vs.toList ++ cur.toList.drop (f + vs.size)).toArray t (0, 0)) → w.grownBy w' (some g) → w'.heap.size = w.heap.size → wpList P ops Q rest a w') : wpList P ops Q (o :: rest) a w :=
  wpList_plain hgd fun _ hK => by
    unfold Oper.wp execOp
    simp only [ho, hx, hv, Instr.storeAt, Instr.sureAddr, Sem.run_bind, Sem.run_pure, Result.andThen_ok, run_storeVar_part w g f t ty cur vs hg hsz hi h1]
    have := h (w.setRow g _) (setRow_heap w g cur _ t _ hg) ⟨rfl, rfl, rfl, by simp, fun k _ hne => setRow_other w g k _ (fun e => hne (by rw [e]))⟩ (by simp)
    have h2 := hK _ _ this
    simpa [Oper.upon, hd, Act.put] using h2
end

section
variable {α : Type} {c : α → List Value} {sz : Nat}
theorem flat_length (hc : ∀ x, (c x).length = sz) (L : List α) : (L.flatMap c).length = L.length * sz := by
  induction L with
  | nil => simp
  | cons x L ih => simp [List.flatMap_cons, ih, hc, Nat.succ_mul, Nat.add_comm]
theorem flat_get (hc : ∀ x, (c x).length = sz) (L : List α) : ∀ (k : Nat) (h : k < L.length) (j : Nat), j < sz → (L.flatMap c)[k * sz + j]? = (c L[k])[j]? := by
  induction L with
  | nil => intro k h; simp at h
  | cons x L ih =>
    intro k h j hj
    rw [List.flatMap_cons]
    cases k with
    | zero => simp only [Nat.zero_mul, Nat.zero_add, List.getElem_cons_zero]; rw [List.getElem?_append_left (by rw [hc]; exact hj)]
    | succ k =>
      rw [List.getElem?_append_right (by rw [hc, Nat.succ_mul]; omega)]
      have : (k + 1) * sz + j - (c x).length = k * sz + j := by rw [hc, Nat.succ_mul]; omega
      rw [this, ih k (by simpa using h) j hj]
      simp
/-- A row that is being filled: its first k elements are L's. -/
def Fill (w : World) (g : Nat) (e : TypeId) (c : α → List Value) (sz : Nat) (L : List α) (k : Nat) : Prop :=
  ∃ rest : List Value, rest.length = (L.length - k) * sz ∧ w.heap[g]? = some (.cells ((L.take k).flatMap c ++ rest).toArray e (0, 0))
theorem Fill.start {w : World} {base g : Nat} {e : TypeId} {L : List α} {xs : List Value} (h : w.ownsRow base e sz (.slice (some ⟨g, 0, none⟩) L.length L.length) L.length xs) : Fill w g e c sz L 0 := by
  rcases h.2 with ⟨hv, _⟩ | ⟨g', cap, cur, hv, _, hg, _, _, hs, _⟩
  · cases hv
  · simp only [Value.slice.injEq, Option.some.injEq, Addr.mk.injEq, and_true] at hv
    obtain ⟨rfl, _, rfl⟩ := hv
    exact ⟨cur.toList, by simpa using hs, by simpa using hg⟩
theorem Fill.size {L : List α} {k : Nat} (hc : ∀ x, (c x).length = sz) (hk : k < L.length) {rest : List Value} (h : rest.length = (L.length - k) * sz) : k * sz + sz ≤ ((L.take k).flatMap c ++ rest).toArray.size := by
  have h1 := flat_length hc (L.take k)
  rw [List.length_take, Nat.min_eq_left (by omega)] at h1
  have h2 : 1 * sz ≤ (L.length - k) * sz := Nat.mul_le_mul_right _ (by omega)
  simp [h1, h]; omega
theorem Fill.step {w' : World} {g : Nat} {e : TypeId} {L : List α} {k : Nat} (hc : ∀ x, (c x).length = sz) (hk : k < L.length) {rest : List Value} (h : rest.length = (L.length - k) * sz) {vs : Array Value} (hvs : vs.toList = c L[k])
    (hg : w'.heap[g]? = some (.cells (((L.take k).flatMap c ++ rest).toArray.toList.take (k * sz) ++ vs.toList ++ ((L.take k).flatMap c ++ rest).toArray.toList.drop (k * sz + vs.size)).toArray e (0, 0))) : Fill w' g e c sz L (k + 1) := by
  have h1 := flat_length hc (L.take k)
  rw [List.length_take, Nat.min_eq_left (by omega)] at h1
  have hvz : vs.size = sz := by rw [← Array.length_toList, hvs, hc]
  refine ⟨rest.drop sz, ?_, ?_⟩
  · have e1 : L.length - k = (L.length - (k + 1)) + 1 := by omega
    rw [List.length_drop, h, e1, Nat.succ_mul]; omega
  · rw [hg, hvz, hvs]
    congr 3
    simp only
    rw [List.take_append_of_le_length (by omega), List.take_of_length_le (by omega), List.drop_append, h1]
    rw [List.drop_eq_nil_of_le (by omega), List.nil_append, List.take_succ_eq_append_getElem hk, List.flatMap_append]
    have : k * sz + sz - k * sz = sz := by omega
    rw [this]
    simp
theorem Fill.done {w : World} {g : Nat} {e : TypeId} {L : List α} (h : Fill w g e c sz L L.length) : w.heap[g]? = some (.cells (L.flatMap c).toArray e (0, 0)) := by
  obtain ⟨rest, h1, h2⟩ := h
  have : rest = [] := List.eq_nil_of_length_eq_zero (by simpa using h1)
  subst this
  simpa using h2
theorem Fill.below {w w' : World} {g B : Nat} {e : TypeId} {L : List α} {k : Nat} (h : Fill w g e c sz L k) (hb : Below B w w') (hg : g < B) : Fill w' g e c sz L k := by
  obtain ⟨rest, h1, h2⟩ := h
  exact ⟨rest, h1, (hb.block g hg).trans h2⟩
/-- A row of the call's own, just as long as its elements. -/
theorem own_of_fresh {w : World} {base g : Nat} {e : TypeId} {L : List α} (hc : ∀ x, (c x).length = sz) (hb : base ≤ g) (hm : L.length ≤ maxLen) (h : w.heap[g]? = some (.cells (L.flatMap c).toArray e (0, 0))) : w.ownsRow base e sz (.slice (some ⟨g, 0, none⟩) L.length L.length) L.length (L.flatMap c) := by
  have h1 := flat_length hc L
  exact ⟨h1, .inr ⟨g, L.length, _, rfl, hb, h, Nat.le_refl _, hm, by simpa using h1, by rw [← h1]; exact List.take_length⟩⟩
theorem rd_of_fresh {w : World} {g : Nat} {e : TypeId} {L : List α} (hc : ∀ x, (c x).length = sz) (lo : Nat) (hl : lo ≤ g) (h : w.heap[g]? = some (.cells (L.flatMap c).toArray e (0, 0))) : Rd c sz w lo w.heap.size (some ⟨g, 0, none⟩) L := by
  refine .inr ⟨g, 0, rfl, hl, (Array.getElem?_eq_some_iff.1 h).1, fun k hk j hj => ?_⟩
  rw [cell_of_row w g _ _ e (0, 0) h, Nat.zero_add, ← flat_get hc L k hk j hj]
  simp
theorem Rd.later {w w' : World} {lo hi hi' B : Nat} {A : Option Addr} {L : List α} (h : Rd c sz w lo hi A L) (hb : Below B w w') (h1 : hi ≤ B) (h2 : hi ≤ hi') : Rd c sz w' lo hi' A L :=
  (h.below (hb.mono h1)).wide (Nat.le_refl _) h2
/-- A row of the call's own, read as a list of elements. -/
theorem own_rd {w : World} {base : Nat} {e : TypeId} {v : Value} {L : List α} (hc : ∀ x, (c x).length = sz) (h : w.ownsRow base e sz v L.length (L.flatMap c)) :
    ∃ A cap, v = .slice A L.length cap ∧ L.length ≤ cap ∧ cap ≤ maxLen ∧ Rd c sz w base w.heap.size A L := by
  rcases h.2 with ⟨hv, hn⟩ | ⟨g, cap, cur, hv, hb, hg, hnc, hm, hs, ht⟩
  · exact ⟨none, 0, by rw [hv, hn], by omega, Nat.zero_le _, .inl (List.eq_nil_of_length_eq_zero hn)⟩
  · refine ⟨_, cap, hv, hnc, hm, .inr ⟨g, 0, rfl, hb, (Array.getElem?_eq_some_iff.1 hg).1, fun k hk j hj => ?_⟩⟩
    rw [cell_of_row w g _ cur e (0, 0) hg, Nat.zero_add, ← flat_get hc L k hk j hj, ← ht]
    have hlt : k * sz + j < L.length * sz := by
      have : (k + 1) * sz ≤ L.length * sz := Nat.mul_le_mul_right _ hk
      rw [Nat.succ_mul] at this; omega
    rw [List.getElem?_take, if_pos hlt, Array.getElem?_toList]
end
end Go.Proofs.Ytpjbnfpadbknpaa
