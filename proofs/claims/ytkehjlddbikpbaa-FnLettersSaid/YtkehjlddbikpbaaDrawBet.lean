/- Between (program), DrawBetween: for every argument. -/
import Derived.Test.YtkehjlddbikpbaaDrawAny
namespace Go.Proofs.Ytkehjlddbikpbaa
set_option linter.unusedSimpArgs false
set_option linter.unusedVariables false
open Go.RowKit
section
variable {P : Program}
theorem row_set {W : World} {b i : Nat} {v : Value} {arr : Array Value} {t : TypeId} {r : Nat × Nat} (h : W.heap[b]? = some (.cells arr t r)) : (W.setCell ⟨b, i, none⟩ v).heap[b]? = some (.cells (arr.setIfInBounds i v) t r) := by
  rw [setCell_eq_setRow W b i _ _ _ v h]
  exact setRow_heap W b _ _ _ _ h
theorem results_cells2 {fn : Func} {p q : Tmp} {ty1 ty2 : TypeId} (h : fn.results = #[.cell p ty1, .cell q ty2]) (tmps : Array Value) (w : World) (g1 g2 : Nat) (t1 t2 : TypeId) (c1 c2 : Array Value) (f1 f2 : Nat × Nat) (d1 d2 : TypeDesc)
    (hp : tmps.getD p undef = .pointer (some ⟨g1, 0, none⟩)) (hg1 : w.heap[g1]? = some (.cells c1 t1 f1)) (hq : tmps.getD q undef = .pointer (some ⟨g2, 0, none⟩)) (hg2 : w.heap[g2]? = some (.cells c2 t2 f2))
    (hu1 : P.underlying ty1 = some d1) (hd1 : (match d1 with | .struct _ | .array _ _ => true | _ => false) = true) (hi1 : (P.info? ty1).map (·.size) = some c1.size)
    (hu2 : P.underlying ty2 = some d2) (hd2 : (match d2 with | .struct _ | .array _ _ => true | _ => false) = true) (hi2 : (P.info? ty2).map (·.size) = some c2.size) :
    (results fn tmps).run P w = .ok (.tuple #[.agg c1, .agg c2]) w := by
  have hp' : tmps[p]?.getD undef = .pointer (some ⟨g1, 0, none⟩) := by simpa using hp
  have hq' : tmps[q]?.getD undef = .pointer (some ⟨g2, 0, none⟩) := by simpa using hq
  simp [results, h, hp', hq', asAddr, run_loadVar_row w g1 t1 ty1 c1 f1 d1 hg1 hu1 hd1 hi1, run_loadVar_row w g2 t2 ty2 c2 f2 d2 hg2 hu2 hd2 hi2]
theorem step_store_row {ops : Array Oper} {o : Oper} {a : Act} {w : World} {K : Act → World → Prop} {Q : Exit → Act → World → Prop} {E : Prop} (hgd : o.guard = none) (hd : o.dst = none) (ty : TypeId) (x v : Operand) (ho : o.op = .store ty x v)
    (g : Nat) (hx : a.eval x = .pointer (some ⟨g, 0, none⟩)) (t : TypeId) (cur vs : Array Value) (hv : a.eval v = .agg vs) (hg : w.heap[g]? = some (.cells cur t (0, 0))) (hsz : vs.size = cur.size)
    (hi : (P.info? ty).map (·.size) = some vs.size) (h1 : ∀ u ∈ vs.toList, u.oneCell' = true)
    (h : ∀ w', w'.heap[g]? = some (.cells vs t (0, 0)) → w.grownBy w' (some g) → w'.heap.size = w.heap.size → K a w') : if Region.wanted o (yielded ops a.tmps) = true then Oper.wp P o a w K Q else E := by
  have hw : Region.wanted o (yielded ops a.tmps) = true := by simp [Region.wanted, hgd]
  rw [if_pos hw]
  unfold Oper.wp execOp
  simp only [ho, hx, hv, Instr.storeAt, Instr.sureAddr, Sem.run_bind, Sem.run_pure, Result.andThen_ok, run_storeVar_row w g t ty cur vs hg hsz hi h1]
  have h2 := h (w.setRow g vs) (setRow_heap w g cur vs t _ hg) ⟨rfl, rfl, rfl, by simp, fun k _ hne => setRow_other w g k vs (fun e => hne (by rw [e]))⟩ (by simp)
  simpa [Oper.upon, hd, Act.put] using h2
end
set_option maxHeartbeats 4000000 in
theorem iBetween (a b c : Int) (x : LetterD) (w : World) : Calls Try.prog 18 #[rd a b c, x.val] w fun e w' => e = .returned ({ x with fFrom := a, fTo := b, fPort := c } : LetterD).val ∧ Below w.heap.size w w' := by
  go_enter Try.func18, Try.ntmps18
  go_upto_region 1 with (fail)
  refine wp_world _ (fun W => (W.cell? ⟨w.heap.size, 0, none⟩ = some (.int .i64 a) ∧ W.cell? ⟨w.heap.size, 1, none⟩ = some (.int .i64 b) ∧ W.cell? ⟨w.heap.size, 2, none⟩ = some (.int .i64 c)) ∧ W.heap[w.heap.size + 1]? = some (.cells x.arr 33 (0, 0)) ∧ (∃ old : Array Value, W.heap[w.heap.size + 1 + 1]? = some (.cells old 33 (0, 0)) ∧ Hid (19 = old.size)) ∧ Below w.heap.size w W) ⟨⟨by simp [go_sem], by simp [go_sem], by simp [go_sem]⟩, ?_, ?_, ?_⟩ ?_
  · rw [heap_alloc_at, if_neg (by simp only [World.size_alloc]; omega), heap_alloc_at, if_pos (by simp only [World.size_alloc])]
  · rw [heap_alloc_at, if_pos (by simp only [World.size_alloc])]; exact ⟨_, rfl, rfl⟩
  · go_grown
  · rintro W ⟨⟨p0, p1, p2⟩, hx, ⟨old, hres, hro⟩, hB⟩
    have x1 : W.cell? ⟨w.heap.size + 1, 1, none⟩ = some (.int .i64 x.fFrom) := by rw [cell_of_row _ _ _ _ _ (0, 0) hx]; rfl
    have x2 : W.cell? ⟨w.heap.size + 1, 2, none⟩ = some (.int .i64 x.fTo) := by rw [cell_of_row _ _ _ _ _ (0, 0) hx]; rfl
    have x3 : W.cell? ⟨w.heap.size + 1, 3, none⟩ = some (.int .i64 x.fPort) := by rw [cell_of_row _ _ _ _ _ (0, 0) hx]; rfl
    have xf : ∀ o, W.frozen? ⟨w.heap.size + 1, o, none⟩ = false := fun o => frozen_of_row _ _ _ _ _ hx
    have HR := Lib.hid (row_set (i := 3) (v := .int .i64 c) (row_set (i := 2) (v := .int .i64 b) (row_set (i := 1) (v := .int .i64 a) hx)))
    have HS : Hid ((((W.setCell ⟨w.heap.size + 1, 1, none⟩ (.int .i64 a)).setCell ⟨w.heap.size + 1, 2, none⟩ (.int .i64 b)).setCell ⟨w.heap.size + 1, 3, none⟩ (.int .i64 c)).heap[w.heap.size + 1 + 1]? = some (.cells old 33 (0, 0))) := by
      unfold Hid
      rw [Below.heap_setCell _ _ _ _ (by simp), Below.heap_setCell _ _ _ _ (by simp), Below.heap_setCell _ _ _ _ (by simp)]
      exact hres
    have HX := Lib.hid hx
    clear hx hres
    have hBz := hB.size
    go_wp2_with (first | (refine wpList_load_row rfl 33 (.tmp 3) rfl (w.heap.size + 1) rfl 33 _ (0, 0) _ HR.out Try.underlying33 rfl (by kernel_rfl) ?_) | (refine wpList_store_row rfl rfl 33 (.tmp 4) (.tmp 14) rfl (w.heap.size + 1 + 1) rfl 33 _ _ rfl HS.out hro.out (by kernel_rfl) (by simp [Value.oneCell']) ?_; intro wq hgq hgrq hsq))
    refine bodyPost_ret (results_cell_row Try.results18 _ _ (w.heap.size + 1 + 1) 33 _ (0, 0) _ rfl hgq Try.underlying33 rfl (by kernel_rfl)) rfl ⟨rfl, ?_⟩
    exact (by (repeat' (first | (with_reducible exact Below.refl _ _) | (with_reducible assumption) | (with_reducible refine Below.alloc ?_ ?_ _) | (with_reducible refine Below.drew ?_) | (with_reducible refine below_drewN ?_ _) | (with_reducible refine Below.setCell ?_ ?_ _) | (with_reducible refine bvia ?_ (by with_reducible assumption) ?_) | go_size)) : Below w.heap.size w _).grown hgrq (by first | omega | (simp; omega)) (by rintro k ⟨⟩; omega)
end Go.Proofs.Ytkehjlddbikpbaa
