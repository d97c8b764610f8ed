/- szLetter, toLetter, LetterOk (program and reference); the walks of FnExactRoadOf, FnExactLetterOk. They hold for every argument. -/
import Derived.Test.YtkehjlddbikpbaaLetters1
import Derived.Test.YtkehjlddbikpbaaNum
import Derived.Test.YtkehjlddbikpbaaAgg
import Derived.Deep.DeepCutAuto
namespace Go.Proofs.Ytkehjlddbikpbaa
set_option linter.unusedSimpArgs false
set_option linter.unusedVariables false
open Go.RowKit

/-- What the functions sz.. leave of a budget l behind n letters. -/
def szI (l n : Int) : Int := if n ≤ l then l - n else -1
theorem szLetter_any (x : LetterD) (l : Int) (w : World) (h0 : 0 ≤ l) (h1 : l ≤ 1048576) (hs : x.fText.size ≤ maxLen) : Calls Try.prog 9 #[x.val, .int .i64 l] w fun e w' => e = .returned (.int .i64 (szI l x.fText.size)) ∧ Below w.heap.size w w' := by
  unfold maxLen at hs
  by_cases h : (x.fText.size : Int) ≤ l
  · have hv : Hid (szI l x.fText.size = l - x.fText.size) := if_pos h
    go_enter Try.func9, Try.ntmps9
    go_wp2
    go_ret
    exact ⟨ret_int hv.out.symm, by go_grown⟩
  · have hv : Hid (szI l x.fText.size = -1) := if_neg h
    go_enter Try.func9, Try.ntmps9
    go_wp2
    go_ret
    exact ⟨ret_int hv.out.symm, by go_grown⟩
set_option maxHeartbeats 1000000 in
theorem toLetter_any (x : LetterD) (w : World) : Calls Try.prog 11 #[x.val] w fun e w' => e = .returned x.val ∧ Below w.heap.size w w' := by
  go_enter Try.func11, Try.ntmps11
  go_upto_region 17 with (go_in)
  refine wp_world _ (fun W => (∃ old, W.heap[w.heap.size + 1]? = some (.cells old 33 (0, 0)) ∧ old.size = 19) ∧ W.heap[w.heap.size + 1 + 1]? = some (.cells x.cells.toArray 33 (0, 0)) ∧ Below w.heap.size w W) ⟨?_, ?_, ?_⟩ ?_
  · (repeat (rw [heap_alloc_at, if_neg (by simp only [World.size_alloc]; omega)])); rw [heap_alloc_at, if_pos (by simp only [World.size_alloc])]; exact ⟨_, rfl, rfl⟩
  · (repeat (rw [heap_alloc_at, if_neg (by simp only [World.size_alloc]; omega)])); rw [heap_alloc_at, if_pos (by simp only [World.size_alloc])]; rfl
  · go_grown
  · rintro W ⟨⟨old, hg1, ho⟩, hg2, hB⟩
    refine wp_region_lit ?_
    refine wpList_load_row rfl 33 (.tmp 3) rfl (w.heap.size + 1 + 1) rfl 33 _ (0, 0) _ hg2 Try.underlying33 rfl (by kernel_rfl) ?_
    refine wpList_store_row rfl rfl 33 (.tmp 2) (.tmp 50) rfl (w.heap.size + 1) rfl 33 _ _ rfl hg1 ho.symm (by kernel_rfl) (by simp [LetterD.cells, Value.oneCell']) ?_
    intro w1 hg3 hgr hs1
    go_wp2
    refine bodyPost_ret (results_cell_row Try.results11 _ _ (w.heap.size + 1) 33 _ (0, 0) _ rfl hg3 Try.underlying33 rfl (by kernel_rfl)) rfl ⟨rfl, ?_⟩
    exact hB.grown hgr (by have := hB.size; omega) (by rintro k ⟨⟩; omega)
end Go.Proofs.Ytkehjlddbikpbaa
