/- isNumber: for every slice of ints that can be read. -/
import Derived.Test.YtomjfhcfellikaaSl
namespace Go.Proofs.Ytomjfhcfellikaa
set_option linter.unusedSimpArgs false
set_option linter.unusedVariables false
open Go.RowKit
abbrev icell (n : Int) : List Value := [.int .i64 n]
abbrev bcells (n : Int) : List Value := [.int .u8 n]
/-- What isNumber computes. -/
def numB (L : List Int) : Bool := L.all fun n => winB n 0 1000000000
theorem numB_take {L : List Int} {k : Nat} (h : k < L.length) (hp : numB (L.take k) = true) : numB (L.take (k + 1)) = winB L[k] 0 1000000000 := by
  rw [List.take_succ_eq_append_getElem h]
  unfold numB at *
  rw [List.all_append, hp]
  simp
theorem numB_no {L : List Int} {k : Nat} (h : k < L.length) (hp : winB L[k] 0 1000000000 = false) : numB L = false := by
  unfold numB
  rw [List.all_eq_false]
  exact ⟨L[k], List.getElem_mem h, by simp [hp]⟩
/-- A list of ints laid in a new block. -/
theorem Rd_new (w : World) (g : Nat) (L : List Int) (arr : Array Value) (t : TypeId) (hg : g = w.heap.size) (h : arr = (L.map (Value.int .i64)).toArray) :
    Rd icell 1 (w.alloc (.cells arr t)) 0 (w.alloc (.cells arr t)).heap.size (some ⟨g, 0, none⟩) L := by
  subst hg
  subst h
  refine .inr ⟨w.heap.size, 0, rfl, Nat.zero_le _, by simp, fun k hk j hj => ?_⟩
  obtain rfl : j = 0 := by omega
  rw [cell_of_row _ w.heap.size _ _ t (0, 0) (heap_alloc_new w _)]
  simp [hk]
/-- A list of ints laid in a block that is known whole. -/
theorem Rd_blk {w : World} {g : Nat} {L : List Int} {arr : Array Value} {t : TypeId} (hg : w.heap[g]? = some (.cells arr t (0, 0))) (h : arr = (L.map (Value.int .i64)).toArray) : Rd icell 1 w 0 w.heap.size (some ⟨g, 0, none⟩) L := by
  subst h
  refine .inr ⟨g, 0, rfl, Nat.zero_le _, (Array.getElem?_eq_some_iff.1 hg).1, fun k hk j hj => ?_⟩
  obtain rfl : j = 0 := by omega
  rw [cell_of_row _ g _ _ t (0, 0) hg]
  simp [hk]
end Go.Proofs.Ytomjfhcfellikaa
