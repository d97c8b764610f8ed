/- isNumber: for every slice of ints that can be read. -/
import Derived.Test.YtpjbnfpadbknpaaSl
namespace Go.Proofs.Ytpjbnfpadbknpaa
set_option linter.unusedSimpArgs false
set_option linter.unusedVariables false
open Go.RowKit
abbrev icell (n : Int) : List Value := [.int .i64 n]
abbrev bcells (n : Int) : List Value := [.int .u8 n]
/-- What isNumber computes. -/
def numB (L : List Int) : Bool := L.all fun n => winB n 0 1000000000
theorem numB_take {L : List Int} {k : Nat} (h : k < L.length) (hp : numB (L.take k) = true) : numB (L.take (k + 1)) = winB L[k] 0 1000000000 := by
  rw [List.take_succ_eq_append_getElem h]
  unfold numB at *
  rw [List.all_append, hp]
  simp
theorem numB_no {L : List Int} {k : Nat} (h : k < L.length) (hp : winB L[k] 0 1000000000 = false) : numB L = false := by
  unfold numB
  rw [List.all_eq_false]
  exact ⟨L[k], List.getElem_mem h, by simp [hp]⟩
/-- A list of ints laid in a new block. -/
theorem Rd_new (w : World) (g : Nat) (L : List Int) (arr : Array Value) (t : TypeId) (hg : g = w.heap.size) (h : arr = (L.map (Value.int .i64)).toArray) :
    Rd icell 1 (w.alloc (.cells arr t)) 0 (w.alloc (.cells arr t)).heap.size (some ⟨g, 0, none⟩) L := by
  subst hg
  subst h
  refine .inr ⟨w.heap.size, 0, rfl, Nat.zero_le _, by simp, fun k hk j hj => ?_⟩
  obtain rfl : j = 0 := by omega
  rw [cell_of_row _ w.heap.size _ _ t (0, 0) (heap_alloc_new w _)]
  simp [hk]
set_option maxHeartbeats 400000 in
theorem isNumber_any (A : Option Addr) (cap : Nat) (L : List Int) (w : World) (hr : Rd icell 1 w 0 w.heap.size A L) (hc : L.length ≤ cap) (hm : cap ≤ maxLen) :
    Calls Try.prog 34 #[.slice A L.length cap] w fun e w' => e = .returned (.bool (numB L)) ∧ w = w' := by
  unfold maxLen at hm
  go_enter Try.func34, Try.ntmps34
  go_wp2_with fail
  go_loop [7] (fun i => ∃ k : Nat, k ≤ L.length ∧ i = .int .i64 k ∧ Hid (numB (L.take k) = true)) (fun i => L.length - (intOf i).toNat)
  case atStart => exact ⟨0, Nat.zero_le _, rfl, rfl⟩
  case round =>
    obtain ⟨k, hk, rfl, hp⟩ := hrel
    by_cases hlt : k < L.length
    · obtain ⟨g, o, rfl, _, hg, hcell⟩ := hr.at_ (by omega)
      have hx := hcell k hlt 0 (by decide)
      simp at hx
      clear hcell
      have hs := Lib.hid (numB_take hlt hp.out)
      by_cases hb : winB L[k] 0 1000000000 = true
      · go_wp2_with (go_at_call 35; refine (within_any _ _ _ _).mono ?_; rintro e w' ⟨rfl, rfl⟩)
        go_round
        case rel => exact ⟨k + 1, by omega, by go_num, by rw [hs.out]; exact hb⟩
        case measure => simp [intOf]; omega
      · have hn := Lib.hid (numB_no hlt (by simpa using hb))
        go_wp2_with (go_at_call 35; refine (within_any _ _ _ _).mono ?_; rintro e w' ⟨rfl, rfl⟩)
        go_ret
        exact ⟨ret_bool hn.out.symm, rfl⟩
    · go_wp2
      go_ret
      have : L.take k = L := List.take_of_length_le (by omega)
      have h2 := hp.out
      rw [this] at h2
      exact ⟨ret_bool h2.symm, rfl⟩
theorem isNumber_is (A : Option Addr) (cap : Nat) (L : List Int) (v : Bool) (h : numB L = v) (w : World) (hr : Rd icell 1 w 0 w.heap.size A L) (hc : L.length ≤ cap) (hm : cap ≤ maxLen) :
    Calls Try.prog 34 #[.slice A L.length cap] w fun e w' => e = .returned (.bool v) ∧ w = w' := by
  rw [← h]; exact isNumber_any A cap L w hr hc hm
/-- A list of ints laid in a block that is known whole. -/
theorem Rd_blk {w : World} {g : Nat} {L : List Int} {arr : Array Value} {t : TypeId} (hg : w.heap[g]? = some (.cells arr t (0, 0))) (h : arr = (L.map (Value.int .i64)).toArray) : Rd icell 1 w 0 w.heap.size (some ⟨g, 0, none⟩) L := by
  subst h
  refine .inr ⟨g, 0, rfl, Nat.zero_le _, (Array.getElem?_eq_some_iff.1 hg).1, fun k hk j hj => ?_⟩
  obtain rfl : j = 0 := by omega
  rw [cell_of_row _ g _ _ t (0, 0) hg]
  simp [hk]
end Go.Proofs.Ytpjbnfpadbknpaa
