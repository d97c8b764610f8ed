/- What a draw says; l01PickInt: for every state of the cursor. -/
import Derived.Test.YtpjbnfpadbknpaaCur
import Derived.Test.YtpjbnfpadbknpaaOwn
import Derived.Deep.RegionHeld
namespace Go.Proofs.Ytpjbnfpadbknpaa
set_option linter.unusedSimpArgs false
set_option linter.unusedVariables false
open Go.RowKit

theorem Touch.setNew {lo hi : Nat} {a w : World} (h : Touch lo hi a w) {p : Addr} (hp : a.heap.size ≤ p.block) (v : Value) : Touch lo hi a (w.setCell p v) :=
  ⟨h.os, h.tape, h.output, by simpa [World.setCell] using h.size, fun k hk hn => (Below.heap_setCell _ _ _ _ (by omega)).trans (h.block k hk hn)⟩
theorem Touch.grownNew {lo hi : Nat} {a w w' : World} {row : Option Nat} (h : Touch lo hi a w) (hg : w.grownBy w' row) (hr : ∀ k, row = some k → a.heap.size ≤ k) : Touch lo hi a w' :=
  ⟨hg.os.trans h.os, hg.tape.trans h.tape, hg.output.trans h.output, Nat.le_trans h.size hg.size, fun k hk hn => (hg.block k (Nat.lt_of_lt_of_le hk h.size) (fun e => by have := hr k e.symm; omega)).trans (h.block k hk hn)⟩
theorem cal (w : World) (o : Obj) (b off : Nat) (h : b < w.heap.size) : (w.alloc o).cell? ⟨b, off, none⟩ = w.cell? ⟨b, off, none⟩ := World.cell?_alloc_lt w o _ h
theorem fal (w : World) (o : Obj) (b off : Nat) (h : b < w.heap.size) : (w.alloc o).frozen? ⟨b, off, none⟩ = w.frozen? ⟨b, off, none⟩ := (by go_grown : Below w.heap.size w (w.alloc o)).frozen (p := ⟨b, off, none⟩) h
theorem csn (w : World) (p : Addr) (v : Value) (b off : Nat) (h : p.block ≠ b) : (w.setCell p v).cell? ⟨b, off, none⟩ = w.cell? ⟨b, off, none⟩ := World.cell?_setCell_far w p _ v h
/-- A draw from the cursor in block g: it handed back a value of which P holds, the cursor moved on, and nothing else that was there has changed. -/
def DrawP (g : Nat) (S : Src) (w : World) (P : World → Value → Prop) (e : Ending) (w' : World) : Prop :=
  ∃ v s', e = .returned v ∧ P w' v ∧ Cur w' g S s' ∧ Touch g (g + 1) w w'
theorem l01Below_some (g : Nat) (S : Src) (s : Nat × Int) (n : Int) (w : World) (hn : 0 < n) (hc : Cur w g S s) :
    Calls Try.prog 32 #[.pointer (some ⟨g, 0, none⟩), .int .i64 n] w (DrawP g S w fun _ v => ∃ x : Int, v = .int .i64 x ∧ 0 ≤ x ∧ x < n) :=
  (l01Below_any g S s n w hc).mono fun e w' ⟨h, c, t⟩ => ⟨_, _, h, ⟨_, rfl, (belowV_range S.B s n).1, (belowV_range S.B s n).2.1 hn⟩, c, t⟩
/-- A list of ints that a literal lays in a new block. -/
theorem Rd_lit (w : World) (g lo : Nat) (L : List Int) (arr : Array Value) (t : TypeId) (hg : g = w.heap.size) (hl : lo ≤ w.heap.size) (h : arr = (L.map (Value.int .i64)).toArray) :
    Rd icell 1 (w.alloc (.cells arr t)) lo (w.alloc (.cells arr t)).heap.size (some ⟨g, 0, none⟩) L := by
  subst hg
  subst h
  refine .inr ⟨w.heap.size, 0, rfl, hl, by simp, fun k hk j hj => ?_⟩
  obtain rfl : j = 0 := by omega
  rw [cell_of_row _ w.heap.size _ _ t (0, 0) (heap_alloc_new w _)]
  simp [hk]
/-- What l01PickInt gives. -/
def pickV (B : List Int) (s : Nat × Int) (L : List Int) : Int := L[(belowV B s L.length).toNat]?.getD 0
theorem pickV_mem (B : List Int) (s : Nat × Int) (L : List Int) (h : 0 < L.length) : pickV B s L ∈ L := by
  have hr := belowV_range B s L.length
  have := hr.2.1 (by omega)
  unfold pickV
  rw [List.getElem?_eq_getElem (by omega)]
  exact List.getElem_mem _
set_option maxHeartbeats 1000000 in
theorem l01PickInt_any (g : Nat) (S : Src) (s : Nat × Int) (A : Option Addr) (cap : Nat) (L : List Int) (n : Nat) (w : World) (hc : Cur w g S s) (hn : n = L.length) (hr : Rd icell 1 w (g + 1) w.heap.size A L) (hL : 0 < L.length) (hm : L.length ≤ maxLen) :
    Calls Try.prog 31 #[.pointer (some ⟨g, 0, none⟩), .slice A n cap] w fun e w' => e = .returned (.int .i64 (pickV S.B s L)) ∧ Cur w' g S (belowS S.B s L.length) ∧ Touch g (g + 1) w w' := by
  subst hn
  have hb := belowV_range S.B s L.length
  have hb2 := hb.2.1 (by omega)
  obtain ⟨k, hk⟩ : ∃ k : Nat, belowV S.B s L.length = k := ⟨(belowV S.B s L.length).toNat, by omega⟩
  rw [hk] at hb2
  have hkl : k < L.length := by omega
  have hV : Hid (pickV S.B s L = L[k]) := by unfold Hid pickV; rw [hk]; simp [hkl]
  have HK := Lib.hid hk
  clear hk hb
  unfold maxLen at hm
  obtain ⟨g', o, rfl, hlo, hg, hcell⟩ := hr.at_ hL
  have a0 : w.cell? ⟨g', o + k, none⟩ = some (.int .i64 L[k]) := by have := hcell k hkl 0 (by decide); simpa using this
  clear hcell hr
  go_enter Try.func31, Try.ntmps31
  go_wp2_with fail
  refine (l01Below_any g S s L.length w hc).mono ?_
  rintro e w1 ⟨rfl, c1, t1⟩
  rw [HK.out]
  have a1 := (t1.cell (p := ⟨g', o + k, none⟩) hg (.inr hlo)).trans a0
  clear a0
  go_wp2
  go_ret
  exact ⟨ret_int hV.out.symm, c1, t1⟩
theorem l01PickInt_some (g : Nat) (S : Src) (s : Nat × Int) (A : Option Addr) (cap : Nat) (L : List Int) (n : Nat) (w : World) (hc : Cur w g S s) (hn : n = L.length) (hr : Rd icell 1 w (g + 1) w.heap.size A L) (hL : 0 < L.length) (hm : L.length ≤ maxLen) :
    Calls Try.prog 31 #[.pointer (some ⟨g, 0, none⟩), .slice A n cap] w (DrawP g S w fun _ v => ∃ x : Int, v = .int .i64 x ∧ x ∈ L) :=
  (l01PickInt_any g S s A cap L n w hc hn hr hL hm).mono fun e w' ⟨h, c, t⟩ => ⟨_, _, h, ⟨_, rfl, pickV_mem S.B s L hL⟩, c, t⟩
section
variable {α : Type} {c : α → List Value} {sz base : Nat} {e : TypeId} {v : Value} {L : List α} {w w' : World}
theorem Own.touch {g : Nat} (h : Own w base e c sz v L) (ht : Touch g (g + 1) w w') (hb : g < base) : Own w' base e c sz v L := h.keep fun k _ hk hl => ht.block k hl (.inr (by omega))
end
theorem DrawP.own {g : Nat} {S : Src} {w w' : World} {P : World → Value → Prop} {v : Value} {s' : Nat × Int} (h1 : P w' v) (h2 : Cur w' g S s') (h3 : Touch g (g + 1) w w') : DrawP g S w P (.returned v) w' := ⟨v, s', rfl, h1, h2, h3⟩
end Go.Proofs.Ytpjbnfpadbknpaa
