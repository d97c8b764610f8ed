/- What the walk of FnStays rests on: the boxes of its Pieces and how their lists read; the bytes of a text. -/
import Derived.Test.YtpjbnfpadbknpaaPutOwn
import Derived.Test.YtpjbnfpadbknpaaDrawPut
import Derived.Test.YtpjbnfpadbknpaaSameP
import Derived.Test.YtpjbnfpadbknpaaLaw0
namespace Go.Proofs.Ytpjbnfpadbknpaa
set_option linter.unusedSimpArgs false
set_option linter.unusedVariables false
open Go.RowKit
/-- What is known of a world behind some of the law's statements: the boxes, and how the lists read. -/
structure TP (w W : World) (bs : List (Nat × Obj)) (ls : List (Option Addr × List PieceD)) : Prop where
  below : Below w.heap.size w W
  box : ∀ p ∈ bs, W.heap[p.1]? = some p.2
  list : ∀ p ∈ ls, Rd PieceD.cells 2 W 0 W.heap.size p.1 p.2
section
variable {w W W' : World} {bs bs' : List (Nat × Obj)} {ls ls' : List (Option Addr × List PieceD)}
theorem TP.start (h : Below w.heap.size w W) : TP w W [] [] := ⟨h, by simp, by simp⟩
theorem TP.next (h : TP w W bs ls) (hb : Below W.heap.size W W') : TP w W' bs ls :=
  ⟨h.below.trans (hb.mono h.below.size), fun p hp => (hb.block p.1 (Array.getElem?_eq_some_iff.1 (h.box p hp)).1).trans (h.box p hp), fun p hp => (h.list p hp).later hb (Nat.le_refl _) hb.size⟩
theorem TP.addList (h : TP w W bs ls) (A : Option Addr) (L : List PieceD) (hr : Rd PieceD.cells 2 W 0 W.heap.size A L) : TP w W bs (ls ++ [(A, L)]) :=
  ⟨h.below, h.box, fun p hp => by rcases List.mem_append.1 hp with hp | hp; exact h.list p hp; (rw [List.mem_singleton] at hp; subst hp; exact hr)⟩
theorem TP.addBox (h : TP w W bs ls) (b : Nat) (o : Obj) (hb : W.heap[b]? = some o) : TP w W (bs ++ [(b, o)]) ls :=
  ⟨h.below, fun p hp => by rcases List.mem_append.1 hp with hp | hp; exact h.box p hp; (rw [List.mem_singleton] at hp; subst hp; exact hb), h.list⟩
end
/-- A text that was drawn and what the law makes of it. -/
theorem drawV_bd (B : List Int) : PBd (drawV B).1.2.1 (drawV B).1.2.2 ∧ (drawV B).2.2.size ≤ 1000 := by
  refine ⟨any_bd B _, ?_⟩
  unfold drawV
  dsimp only
  rw [textV_size]
  have := pickV_mem B (belowS B (belowS B (anyV B (0, newH B (min B.length 4000))).2 60) 10) [1, 3, 8, 20, 0, 120] (by decide)
  simp at this
  omega
theorem DrawPut_eq (A0 : Option Addr) (cap0 : Nat) (B : List Int) {r a : Int} {S T : ByteArray} {K : List PieceD} (he : drawV B = ((r, S, K), a, T)) (w : World) (hr : Rd bcells 1 w 0 w.heap.size A0 B) (hm : B.length ≤ 1048576) :
    Calls Try.prog 11 #[.slice A0 B.length cap0] w fun e w' => ∃ A k, e = .returned (.tuple #[pv r S A K.length k, .int .i64 a, .string T]) ∧ Rd PieceD.cells 2 w' 0 w'.heap.size A K ∧ Below w.heap.size w w' := by
  refine (DrawPut_any A0 cap0 B w hr hm).mono ?_
  rintro e w' ⟨A, k, h1, h2, h3⟩
  rw [he] at h1 h2
  exact ⟨A, k, h1, h2.rdv.wide (Nat.zero_le _) (Nat.le_refl _), h3⟩
/-- What the law makes of a byte: some byte. -/
theorem wrap_byte (n : Int) : ∃ z : UInt8, IntKind.u8.wrap n = (z.toNat : Int) := by
  have e : IntKind.u8.wrap n = n % 256 := by
    unfold IntKind.wrap
    rw [if_neg (by simp [IntKind.signed])]
    rfl
  refine ⟨UInt8.ofNat (n % 256).toNat, ?_⟩
  rw [UInt8.toNat_ofNat', e]
  omega
theorem xor_byte (x : UInt8) (y : Int) : ∃ z : UInt8, bits .xor .u8 (x.toNat : Int) y = (z.toNat : Int) := wrap_byte _
/-- The bytes of the row that '[]byte(s)' lays. -/
theorem bytesRow_cell (s : ByteArray) (cap j : Nat) (hj : j < s.size) : ∃ x : UInt8, (bytesRow s cap)[j]? = some (.int .u8 (x.toNat : Int)) := by
  refine ⟨s.data[j]'hj, ?_⟩
  unfold bytesRow
  rw [Array.getElem?_append_left (by simpa using hj)]
  simp [Array.getElem?_eq_getElem (show j < s.data.size from hj)]
theorem pre_extract (a b : ByteArray) : (a ++ b).extract 0 a.size = a := by
  apply ByteArray.ext
  simp [ByteArray.data_extract, ByteArray.data_append]
theorem frozen_mark (w : World) (C : Array Value) (t : TypeId) (lo hi j : Nat) (h : j < lo) : ((w.alloc (.cells C t (lo, hi))).drew).frozen? ⟨w.heap.size, j, none⟩ = false := by
  unfold World.frozen?
  rw [show ((w.alloc (.cells C t (lo, hi))).drew).heap[(Addr.mk w.heap.size j none).block]? = some (.cells C t (lo, hi)) from heap_alloc_new w _]
  simp
  intro h1
  omega
/-- The bytes of a row in turn: each a byte. -/
def ByteRow (W : World) (g n : Nat) : Prop := (∀ j, j < n → ∃ x : UInt8, W.cell? ⟨g, j, none⟩ = some (.int .u8 (x.toNat : Int))) ∧ (∀ j, j < n → W.frozen? ⟨g, j, none⟩ = false) ∧ g < W.heap.size
theorem ByteRow.set {W : World} {g n : Nat} (h : ByteRow W g n) (i : Nat) (x : UInt8) : ByteRow (W.setCell ⟨g, i, none⟩ (.int .u8 (x.toNat : Int))) g n := by
  refine ⟨fun j hj => ?_, fun j hj => by rw [World.frozen?_setCell]; exact h.2.1 j hj, by simpa using h.2.2⟩
  obtain ⟨y, hy⟩ := h.1 j hj
  by_cases e : j = i
  · subst e; exact ⟨x, World.cell?_setCell_same _ _ _ hy⟩
  · exact ⟨y, (World.cell?_setCell_other _ _ _ _ (by simp [e])).trans hy⟩
/-- A text whose bytes are what the row holds. -/
theorem ByteRow.text {W : World} {g n : Nat} (h : ByteRow W g n) : ∃ l : List UInt8, l.length = n ∧ ∀ j (hj : j < l.length), W.cell? ((⟨g, 0, none⟩ : Addr).add j) = some (.int .u8 (l[j].toNat : Int)) := by
  have hF : ∃ F : Nat → UInt8, ∀ j, j < n → W.cell? ⟨g, j, none⟩ = some (.int .u8 ((F j).toNat : Int)) := by
    refine ⟨fun j => if hj : j < n then Classical.choose (h.1 j hj) else 0, fun j hj => ?_⟩
    have h9 := Classical.choose_spec (h.1 j hj)
    simp only [dif_pos hj]
    exact h9
  obtain ⟨F, hF⟩ := hF
  refine ⟨(List.range n).map F, by simp, fun j hj => ?_⟩
  simp at hj
  rw [show (⟨g, 0, none⟩ : Addr).add j = ⟨g, j, none⟩ from by simp [Addr.add]; intro h; exact h.symm, hF j hj]
  simp
end Go.Proofs.Ytpjbnfpadbknpaa
