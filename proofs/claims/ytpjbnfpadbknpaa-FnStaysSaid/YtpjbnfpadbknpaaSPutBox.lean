/- The boxes of the reference's PutPiece: the answer that says no (bs), the piece that is put (bn), the list that is laid out (bh its first block, bo its box). -/
import Derived.Test.YtpjbnfpadbknpaaPutAll
import Derived.Test.YtpjbnfpadbknpaaOwnO
namespace Go.Proofs.Ytpjbnfpadbknpaa
set_option linter.unusedSimpArgs false
set_option linter.unusedVariables false
open Go.RowKit
/-- A call handed back a Pieces whose list lies in new memory and reads so (it may be a part of a longer one); nothing that was there has changed. -/
def RetRd (w : World) (r : Int) (s : ByteArray) (L : List PieceD) (f : Value → Value) (e : Ending) (w' : World) : Prop :=
  ∃ A cap, e = .returned (f (pv r s A L.length cap)) ∧ OwnO w' w.heap.size PieceD.cells 2 (.slice A L.length cap) L ∧ Below w.heap.size w w'
theorem RetRd.of {w w' : World} {r : Int} {s s' : ByteArray} {L L' : List PieceD} {f : Value → Value} {e : Ending} (h : (s', L') = (s, L)) (hr : RetRd w r s L f e w') : RetRd w r s' L' f e w' := by cases h; exact hr
theorem Own.rd' {α : Type} {c : α → List Value} {sz base n cap : Nat} {e : TypeId} {A : Option Addr} {L : List α} {w : World} (h : Own w base e c sz (.slice A n cap) L) (hc : ∀ x, (c x).length = sz) : Rd c sz w base w.heap.size A L := by
  obtain ⟨A', cap', h1, _, _, r⟩ := h.rd hc
  cases h1
  exact r
/-- The list lies below a block. -/
theorem Own.rdIn {α : Type} {c : α → List Value} {sz base n cap b : Nat} {e : TypeId} {A : Option Addr} {L : List α} {w : World} (h : Own w base e c sz (.slice A n cap) L) (hc : ∀ x, (c x).length = sz) (hb : ∀ k, (Value.slice A n cap).ownBlock = some k → k < b) : Rd c sz w base b A L := by
  rcases h.rd' hc with h1 | ⟨g, o, rfl, h2, h3, h4⟩
  · exact .inl h1
  · exact .inr ⟨g, o, rfl, h2, hb g rfl, h4⟩
/-- From W0 on only box bn and what lies from bh on has changed; what the boxes hold. -/
structure PH (W0 : World) (bh bo bn : Nat) (r : Int) (S : ByteArray) (vO : Value) (y : PieceD) (W : World) : Prop where
  os : W.os = W0.os
  tape : W.tape = W0.tape
  output : W.output = W0.output
  hB : bo < W.heap.size
  hh : bh < bo
  hn : bn < bh
  keep : ∀ k, k < bh → k ≠ bn → W.heap[k]? = W0.heap[k]?
  o0 : W.cell? ⟨bo, 0, none⟩ = some (.int .i64 r)
  o1 : W.cell? ⟨bo, 1, none⟩ = some (.string S)
  o2 : W.cell? ⟨bo, 2, none⟩ = some vO
  of : ∀ o, W.frozen? ⟨bo, o, none⟩ = false
  n0 : W.cell? ⟨bn, 0, none⟩ = some (.int .i64 y.fAt)
  n1 : W.cell? ⟨bn, 1, none⟩ = some (.string y.fText)
  nf : ∀ o, W.frozen? ⟨bn, o, none⟩ = false
theorem cellAtB {W W' : World} {b : Nat} (h : W'.heap[b]? = W.heap[b]?) (o : Nat) : W'.cell? ⟨b, o, none⟩ = W.cell? ⟨b, o, none⟩ := by
  unfold World.cell?; rw [show (Addr.mk b o none).block = b from rfl, h]
theorem frozenAtB {W W' : World} {b : Nat} (h : W'.heap[b]? = W.heap[b]?) (o : Nat) : W'.frozen? ⟨b, o, none⟩ = W.frozen? ⟨b, o, none⟩ := by
  unfold World.frozen?; rw [show (Addr.mk b o none).block = b from rfl, h]
section
variable {W0 W W' : World} {bh bo bn : Nat} {r : Int} {S : ByteArray} {vO : Value} {y : PieceD}
theorem PH.step (h : PH W0 bh bo bn r S vO y W) (hb : Below bh W W') (ho : W'.heap[bo]? = W.heap[bo]?) : PH W0 bh bo bn r S vO y W' := by
  have hn := hb.block bn h.hn
  exact ⟨hb.os.trans h.os, hb.tape.trans h.tape, hb.output.trans h.output, Nat.lt_of_lt_of_le h.hB hb.size, h.hh, h.hn, fun k hk h1 => (hb.block k hk).trans (h.keep k hk h1),
    (cellAtB ho 0).trans h.o0, (cellAtB ho 1).trans h.o1, (cellAtB ho 2).trans h.o2, fun o => (frozenAtB ho o).trans (h.of o),
    (cellAtB hn 0).trans h.n0, (cellAtB hn 1).trans h.n1, fun o => (frozenAtB hn o).trans (h.nf o)⟩
theorem PH.next (h : PH W0 bh bo bn r S vO y W) (hb : Below (bo + 1) W W') : PH W0 bh bo bn r S vO y W' := h.step (hb.mono (by have := h.hh; omega)) (hb.block bo (by omega))
theorem PH.setO (h : PH W0 bh bo bn r S vO y W) (v : Value) : PH W0 bh bo bn r S v y (W.setCell ⟨bo, 2, none⟩ v) := by
  have h1 := h.hh
  have h2 := h.hn
  have hne : bo ≠ bn := by omega
  exact ⟨h.os, h.tape, h.output, by simpa using h.hB, h.hh, h.hn, fun k hk h1 => (Below.heap_setCell _ _ _ _ (by show k ≠ bo; omega)).trans (h.keep k hk h1),
    (World.cell?_setCell_other _ _ _ _ (by simp)).trans h.o0, (World.cell?_setCell_other _ _ _ _ (by simp)).trans h.o1, World.cell?_setCell_same _ _ _ h.o2, fun o => by rw [World.frozen?_setCell]; exact h.of o,
    (World.cell?_setCell_far _ _ _ _ hne).trans h.n0, (World.cell?_setCell_far _ _ _ _ hne).trans h.n1, fun o => by rw [World.frozen?_setCell]; exact h.nf o⟩
theorem PH.setS (h : PH W0 bh bo bn r S vO y W) (S' : ByteArray) : PH W0 bh bo bn r S' vO y (W.setCell ⟨bo, 1, none⟩ (.string S')) := by
  have h1 := h.hh
  have h2 := h.hn
  have hne : bo ≠ bn := by omega
  exact ⟨h.os, h.tape, h.output, by simpa using h.hB, h.hh, h.hn, fun k hk h1 => (Below.heap_setCell _ _ _ _ (by show k ≠ bo; omega)).trans (h.keep k hk h1),
    (World.cell?_setCell_other _ _ _ _ (by simp)).trans h.o0, World.cell?_setCell_same _ _ _ h.o1, (World.cell?_setCell_other _ _ _ _ (by simp)).trans h.o2, fun o => by rw [World.frozen?_setCell]; exact h.of o,
    (World.cell?_setCell_far _ _ _ _ hne).trans h.n0, (World.cell?_setCell_far _ _ _ _ hne).trans h.n1, fun o => by rw [World.frozen?_setCell]; exact h.nf o⟩
theorem PH.setN (h : PH W0 bh bo bn r S vO y W) (y' : PieceD) : PH W0 bh bo bn r S vO y' ((W.setCell ⟨bn, 0, none⟩ (.int .i64 y'.fAt)).setCell ⟨bn, 1, none⟩ (.string y'.fText)) := by
  have h1 := h.hh
  have h2 := h.hn
  have hne : bn ≠ bo := by omega
  refine ⟨h.os, h.tape, h.output, by simpa using h.hB, h.hh, h.hn, fun k hk h1 => ((Below.heap_setCell _ _ _ _ (fun e => h1 e)).trans (Below.heap_setCell _ _ _ _ (fun e => h1 e))).trans (h.keep k hk h1), ?_, ?_, ?_, ?_, ?_, ?_, ?_⟩
  · exact ((World.cell?_setCell_far _ _ _ _ hne).trans (World.cell?_setCell_far _ _ _ _ hne)).trans h.o0
  · exact ((World.cell?_setCell_far _ _ _ _ hne).trans (World.cell?_setCell_far _ _ _ _ hne)).trans h.o1
  · exact ((World.cell?_setCell_far _ _ _ _ hne).trans (World.cell?_setCell_far _ _ _ _ hne)).trans h.o2
  · intro o; rw [World.frozen?_setCell, World.frozen?_setCell]; exact h.of o
  · exact (World.cell?_setCell_other _ _ _ _ (by simp)).trans (World.cell?_setCell_same _ _ _ h.n0)
  · exact World.cell?_setCell_same _ _ _ ((World.cell?_setCell_other _ _ _ _ (by simp)).trans h.n1)
  · intro o; rw [World.frozen?_setCell, World.frozen?_setCell]; exact h.nf o
/-- What lies below both boxes is as it was. -/
theorem PH.below (h : PH W0 bh bo bn r S vO y W) {C : Nat} (hC : C ≤ bn) (hz : W0.heap.size ≤ bo + 1) : Below C W0 W := by
  have h1 := h.hh
  have h2 := h.hn
  have h3 := h.hB
  exact ⟨h.os, h.tape, h.output, by omega, fun k hk => h.keep k (by omega) (by omega)⟩
end
section
variable {α : Type} {c : α → List Value} {sz base : Nat} {e : TypeId} {v : Value} {L : List α} {w w' : World}
theorem Own.setOther (h : Own w base e c sz v L) {p : Addr} (hp : v.ownBlock ≠ some p.block) (u : Value) : Own (w.setCell p u) base e c sz v L :=
  h.keep fun k hk _ _ => Below.heap_setCell _ _ _ _ (fun e => hp (by rw [hk, e]))
end
/-- The boxes of the argument, of the result, and of the answer that says no, whose list lies below it. -/
structure SA (w : World) (bs : Nat) (r : Int) (s : ByteArray) (vL : Value) (As : Option Addr) (ks : Nat) (L : List PieceD) (W : World) : Prop where
  below : Below w.heap.size w W
  hlo : w.heap.size + 2 ≤ bs
  hlt : bs < W.heap.size
  p0 : W.cell? ⟨w.heap.size, 0, none⟩ = some (.int .i64 r)
  p1 : W.cell? ⟨w.heap.size, 1, none⟩ = some (.string s)
  p2 : W.cell? ⟨w.heap.size, 2, none⟩ = some vL
  q0 : W.cell? ⟨w.heap.size + 1, 0, none⟩ = some (.int .i64 0)
  q1 : W.cell? ⟨w.heap.size + 1, 1, none⟩ = some (.string ⟨#[]⟩)
  q2 : W.cell? ⟨w.heap.size + 1, 2, none⟩ = some (.slice none 0 0)
  qf : ∀ o, W.frozen? ⟨w.heap.size + 1, o, none⟩ = false
  s0 : W.cell? ⟨bs, 0, none⟩ = some (.int .i64 r)
  s1 : W.cell? ⟨bs, 1, none⟩ = some (.string s)
  s2 : W.cell? ⟨bs, 2, none⟩ = some (.slice As L.length ks)
  ow : OwnO W (w.heap.size + 2) PieceD.cells 2 (.slice As L.length ks) L
  ob : ∀ k, (Value.slice As L.length ks).ownBlock = some k → k < bs
section
variable {w W W' : World} {bs : Nat} {r : Int} {s : ByteArray} {vL : Value} {As : Option Addr} {ks : Nat} {L : List PieceD}
theorem SA.next (h : SA w bs r s vL As ks L W) (hb : Below (bs + 1) W W') : SA w bs r s vL As ks L W' := by
  have h1 := h.hlo
  have h2 := h.hlt
  have hp := hb.block w.heap.size (by omega)
  have hq := hb.block (w.heap.size + 1) (by omega)
  have hs := hb.block bs (by omega)
  exact ⟨h.below.trans (hb.mono (by omega)), h1, Nat.lt_of_lt_of_le h2 hb.size, (cellAtB hp 0).trans h.p0, (cellAtB hp 1).trans h.p1, (cellAtB hp 2).trans h.p2, (cellAtB hq 0).trans h.q0, (cellAtB hq 1).trans h.q1, (cellAtB hq 2).trans h.q2, fun o => (frozenAtB hq o).trans (h.qf o),
    (cellAtB hs 0).trans h.s0, (cellAtB hs 1).trans h.s1, (cellAtB hs 2).trans h.s2, h.ow.keep hb.size (fun k hk _ _ => hb.block k (by have := h.ob k hk; omega)), h.ob⟩
theorem SA.later (h : SA w bs r s vL As ks L W) (hb : Below W.heap.size W W') : SA w bs r s vL As ks L W' := h.next (hb.mono (by have := h.hlt; omega))
/-- The result's box is stored. -/
theorem SA.done (h : SA w bs r s vL As ks L W) (a b c : Value) : Touch (w.heap.size + 1) (w.heap.size + 2) W (((W.setCell ⟨w.heap.size + 1, 0, none⟩ a).setCell ⟨w.heap.size + 1, 1, none⟩ b).setCell ⟨w.heap.size + 1, 2, none⟩ c) := by
  (repeat' (first | (with_reducible exact Touch.refl _ _ _) | (with_reducible assumption) | (with_reducible refine Touch.alloc ?_ _) | (with_reducible refine Touch.drew ?_) | (with_reducible refine Touch.drewN ?_ _) | (with_reducible refine Touch.setCell ?_ ?_ ?_ _) | (with_reducible refine Touch.via ?_ (by with_reducible assumption)) | go_size))
end
/-- Box bn holds the piece that is put. -/
structure PN (W : World) (bn : Nat) (y : PieceD) : Prop where
  lt : bn < W.heap.size
  n0 : W.cell? ⟨bn, 0, none⟩ = some (.int .i64 y.fAt)
  n1 : W.cell? ⟨bn, 1, none⟩ = some (.string y.fText)
  nf : ∀ o, W.frozen? ⟨bn, o, none⟩ = false
section
variable {W W' : World} {bn : Nat} {y : PieceD}
theorem PN.next (h : PN W bn y) (hb : Below W.heap.size W W') : PN W' bn y := by
  have hn := hb.block bn h.lt
  exact ⟨Nat.lt_of_lt_of_le h.lt hb.size, (cellAtB hn 0).trans h.n0, (cellAtB hn 1).trans h.n1, fun o => (frozenAtB hn o).trans (h.nf o)⟩
theorem PN.new (w : World) (a : Int) (t : ByteArray) : PN (w.alloc (.cells #[.int .i64 a, .string t] 44)) w.heap.size ⟨a, t⟩ :=
  ⟨by simp, by simp [go_sem], by simp [go_sem], fun o => by simp [go_sem]⟩
theorem PN.set (h : PN W bn y) (a : Int) (t : ByteArray) : PN ((W.setCell ⟨bn, 0, none⟩ (.int .i64 a)).setCell ⟨bn, 1, none⟩ (.string t)) bn ⟨a, t⟩ := by
  refine ⟨by simpa using h.lt, ?_, ?_, fun o => ?_⟩
  · exact (World.cell?_setCell_other _ _ _ _ (by simp)).trans (World.cell?_setCell_same _ _ _ h.n0)
  · exact World.cell?_setCell_same _ _ _ ((World.cell?_setCell_other _ _ _ _ (by simp)).trans h.n1)
  · rw [World.frozen?_setCell, World.frozen?_setCell]; exact h.nf o
/-- The list that is laid out is begun. -/
theorem PN.start (h : PN W bn y) (r : Int) (s : ByteArray) (e : TypeId) : PH ((W.alloc (.cells #[] e)).alloc (.cells #[.int .i64 r, .string s, .slice (some ⟨W.heap.size, 0, none⟩) 0 0] 26)) W.heap.size (W.heap.size + 1) bn r s (.slice (some ⟨W.heap.size, 0, none⟩) 0 0) y ((W.alloc (.cells #[] e)).alloc (.cells #[.int .i64 r, .string s, .slice (some ⟨W.heap.size, 0, none⟩) 0 0] 26)) := by
  have h1 := h.lt
  refine ⟨rfl, rfl, rfl, by simp, by omega, h1, fun _ _ _ => rfl, by simp [go_sem], by simp [go_sem], by simp [go_sem], fun o => by simp [go_sem], ?_, ?_, fun o => ?_⟩
  · rw [calP _ _ _ _ (by simp; omega), calP _ _ _ _ h1]; exact h.n0
  · rw [calP _ _ _ _ (by simp; omega), calP _ _ _ _ h1]; exact h.n1
  · rw [falP _ _ _ _ (by simp; omega), falP _ _ _ _ h1]; exact h.nf o
end
theorem wpList_world {P : Program} {ops : Array Oper} {Q : Exit → Act → World → Prop} {rest : List Oper} {a : Act} (w : World) (I : World → Prop) (hI : I w) (h : ∀ W, I W → wpList P ops Q rest a W) : wpList P ops Q rest a w := h w hI
end Go.Proofs.Ytpjbnfpadbknpaa
