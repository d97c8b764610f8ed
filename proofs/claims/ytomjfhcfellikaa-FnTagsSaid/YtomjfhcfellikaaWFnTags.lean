/- The walk of FnTags: for every input. Written by program (fntags.py). -/
import Derived.Test.YtomjfhcfellikaaSameK
import Derived.Test.YtomjfhcfellikaaTagLaw
import Derived.Test.YtomjfhcfellikaaTagMk
import Derived.Test.YtomjfhcfellikaaLaw0
import Derived.Test.YtomjfhcfellikaaAnyTwo
import Derived.Deep.CutRange
import Derived.Test.YtomjfhcfellikaaLearnT
import Derived.Deep.DrawnRows
import Derived.StillTailTactics
namespace Go.Proofs.Ytomjfhcfellikaa
set_option linter.unusedSimpArgs false
set_option linter.unusedVariables false
open Go.RowKit
/-- What is known of a world behind some of the law's statements: the boxes, and how the lists read. -/
structure TS (w W : World) (bs : List (Nat × Obj)) (ks : List (Option Addr × List Int)) (ts : List (Option Addr × List TagD)) : Prop where
  below : Below w.heap.size w W
  box : ∀ p ∈ bs, W.heap[p.1]? = some p.2
  ints : ∀ p ∈ ks, Rd icell 1 W 0 W.heap.size p.1 p.2
  tags : ∀ p ∈ ts, Rd TagD.cells 5 W 0 W.heap.size p.1 p.2
section
variable {w W W' : World} {bs : List (Nat × Obj)} {ks : List (Option Addr × List Int)} {ts : List (Option Addr × List TagD)}
theorem TS.next (h : TS w W bs ks ts) (hb : Below W.heap.size W W') : TS w W' bs ks ts :=
  ⟨h.below.trans (hb.mono h.below.size), fun p hp => (hb.block p.1 (Array.getElem?_eq_some_iff.1 (h.box p hp)).1).trans (h.box p hp), fun p hp => (h.ints p hp).later hb (Nat.le_refl _) hb.size, fun p hp => (h.tags p hp).later hb (Nat.le_refl _) hb.size⟩
theorem TS.addBox (h : TS w W bs ks ts) (b : Nat) (o : Obj) (hb : W.heap[b]? = some o) : TS w W ((b, o) :: bs) ks ts :=
  ⟨h.below, fun p hp => by rcases List.mem_cons.1 hp with rfl | hp; exact hb; exact h.box p hp, h.ints, h.tags⟩
theorem TS.addBoxLast (h : TS w W bs ks ts) (b : Nat) (o : Obj) (hb : W.heap[b]? = some o) : TS w W (bs ++ [(b, o)]) ks ts :=
  ⟨h.below, fun p hp => by rcases List.mem_append.1 hp with hp | hp; exact h.box p hp; (rw [List.mem_singleton] at hp; subst hp; exact hb), h.ints, h.tags⟩
theorem TS.addInts (h : TS w W bs ks ts) (A : Option Addr) (L : List Int) (hr : Rd icell 1 W 0 W.heap.size A L) : TS w W bs ((A, L) :: ks) ts :=
  ⟨h.below, h.box, fun p hp => by rcases List.mem_cons.1 hp with rfl | hp; exact hr; exact h.ints p hp, h.tags⟩
theorem TS.addTags (h : TS w W bs ks ts) (A : Option Addr) (L : List TagD) (hr : Rd TagD.cells 5 W 0 W.heap.size A L) : TS w W bs ks ((A, L) :: ts) :=
  ⟨h.below, h.box, h.ints, fun p hp => by rcases List.mem_cons.1 hp with rfl | hp; exact hr; exact h.tags p hp⟩
theorem TS.addTail (h : TS w W bs ks ts) (A : Option Addr) (L : List TagD) (hr : Rd TagD.cells 5 W 0 W.heap.size A L) (B : Option Addr) (M : List Int) (hs : Rd icell 1 W 0 W.heap.size B M) : TS w W bs (ks ++ [(B, M)]) (ts ++ [(A, L)]) :=
  ⟨h.below, h.box, fun p hp => by rcases List.mem_append.1 hp with hp | hp; exact h.ints p hp; (rw [List.mem_singleton] at hp; subst hp; exact hs), fun p hp => by rcases List.mem_append.1 hp with hp | hp; exact h.tags p hp; (rw [List.mem_singleton] at hp; subst hp; exact hr)⟩
theorem TS.addTail0 (h : TS w W bs ks ts) (A : Option Addr) (L : List Int) (hr : Rd icell 1 W 0 W.heap.size A L) : TS w W bs (ks ++ [(A, L)]) ts :=
  ⟨h.below, h.box, fun p hp => by rcases List.mem_append.1 hp with hp | hp; exact h.ints p hp; (rw [List.mem_singleton] at hp; subst hp; exact hr), h.tags⟩
theorem TS.more {bs' : List (Nat × Obj)} {ks' : List (Option Addr × List Int)} (h : TS w W bs ks ts) (hb : Below W.heap.size W W') (g b : Nat) (L : List Int) (arr : Array Value) (o : Obj) (hg : W'.heap[g]? = some (.cells arr 3 (0, 0))) (ha : arr = (L.map (Value.int .i64)).toArray) (hx : W'.heap[b]? = some o) (e1 : bs' = bs ++ [(b, o)]) (e2 : ks' = ks ++ [(some ⟨g, 0, none⟩, L)]) : TS w W' bs' ks' ts := by
  subst e1 e2
  exact ((h.next hb).addTail0 (some ⟨g, 0, none⟩) L (Rd_blk hg ha)).addBoxLast b o hx
theorem TS.addIntsLast (h : TS w W bs ks ts) (A : Option Addr) (L : List Int) (hr : Rd icell 1 W 0 W.heap.size A L) : TS w W bs (ks ++ [(A, L)]) ts :=
  ⟨h.below, h.box, fun p hp => by rcases List.mem_append.1 hp with hp | hp; exact h.ints p hp; (rw [List.mem_singleton] at hp; subst hp; exact hr), h.tags⟩
end
theorem heap_two (w : World) (o p : Obj) : ((w.alloc o).alloc p).heap[w.heap.size]? = some o ∧ ((w.alloc o).alloc p).heap[w.heap.size + 1]? = some p :=
  ⟨by rw [heap_alloc_at, if_neg (by simp), heap_alloc_at, if_pos rfl], by rw [heap_alloc_at, if_pos (by simp)]⟩
theorem row_set {W : World} {b i : Nat} {v : Value} {arr : Array Value} {t : TypeId} {r : Nat × Nat} (h : W.heap[b]? = some (.cells arr t r)) : (W.setCell ⟨b, i, none⟩ v).heap[b]? = some (.cells (arr.setIfInBounds i v) t r) := by
  rw [setCell_eq_setRow W b i _ _ _ v h]
  exact setRow_heap W b _ _ _ _ h
/-- The five cells of a tag's box, written one after the other. -/
theorem row_set5 {W : World} {b : Nat} {a0 a1 a2 a3 a4 v0 v1 v2 v3 v4 : Value} {t : TypeId} {r : Nat × Nat} (h : W.heap[b]? = some (.cells #[a0, a1, a2, a3, a4] t r)) :
    (((((W.setCell ⟨b, 0, none⟩ v0).setCell ⟨b, 1, none⟩ v1).setCell ⟨b, 2, none⟩ v2).setCell ⟨b, 3, none⟩ v3).setCell ⟨b, 4, none⟩ v4).heap[b]? = some (.cells #[v0, v1, v2, v3, v4] t r) := by
  have := row_set (i := 4) (v := v4) (row_set (i := 3) (v := v3) (row_set (i := 2) (v := v2) (row_set (i := 1) (v := v1) (row_set (i := 0) (v := v0) h))))
  simpa using this
/-- DrawPlaces: the block of its list, and the first four numbers. -/
theorem DrawPlaces_box (A : Option Addr) (cap : Nat) (B : List Int) (w : World) (hr : Rd bcells 1 w 0 w.heap.size A B) (hm : B.length ≤ 1048576) :
    Calls Try.prog 28 #[.slice A B.length cap] w fun e w' => ∃ (g k : Nat) (cur : Array Value) (p0 p1 p2 p3 : Int), e = .returned (.slice (some ⟨g, 0, none⟩) 12 k) ∧ w'.heap[g]? = some (.cells cur 3 (0, 0)) ∧ cur[0]? = some (.int .i64 p0) ∧ cur[1]? = some (.int .i64 p1) ∧ cur[2]? = some (.int .i64 p2) ∧ cur[3]? = some (.int .i64 p3) ∧ (0 ≤ p0 ∧ p0 < 10000) ∧ (0 ≤ p1 ∧ p1 < 10000) ∧ Below w.heap.size w w' := by
  refine (DrawPlaces_some A cap B w hr hm).mono ?_
  rintro e w' ⟨v, L, rfl, O, hL, hx, hb⟩
  rcases O.form with ⟨-, rfl⟩ | ⟨g, k, cur, rfl, h1, h2, h3, h4, h5, h6⟩
  · simp at hL
  have hc : ∀ (i : Nat) (hi : i < L.length), cur[i]? = some (.int .i64 L[i]) := fun i hi => by
    have := O.cellAt icell_length i hi 0 (by decide)
    rw [cell_of_row _ _ _ _ _ (0, 0) h2] at this
    simpa using this
  rw [hL]
  exact ⟨g, k, cur, L[0], L[1], L[2], L[3], rfl, h2, hc 0 (by omega), hc 1 (by omega), hc 2 (by omega), hc 3 (by omega), hx _ (List.getElem_mem _), hx _ (List.getElem_mem _), hb⟩
theorem run_tne (a0 a1 a2 a3 a4 b0 b1 b2 b3 b4 : Int) (w : World) : (binOp .neq 23 (.agg #[.int .i64 a0, .int .i64 a1, .int .i64 a2, .int .i64 a3, .int .i64 a4]) (.agg #[.int .i64 b0, .int .i64 b1, .int .i64 b2, .int .i64 b3, .int .i64 b4])).run Try.prog w = .ok (.bool (!teq a0 a1 a2 a3 a4 b0 b1 b2 b3 b4)) w := by
  by_cases h0 : a0 = b0 <;> by_cases h1 : a1 = b1 <;> by_cases h2 : a2 = b2 <;> by_cases h3 : a3 = b3 <;> by_cases h4 : a4 = b4 <;> simp [teq, go_sem, *]
attribute [local go_sem ↓] run_teq run_tne
section
variable {P : Program}
theorem yieldsIf_load_row {ops : Array Oper} {S : World → Prop} {op : Oper} {act : Act} (hw : Region.wanted op (yielded ops act.tmps) = true) (ty : TypeId) (x : Operand) (ho : op.op = .load ty x)
    (g : Nat) (hx : act.eval x = .pointer (some ⟨g, 0, none⟩)) (t : TypeId) (cs : Array Value) (fr : Nat × Nat) (d : TypeDesc) (hS : ∀ w, S w → w.heap[g]? = some (.cells cs t fr))
    (hu : P.underlying ty = some d) (hd : (match d with | .struct _ | .array _ _ => true | _ => false) = true) (hi : (P.info? ty).map (·.size) = some cs.size) : YieldsIf P ops S op (.agg cs) act :=
  .inl ⟨hw, fun w hw' => by
    unfold execOp
    simp only [ho, hx, Instr.loadAt, Instr.sureAddr, Sem.run_bind, Sem.run_pure, Result.andThen_ok, run_loadVar_row w g t ty cs fr d (hS w hw') hu hd hi]⟩
end
set_option maxRecDepth 100000 in
set_option maxHeartbeats 16000000 in
theorem walk_FnTags (A0 : Option Addr) (cap0 : Nat) (L0 : List Int) (w : World) (hle : L0.length ≤ cap0) (hcap : cap0 ≤ maxLen) (_ : ∀ x ∈ L0, (Lit.int .u8 x).wf = true) (hr : Rd bcells 1 w 0 w.heap.size A0 L0) :
    Calls Try.prog 8 #[.slice A0 L0.length cap0] w fun e w' => e = .returned (.bool true) ∧ Below w.heap.size w w' := by
  have hm0 : L0.length ≤ maxLen := Nat.le_trans hle hcap
  by_cases hbig : (1048576 : Int) < L0.length
  · have d0 : decide ((1048576 : Int) < (L0.length : Int)) = true := decide_eq_true hbig
    go_enter Try.func8, Try.ntmps8
    go_wp2_with fail
    refine (big_any _ _ _ _ hm0).mono ?_
    rintro e w1 ⟨rfl, rfl⟩
    go_wp2
    go_ret
    exact ⟨rfl, Below.refl _ _⟩
  have d0 : decide ((1048576 : Int) < (L0.length : Int)) = false := decide_eq_false hbig
  go_enter Try.func8, Try.ntmps8
  go_wp2_with fail
  refine (big_any _ _ _ _ hm0).mono ?_
  rintro e w1 ⟨rfl, rfl⟩
  go_wp2_with fail
  refine (DrawLearn_some A0 cap0 L0 _ hr (by omega)).mono ?_
  rintro e w1 ⟨Ak, ck, At, ct, K, T, x, rfl, KN, hK2, hT4, hb1⟩
  obtain ⟨b3, hb3⟩ : ∃ b, w1.heap.size = b := ⟨_, rfl⟩

  go_upto_region 4 with (fail)
  refine wp_world _ (fun W => TS w W [(b3, (.cells #[.slice Ak K.length ck, .slice At T.length ct] 35 (0, 0))), (b3 + 1, (.cells #[.int .i64 x.fKind, .int .i64 x.fOne, .int .i64 x.fTwo, .int .i64 x.fA, .int .i64 x.fB] 23 (0, 0)))] [(Ak, K)] [(At, T)]) ?_ ?_
  · refine (((TS.mk (w := w) (W := w1) (bs := []) (ks := []) (ts := []) hb1 (by simp) (by simp) (by simp)).addTags At T KN.rdT).addInts Ak K KN.rdK).next (by (repeat' (first | (with_reducible exact Below.refl _ _) | (with_reducible assumption) | (with_reducible refine Below.alloc ?_ ?_ _) | (with_reducible refine Below.drew ?_) | (with_reducible refine below_drewN ?_ _) | (with_reducible refine Below.setCell ?_ ?_ _) | (with_reducible refine bvia ?_ (by with_reducible assumption) ?_) | go_size))) |>.addBox (b3 + 1) _ ?_ |>.addBox b3 _ ?_
    · rw [heap_alloc_at, if_pos (by simp; omega)]
    · rw [heap_alloc_at, if_neg (by simp; omega), heap_alloc_at, if_pos (by omega)]
  intro W1 hTS
  try rw [hb3]
  obtain ⟨b4, hb4⟩ : ∃ b, b3 + 1 = b := ⟨_, rfl⟩
  rw [hb4] at hTS
  rw [hb4]
  have HS1 := Lib.hid hTS
  clear hTS KN hb1 hb3 hb4 w1
  have hc : W1.heap[b3]? = some (.cells #[.slice Ak K.length ck, .slice At T.length ct] 35 (0, 0)) := HS1.out.box (b3, (.cells #[.slice Ak K.length ck, .slice At T.length ct] 35 (0, 0))) (by simp)
  have lc : b3 < W1.heap.size := (Array.getElem?_eq_some_iff.1 hc).1
  have c0 : W1.cell? ⟨b3, 0, none⟩ = some (.slice Ak K.length ck) := by rw [cell_of_row _ _ _ _ _ (0, 0) hc]; rfl
  have c1 : W1.cell? ⟨b3, 1, none⟩ = some (.slice At T.length ct) := by rw [cell_of_row _ _ _ _ _ (0, 0) hc]; rfl
  have hd : W1.heap[b4]? = some (.cells #[.int .i64 x.fKind, .int .i64 x.fOne, .int .i64 x.fTwo, .int .i64 x.fA, .int .i64 x.fB] 23 (0, 0)) := HS1.out.box (b4, (.cells #[.int .i64 x.fKind, .int .i64 x.fOne, .int .i64 x.fTwo, .int .i64 x.fA, .int .i64 x.fB] 23 (0, 0))) (by simp)
  have ld : b4 < W1.heap.size := (Array.getElem?_eq_some_iff.1 hd).1
  have d0 : W1.cell? ⟨b4, 0, none⟩ = some (.int .i64 x.fKind) := by rw [cell_of_row _ _ _ _ _ (0, 0) hd]; rfl
  have d1 : W1.cell? ⟨b4, 1, none⟩ = some (.int .i64 x.fOne) := by rw [cell_of_row _ _ _ _ _ (0, 0) hd]; rfl
  have d2 : W1.cell? ⟨b4, 2, none⟩ = some (.int .i64 x.fTwo) := by rw [cell_of_row _ _ _ _ _ (0, 0) hd]; rfl
  have d3 : W1.cell? ⟨b4, 3, none⟩ = some (.int .i64 x.fA) := by rw [cell_of_row _ _ _ _ _ (0, 0) hd]; rfl
  have d4 : W1.cell? ⟨b4, 4, none⟩ = some (.int .i64 x.fB) := by rw [cell_of_row _ _ _ _ _ (0, 0) hd]; rfl
  go_wp2_with fail
  refine (iLearn Ak At ck ct K T x _ (by exact (HS1.out.ints (Ak, K) (by simp)).later (by (repeat' (first | (with_reducible exact Below.refl _ _) | (with_reducible assumption) | (with_reducible refine Below.alloc ?_ ?_ _) | (with_reducible refine Below.drew ?_) | (with_reducible refine below_drewN ?_ _) | (with_reducible refine Below.setCell ?_ ?_ _) | (with_reducible refine bvia ?_ (by with_reducible assumption) ?_) | go_size))) (Nat.le_refl _) (by go_size)) (by exact (HS1.out.tags (At, T) (by simp)).later (by (repeat' (first | (with_reducible exact Below.refl _ _) | (with_reducible assumption) | (with_reducible refine Below.alloc ?_ ?_ _) | (with_reducible refine Below.drew ?_) | (with_reducible refine below_drewN ?_ _) | (with_reducible refine Below.setCell ?_ ?_ _) | (with_reducible refine bvia ?_ (by with_reducible assumption) ?_) | go_size))) (Nat.le_refl _) (by go_size)) (by omega) (by omega)).mono ?_
  rintro e w2 ⟨A5, k5, C5, l5, rfl, KN, hb2⟩
  have hT'l := learnT_le K T x
  have hcan := learn_can K T x (by omega)
  obtain ⟨T', hT'⟩ : ∃ T', learnT K T x = T' := ⟨_, rfl⟩
  rw [hT'] at KN hT'l hcan
  try rw [hT']
  have HT' := Lib.hid hT'
  have HCAN := Lib.hid hcan
  clear hcan hT'
  clear lc hc c0 c1
  clear ld hd d0 d1 d2 d3 d4
  obtain ⟨b5, hb5⟩ : ∃ b, w2.heap.size = b := ⟨_, rfl⟩
  go_upto_region 5 with (fail)
  refine wp_world _ (fun W => TS w W [(b3, (.cells #[.slice Ak K.length ck, .slice At T.length ct] 35 (0, 0))), (b4, (.cells #[.int .i64 x.fKind, .int .i64 x.fOne, .int .i64 x.fTwo, .int .i64 x.fA, .int .i64 x.fB] 23 (0, 0))), (b5, (.cells #[.slice A5 K.length k5, .slice C5 T'.length l5] 35 (0, 0)))] [(Ak, K), (A5, K)] [(At, T), (C5, T')]) ?_ ?_
  · refine (((HS1.out.next (by (repeat' (first | (with_reducible exact Below.refl _ _) | (with_reducible assumption) | (with_reducible refine Below.alloc ?_ ?_ _) | (with_reducible refine Below.drew ?_) | (with_reducible refine below_drewN ?_ _) | (with_reducible refine Below.setCell ?_ ?_ _) | (with_reducible refine bvia ?_ (by with_reducible assumption) ?_) | go_size)) : Below W1.heap.size W1 w2)).addTail C5 T' KN.rdT A5 K KN.rdK).next (by (repeat' (first | (with_reducible exact Below.refl _ _) | (with_reducible assumption) | (with_reducible refine Below.alloc ?_ ?_ _) | (with_reducible refine Below.drew ?_) | (with_reducible refine below_drewN ?_ _) | (with_reducible refine Below.setCell ?_ ?_ _) | (with_reducible refine bvia ?_ (by with_reducible assumption) ?_) | go_size)))).addBoxLast b5 _ ?_
    rw [heap_alloc_at, if_pos (by omega)]
  intro W2 hTS
  try rw [hb5]
  have HS2 := Lib.hid hTS
  clear hTS KN hb2 hb5 HS1 w2 W1
  go_wp2_with fail
  refine (DrawPlaces_box A0 cap0 L0 _ (by exact hr.later HS2.out.below (Nat.le_refl _) HS2.out.below.size) (by omega)).mono ?_
  rintro e w3 ⟨g6, k6, cur, p0, p1, p2, p3, rfl, hg6, hp0, hp1, hp2, hp3, hq0, hq1, hb3⟩
  have HP0 := Lib.hid hp0
  have HP1 := Lib.hid hp1
  have HP2 := Lib.hid hp2
  have HP3 := Lib.hid hp3
  obtain ⟨m, hm⟩ : ∃ m, 1 + Int.tmod p0 9 = m := ⟨_, rfl⟩
  obtain ⟨n, hn⟩ : ∃ n, 20 + Int.tmod p1 9 = n := ⟨_, rfl⟩
  have hm9 : 1 ≤ m ∧ m ≤ 9 := by have := Int.tmod_nonneg 9 hq0.1; have := Int.tmod_lt_of_pos p0 (show (0 : Int) < 9 by decide); omega
  have hn9 : 20 ≤ n ∧ n ≤ 28 := by have := Int.tmod_nonneg 9 hq1.1; have := Int.tmod_lt_of_pos p1 (show (0 : Int) < 9 by decide); omega
  have hwm : IntKind.i64.wrap m = m := IntWalk.i64_in _ (by omega)
  have hwn : IntKind.i64.wrap n = n := IntWalk.i64_in _ (by omega)
  clear hp0 hp1 hp2 hp3
  go_upto_region 6 with (fail)
  refine wp_world _ (fun W => TS w W [(b3, (.cells #[.slice Ak K.length ck, .slice At T.length ct] 35 (0, 0))), (b4, (.cells #[.int .i64 x.fKind, .int .i64 x.fOne, .int .i64 x.fTwo, .int .i64 x.fA, .int .i64 x.fB] 23 (0, 0))), (b5, (.cells #[.slice A5 K.length k5, .slice C5 T'.length l5] 35 (0, 0))), (g6, (.cells cur 3 (0, 0)))] [(Ak, K), (A5, K)] [(At, T), (C5, T')]) ((HS2.out.next (by (repeat' (first | (with_reducible exact Below.refl _ _) | (with_reducible assumption) | (with_reducible refine Below.alloc ?_ ?_ _) | (with_reducible refine Below.drew ?_) | (with_reducible refine below_drewN ?_ _) | (with_reducible refine Below.setCell ?_ ?_ _) | (with_reducible refine bvia ?_ (by with_reducible assumption) ?_) | go_size)) : Below W2.heap.size W2 w3)).addBoxLast g6 _ hg6) ?_
  intro W3 hTS
  have HS3 := Lib.hid hTS
  clear hTS hb3 hg6 HS2 w3 W2
  go_cut [7] (fun p wx => ∃ b7 : Nat, p = .pointer (some ⟨b7, 0, none⟩) ∧ TS w wx [(b3, (.cells #[.slice Ak K.length ck, .slice At T.length ct] 35 (0, 0))), (b4, (.cells #[.int .i64 x.fKind, .int .i64 x.fOne, .int .i64 x.fTwo, .int .i64 x.fA, .int .i64 x.fB] 23 (0, 0))), (b5, (.cells #[.slice A5 K.length k5, .slice C5 T'.length l5] 35 (0, 0))), (g6, (.cells cur 3 (0, 0))), (b7, (.cells #[.int .i64 1, .int .i64 m, .int .i64 n, .int .i64 p2, .int .i64 p3] 23 (0, 0)))] [(Ak, K), (A5, K)] [(At, T), (C5, T')])
  case first =>
    have hd : W3.heap[g6]? = some (.cells cur 3 (0, 0)) := HS3.out.box (g6, (.cells cur 3 (0, 0))) (by simp)
    have ld : g6 < W3.heap.size := (Array.getElem?_eq_some_iff.1 hd).1
    have d0 : W3.cell? ⟨g6, 0, none⟩ = some (.int .i64 p0) := by rw [cell_of_row _ _ _ _ _ (0, 0) hd]; exact HP0.out
    have d1 : W3.cell? ⟨g6, 1, none⟩ = some (.int .i64 p1) := by rw [cell_of_row _ _ _ _ _ (0, 0) hd]; exact HP1.out
    have d2 : W3.cell? ⟨g6, 2, none⟩ = some (.int .i64 p2) := by rw [cell_of_row _ _ _ _ _ (0, 0) hd]; exact HP2.out
    have d3 : W3.cell? ⟨g6, 3, none⟩ = some (.int .i64 p3) := by rw [cell_of_row _ _ _ _ _ (0, 0) hd]; exact HP3.out
    have HS0 : (World.drew W3).cell? ⟨g6, 0, none⟩ = some (.int .i64 p0) ∧ (World.drew W3).cell? ⟨g6, 1, none⟩ = some (.int .i64 p1) ∧ (World.drew W3).cell? ⟨g6, 2, none⟩ = some (.int .i64 p2) ∧ (World.drew W3).cell? ⟨g6, 3, none⟩ = some (.int .i64 p3) := ⟨d0, d1, d2, d3⟩
    clear d0 d1 d2 d3
    refine wp_region_but 18 (fun w' => w'.cell? ⟨g6, 0, none⟩ = some (.int .i64 p0) ∧ w'.cell? ⟨g6, 1, none⟩ = some (.int .i64 p1) ∧ w'.cell? ⟨g6, 2, none⟩ = some (.int .i64 p2) ∧ w'.cell? ⟨g6, 3, none⟩ = some (.int .i64 p3)) (by kernel_rfl) ?_
    refine AnyBut.take (i := 0) (v := ?_) rfl (by kernel_rfl) (by kernel_rfl) (by kernel_rfl) (by kernel_rfl) (fun _ _ _ h => h) (Or.inl ⟨by rfl, ?_⟩) HS0 ?_
    rotate_left
    · intro w' hSw
      obtain ⟨q0, q1, q2, q3⟩ := hSw
      go_simp
      all_goals (with_reducible rfl)
    change AnyBut _ _ _ _ _ _ _ _ (Act.put _ (some 24) _) _
    (try simp only [Act.put, List.setIfInBounds_toArray, List.set_cons_zero, List.set_cons_succ])
    refine AnyBut.take (i := 1) (v := ?_) rfl (by kernel_rfl) (by kernel_rfl) (by kernel_rfl) (by kernel_rfl) (fun _ _ _ h => h) (Or.inl ⟨by rfl, ?_⟩) HS0 ?_
    rotate_left
    · intro w' hSw
      obtain ⟨q0, q1, q2, q3⟩ := hSw
      go_simp
      all_goals (with_reducible rfl)
    change AnyBut _ _ _ _ _ _ _ _ (Act.put _ (some 25) _) _
    (try simp only [Act.put, List.setIfInBounds_toArray, List.set_cons_zero, List.set_cons_succ])
    refine AnyBut.take (i := 2) (v := ?_) rfl (by kernel_rfl) (by kernel_rfl) (by kernel_rfl) (by kernel_rfl) (fun _ _ _ h => h) (Or.inl ⟨by rfl, ?_⟩) HS0 ?_
    rotate_left
    · intro w' hSw
      obtain ⟨q0, q1, q2, q3⟩ := hSw
      go_simp
      all_goals (with_reducible rfl)
    change AnyBut _ _ _ _ _ _ _ _ (Act.put _ (some 26) _) _
    (try simp only [Act.put, List.setIfInBounds_toArray, List.set_cons_zero, List.set_cons_succ])
    refine AnyBut.take (i := 3) (v := ?_) rfl (by kernel_rfl) (by kernel_rfl) (by kernel_rfl) (by kernel_rfl) (fun _ _ _ h => h) (Or.inl ⟨by rfl, ?_⟩) HS0 ?_
    rotate_left
    · intro w' hSw
      obtain ⟨q0, q1, q2, q3⟩ := hSw
      go_simp
      all_goals (with_reducible rfl)
    change AnyBut _ _ _ _ _ _ _ _ (Act.put _ (some 27) _) _
    (try simp only [Act.put, List.setIfInBounds_toArray, List.set_cons_zero, List.set_cons_succ])
    refine AnyBut.take (i := 4) (v := .int .i64 m) rfl (by kernel_rfl) (by kernel_rfl) (by kernel_rfl) (by kernel_rfl) (fun _ _ _ h => h) (Or.inl ⟨by rfl, ?_⟩) HS0 ?_
    · intro w' hSw
      obtain ⟨q0, q1, q2, q3⟩ := hSw
      go_simp
      all_goals (exact hwm)
    change AnyBut _ _ _ _ _ _ _ _ (Act.put _ (some 28) _) _
    (try simp only [Act.put, List.setIfInBounds_toArray, List.set_cons_zero, List.set_cons_succ])
    refine AnyBut.take (i := 5) (v := ?_) rfl (by kernel_rfl) (by kernel_rfl) (by kernel_rfl) (by kernel_rfl) (fun _ _ _ h => h) (Or.inl ⟨by rfl, ?_⟩) HS0 ?_
    rotate_left
    · intro w' hSw
      obtain ⟨q0, q1, q2, q3⟩ := hSw
      go_simp
      all_goals (with_reducible rfl)
    change AnyBut _ _ _ _ _ _ _ _ (Act.put _ (some 29) _) _
    (try simp only [Act.put, List.setIfInBounds_toArray, List.set_cons_zero, List.set_cons_succ])
    refine AnyBut.take (i := 6) (v := ?_) rfl (by kernel_rfl) (by kernel_rfl) (by kernel_rfl) (by kernel_rfl) (fun _ _ _ h => h) (Or.inl ⟨by rfl, ?_⟩) HS0 ?_
    rotate_left
    · intro w' hSw
      obtain ⟨q0, q1, q2, q3⟩ := hSw
      go_simp
      all_goals (with_reducible rfl)
    change AnyBut _ _ _ _ _ _ _ _ (Act.put _ (some 30) _) _
    (try simp only [Act.put, List.setIfInBounds_toArray, List.set_cons_zero, List.set_cons_succ])
    refine AnyBut.take (i := 7) (v := ?_) rfl (by kernel_rfl) (by kernel_rfl) (by kernel_rfl) (by kernel_rfl) (fun _ _ _ h => h) (Or.inl ⟨by rfl, ?_⟩) HS0 ?_
    rotate_left
    · intro w' hSw
      obtain ⟨q0, q1, q2, q3⟩ := hSw
      go_simp
      all_goals (with_reducible rfl)
    change AnyBut _ _ _ _ _ _ _ _ (Act.put _ (some 31) _) _
    (try simp only [Act.put, List.setIfInBounds_toArray, List.set_cons_zero, List.set_cons_succ])
    refine AnyBut.take (i := 8) (v := ?_) rfl (by kernel_rfl) (by kernel_rfl) (by kernel_rfl) (by kernel_rfl) (fun _ _ _ h => h) (Or.inl ⟨by rfl, ?_⟩) HS0 ?_
    rotate_left
    · intro w' hSw
      obtain ⟨q0, q1, q2, q3⟩ := hSw
      go_simp
      all_goals (with_reducible rfl)
    change AnyBut _ _ _ _ _ _ _ _ (Act.put _ (some 32) _) _
    (try simp only [Act.put, List.setIfInBounds_toArray, List.set_cons_zero, List.set_cons_succ])
    refine AnyBut.take (i := 9) (v := .int .i64 n) rfl (by kernel_rfl) (by kernel_rfl) (by kernel_rfl) (by kernel_rfl) (fun _ _ _ h => h) (Or.inl ⟨by rfl, ?_⟩) HS0 ?_
    · intro w' hSw
      obtain ⟨q0, q1, q2, q3⟩ := hSw
      go_simp
      all_goals (exact hwn)
    change AnyBut _ _ _ _ _ _ _ _ (Act.put _ (some 33) _) _
    (try simp only [Act.put, List.setIfInBounds_toArray, List.set_cons_zero, List.set_cons_succ])
    refine AnyBut.take (i := 10) (v := ?_) rfl (by kernel_rfl) (by kernel_rfl) (by kernel_rfl) (by kernel_rfl) (fun _ _ _ h => h) (Or.inl ⟨by rfl, ?_⟩) HS0 ?_
    rotate_left
    · intro w' hSw
      obtain ⟨q0, q1, q2, q3⟩ := hSw
      go_simp
      all_goals (with_reducible rfl)
    change AnyBut _ _ _ _ _ _ _ _ (Act.put _ (some 34) _) _
    (try simp only [Act.put, List.setIfInBounds_toArray, List.set_cons_zero, List.set_cons_succ])
    refine AnyBut.take (i := 11) (v := ?_) rfl (by kernel_rfl) (by kernel_rfl) (by kernel_rfl) (by kernel_rfl) (fun _ _ _ h => h) (Or.inl ⟨by rfl, ?_⟩) HS0 ?_
    rotate_left
    · intro w' hSw
      obtain ⟨q0, q1, q2, q3⟩ := hSw
      go_simp
      all_goals (with_reducible rfl)
    change AnyBut _ _ _ _ _ _ _ _ (Act.put _ (some 35) _) _
    (try simp only [Act.put, List.setIfInBounds_toArray, List.set_cons_zero, List.set_cons_succ])
    refine AnyBut.take (i := 12) (v := ?_) rfl (by kernel_rfl) (by kernel_rfl) (by kernel_rfl) (by kernel_rfl) (fun _ _ _ h => h) (Or.inl ⟨by rfl, ?_⟩) HS0 ?_
    rotate_left
    · intro w' hSw
      obtain ⟨q0, q1, q2, q3⟩ := hSw
      go_simp
      all_goals (with_reducible rfl)
    change AnyBut _ _ _ _ _ _ _ _ (Act.put _ (some 36) _) _
    (try simp only [Act.put, List.setIfInBounds_toArray, List.set_cons_zero, List.set_cons_succ])
    refine AnyBut.take (i := 13) (v := ?_) rfl (by kernel_rfl) (by kernel_rfl) (by kernel_rfl) (by kernel_rfl) (fun _ _ _ h => h) (Or.inl ⟨by rfl, ?_⟩) HS0 ?_
    rotate_left
    · intro w' hSw
      obtain ⟨q0, q1, q2, q3⟩ := hSw
      go_simp
      all_goals (with_reducible rfl)
    change AnyBut _ _ _ _ _ _ _ _ (Act.put _ (some 37) _) _
    (try simp only [Act.put, List.setIfInBounds_toArray, List.set_cons_zero, List.set_cons_succ])
    refine AnyBut.take (i := 14) (v := ?_) rfl (by kernel_rfl) (by kernel_rfl) (by kernel_rfl) (by kernel_rfl) (fun _ _ _ h => h) (Or.inl ⟨by rfl, ?_⟩) HS0 ?_
    rotate_left
    · intro w' hSw
      obtain ⟨q0, q1, q2, q3⟩ := hSw
      go_simp
      all_goals (with_reducible rfl)
    change AnyBut _ _ _ _ _ _ _ _ (Act.put _ (some 38) _) _
    (try simp only [Act.put, List.setIfInBounds_toArray, List.set_cons_zero, List.set_cons_succ])
    refine AnyBut.take (i := 15) (v := ?_) rfl (by kernel_rfl) (by kernel_rfl) (by kernel_rfl) (by kernel_rfl) (fun _ _ _ h => h) (Or.inl ⟨by rfl, ?_⟩) HS0 ?_
    rotate_left
    · intro w' hSw
      obtain ⟨q0, q1, q2, q3⟩ := hSw
      go_simp
      all_goals (with_reducible rfl)
    change AnyBut _ _ _ _ _ _ _ _ (Act.put _ (some 39) _) _
    (try simp only [Act.put, List.setIfInBounds_toArray, List.set_cons_zero, List.set_cons_succ])
    clear HS0
    have hS9 : ∀ W9, Below W3.heap.size W3 W9 → W9.cell? ⟨g6, 0, none⟩ = some (.int .i64 p0) ∧ W9.cell? ⟨g6, 1, none⟩ = some (.int .i64 p1) ∧ W9.cell? ⟨g6, 2, none⟩ = some (.int .i64 p2) ∧ W9.cell? ⟨g6, 3, none⟩ = some (.int .i64 p3) := fun W9 hb => by
      have h := (HS3.out.next hb).box (g6, (.cells cur 3 (0, 0))) (by simp)
      exact ⟨by rw [cell_of_row _ _ _ _ _ (0, 0) h]; exact HP0.out, by rw [cell_of_row _ _ _ _ _ (0, 0) h]; exact HP1.out, by rw [cell_of_row _ _ _ _ _ (0, 0) h]; exact HP2.out, by rw [cell_of_row _ _ _ _ _ (0, 0) h]; exact HP3.out⟩
    clear hd
    refine AnyBut.two (i := 16) (i' := 17) rfl rfl (by kernel_rfl) (fun K9 hK9 => ?_) (fun K9 hK9 => ?_)
    · go_simp
      refine (iTagBack' m n p2 p3 _).mono ?_
      rintro e w9 ⟨rfl, hb9⟩
      have hB9 : Below W3.heap.size W3 w9 := by (repeat' (first | (with_reducible exact Below.refl _ _) | (with_reducible assumption) | (with_reducible refine Below.alloc ?_ ?_ _) | (with_reducible refine Below.drew ?_) | (with_reducible refine below_drewN ?_ _) | (with_reducible refine Below.setCell ?_ ?_ _) | (with_reducible refine bvia ?_ (by with_reducible assumption) ?_) | go_size))
      have hz9 := hB9.size
      try simp at hz9
      refine hK9 _ _ (fun h9 => hS9 _ hB9) ?_
      clear hK9 K9
      (try simp only [Act.put, List.setIfInBounds_toArray, List.set_cons_zero, List.set_cons_succ])
      refine AnyBut.one (i := 17) rfl (by kernel_rfl) (fun K9 hK9 => ?_)
      go_simp
      refine hK9 _ _ (fun h9 => hS9 _ (by (repeat' (first | (with_reducible exact Below.refl _ _) | (with_reducible assumption) | (with_reducible refine Below.alloc ?_ ?_ _) | (with_reducible refine Below.drew ?_) | (with_reducible refine below_drewN ?_ _) | (with_reducible refine Below.setCell ?_ ?_ _) | (with_reducible refine bvia ?_ (by with_reducible assumption) ?_) | go_size)))) ?_
      clear hK9 K9
      (try simp only [Act.put, List.setIfInBounds_toArray, List.set_cons_zero, List.set_cons_succ])
      refine AnyBut.one (i := 18) rfl (by kernel_rfl) (fun K9 hK9 => ?_)
      go_simp
      refine hK9 _ _ (fun h9 => absurd rfl h9) ?_
      clear hK9 K9
      (try simp only [Act.put, List.setIfInBounds_toArray, List.set_cons_zero, List.set_cons_succ])
      refine AnyBut.done (by kernel_rfl) ?_ _
      go_wp2_with fail
      go_meet
      case rel => exact ⟨_, rfl, (HS3.out.next (by (repeat' (first | (with_reducible exact Below.refl _ _) | (with_reducible assumption) | (with_reducible refine Below.alloc ?_ ?_ _) | (with_reducible refine Below.drew ?_) | (with_reducible refine below_drewN ?_ _) | (with_reducible refine Below.setCell ?_ ?_ _) | (with_reducible refine bvia ?_ (by with_reducible assumption) ?_) | go_size)))).addBoxLast _ _ (by rw [heap_alloc_at, if_pos rfl])⟩
    · go_simp
      refine hK9 _ _ (fun h9 => hS9 _ (by (repeat' (first | (with_reducible exact Below.refl _ _) | (with_reducible assumption) | (with_reducible refine Below.alloc ?_ ?_ _) | (with_reducible refine Below.drew ?_) | (with_reducible refine below_drewN ?_ _) | (with_reducible refine Below.setCell ?_ ?_ _) | (with_reducible refine bvia ?_ (by with_reducible assumption) ?_) | go_size)))) ?_
      clear hK9 K9
      (try simp only [Act.put, List.setIfInBounds_toArray, List.set_cons_zero, List.set_cons_succ])
      refine AnyBut.one (i := 16) rfl (by kernel_rfl) (fun K9 hK9 => ?_)
      go_simp
      refine (iTagBack' m n p2 p3 _).mono ?_
      rintro e w9 ⟨rfl, hb9⟩
      have hB9 : Below W3.heap.size W3 w9 := by (repeat' (first | (with_reducible exact Below.refl _ _) | (with_reducible assumption) | (with_reducible refine Below.alloc ?_ ?_ _) | (with_reducible refine Below.drew ?_) | (with_reducible refine below_drewN ?_ _) | (with_reducible refine Below.setCell ?_ ?_ _) | (with_reducible refine bvia ?_ (by with_reducible assumption) ?_) | go_size))
      have hz9 := hB9.size
      try simp at hz9
      refine hK9 _ _ (fun h9 => hS9 _ hB9) ?_
      clear hK9 K9
      (try simp only [Act.put, List.setIfInBounds_toArray, List.set_cons_zero, List.set_cons_succ])
      have hx9 : w9.heap[W3.heap.size]? = some (.cells #[.int .i64 0, .int .i64 0, .int .i64 0, .int .i64 0, .int .i64 0] 23 (0, 0)) := (hb9.block _ (by simp)).trans (by first | exact heap_alloc_new _ _ | (show (World.alloc _ _).heap[_]? = _; exact heap_alloc_new _ _))
      have hxl : W3.heap.size < w9.heap.size := (Array.getElem?_eq_some_iff.1 hx9).1
      have x0 : w9.cell? ⟨W3.heap.size, 0, none⟩ = some (.int .i64 0) := by rw [cell_of_row _ _ _ _ _ (0, 0) hx9]; rfl
      have x1 : w9.cell? ⟨W3.heap.size, 1, none⟩ = some (.int .i64 0) := by rw [cell_of_row _ _ _ _ _ (0, 0) hx9]; rfl
      have x2 : w9.cell? ⟨W3.heap.size, 2, none⟩ = some (.int .i64 0) := by rw [cell_of_row _ _ _ _ _ (0, 0) hx9]; rfl
      have x3 : w9.cell? ⟨W3.heap.size, 3, none⟩ = some (.int .i64 0) := by rw [cell_of_row _ _ _ _ _ (0, 0) hx9]; rfl
      have x4 : w9.cell? ⟨W3.heap.size, 4, none⟩ = some (.int .i64 0) := by rw [cell_of_row _ _ _ _ _ (0, 0) hx9]; rfl
      have xf0 := frozen_of_row _ _ 0 _ _ hx9
      have xf1 := frozen_of_row _ _ 1 _ _ hx9
      have xf2 := frozen_of_row _ _ 2 _ _ hx9
      have xf3 := frozen_of_row _ _ 3 _ _ hx9
      have xf4 := frozen_of_row _ _ 4 _ _ hx9
      refine AnyBut.one (i := 18) rfl (by kernel_rfl) (fun K9 hK9 => ?_)
      go_simp
      refine hK9 _ _ (fun h9 => absurd rfl h9) ?_
      clear hK9 K9
      (try simp only [Act.put, List.setIfInBounds_toArray, List.set_cons_zero, List.set_cons_succ])
      refine AnyBut.done (by kernel_rfl) ?_ _
      go_wp2_with fail
      go_meet
      case rel => exact ⟨_, rfl, (HS3.out.next (by (repeat' (first | (with_reducible exact Below.refl _ _) | (with_reducible assumption) | (with_reducible refine Below.alloc ?_ ?_ _) | (with_reducible refine Below.drew ?_) | (with_reducible refine below_drewN ?_ _) | (with_reducible refine Below.setCell ?_ ?_ _) | (with_reducible refine bvia ?_ (by with_reducible assumption) ?_) | go_size)))).addBoxLast _ _ (row_set5 hx9)⟩
  case rest =>
    obtain ⟨b7, rfl, hTS⟩ := hcut
    have HS4 := Lib.hid hTS
    clear hTS HS3 W3
    obtain ⟨W4, hWW⟩ : ∃ W, wc = W := ⟨_, rfl⟩
    rw [hWW] at HS4
    rw [hWW]
    clear hWW wc
    go_upto_region 7 with (fail)
    go_cut [8] (fun p wx => ∃ b8 : Nat, p = .pointer (some ⟨b8, 0, none⟩) ∧ TS w wx [(b3, (.cells #[.slice Ak K.length ck, .slice At T.length ct] 35 (0, 0))), (b4, (.cells #[.int .i64 x.fKind, .int .i64 x.fOne, .int .i64 x.fTwo, .int .i64 x.fA, .int .i64 x.fB] 23 (0, 0))), (b5, (.cells #[.slice A5 K.length k5, .slice C5 T'.length l5] 35 (0, 0))), (g6, (.cells cur 3 (0, 0))), (b7, (.cells #[.int .i64 1, .int .i64 m, .int .i64 n, .int .i64 p2, .int .i64 p3] 23 (0, 0))), (b8, (.cells #[.int .i64 2, .int .i64 m, .int .i64 n, .int .i64 p2, .int .i64 p3] 23 (0, 0)))] [(Ak, K), (A5, K)] [(At, T), (C5, T')])
    case first =>
      have hd : W4.heap[g6]? = some (.cells cur 3 (0, 0)) := HS4.out.box (g6, (.cells cur 3 (0, 0))) (by simp)
      have ld : g6 < W4.heap.size := (Array.getElem?_eq_some_iff.1 hd).1
      have d0 : W4.cell? ⟨g6, 0, none⟩ = some (.int .i64 p0) := by rw [cell_of_row _ _ _ _ _ (0, 0) hd]; exact HP0.out
      have d1 : W4.cell? ⟨g6, 1, none⟩ = some (.int .i64 p1) := by rw [cell_of_row _ _ _ _ _ (0, 0) hd]; exact HP1.out
      have d2 : W4.cell? ⟨g6, 2, none⟩ = some (.int .i64 p2) := by rw [cell_of_row _ _ _ _ _ (0, 0) hd]; exact HP2.out
      have d3 : W4.cell? ⟨g6, 3, none⟩ = some (.int .i64 p3) := by rw [cell_of_row _ _ _ _ _ (0, 0) hd]; exact HP3.out
      have HS0 : (World.drew W4).cell? ⟨g6, 0, none⟩ = some (.int .i64 p0) ∧ (World.drew W4).cell? ⟨g6, 1, none⟩ = some (.int .i64 p1) ∧ (World.drew W4).cell? ⟨g6, 2, none⟩ = some (.int .i64 p2) ∧ (World.drew W4).cell? ⟨g6, 3, none⟩ = some (.int .i64 p3) := ⟨d0, d1, d2, d3⟩
      clear d0 d1 d2 d3
      refine wp_region_but 18 (fun w' => w'.cell? ⟨g6, 0, none⟩ = some (.int .i64 p0) ∧ w'.cell? ⟨g6, 1, none⟩ = some (.int .i64 p1) ∧ w'.cell? ⟨g6, 2, none⟩ = some (.int .i64 p2) ∧ w'.cell? ⟨g6, 3, none⟩ = some (.int .i64 p3)) (by kernel_rfl) ?_
      refine AnyBut.take (i := 0) (v := ?_) rfl (by kernel_rfl) (by kernel_rfl) (by kernel_rfl) (by kernel_rfl) (fun _ _ _ h => h) (Or.inl ⟨by rfl, ?_⟩) HS0 ?_
      rotate_left
      · intro w' hSw
        obtain ⟨q0, q1, q2, q3⟩ := hSw
        go_simp
        all_goals (with_reducible rfl)
      change AnyBut _ _ _ _ _ _ _ _ (Act.put _ (some 41) _) _
      (try simp only [Act.put, List.setIfInBounds_toArray, List.set_cons_zero, List.set_cons_succ])
      refine AnyBut.take (i := 1) (v := ?_) rfl (by kernel_rfl) (by kernel_rfl) (by kernel_rfl) (by kernel_rfl) (fun _ _ _ h => h) (Or.inl ⟨by rfl, ?_⟩) HS0 ?_
      rotate_left
      · intro w' hSw
        obtain ⟨q0, q1, q2, q3⟩ := hSw
        go_simp
        all_goals (with_reducible rfl)
      change AnyBut _ _ _ _ _ _ _ _ (Act.put _ (some 42) _) _
      (try simp only [Act.put, List.setIfInBounds_toArray, List.set_cons_zero, List.set_cons_succ])
      refine AnyBut.take (i := 2) (v := ?_) rfl (by kernel_rfl) (by kernel_rfl) (by kernel_rfl) (by kernel_rfl) (fun _ _ _ h => h) (Or.inl ⟨by rfl, ?_⟩) HS0 ?_
      rotate_left
      · intro w' hSw
        obtain ⟨q0, q1, q2, q3⟩ := hSw
        go_simp
        all_goals (with_reducible rfl)
      change AnyBut _ _ _ _ _ _ _ _ (Act.put _ (some 43) _) _
      (try simp only [Act.put, List.setIfInBounds_toArray, List.set_cons_zero, List.set_cons_succ])
      refine AnyBut.take (i := 3) (v := ?_) rfl (by kernel_rfl) (by kernel_rfl) (by kernel_rfl) (by kernel_rfl) (fun _ _ _ h => h) (Or.inl ⟨by rfl, ?_⟩) HS0 ?_
      rotate_left
      · intro w' hSw
        obtain ⟨q0, q1, q2, q3⟩ := hSw
        go_simp
        all_goals (with_reducible rfl)
      change AnyBut _ _ _ _ _ _ _ _ (Act.put _ (some 44) _) _
      (try simp only [Act.put, List.setIfInBounds_toArray, List.set_cons_zero, List.set_cons_succ])
      refine AnyBut.take (i := 4) (v := .int .i64 m) rfl (by kernel_rfl) (by kernel_rfl) (by kernel_rfl) (by kernel_rfl) (fun _ _ _ h => h) (Or.inl ⟨by rfl, ?_⟩) HS0 ?_
      · intro w' hSw
        obtain ⟨q0, q1, q2, q3⟩ := hSw
        go_simp
        all_goals (exact hwm)
      change AnyBut _ _ _ _ _ _ _ _ (Act.put _ (some 45) _) _
      (try simp only [Act.put, List.setIfInBounds_toArray, List.set_cons_zero, List.set_cons_succ])
      refine AnyBut.take (i := 5) (v := ?_) rfl (by kernel_rfl) (by kernel_rfl) (by kernel_rfl) (by kernel_rfl) (fun _ _ _ h => h) (Or.inl ⟨by rfl, ?_⟩) HS0 ?_
      rotate_left
      · intro w' hSw
        obtain ⟨q0, q1, q2, q3⟩ := hSw
        go_simp
        all_goals (with_reducible rfl)
      change AnyBut _ _ _ _ _ _ _ _ (Act.put _ (some 46) _) _
      (try simp only [Act.put, List.setIfInBounds_toArray, List.set_cons_zero, List.set_cons_succ])
      refine AnyBut.take (i := 6) (v := ?_) rfl (by kernel_rfl) (by kernel_rfl) (by kernel_rfl) (by kernel_rfl) (fun _ _ _ h => h) (Or.inl ⟨by rfl, ?_⟩) HS0 ?_
      rotate_left
      · intro w' hSw
        obtain ⟨q0, q1, q2, q3⟩ := hSw
        go_simp
        all_goals (with_reducible rfl)
      change AnyBut _ _ _ _ _ _ _ _ (Act.put _ (some 47) _) _
      (try simp only [Act.put, List.setIfInBounds_toArray, List.set_cons_zero, List.set_cons_succ])
      refine AnyBut.take (i := 7) (v := ?_) rfl (by kernel_rfl) (by kernel_rfl) (by kernel_rfl) (by kernel_rfl) (fun _ _ _ h => h) (Or.inl ⟨by rfl, ?_⟩) HS0 ?_
      rotate_left
      · intro w' hSw
        obtain ⟨q0, q1, q2, q3⟩ := hSw
        go_simp
        all_goals (with_reducible rfl)
      change AnyBut _ _ _ _ _ _ _ _ (Act.put _ (some 48) _) _
      (try simp only [Act.put, List.setIfInBounds_toArray, List.set_cons_zero, List.set_cons_succ])
      refine AnyBut.take (i := 8) (v := ?_) rfl (by kernel_rfl) (by kernel_rfl) (by kernel_rfl) (by kernel_rfl) (fun _ _ _ h => h) (Or.inl ⟨by rfl, ?_⟩) HS0 ?_
      rotate_left
      · intro w' hSw
        obtain ⟨q0, q1, q2, q3⟩ := hSw
        go_simp
        all_goals (with_reducible rfl)
      change AnyBut _ _ _ _ _ _ _ _ (Act.put _ (some 49) _) _
      (try simp only [Act.put, List.setIfInBounds_toArray, List.set_cons_zero, List.set_cons_succ])
      refine AnyBut.take (i := 9) (v := .int .i64 n) rfl (by kernel_rfl) (by kernel_rfl) (by kernel_rfl) (by kernel_rfl) (fun _ _ _ h => h) (Or.inl ⟨by rfl, ?_⟩) HS0 ?_
      · intro w' hSw
        obtain ⟨q0, q1, q2, q3⟩ := hSw
        go_simp
        all_goals (exact hwn)
      change AnyBut _ _ _ _ _ _ _ _ (Act.put _ (some 50) _) _
      (try simp only [Act.put, List.setIfInBounds_toArray, List.set_cons_zero, List.set_cons_succ])
      refine AnyBut.take (i := 10) (v := ?_) rfl (by kernel_rfl) (by kernel_rfl) (by kernel_rfl) (by kernel_rfl) (fun _ _ _ h => h) (Or.inl ⟨by rfl, ?_⟩) HS0 ?_
      rotate_left
      · intro w' hSw
        obtain ⟨q0, q1, q2, q3⟩ := hSw
        go_simp
        all_goals (with_reducible rfl)
      change AnyBut _ _ _ _ _ _ _ _ (Act.put _ (some 51) _) _
      (try simp only [Act.put, List.setIfInBounds_toArray, List.set_cons_zero, List.set_cons_succ])
      refine AnyBut.take (i := 11) (v := ?_) rfl (by kernel_rfl) (by kernel_rfl) (by kernel_rfl) (by kernel_rfl) (fun _ _ _ h => h) (Or.inl ⟨by rfl, ?_⟩) HS0 ?_
      rotate_left
      · intro w' hSw
        obtain ⟨q0, q1, q2, q3⟩ := hSw
        go_simp
        all_goals (with_reducible rfl)
      change AnyBut _ _ _ _ _ _ _ _ (Act.put _ (some 52) _) _
      (try simp only [Act.put, List.setIfInBounds_toArray, List.set_cons_zero, List.set_cons_succ])
      refine AnyBut.take (i := 12) (v := ?_) rfl (by kernel_rfl) (by kernel_rfl) (by kernel_rfl) (by kernel_rfl) (fun _ _ _ h => h) (Or.inl ⟨by rfl, ?_⟩) HS0 ?_
      rotate_left
      · intro w' hSw
        obtain ⟨q0, q1, q2, q3⟩ := hSw
        go_simp
        all_goals (with_reducible rfl)
      change AnyBut _ _ _ _ _ _ _ _ (Act.put _ (some 53) _) _
      (try simp only [Act.put, List.setIfInBounds_toArray, List.set_cons_zero, List.set_cons_succ])
      refine AnyBut.take (i := 13) (v := ?_) rfl (by kernel_rfl) (by kernel_rfl) (by kernel_rfl) (by kernel_rfl) (fun _ _ _ h => h) (Or.inl ⟨by rfl, ?_⟩) HS0 ?_
      rotate_left
      · intro w' hSw
        obtain ⟨q0, q1, q2, q3⟩ := hSw
        go_simp
        all_goals (with_reducible rfl)
      change AnyBut _ _ _ _ _ _ _ _ (Act.put _ (some 54) _) _
      (try simp only [Act.put, List.setIfInBounds_toArray, List.set_cons_zero, List.set_cons_succ])
      refine AnyBut.take (i := 14) (v := ?_) rfl (by kernel_rfl) (by kernel_rfl) (by kernel_rfl) (by kernel_rfl) (fun _ _ _ h => h) (Or.inl ⟨by rfl, ?_⟩) HS0 ?_
      rotate_left
      · intro w' hSw
        obtain ⟨q0, q1, q2, q3⟩ := hSw
        go_simp
        all_goals (with_reducible rfl)
      change AnyBut _ _ _ _ _ _ _ _ (Act.put _ (some 55) _) _
      (try simp only [Act.put, List.setIfInBounds_toArray, List.set_cons_zero, List.set_cons_succ])
      refine AnyBut.take (i := 15) (v := ?_) rfl (by kernel_rfl) (by kernel_rfl) (by kernel_rfl) (by kernel_rfl) (fun _ _ _ h => h) (Or.inl ⟨by rfl, ?_⟩) HS0 ?_
      rotate_left
      · intro w' hSw
        obtain ⟨q0, q1, q2, q3⟩ := hSw
        go_simp
        all_goals (with_reducible rfl)
      change AnyBut _ _ _ _ _ _ _ _ (Act.put _ (some 56) _) _
      (try simp only [Act.put, List.setIfInBounds_toArray, List.set_cons_zero, List.set_cons_succ])
      clear HS0
      have hS9 : ∀ W9, Below W4.heap.size W4 W9 → W9.cell? ⟨g6, 0, none⟩ = some (.int .i64 p0) ∧ W9.cell? ⟨g6, 1, none⟩ = some (.int .i64 p1) ∧ W9.cell? ⟨g6, 2, none⟩ = some (.int .i64 p2) ∧ W9.cell? ⟨g6, 3, none⟩ = some (.int .i64 p3) := fun W9 hb => by
        have h := (HS4.out.next hb).box (g6, (.cells cur 3 (0, 0))) (by simp)
        exact ⟨by rw [cell_of_row _ _ _ _ _ (0, 0) h]; exact HP0.out, by rw [cell_of_row _ _ _ _ _ (0, 0) h]; exact HP1.out, by rw [cell_of_row _ _ _ _ _ (0, 0) h]; exact HP2.out, by rw [cell_of_row _ _ _ _ _ (0, 0) h]; exact HP3.out⟩
      clear hd
      refine AnyBut.two (i := 16) (i' := 17) rfl rfl (by kernel_rfl) (fun K9 hK9 => ?_) (fun K9 hK9 => ?_)
      · go_simp
        refine (iTagDone' m n p2 p3 _).mono ?_
        rintro e w9 ⟨rfl, hb9⟩
        have hB9 : Below W4.heap.size W4 w9 := by (repeat' (first | (with_reducible exact Below.refl _ _) | (with_reducible assumption) | (with_reducible refine Below.alloc ?_ ?_ _) | (with_reducible refine Below.drew ?_) | (with_reducible refine below_drewN ?_ _) | (with_reducible refine Below.setCell ?_ ?_ _) | (with_reducible refine bvia ?_ (by with_reducible assumption) ?_) | go_size))
        have hz9 := hB9.size
        try simp at hz9
        refine hK9 _ _ (fun h9 => hS9 _ hB9) ?_
        clear hK9 K9
        (try simp only [Act.put, List.setIfInBounds_toArray, List.set_cons_zero, List.set_cons_succ])
        refine AnyBut.one (i := 17) rfl (by kernel_rfl) (fun K9 hK9 => ?_)
        go_simp
        refine hK9 _ _ (fun h9 => hS9 _ (by (repeat' (first | (with_reducible exact Below.refl _ _) | (with_reducible assumption) | (with_reducible refine Below.alloc ?_ ?_ _) | (with_reducible refine Below.drew ?_) | (with_reducible refine below_drewN ?_ _) | (with_reducible refine Below.setCell ?_ ?_ _) | (with_reducible refine bvia ?_ (by with_reducible assumption) ?_) | go_size)))) ?_
        clear hK9 K9
        (try simp only [Act.put, List.setIfInBounds_toArray, List.set_cons_zero, List.set_cons_succ])
        refine AnyBut.one (i := 18) rfl (by kernel_rfl) (fun K9 hK9 => ?_)
        go_simp
        refine hK9 _ _ (fun h9 => absurd rfl h9) ?_
        clear hK9 K9
        (try simp only [Act.put, List.setIfInBounds_toArray, List.set_cons_zero, List.set_cons_succ])
        refine AnyBut.done (by kernel_rfl) ?_ _
        go_wp2_with fail
        go_meet
        case rel => exact ⟨_, rfl, (HS4.out.next (by (repeat' (first | (with_reducible exact Below.refl _ _) | (with_reducible assumption) | (with_reducible refine Below.alloc ?_ ?_ _) | (with_reducible refine Below.drew ?_) | (with_reducible refine below_drewN ?_ _) | (with_reducible refine Below.setCell ?_ ?_ _) | (with_reducible refine bvia ?_ (by with_reducible assumption) ?_) | go_size)))).addBoxLast _ _ (by rw [heap_alloc_at, if_pos rfl])⟩
      · go_simp
        refine hK9 _ _ (fun h9 => hS9 _ (by (repeat' (first | (with_reducible exact Below.refl _ _) | (with_reducible assumption) | (with_reducible refine Below.alloc ?_ ?_ _) | (with_reducible refine Below.drew ?_) | (with_reducible refine below_drewN ?_ _) | (with_reducible refine Below.setCell ?_ ?_ _) | (with_reducible refine bvia ?_ (by with_reducible assumption) ?_) | go_size)))) ?_
        clear hK9 K9
        (try simp only [Act.put, List.setIfInBounds_toArray, List.set_cons_zero, List.set_cons_succ])
        refine AnyBut.one (i := 16) rfl (by kernel_rfl) (fun K9 hK9 => ?_)
        go_simp
        refine (iTagDone' m n p2 p3 _).mono ?_
        rintro e w9 ⟨rfl, hb9⟩
        have hB9 : Below W4.heap.size W4 w9 := by (repeat' (first | (with_reducible exact Below.refl _ _) | (with_reducible assumption) | (with_reducible refine Below.alloc ?_ ?_ _) | (with_reducible refine Below.drew ?_) | (with_reducible refine below_drewN ?_ _) | (with_reducible refine Below.setCell ?_ ?_ _) | (with_reducible refine bvia ?_ (by with_reducible assumption) ?_) | go_size))
        have hz9 := hB9.size
        try simp at hz9
        refine hK9 _ _ (fun h9 => hS9 _ hB9) ?_
        clear hK9 K9
        (try simp only [Act.put, List.setIfInBounds_toArray, List.set_cons_zero, List.set_cons_succ])
        have hx9 : w9.heap[W4.heap.size]? = some (.cells #[.int .i64 0, .int .i64 0, .int .i64 0, .int .i64 0, .int .i64 0] 23 (0, 0)) := (hb9.block _ (by simp)).trans (by first | exact heap_alloc_new _ _ | (show (World.alloc _ _).heap[_]? = _; exact heap_alloc_new _ _))
        have hxl : W4.heap.size < w9.heap.size := (Array.getElem?_eq_some_iff.1 hx9).1
        have x0 : w9.cell? ⟨W4.heap.size, 0, none⟩ = some (.int .i64 0) := by rw [cell_of_row _ _ _ _ _ (0, 0) hx9]; rfl
        have x1 : w9.cell? ⟨W4.heap.size, 1, none⟩ = some (.int .i64 0) := by rw [cell_of_row _ _ _ _ _ (0, 0) hx9]; rfl
        have x2 : w9.cell? ⟨W4.heap.size, 2, none⟩ = some (.int .i64 0) := by rw [cell_of_row _ _ _ _ _ (0, 0) hx9]; rfl
        have x3 : w9.cell? ⟨W4.heap.size, 3, none⟩ = some (.int .i64 0) := by rw [cell_of_row _ _ _ _ _ (0, 0) hx9]; rfl
        have x4 : w9.cell? ⟨W4.heap.size, 4, none⟩ = some (.int .i64 0) := by rw [cell_of_row _ _ _ _ _ (0, 0) hx9]; rfl
        have xf0 := frozen_of_row _ _ 0 _ _ hx9
        have xf1 := frozen_of_row _ _ 1 _ _ hx9
        have xf2 := frozen_of_row _ _ 2 _ _ hx9
        have xf3 := frozen_of_row _ _ 3 _ _ hx9
        have xf4 := frozen_of_row _ _ 4 _ _ hx9
        refine AnyBut.one (i := 18) rfl (by kernel_rfl) (fun K9 hK9 => ?_)
        go_simp
        refine hK9 _ _ (fun h9 => absurd rfl h9) ?_
        clear hK9 K9
        (try simp only [Act.put, List.setIfInBounds_toArray, List.set_cons_zero, List.set_cons_succ])
        refine AnyBut.done (by kernel_rfl) ?_ _
        go_wp2_with fail
        go_meet
        case rel => exact ⟨_, rfl, (HS4.out.next (by (repeat' (first | (with_reducible exact Below.refl _ _) | (with_reducible assumption) | (with_reducible refine Below.alloc ?_ ?_ _) | (with_reducible refine Below.drew ?_) | (with_reducible refine below_drewN ?_ _) | (with_reducible refine Below.setCell ?_ ?_ _) | (with_reducible refine bvia ?_ (by with_reducible assumption) ?_) | go_size)))).addBoxLast _ _ (row_set5 hx9)⟩
    case rest =>
      obtain ⟨b8, rfl, hTS⟩ := hcut
      have HS5 := Lib.hid hTS
      clear hTS HS4 W4
      obtain ⟨W5, hWW⟩ : ∃ W, wc = W := ⟨_, rfl⟩
      rw [hWW] at HS5
      rw [hWW]
      clear hWW wc
      go_upto_region 8 with (fail)
      go_cut [9] (fun p wx => ∃ b9 : Nat, p = .pointer (some ⟨b9, 0, none⟩) ∧ TS w wx [(b3, (.cells #[.slice Ak K.length ck, .slice At T.length ct] 35 (0, 0))), (b4, (.cells #[.int .i64 x.fKind, .int .i64 x.fOne, .int .i64 x.fTwo, .int .i64 x.fA, .int .i64 x.fB] 23 (0, 0))), (b5, (.cells #[.slice A5 K.length k5, .slice C5 T'.length l5] 35 (0, 0))), (g6, (.cells cur 3 (0, 0))), (b7, (.cells #[.int .i64 1, .int .i64 m, .int .i64 n, .int .i64 p2, .int .i64 p3] 23 (0, 0))), (b8, (.cells #[.int .i64 2, .int .i64 m, .int .i64 n, .int .i64 p2, .int .i64 p3] 23 (0, 0))), (b9, (.cells #[.int .i64 1, .int .i64 n, .int .i64 m, .int .i64 p2, .int .i64 p3] 23 (0, 0)))] [(Ak, K), (A5, K)] [(At, T), (C5, T')])
      case first =>
        have hd : W5.heap[g6]? = some (.cells cur 3 (0, 0)) := HS5.out.box (g6, (.cells cur 3 (0, 0))) (by simp)
        have ld : g6 < W5.heap.size := (Array.getElem?_eq_some_iff.1 hd).1
        have d0 : W5.cell? ⟨g6, 0, none⟩ = some (.int .i64 p0) := by rw [cell_of_row _ _ _ _ _ (0, 0) hd]; exact HP0.out
        have d1 : W5.cell? ⟨g6, 1, none⟩ = some (.int .i64 p1) := by rw [cell_of_row _ _ _ _ _ (0, 0) hd]; exact HP1.out
        have d2 : W5.cell? ⟨g6, 2, none⟩ = some (.int .i64 p2) := by rw [cell_of_row _ _ _ _ _ (0, 0) hd]; exact HP2.out
        have d3 : W5.cell? ⟨g6, 3, none⟩ = some (.int .i64 p3) := by rw [cell_of_row _ _ _ _ _ (0, 0) hd]; exact HP3.out
        have HS0 : (World.drew W5).cell? ⟨g6, 0, none⟩ = some (.int .i64 p0) ∧ (World.drew W5).cell? ⟨g6, 1, none⟩ = some (.int .i64 p1) ∧ (World.drew W5).cell? ⟨g6, 2, none⟩ = some (.int .i64 p2) ∧ (World.drew W5).cell? ⟨g6, 3, none⟩ = some (.int .i64 p3) := ⟨d0, d1, d2, d3⟩
        clear d0 d1 d2 d3
        refine wp_region_but 18 (fun w' => w'.cell? ⟨g6, 0, none⟩ = some (.int .i64 p0) ∧ w'.cell? ⟨g6, 1, none⟩ = some (.int .i64 p1) ∧ w'.cell? ⟨g6, 2, none⟩ = some (.int .i64 p2) ∧ w'.cell? ⟨g6, 3, none⟩ = some (.int .i64 p3)) (by kernel_rfl) ?_
        refine AnyBut.take (i := 0) (v := ?_) rfl (by kernel_rfl) (by kernel_rfl) (by kernel_rfl) (by kernel_rfl) (fun _ _ _ h => h) (Or.inl ⟨by rfl, ?_⟩) HS0 ?_
        rotate_left
        · intro w' hSw
          obtain ⟨q0, q1, q2, q3⟩ := hSw
          go_simp
          all_goals (with_reducible rfl)
        change AnyBut _ _ _ _ _ _ _ _ (Act.put _ (some 58) _) _
        (try simp only [Act.put, List.setIfInBounds_toArray, List.set_cons_zero, List.set_cons_succ])
        refine AnyBut.take (i := 1) (v := ?_) rfl (by kernel_rfl) (by kernel_rfl) (by kernel_rfl) (by kernel_rfl) (fun _ _ _ h => h) (Or.inl ⟨by rfl, ?_⟩) HS0 ?_
        rotate_left
        · intro w' hSw
          obtain ⟨q0, q1, q2, q3⟩ := hSw
          go_simp
          all_goals (with_reducible rfl)
        change AnyBut _ _ _ _ _ _ _ _ (Act.put _ (some 59) _) _
        (try simp only [Act.put, List.setIfInBounds_toArray, List.set_cons_zero, List.set_cons_succ])
        refine AnyBut.take (i := 2) (v := ?_) rfl (by kernel_rfl) (by kernel_rfl) (by kernel_rfl) (by kernel_rfl) (fun _ _ _ h => h) (Or.inl ⟨by rfl, ?_⟩) HS0 ?_
        rotate_left
        · intro w' hSw
          obtain ⟨q0, q1, q2, q3⟩ := hSw
          go_simp
          all_goals (with_reducible rfl)
        change AnyBut _ _ _ _ _ _ _ _ (Act.put _ (some 60) _) _
        (try simp only [Act.put, List.setIfInBounds_toArray, List.set_cons_zero, List.set_cons_succ])
        refine AnyBut.take (i := 3) (v := ?_) rfl (by kernel_rfl) (by kernel_rfl) (by kernel_rfl) (by kernel_rfl) (fun _ _ _ h => h) (Or.inl ⟨by rfl, ?_⟩) HS0 ?_
        rotate_left
        · intro w' hSw
          obtain ⟨q0, q1, q2, q3⟩ := hSw
          go_simp
          all_goals (with_reducible rfl)
        change AnyBut _ _ _ _ _ _ _ _ (Act.put _ (some 61) _) _
        (try simp only [Act.put, List.setIfInBounds_toArray, List.set_cons_zero, List.set_cons_succ])
        refine AnyBut.take (i := 4) (v := .int .i64 n) rfl (by kernel_rfl) (by kernel_rfl) (by kernel_rfl) (by kernel_rfl) (fun _ _ _ h => h) (Or.inl ⟨by rfl, ?_⟩) HS0 ?_
        · intro w' hSw
          obtain ⟨q0, q1, q2, q3⟩ := hSw
          go_simp
          all_goals (exact hwn)
        change AnyBut _ _ _ _ _ _ _ _ (Act.put _ (some 62) _) _
        (try simp only [Act.put, List.setIfInBounds_toArray, List.set_cons_zero, List.set_cons_succ])
        refine AnyBut.take (i := 5) (v := ?_) rfl (by kernel_rfl) (by kernel_rfl) (by kernel_rfl) (by kernel_rfl) (fun _ _ _ h => h) (Or.inl ⟨by rfl, ?_⟩) HS0 ?_
        rotate_left
        · intro w' hSw
          obtain ⟨q0, q1, q2, q3⟩ := hSw
          go_simp
          all_goals (with_reducible rfl)
        change AnyBut _ _ _ _ _ _ _ _ (Act.put _ (some 63) _) _
        (try simp only [Act.put, List.setIfInBounds_toArray, List.set_cons_zero, List.set_cons_succ])
        refine AnyBut.take (i := 6) (v := ?_) rfl (by kernel_rfl) (by kernel_rfl) (by kernel_rfl) (by kernel_rfl) (fun _ _ _ h => h) (Or.inl ⟨by rfl, ?_⟩) HS0 ?_
        rotate_left
        · intro w' hSw
          obtain ⟨q0, q1, q2, q3⟩ := hSw
          go_simp
          all_goals (with_reducible rfl)
        change AnyBut _ _ _ _ _ _ _ _ (Act.put _ (some 64) _) _
        (try simp only [Act.put, List.setIfInBounds_toArray, List.set_cons_zero, List.set_cons_succ])
        refine AnyBut.take (i := 7) (v := ?_) rfl (by kernel_rfl) (by kernel_rfl) (by kernel_rfl) (by kernel_rfl) (fun _ _ _ h => h) (Or.inl ⟨by rfl, ?_⟩) HS0 ?_
        rotate_left
        · intro w' hSw
          obtain ⟨q0, q1, q2, q3⟩ := hSw
          go_simp
          all_goals (with_reducible rfl)
        change AnyBut _ _ _ _ _ _ _ _ (Act.put _ (some 65) _) _
        (try simp only [Act.put, List.setIfInBounds_toArray, List.set_cons_zero, List.set_cons_succ])
        refine AnyBut.take (i := 8) (v := ?_) rfl (by kernel_rfl) (by kernel_rfl) (by kernel_rfl) (by kernel_rfl) (fun _ _ _ h => h) (Or.inl ⟨by rfl, ?_⟩) HS0 ?_
        rotate_left
        · intro w' hSw
          obtain ⟨q0, q1, q2, q3⟩ := hSw
          go_simp
          all_goals (with_reducible rfl)
        change AnyBut _ _ _ _ _ _ _ _ (Act.put _ (some 66) _) _
        (try simp only [Act.put, List.setIfInBounds_toArray, List.set_cons_zero, List.set_cons_succ])
        refine AnyBut.take (i := 9) (v := .int .i64 m) rfl (by kernel_rfl) (by kernel_rfl) (by kernel_rfl) (by kernel_rfl) (fun _ _ _ h => h) (Or.inl ⟨by rfl, ?_⟩) HS0 ?_
        · intro w' hSw
          obtain ⟨q0, q1, q2, q3⟩ := hSw
          go_simp
          all_goals (exact hwm)
        change AnyBut _ _ _ _ _ _ _ _ (Act.put _ (some 67) _) _
        (try simp only [Act.put, List.setIfInBounds_toArray, List.set_cons_zero, List.set_cons_succ])
        refine AnyBut.take (i := 10) (v := ?_) rfl (by kernel_rfl) (by kernel_rfl) (by kernel_rfl) (by kernel_rfl) (fun _ _ _ h => h) (Or.inl ⟨by rfl, ?_⟩) HS0 ?_
        rotate_left
        · intro w' hSw
          obtain ⟨q0, q1, q2, q3⟩ := hSw
          go_simp
          all_goals (with_reducible rfl)
        change AnyBut _ _ _ _ _ _ _ _ (Act.put _ (some 68) _) _
        (try simp only [Act.put, List.setIfInBounds_toArray, List.set_cons_zero, List.set_cons_succ])
        refine AnyBut.take (i := 11) (v := ?_) rfl (by kernel_rfl) (by kernel_rfl) (by kernel_rfl) (by kernel_rfl) (fun _ _ _ h => h) (Or.inl ⟨by rfl, ?_⟩) HS0 ?_
        rotate_left
        · intro w' hSw
          obtain ⟨q0, q1, q2, q3⟩ := hSw
          go_simp
          all_goals (with_reducible rfl)
        change AnyBut _ _ _ _ _ _ _ _ (Act.put _ (some 69) _) _
        (try simp only [Act.put, List.setIfInBounds_toArray, List.set_cons_zero, List.set_cons_succ])
        refine AnyBut.take (i := 12) (v := ?_) rfl (by kernel_rfl) (by kernel_rfl) (by kernel_rfl) (by kernel_rfl) (fun _ _ _ h => h) (Or.inl ⟨by rfl, ?_⟩) HS0 ?_
        rotate_left
        · intro w' hSw
          obtain ⟨q0, q1, q2, q3⟩ := hSw
          go_simp
          all_goals (with_reducible rfl)
        change AnyBut _ _ _ _ _ _ _ _ (Act.put _ (some 70) _) _
        (try simp only [Act.put, List.setIfInBounds_toArray, List.set_cons_zero, List.set_cons_succ])
        refine AnyBut.take (i := 13) (v := ?_) rfl (by kernel_rfl) (by kernel_rfl) (by kernel_rfl) (by kernel_rfl) (fun _ _ _ h => h) (Or.inl ⟨by rfl, ?_⟩) HS0 ?_
        rotate_left
        · intro w' hSw
          obtain ⟨q0, q1, q2, q3⟩ := hSw
          go_simp
          all_goals (with_reducible rfl)
        change AnyBut _ _ _ _ _ _ _ _ (Act.put _ (some 71) _) _
        (try simp only [Act.put, List.setIfInBounds_toArray, List.set_cons_zero, List.set_cons_succ])
        refine AnyBut.take (i := 14) (v := ?_) rfl (by kernel_rfl) (by kernel_rfl) (by kernel_rfl) (by kernel_rfl) (fun _ _ _ h => h) (Or.inl ⟨by rfl, ?_⟩) HS0 ?_
        rotate_left
        · intro w' hSw
          obtain ⟨q0, q1, q2, q3⟩ := hSw
          go_simp
          all_goals (with_reducible rfl)
        change AnyBut _ _ _ _ _ _ _ _ (Act.put _ (some 72) _) _
        (try simp only [Act.put, List.setIfInBounds_toArray, List.set_cons_zero, List.set_cons_succ])
        refine AnyBut.take (i := 15) (v := ?_) rfl (by kernel_rfl) (by kernel_rfl) (by kernel_rfl) (by kernel_rfl) (fun _ _ _ h => h) (Or.inl ⟨by rfl, ?_⟩) HS0 ?_
        rotate_left
        · intro w' hSw
          obtain ⟨q0, q1, q2, q3⟩ := hSw
          go_simp
          all_goals (with_reducible rfl)
        change AnyBut _ _ _ _ _ _ _ _ (Act.put _ (some 73) _) _
        (try simp only [Act.put, List.setIfInBounds_toArray, List.set_cons_zero, List.set_cons_succ])
        clear HS0
        have hS9 : ∀ W9, Below W5.heap.size W5 W9 → W9.cell? ⟨g6, 0, none⟩ = some (.int .i64 p0) ∧ W9.cell? ⟨g6, 1, none⟩ = some (.int .i64 p1) ∧ W9.cell? ⟨g6, 2, none⟩ = some (.int .i64 p2) ∧ W9.cell? ⟨g6, 3, none⟩ = some (.int .i64 p3) := fun W9 hb => by
          have h := (HS5.out.next hb).box (g6, (.cells cur 3 (0, 0))) (by simp)
          exact ⟨by rw [cell_of_row _ _ _ _ _ (0, 0) h]; exact HP0.out, by rw [cell_of_row _ _ _ _ _ (0, 0) h]; exact HP1.out, by rw [cell_of_row _ _ _ _ _ (0, 0) h]; exact HP2.out, by rw [cell_of_row _ _ _ _ _ (0, 0) h]; exact HP3.out⟩
        clear hd
        refine AnyBut.two (i := 16) (i' := 17) rfl rfl (by kernel_rfl) (fun K9 hK9 => ?_) (fun K9 hK9 => ?_)
        · go_simp
          refine (iTagBack' n m p2 p3 _).mono ?_
          rintro e w9 ⟨rfl, hb9⟩
          have hB9 : Below W5.heap.size W5 w9 := by (repeat' (first | (with_reducible exact Below.refl _ _) | (with_reducible assumption) | (with_reducible refine Below.alloc ?_ ?_ _) | (with_reducible refine Below.drew ?_) | (with_reducible refine below_drewN ?_ _) | (with_reducible refine Below.setCell ?_ ?_ _) | (with_reducible refine bvia ?_ (by with_reducible assumption) ?_) | go_size))
          have hz9 := hB9.size
          try simp at hz9
          refine hK9 _ _ (fun h9 => hS9 _ hB9) ?_
          clear hK9 K9
          (try simp only [Act.put, List.setIfInBounds_toArray, List.set_cons_zero, List.set_cons_succ])
          refine AnyBut.one (i := 17) rfl (by kernel_rfl) (fun K9 hK9 => ?_)
          go_simp
          refine hK9 _ _ (fun h9 => hS9 _ (by (repeat' (first | (with_reducible exact Below.refl _ _) | (with_reducible assumption) | (with_reducible refine Below.alloc ?_ ?_ _) | (with_reducible refine Below.drew ?_) | (with_reducible refine below_drewN ?_ _) | (with_reducible refine Below.setCell ?_ ?_ _) | (with_reducible refine bvia ?_ (by with_reducible assumption) ?_) | go_size)))) ?_
          clear hK9 K9
          (try simp only [Act.put, List.setIfInBounds_toArray, List.set_cons_zero, List.set_cons_succ])
          refine AnyBut.one (i := 18) rfl (by kernel_rfl) (fun K9 hK9 => ?_)
          go_simp
          refine hK9 _ _ (fun h9 => absurd rfl h9) ?_
          clear hK9 K9
          (try simp only [Act.put, List.setIfInBounds_toArray, List.set_cons_zero, List.set_cons_succ])
          refine AnyBut.done (by kernel_rfl) ?_ _
          go_wp2_with fail
          go_meet
          case rel => exact ⟨_, rfl, (HS5.out.next (by (repeat' (first | (with_reducible exact Below.refl _ _) | (with_reducible assumption) | (with_reducible refine Below.alloc ?_ ?_ _) | (with_reducible refine Below.drew ?_) | (with_reducible refine below_drewN ?_ _) | (with_reducible refine Below.setCell ?_ ?_ _) | (with_reducible refine bvia ?_ (by with_reducible assumption) ?_) | go_size)))).addBoxLast _ _ (by rw [heap_alloc_at, if_pos rfl])⟩
        · go_simp
          refine hK9 _ _ (fun h9 => hS9 _ (by (repeat' (first | (with_reducible exact Below.refl _ _) | (with_reducible assumption) | (with_reducible refine Below.alloc ?_ ?_ _) | (with_reducible refine Below.drew ?_) | (with_reducible refine below_drewN ?_ _) | (with_reducible refine Below.setCell ?_ ?_ _) | (with_reducible refine bvia ?_ (by with_reducible assumption) ?_) | go_size)))) ?_
          clear hK9 K9
          (try simp only [Act.put, List.setIfInBounds_toArray, List.set_cons_zero, List.set_cons_succ])
          refine AnyBut.one (i := 16) rfl (by kernel_rfl) (fun K9 hK9 => ?_)
          go_simp
          refine (iTagBack' n m p2 p3 _).mono ?_
          rintro e w9 ⟨rfl, hb9⟩
          have hB9 : Below W5.heap.size W5 w9 := by (repeat' (first | (with_reducible exact Below.refl _ _) | (with_reducible assumption) | (with_reducible refine Below.alloc ?_ ?_ _) | (with_reducible refine Below.drew ?_) | (with_reducible refine below_drewN ?_ _) | (with_reducible refine Below.setCell ?_ ?_ _) | (with_reducible refine bvia ?_ (by with_reducible assumption) ?_) | go_size))
          have hz9 := hB9.size
          try simp at hz9
          refine hK9 _ _ (fun h9 => hS9 _ hB9) ?_
          clear hK9 K9
          (try simp only [Act.put, List.setIfInBounds_toArray, List.set_cons_zero, List.set_cons_succ])
          have hx9 : w9.heap[W5.heap.size]? = some (.cells #[.int .i64 0, .int .i64 0, .int .i64 0, .int .i64 0, .int .i64 0] 23 (0, 0)) := (hb9.block _ (by simp)).trans (by first | exact heap_alloc_new _ _ | (show (World.alloc _ _).heap[_]? = _; exact heap_alloc_new _ _))
          have hxl : W5.heap.size < w9.heap.size := (Array.getElem?_eq_some_iff.1 hx9).1
          have x0 : w9.cell? ⟨W5.heap.size, 0, none⟩ = some (.int .i64 0) := by rw [cell_of_row _ _ _ _ _ (0, 0) hx9]; rfl
          have x1 : w9.cell? ⟨W5.heap.size, 1, none⟩ = some (.int .i64 0) := by rw [cell_of_row _ _ _ _ _ (0, 0) hx9]; rfl
          have x2 : w9.cell? ⟨W5.heap.size, 2, none⟩ = some (.int .i64 0) := by rw [cell_of_row _ _ _ _ _ (0, 0) hx9]; rfl
          have x3 : w9.cell? ⟨W5.heap.size, 3, none⟩ = some (.int .i64 0) := by rw [cell_of_row _ _ _ _ _ (0, 0) hx9]; rfl
          have x4 : w9.cell? ⟨W5.heap.size, 4, none⟩ = some (.int .i64 0) := by rw [cell_of_row _ _ _ _ _ (0, 0) hx9]; rfl
          have xf0 := frozen_of_row _ _ 0 _ _ hx9
          have xf1 := frozen_of_row _ _ 1 _ _ hx9
          have xf2 := frozen_of_row _ _ 2 _ _ hx9
          have xf3 := frozen_of_row _ _ 3 _ _ hx9
          have xf4 := frozen_of_row _ _ 4 _ _ hx9
          refine AnyBut.one (i := 18) rfl (by kernel_rfl) (fun K9 hK9 => ?_)
          go_simp
          refine hK9 _ _ (fun h9 => absurd rfl h9) ?_
          clear hK9 K9
          (try simp only [Act.put, List.setIfInBounds_toArray, List.set_cons_zero, List.set_cons_succ])
          refine AnyBut.done (by kernel_rfl) ?_ _
          go_wp2_with fail
          go_meet
          case rel => exact ⟨_, rfl, (HS5.out.next (by (repeat' (first | (with_reducible exact Below.refl _ _) | (with_reducible assumption) | (with_reducible refine Below.alloc ?_ ?_ _) | (with_reducible refine Below.drew ?_) | (with_reducible refine below_drewN ?_ _) | (with_reducible refine Below.setCell ?_ ?_ _) | (with_reducible refine bvia ?_ (by with_reducible assumption) ?_) | go_size)))).addBoxLast _ _ (row_set5 hx9)⟩
      case rest =>
        obtain ⟨b9, rfl, hTS⟩ := hcut
        have HS6 := Lib.hid hTS
        clear hTS HS5 W5
        obtain ⟨W6, hWW⟩ : ∃ W, wc = W := ⟨_, rfl⟩
        rw [hWW] at HS6
        rw [hWW]
        clear hWW wc
        go_upto_region 9 with (fail)
        go_cut [10] (fun p wx => ∃ (b10 g10 : Nat), p = .pointer (some ⟨b10, 0, none⟩) ∧ TS w wx [(b3, (.cells #[.slice Ak K.length ck, .slice At T.length ct] 35 (0, 0))), (b4, (.cells #[.int .i64 x.fKind, .int .i64 x.fOne, .int .i64 x.fTwo, .int .i64 x.fA, .int .i64 x.fB] 23 (0, 0))), (b5, (.cells #[.slice A5 K.length k5, .slice C5 T'.length l5] 35 (0, 0))), (g6, (.cells cur 3 (0, 0))), (b7, (.cells #[.int .i64 1, .int .i64 m, .int .i64 n, .int .i64 p2, .int .i64 p3] 23 (0, 0))), (b8, (.cells #[.int .i64 2, .int .i64 m, .int .i64 n, .int .i64 p2, .int .i64 p3] 23 (0, 0))), (b9, (.cells #[.int .i64 1, .int .i64 n, .int .i64 m, .int .i64 p2, .int .i64 p3] 23 (0, 0))), (b10, (.cells #[.slice (some ⟨g10, 0, none⟩) 2 2, .slice none 0 0] 35 (0, 0)))] [(Ak, K), (A5, K), (some ⟨g10, 0, none⟩, [m, n])] [(At, T), (C5, T')])
        case first =>
          have hd : W6.heap[g6]? = some (.cells cur 3 (0, 0)) := HS6.out.box (g6, (.cells cur 3 (0, 0))) (by simp)
          have ld : g6 < W6.heap.size := (Array.getElem?_eq_some_iff.1 hd).1
          have d0 : W6.cell? ⟨g6, 0, none⟩ = some (.int .i64 p0) := by rw [cell_of_row _ _ _ _ _ (0, 0) hd]; exact HP0.out
          have d1 : W6.cell? ⟨g6, 1, none⟩ = some (.int .i64 p1) := by rw [cell_of_row _ _ _ _ _ (0, 0) hd]; exact HP1.out
          have d2 : W6.cell? ⟨g6, 2, none⟩ = some (.int .i64 p2) := by rw [cell_of_row _ _ _ _ _ (0, 0) hd]; exact HP2.out
          have d3 : W6.cell? ⟨g6, 3, none⟩ = some (.int .i64 p3) := by rw [cell_of_row _ _ _ _ _ (0, 0) hd]; exact HP3.out
          have HS0 : (World.drew W6).cell? ⟨g6, 0, none⟩ = some (.int .i64 p0) ∧ (World.drew W6).cell? ⟨g6, 1, none⟩ = some (.int .i64 p1) ∧ (World.drew W6).cell? ⟨g6, 2, none⟩ = some (.int .i64 p2) ∧ (World.drew W6).cell? ⟨g6, 3, none⟩ = some (.int .i64 p3) := ⟨d0, d1, d2, d3⟩
          clear d0 d1 d2 d3
          refine wp_region_but 13 (fun w' => w'.cell? ⟨g6, 0, none⟩ = some (.int .i64 p0) ∧ w'.cell? ⟨g6, 1, none⟩ = some (.int .i64 p1) ∧ w'.cell? ⟨g6, 2, none⟩ = some (.int .i64 p2) ∧ w'.cell? ⟨g6, 3, none⟩ = some (.int .i64 p3)) (by kernel_rfl) ?_
          refine AnyBut.take (i := 0) (v := ?_) rfl (by kernel_rfl) (by kernel_rfl) (by kernel_rfl) (by kernel_rfl) (fun _ _ _ h => h) (Or.inl ⟨by rfl, ?_⟩) HS0 ?_
          rotate_left
          · intro w' hSw
            obtain ⟨q0, q1, q2, q3⟩ := hSw
            go_simp
            all_goals (with_reducible rfl)
          change AnyBut _ _ _ _ _ _ _ _ (Act.put _ (some 75) _) _
          (try simp only [Act.put, List.setIfInBounds_toArray, List.set_cons_zero, List.set_cons_succ])
          refine AnyBut.take (i := 1) (v := ?_) rfl (by kernel_rfl) (by kernel_rfl) (by kernel_rfl) (by kernel_rfl) (fun _ _ _ h => h) (Or.inl ⟨by rfl, ?_⟩) HS0 ?_
          rotate_left
          · intro w' hSw
            obtain ⟨q0, q1, q2, q3⟩ := hSw
            go_simp
            all_goals (with_reducible rfl)
          change AnyBut _ _ _ _ _ _ _ _ (Act.put _ (some 76) _) _
          (try simp only [Act.put, List.setIfInBounds_toArray, List.set_cons_zero, List.set_cons_succ])
          refine AnyBut.take (i := 2) (v := ?_) rfl (by kernel_rfl) (by kernel_rfl) (by kernel_rfl) (by kernel_rfl) (fun _ _ _ h => h) (Or.inl ⟨by rfl, ?_⟩) HS0 ?_
          rotate_left
          · intro w' hSw
            obtain ⟨q0, q1, q2, q3⟩ := hSw
            go_simp
            all_goals (with_reducible rfl)
          change AnyBut _ _ _ _ _ _ _ _ (Act.put _ (some 77) _) _
          (try simp only [Act.put, List.setIfInBounds_toArray, List.set_cons_zero, List.set_cons_succ])
          refine AnyBut.take (i := 3) (v := ?_) rfl (by kernel_rfl) (by kernel_rfl) (by kernel_rfl) (by kernel_rfl) (fun _ _ _ h => h) (Or.inl ⟨by rfl, ?_⟩) HS0 ?_
          rotate_left
          · intro w' hSw
            obtain ⟨q0, q1, q2, q3⟩ := hSw
            go_simp
            all_goals (with_reducible rfl)
          change AnyBut _ _ _ _ _ _ _ _ (Act.put _ (some 78) _) _
          (try simp only [Act.put, List.setIfInBounds_toArray, List.set_cons_zero, List.set_cons_succ])
          refine AnyBut.take (i := 4) (v := .int .i64 m) rfl (by kernel_rfl) (by kernel_rfl) (by kernel_rfl) (by kernel_rfl) (fun _ _ _ h => h) (Or.inl ⟨by rfl, ?_⟩) HS0 ?_
          · intro w' hSw
            obtain ⟨q0, q1, q2, q3⟩ := hSw
            go_simp
            all_goals (exact hwm)
          change AnyBut _ _ _ _ _ _ _ _ (Act.put _ (some 79) _) _
          (try simp only [Act.put, List.setIfInBounds_toArray, List.set_cons_zero, List.set_cons_succ])
          refine AnyBut.take (i := 5) (v := ?_) rfl (by kernel_rfl) (by kernel_rfl) (by kernel_rfl) (by kernel_rfl) (fun _ _ _ h => h) (Or.inl ⟨by rfl, ?_⟩) HS0 ?_
          rotate_left
          · intro w' hSw
            obtain ⟨q0, q1, q2, q3⟩ := hSw
            go_simp
            all_goals (with_reducible rfl)
          change AnyBut _ _ _ _ _ _ _ _ (Act.put _ (some 80) _) _
          (try simp only [Act.put, List.setIfInBounds_toArray, List.set_cons_zero, List.set_cons_succ])
          refine AnyBut.take (i := 6) (v := ?_) rfl (by kernel_rfl) (by kernel_rfl) (by kernel_rfl) (by kernel_rfl) (fun _ _ _ h => h) (Or.inl ⟨by rfl, ?_⟩) HS0 ?_
          rotate_left
          · intro w' hSw
            obtain ⟨q0, q1, q2, q3⟩ := hSw
            go_simp
            all_goals (with_reducible rfl)
          change AnyBut _ _ _ _ _ _ _ _ (Act.put _ (some 81) _) _
          (try simp only [Act.put, List.setIfInBounds_toArray, List.set_cons_zero, List.set_cons_succ])
          refine AnyBut.take (i := 7) (v := ?_) rfl (by kernel_rfl) (by kernel_rfl) (by kernel_rfl) (by kernel_rfl) (fun _ _ _ h => h) (Or.inl ⟨by rfl, ?_⟩) HS0 ?_
          rotate_left
          · intro w' hSw
            obtain ⟨q0, q1, q2, q3⟩ := hSw
            go_simp
            all_goals (with_reducible rfl)
          change AnyBut _ _ _ _ _ _ _ _ (Act.put _ (some 82) _) _
          (try simp only [Act.put, List.setIfInBounds_toArray, List.set_cons_zero, List.set_cons_succ])
          refine AnyBut.take (i := 8) (v := ?_) rfl (by kernel_rfl) (by kernel_rfl) (by kernel_rfl) (by kernel_rfl) (fun _ _ _ h => h) (Or.inl ⟨by rfl, ?_⟩) HS0 ?_
          rotate_left
          · intro w' hSw
            obtain ⟨q0, q1, q2, q3⟩ := hSw
            go_simp
            all_goals (with_reducible rfl)
          change AnyBut _ _ _ _ _ _ _ _ (Act.put _ (some 83) _) _
          (try simp only [Act.put, List.setIfInBounds_toArray, List.set_cons_zero, List.set_cons_succ])
          refine AnyBut.take (i := 9) (v := .int .i64 n) rfl (by kernel_rfl) (by kernel_rfl) (by kernel_rfl) (by kernel_rfl) (fun _ _ _ h => h) (Or.inl ⟨by rfl, ?_⟩) HS0 ?_
          · intro w' hSw
            obtain ⟨q0, q1, q2, q3⟩ := hSw
            go_simp
            all_goals (exact hwn)
          change AnyBut _ _ _ _ _ _ _ _ (Act.put _ (some 84) _) _
          (try simp only [Act.put, List.setIfInBounds_toArray, List.set_cons_zero, List.set_cons_succ])
          clear HS0
          have hS9 : ∀ W9, Below W6.heap.size W6 W9 → W9.cell? ⟨g6, 0, none⟩ = some (.int .i64 p0) ∧ W9.cell? ⟨g6, 1, none⟩ = some (.int .i64 p1) ∧ W9.cell? ⟨g6, 2, none⟩ = some (.int .i64 p2) ∧ W9.cell? ⟨g6, 3, none⟩ = some (.int .i64 p3) := fun W9 hb => by
            have h := (HS6.out.next hb).box (g6, (.cells cur 3 (0, 0))) (by simp)
            exact ⟨by rw [cell_of_row _ _ _ _ _ (0, 0) h]; exact HP0.out, by rw [cell_of_row _ _ _ _ _ (0, 0) h]; exact HP1.out, by rw [cell_of_row _ _ _ _ _ (0, 0) h]; exact HP2.out, by rw [cell_of_row _ _ _ _ _ (0, 0) h]; exact HP3.out⟩
          clear hd
          refine AnyBut.two (i := 10) (i' := 12) rfl rfl (by kernel_rfl) (fun K9 hK9 => ?_) (fun K9 hK9 => ?_)
          · go_simp
            refine hK9 _ _ (fun h9 => hS9 _ (by (repeat' (first | (with_reducible exact Below.refl _ _) | (with_reducible assumption) | (with_reducible refine Below.alloc ?_ ?_ _) | (with_reducible refine Below.drew ?_) | (with_reducible refine below_drewN ?_ _) | (with_reducible refine Below.setCell ?_ ?_ _) | (with_reducible refine bvia ?_ (by with_reducible assumption) ?_) | go_size)))) ?_
            clear hK9 K9
            (try simp only [Act.put, List.setIfInBounds_toArray, List.set_cons_zero, List.set_cons_succ])
            refine AnyBut.two (i := 11) (i' := 12) rfl rfl (by kernel_rfl) (fun K9 hK9 => ?_) (fun K9 hK9 => ?_)
            · go_simp
              refine hK9 _ _ (fun h9 => hS9 _ (by (repeat' (first | (with_reducible exact Below.refl _ _) | (with_reducible assumption) | (with_reducible refine Below.alloc ?_ ?_ _) | (with_reducible refine Below.drew ?_) | (with_reducible refine below_drewN ?_ _) | (with_reducible refine Below.setCell ?_ ?_ _) | (with_reducible refine bvia ?_ (by with_reducible assumption) ?_) | go_size)))) ?_
              clear hK9 K9
              (try simp only [Act.put, List.setIfInBounds_toArray, List.set_cons_zero, List.set_cons_succ])
              refine AnyBut.one (i := 12) rfl (by kernel_rfl) (fun K9 hK9 => ?_)
              go_simp
              refine hK9 _ _ (fun h9 => hS9 _ (by (repeat' (first | (with_reducible exact Below.refl _ _) | (with_reducible assumption) | (with_reducible refine Below.alloc ?_ ?_ _) | (with_reducible refine Below.drew ?_) | (with_reducible refine below_drewN ?_ _) | (with_reducible refine Below.setCell ?_ ?_ _) | (with_reducible refine bvia ?_ (by with_reducible assumption) ?_) | go_size)))) ?_
              clear hK9 K9
              (try simp only [Act.put, List.setIfInBounds_toArray, List.set_cons_zero, List.set_cons_succ])
              refine AnyBut.one (i := 13) rfl (by kernel_rfl) (fun K9 hK9 => ?_)
              go_simp
              refine hK9 _ _ (fun h9 => absurd rfl h9) ?_
              clear hK9 K9
              (try simp only [Act.put, List.setIfInBounds_toArray, List.set_cons_zero, List.set_cons_succ])
              refine AnyBut.done (by kernel_rfl) ?_ _
              go_wp2_with fail
              go_meet
              case rel =>
                refine ⟨W6.heap.size + 1, W6.heap.size, rfl, TS.more HS6.out ?_ (W6.heap.size) (W6.heap.size + 1) [m, n] #[.int .i64 m, .int .i64 n] _ ?_ rfl ?_ rfl rfl⟩
                · (repeat' (first | (with_reducible exact Below.refl _ _) | (with_reducible assumption) | (with_reducible refine Below.alloc ?_ ?_ _) | (with_reducible refine Below.drew ?_) | (with_reducible refine below_drewN ?_ _) | (with_reducible refine Below.setCell ?_ ?_ _) | (with_reducible refine bvia ?_ (by with_reducible assumption) ?_) | go_size))
                · exact (heap_two _ _ _).1
                · exact (heap_two _ _ _).2
            · go_simp
              refine hK9 _ _ (fun h9 => hS9 _ (by (repeat' (first | (with_reducible exact Below.refl _ _) | (with_reducible assumption) | (with_reducible refine Below.alloc ?_ ?_ _) | (with_reducible refine Below.drew ?_) | (with_reducible refine below_drewN ?_ _) | (with_reducible refine Below.setCell ?_ ?_ _) | (with_reducible refine bvia ?_ (by with_reducible assumption) ?_) | go_size)))) ?_
              clear hK9 K9
              (try simp only [Act.put, List.setIfInBounds_toArray, List.set_cons_zero, List.set_cons_succ])
              refine AnyBut.one (i := 11) rfl (by kernel_rfl) (fun K9 hK9 => ?_)
              go_simp
              refine hK9 _ _ (fun h9 => hS9 _ (by (repeat' (first | (with_reducible exact Below.refl _ _) | (with_reducible assumption) | (with_reducible refine Below.alloc ?_ ?_ _) | (with_reducible refine Below.drew ?_) | (with_reducible refine below_drewN ?_ _) | (with_reducible refine Below.setCell ?_ ?_ _) | (with_reducible refine bvia ?_ (by with_reducible assumption) ?_) | go_size)))) ?_
              clear hK9 K9
              (try simp only [Act.put, List.setIfInBounds_toArray, List.set_cons_zero, List.set_cons_succ])
              refine AnyBut.one (i := 13) rfl (by kernel_rfl) (fun K9 hK9 => ?_)
              go_simp
              refine hK9 _ _ (fun h9 => absurd rfl h9) ?_
              clear hK9 K9
              (try simp only [Act.put, List.setIfInBounds_toArray, List.set_cons_zero, List.set_cons_succ])
              refine AnyBut.done (by kernel_rfl) ?_ _
              go_wp2_with fail
              go_meet
              case rel =>
                refine ⟨W6.heap.size + 1, W6.heap.size, rfl, TS.more HS6.out ?_ (W6.heap.size) (W6.heap.size + 1) [m, n] #[.int .i64 m, .int .i64 n] _ ?_ rfl ?_ rfl rfl⟩
                · (repeat' (first | (with_reducible exact Below.refl _ _) | (with_reducible assumption) | (with_reducible refine Below.alloc ?_ ?_ _) | (with_reducible refine Below.drew ?_) | (with_reducible refine below_drewN ?_ _) | (with_reducible refine Below.setCell ?_ ?_ _) | (with_reducible refine bvia ?_ (by with_reducible assumption) ?_) | go_size))
                · exact (heap_two _ _ _).1
                · exact (heap_two _ _ _).2
          · go_simp
            refine hK9 _ _ (fun h9 => hS9 _ (by (repeat' (first | (with_reducible exact Below.refl _ _) | (with_reducible assumption) | (with_reducible refine Below.alloc ?_ ?_ _) | (with_reducible refine Below.drew ?_) | (with_reducible refine below_drewN ?_ _) | (with_reducible refine Below.setCell ?_ ?_ _) | (with_reducible refine bvia ?_ (by with_reducible assumption) ?_) | go_size)))) ?_
            clear hK9 K9
            (try simp only [Act.put, List.setIfInBounds_toArray, List.set_cons_zero, List.set_cons_succ])
            refine AnyBut.one (i := 10) rfl (by kernel_rfl) (fun K9 hK9 => ?_)
            go_simp
            refine hK9 _ _ (fun h9 => hS9 _ (by (repeat' (first | (with_reducible exact Below.refl _ _) | (with_reducible assumption) | (with_reducible refine Below.alloc ?_ ?_ _) | (with_reducible refine Below.drew ?_) | (with_reducible refine below_drewN ?_ _) | (with_reducible refine Below.setCell ?_ ?_ _) | (with_reducible refine bvia ?_ (by with_reducible assumption) ?_) | go_size)))) ?_
            clear hK9 K9
            (try simp only [Act.put, List.setIfInBounds_toArray, List.set_cons_zero, List.set_cons_succ])
            refine AnyBut.one (i := 11) rfl (by kernel_rfl) (fun K9 hK9 => ?_)
            go_simp
            refine hK9 _ _ (fun h9 => hS9 _ (by (repeat' (first | (with_reducible exact Below.refl _ _) | (with_reducible assumption) | (with_reducible refine Below.alloc ?_ ?_ _) | (with_reducible refine Below.drew ?_) | (with_reducible refine below_drewN ?_ _) | (with_reducible refine Below.setCell ?_ ?_ _) | (with_reducible refine bvia ?_ (by with_reducible assumption) ?_) | go_size)))) ?_
            clear hK9 K9
            (try simp only [Act.put, List.setIfInBounds_toArray, List.set_cons_zero, List.set_cons_succ])
            refine AnyBut.one (i := 13) rfl (by kernel_rfl) (fun K9 hK9 => ?_)
            go_simp
            refine hK9 _ _ (fun h9 => absurd rfl h9) ?_
            clear hK9 K9
            (try simp only [Act.put, List.setIfInBounds_toArray, List.set_cons_zero, List.set_cons_succ])
            refine AnyBut.done (by kernel_rfl) ?_ _
            go_wp2_with fail
            go_meet
            case rel =>
              refine ⟨W6.heap.size, W6.heap.size + 1, rfl, TS.more HS6.out ?_ (W6.heap.size + 1) (W6.heap.size) [m, n] #[.int .i64 m, .int .i64 n] _ ?_ rfl ?_ rfl rfl⟩
              · (repeat' (first | (with_reducible exact Below.refl _ _) | (with_reducible assumption) | (with_reducible refine Below.alloc ?_ ?_ _) | (with_reducible refine Below.drew ?_) | (with_reducible refine below_drewN ?_ _) | (with_reducible refine Below.setCell ?_ ?_ _) | (with_reducible refine bvia ?_ (by with_reducible assumption) ?_) | go_size))
              · exact (heap_two _ _ _).2
              · exact (heap_two _ _ _).1
        case rest =>
          obtain ⟨b10, g10, rfl, hTS⟩ := hcut
          have HS7 := Lib.hid hTS
          clear hTS HS6 W6
          obtain ⟨W7, hWW⟩ : ∃ W, wc = W := ⟨_, rfl⟩
          rw [hWW] at HS7
          rw [hWW]
          clear hWW wc
          go_upto_region 10 with (fail)
          have hd : W7.heap[g6]? = some (.cells cur 3 (0, 0)) := HS7.out.box (g6, (.cells cur 3 (0, 0))) (by simp)
          have ld : g6 < W7.heap.size := (Array.getElem?_eq_some_iff.1 hd).1
          have d0 : W7.cell? ⟨g6, 0, none⟩ = some (.int .i64 p0) := by rw [cell_of_row _ _ _ _ _ (0, 0) hd]; exact HP0.out
          have d1 : W7.cell? ⟨g6, 1, none⟩ = some (.int .i64 p1) := by rw [cell_of_row _ _ _ _ _ (0, 0) hd]; exact HP1.out
          have d2 : W7.cell? ⟨g6, 2, none⟩ = some (.int .i64 p2) := by rw [cell_of_row _ _ _ _ _ (0, 0) hd]; exact HP2.out
          have d3 : W7.cell? ⟨g6, 3, none⟩ = some (.int .i64 p3) := by rw [cell_of_row _ _ _ _ _ (0, 0) hd]; exact HP3.out
          have hme : 1 + p0 % 9 = m := by rw [← hm, Int.tmod_eq_emod_of_nonneg hq0.1]
          go_upto_region 11 with (fail)
          try simp only [hme]
          clear hme
          obtain ⟨g11, hg11⟩ : ∃ g, W7.heap.size = g := ⟨_, rfl⟩
          refine wp_world _ (fun W => TS w W [(b3, (.cells #[.slice Ak K.length ck, .slice At T.length ct] 35 (0, 0))), (b4, (.cells #[.int .i64 x.fKind, .int .i64 x.fOne, .int .i64 x.fTwo, .int .i64 x.fA, .int .i64 x.fB] 23 (0, 0))), (b5, (.cells #[.slice A5 K.length k5, .slice C5 T'.length l5] 35 (0, 0))), (g6, (.cells cur 3 (0, 0))), (b7, (.cells #[.int .i64 1, .int .i64 m, .int .i64 n, .int .i64 p2, .int .i64 p3] 23 (0, 0))), (b8, (.cells #[.int .i64 2, .int .i64 m, .int .i64 n, .int .i64 p2, .int .i64 p3] 23 (0, 0))), (b9, (.cells #[.int .i64 1, .int .i64 n, .int .i64 m, .int .i64 p2, .int .i64 p3] 23 (0, 0))), (b10, (.cells #[.slice (some ⟨g10, 0, none⟩) 2 2, .slice none 0 0] 35 (0, 0))), ((W7.heap.size + 1), (.cells #[.slice (some ⟨W7.heap.size, 0, none⟩) 2 2, .slice none 0 0] 35 (0, 0)))] [(Ak, K), (A5, K), (some ⟨g10, 0, none⟩, [m, n]), (some ⟨W7.heap.size, 0, none⟩, [m, 5000])] [(At, T), (C5, T')]) (TS.more HS7.out ?_ (W7.heap.size) (W7.heap.size + 1) [m, 5000] #[.int .i64 m, .int .i64 5000] _ ?_ rfl ?_ rfl rfl) ?_
          · (repeat' (first | (with_reducible exact Below.refl _ _) | (with_reducible assumption) | (with_reducible refine Below.alloc ?_ ?_ _) | (with_reducible refine Below.drew ?_) | (with_reducible refine below_drewN ?_ _) | (with_reducible refine Below.setCell ?_ ?_ _) | (with_reducible refine bvia ?_ (by with_reducible assumption) ?_) | go_size))
          · exact (heap_two _ _ _).1
          · exact (heap_two _ _ _).2
          intro W8 hTS
          obtain ⟨b11, hb11⟩ : ∃ b, g11 + 1 = b := ⟨_, rfl⟩
          rw [hg11, hb11] at hTS
          rw [hg11]
          try rw [hb11]
          have HS8 := Lib.hid hTS
          clear hTS hb11 hg11
          clear ld hd d0 d1 d2 d3
          clear HS7 W7
          obtain ⟨S, hS0, hS_b3, hS_b4, hS_b5, hS_b7, hS_b8, hS_b9, hS_b10, hS_b11, hS_iK, hS_iK5, hS_iB, hS_iH, hS_tT, hS_tT5, hSn, hSb⟩ : ∃ S : World → Prop, (S W8.drew) ∧ (∀ W, S W → W.heap[b3]? = some (.cells #[.slice Ak K.length ck, .slice At T.length ct] 35 (0, 0))) ∧ (∀ W, S W → W.heap[b4]? = some (.cells #[.int .i64 x.fKind, .int .i64 x.fOne, .int .i64 x.fTwo, .int .i64 x.fA, .int .i64 x.fB] 23 (0, 0))) ∧ (∀ W, S W → W.heap[b5]? = some (.cells #[.slice A5 K.length k5, .slice C5 T'.length l5] 35 (0, 0))) ∧ (∀ W, S W → W.heap[b7]? = some (.cells #[.int .i64 1, .int .i64 m, .int .i64 n, .int .i64 p2, .int .i64 p3] 23 (0, 0))) ∧ (∀ W, S W → W.heap[b8]? = some (.cells #[.int .i64 2, .int .i64 m, .int .i64 n, .int .i64 p2, .int .i64 p3] 23 (0, 0))) ∧ (∀ W, S W → W.heap[b9]? = some (.cells #[.int .i64 1, .int .i64 n, .int .i64 m, .int .i64 p2, .int .i64 p3] 23 (0, 0))) ∧ (∀ W, S W → W.heap[b10]? = some (.cells #[.slice (some ⟨g10, 0, none⟩) 2 2, .slice none 0 0] 35 (0, 0))) ∧ (∀ W, S W → W.heap[b11]? = some (.cells #[.slice (some ⟨g11, 0, none⟩) 2 2, .slice none 0 0] 35 (0, 0))) ∧ (∀ W, S W → Rd icell 1 W 0 W.heap.size Ak K) ∧ (∀ W, S W → Rd icell 1 W 0 W.heap.size A5 K) ∧ (∀ W, S W → Rd icell 1 W 0 W.heap.size (some ⟨g10, 0, none⟩) [m, n]) ∧ (∀ W, S W → Rd icell 1 W 0 W.heap.size (some ⟨g11, 0, none⟩) [m, 5000]) ∧ (∀ W, S W → Rd TagD.cells 5 W 0 W.heap.size At T) ∧ (∀ W, S W → Rd TagD.cells 5 W 0 W.heap.size C5 T') ∧ (∀ W W', S W → Below W.heap.size W W' → S W') ∧ (∀ W, S W → Below w.heap.size w W) := ⟨fun W => TS w W [(b3, (.cells #[.slice Ak K.length ck, .slice At T.length ct] 35 (0, 0))), (b4, (.cells #[.int .i64 x.fKind, .int .i64 x.fOne, .int .i64 x.fTwo, .int .i64 x.fA, .int .i64 x.fB] 23 (0, 0))), (b5, (.cells #[.slice A5 K.length k5, .slice C5 T'.length l5] 35 (0, 0))), (g6, (.cells cur 3 (0, 0))), (b7, (.cells #[.int .i64 1, .int .i64 m, .int .i64 n, .int .i64 p2, .int .i64 p3] 23 (0, 0))), (b8, (.cells #[.int .i64 2, .int .i64 m, .int .i64 n, .int .i64 p2, .int .i64 p3] 23 (0, 0))), (b9, (.cells #[.int .i64 1, .int .i64 n, .int .i64 m, .int .i64 p2, .int .i64 p3] 23 (0, 0))), (b10, (.cells #[.slice (some ⟨g10, 0, none⟩) 2 2, .slice none 0 0] 35 (0, 0))), (b11, (.cells #[.slice (some ⟨g11, 0, none⟩) 2 2, .slice none 0 0] 35 (0, 0)))] [(Ak, K), (A5, K), (some ⟨g10, 0, none⟩, [m, n]), (some ⟨g11, 0, none⟩, [m, 5000])] [(At, T), (C5, T')], HS8.out.next (by (repeat' (first | (with_reducible exact Below.refl _ _) | (with_reducible assumption) | (with_reducible refine Below.alloc ?_ ?_ _) | (with_reducible refine Below.drew ?_) | (with_reducible refine below_drewN ?_ _) | (with_reducible refine Below.setCell ?_ ?_ _) | (with_reducible refine bvia ?_ (by with_reducible assumption) ?_) | go_size))), fun W h => h.box (b3, (.cells #[.slice Ak K.length ck, .slice At T.length ct] 35 (0, 0))) (by simp), fun W h => h.box (b4, (.cells #[.int .i64 x.fKind, .int .i64 x.fOne, .int .i64 x.fTwo, .int .i64 x.fA, .int .i64 x.fB] 23 (0, 0))) (by simp), fun W h => h.box (b5, (.cells #[.slice A5 K.length k5, .slice C5 T'.length l5] 35 (0, 0))) (by simp), fun W h => h.box (b7, (.cells #[.int .i64 1, .int .i64 m, .int .i64 n, .int .i64 p2, .int .i64 p3] 23 (0, 0))) (by simp), fun W h => h.box (b8, (.cells #[.int .i64 2, .int .i64 m, .int .i64 n, .int .i64 p2, .int .i64 p3] 23 (0, 0))) (by simp), fun W h => h.box (b9, (.cells #[.int .i64 1, .int .i64 n, .int .i64 m, .int .i64 p2, .int .i64 p3] 23 (0, 0))) (by simp), fun W h => h.box (b10, (.cells #[.slice (some ⟨g10, 0, none⟩) 2 2, .slice none 0 0] 35 (0, 0))) (by simp), fun W h => h.box (b11, (.cells #[.slice (some ⟨g11, 0, none⟩) 2 2, .slice none 0 0] 35 (0, 0))) (by simp), fun W h => h.ints (Ak, K) (by simp), fun W h => h.ints (A5, K) (by simp), fun W h => h.ints ((some ⟨g10, 0, none⟩), [m, n]) (by simp), fun W h => h.ints ((some ⟨g11, 0, none⟩), [m, 5000]) (by simp), fun W h => h.tags (At, T) (by simp), fun W h => h.tags (C5, T') (by simp), fun W W' h hb => h.next hb, fun W h => h.below⟩
          clear HS8
          have hc1 : canMake [m, n] [] ⟨1, m, n, p2, p3⟩ = true := can_two m n _ (.inl rfl) (.inr rfl)
          have hc2 : canMake [m, n] [] ⟨1, n, m, p2, p3⟩ = true := can_two m n _ (.inr rfl) (.inl rfl)
          have hc3 : canMake [m, 5000] [] ⟨1, m, n, p2, p3⟩ = false := can_half m 5000 _ rfl (by show n ≠ m; omega) (by show n ≠ 5000; omega)
          have hc4 : learnT [m, 5000] [] ⟨1, m, n, p2, p3⟩ = [⟨1, m, n, p2, p3⟩] := learn_half m 5000 _ rfl (by show n ≠ m; omega) (by show n ≠ 5000; omega)
          have hc5 : canMake [m, 5000] [⟨1, m, n, p2, p3⟩] ⟨1, m, n, p2, p3⟩ = true := can_learnt m 5000 _
          have hq1 : teq 1 m n p2 p3 2 m n p2 p3 = false := by simp [teq]
          have hq2 : teq 1 m n p2 p3 1 n m p2 p3 = false := by simp [teq]; omega
          have hq3 : teq 3 1 2 3 4 3 1 2 3 4 = true := by simp [teq]
          have HC1 := Lib.hid hc1
          have HC2 := Lib.hid hc2
          have HC3 := Lib.hid hc3
          have HC4 := Lib.hid hc4
          have HC5 := Lib.hid hc5
          clear hc1 hc2 hc3 hc4 hc5 hm hn hwm hwn hm9 hn9 hq0
          have HS0 := hS0
          refine wp_region_but 48 S (by kernel_rfl) ?_
          refine AnyBut.take (i := 0) rfl (by kernel_rfl) (by kernel_rfl) (by kernel_rfl) (by kernel_rfl) (fun _ _ _ h => h) (yieldsIf_load_row rfl 35 (.tmp 5) rfl b5 rfl 35 _ (0, 0) _ (fun w' h => hS_b5 w' h) Try.underlying35 rfl (by kernel_rfl)) HS0 ?_
          change AnyBut _ _ _ _ _ _ _ _ (Act.put _ (some 94) _) _
          (try simp only [Act.put, List.setIfInBounds_toArray, List.set_cons_zero, List.set_cons_succ])
          refine AnyBut.take (i := 1) rfl (by kernel_rfl) (by kernel_rfl) (by kernel_rfl) (by kernel_rfl) (fun _ _ _ h => h) (yieldsIf_load_row rfl 35 (.tmp 3) rfl b3 rfl 35 _ (0, 0) _ (fun w' h => hS_b3 w' h) Try.underlying35 rfl (by kernel_rfl)) HS0 ?_
          change AnyBut _ _ _ _ _ _ _ _ (Act.put _ (some 95) _) _
          (try simp only [Act.put, List.setIfInBounds_toArray, List.set_cons_zero, List.set_cons_succ])
          refine AnyBut.take (i := 2) rfl (by kernel_rfl) (by kernel_rfl) (by kernel_rfl) (by kernel_rfl) (fun _ _ _ h => h) (yieldsIf_load_row rfl 23 (.tmp 4) rfl b4 rfl 23 _ (0, 0) _ (fun w' h => hS_b4 w' h) Try.underlying23 rfl (by kernel_rfl)) HS0 ?_
          change AnyBut _ _ _ _ _ _ _ _ (Act.put _ (some 96) _) _
          (try simp only [Act.put, List.setIfInBounds_toArray, List.set_cons_zero, List.set_cons_succ])
          refine AnyBut.one (i := 3) rfl (by kernel_rfl) (fun K9 hK9 => ?_)
          go_simp
          refine (sLearn Ak At ck ct K T x _ (hS_iK _ HS0) (hS_tT _ HS0) (by omega) (by omega)).mono ?_
          rintro e w9 ⟨A6, k6, C6, l6, rfl, KN, hb9⟩
          have HS1 := hSn _ _ HS0 hb9
          clear HS0
          have HS0 := HS1
          clear HS1
          rw [HT'.out] at KN
          try rw [HT'.out]
          have HKN := Lib.hid KN
          clear KN
          refine hK9 _ _ (fun h9 => HS0) ?_
          clear hK9 K9 hb9
          (try simp only [Act.put, List.setIfInBounds_toArray, List.set_cons_zero, List.set_cons_succ])
          refine AnyBut.one (i := 4) rfl (by kernel_rfl) (fun K9 hK9 => ?_)
          go_simp
          refine (sameKnown_same A5 C5 A6 C6 k5 l5 k6 l6 K T' _ (hS_iK5 _ HS0) (hS_tT5 _ HS0) HKN.out.rdK HKN.out.rdT (by unfold maxLen; omega) (by unfold maxLen; omega)).mono ?_
          rintro e w9 ⟨rfl, hb9⟩
          have HS1 := hSn _ _ HS0 hb9
          clear HS0
          have HS0 := HS1
          clear HS1
          clear HKN
          refine hK9 _ _ (fun h9 => HS0) ?_
          clear hK9 K9 hb9
          (try simp only [Act.put, List.setIfInBounds_toArray, List.set_cons_zero, List.set_cons_succ])
          refine AnyBut.take (i := 5) (v := ?_) rfl (by kernel_rfl) (by kernel_rfl) (by kernel_rfl) (by kernel_rfl) (fun _ _ _ h => h) (Or.inl ⟨by rfl, ?_⟩) HS0 ?_
          rotate_left
          · intro w' hSw
            go_simp
            all_goals (with_reducible rfl)
          change AnyBut _ _ _ _ _ _ _ _ (Act.put _ (some 99) _) _
          (try simp only [Act.put, List.setIfInBounds_toArray, List.set_cons_zero, List.set_cons_succ])
          refine AnyBut.take (i := 6) rfl (by kernel_rfl) (by kernel_rfl) (by kernel_rfl) (by kernel_rfl) (fun _ _ _ h => h) (yieldsIf_load_row rfl 35 (.tmp 5) rfl b5 rfl 35 _ (0, 0) _ (fun w' h => hS_b5 w' h) Try.underlying35 rfl (by kernel_rfl)) HS0 ?_
          change AnyBut _ _ _ _ _ _ _ _ (Act.put _ (some 100) _) _
          (try simp only [Act.put, List.setIfInBounds_toArray, List.set_cons_zero, List.set_cons_succ])
          refine AnyBut.take (i := 7) rfl (by kernel_rfl) (by kernel_rfl) (by kernel_rfl) (by kernel_rfl) (fun _ _ _ h => h) (yieldsIf_load_row rfl 23 (.tmp 4) rfl b4 rfl 23 _ (0, 0) _ (fun w' h => hS_b4 w' h) Try.underlying23 rfl (by kernel_rfl)) HS0 ?_
          change AnyBut _ _ _ _ _ _ _ _ (Act.put _ (some 101) _) _
          (try simp only [Act.put, List.setIfInBounds_toArray, List.set_cons_zero, List.set_cons_succ])
          refine AnyBut.one (i := 8) rfl (by kernel_rfl) (fun K9 hK9 => ?_)
          go_simp
          refine (iCanMake A5 C5 k5 l5 K T' x _ (hS_iK5 _ HS0) (hS_tT5 _ HS0) (by unfold maxLen; omega) (by unfold maxLen; omega)).mono ?_
          rintro e w9 ⟨rfl, hb9⟩
          have HS1 := hSn _ _ HS0 hb9
          clear HS0
          have HS0 := HS1
          clear HS1
          rw [HCAN.out]
          refine hK9 _ _ (fun h9 => HS0) ?_
          clear hK9 K9 hb9
          (try simp only [Act.put, List.setIfInBounds_toArray, List.set_cons_zero, List.set_cons_succ])
          refine AnyBut.take (i := 9) (v := ?_) rfl (by kernel_rfl) (by kernel_rfl) (by kernel_rfl) (by kernel_rfl) (fun _ _ _ h => h) (Or.inl ⟨by rfl, ?_⟩) HS0 ?_
          rotate_left
          · intro w' hSw
            go_simp
            all_goals (with_reducible rfl)
          change AnyBut _ _ _ _ _ _ _ _ (Act.put _ (some 103) _) _
          (try simp only [Act.put, List.setIfInBounds_toArray, List.set_cons_zero, List.set_cons_succ])
          refine AnyBut.take (i := 10) (v := ?_) rfl (by kernel_rfl) (by kernel_rfl) (by kernel_rfl) (by kernel_rfl) (fun _ _ _ h => h) (Or.inl ⟨by rfl, ?_⟩) HS0 ?_
          rotate_left
          · intro w' hSw
            go_simp
            all_goals (with_reducible rfl)
          change AnyBut _ _ _ _ _ _ _ _ (Act.put _ (some 104) _) _
          (try simp only [Act.put, List.setIfInBounds_toArray, List.set_cons_zero, List.set_cons_succ])
          refine AnyBut.take (i := 11) rfl (by kernel_rfl) (by kernel_rfl) (by kernel_rfl) (by kernel_rfl) (fun _ _ _ h => h) (yieldsIf_load_row rfl 23 (.tmp 7) rfl b7 rfl 23 _ (0, 0) _ (fun w' h => hS_b7 w' h) Try.underlying23 rfl (by kernel_rfl)) HS0 ?_
          change AnyBut _ _ _ _ _ _ _ _ (Act.put _ (some 105) _) _
          (try simp only [Act.put, List.setIfInBounds_toArray, List.set_cons_zero, List.set_cons_succ])
          refine AnyBut.take (i := 12) rfl (by kernel_rfl) (by kernel_rfl) (by kernel_rfl) (by kernel_rfl) (fun _ _ _ h => h) (yieldsIf_load_row rfl 23 (.tmp 8) rfl b8 rfl 23 _ (0, 0) _ (fun w' h => hS_b8 w' h) Try.underlying23 rfl (by kernel_rfl)) HS0 ?_
          change AnyBut _ _ _ _ _ _ _ _ (Act.put _ (some 106) _) _
          (try simp only [Act.put, List.setIfInBounds_toArray, List.set_cons_zero, List.set_cons_succ])
          refine AnyBut.take (i := 13) (v := .bool true) rfl (by kernel_rfl) (by kernel_rfl) (by kernel_rfl) (by kernel_rfl) (fun _ _ _ h => h) (Or.inl ⟨by rfl, ?_⟩) HS0 ?_
          · intro w' hSw
            go_simp
            all_goals (first | rfl | (simp [hq1]; done) | fail)
          change AnyBut _ _ _ _ _ _ _ _ (Act.put _ (some 107) _) _
          (try simp only [Act.put, List.setIfInBounds_toArray, List.set_cons_zero, List.set_cons_succ])
          refine AnyBut.take (i := 14) (v := ?_) rfl (by kernel_rfl) (by kernel_rfl) (by kernel_rfl) (by kernel_rfl) (fun _ _ _ h => h) (Or.inl ⟨by rfl, ?_⟩) HS0 ?_
          rotate_left
          · intro w' hSw
            go_simp
            all_goals (with_reducible rfl)
          change AnyBut _ _ _ _ _ _ _ _ (Act.put _ (some 108) _) _
          (try simp only [Act.put, List.setIfInBounds_toArray, List.set_cons_zero, List.set_cons_succ])
          refine AnyBut.take (i := 15) (v := ?_) rfl (by kernel_rfl) (by kernel_rfl) (by kernel_rfl) (by kernel_rfl) (fun _ _ _ h => h) (Or.inl ⟨by rfl, ?_⟩) HS0 ?_
          rotate_left
          · intro w' hSw
            go_simp
            all_goals (with_reducible rfl)
          change AnyBut _ _ _ _ _ _ _ _ (Act.put _ (some 109) _) _
          (try simp only [Act.put, List.setIfInBounds_toArray, List.set_cons_zero, List.set_cons_succ])
          refine AnyBut.take (i := 16) rfl (by kernel_rfl) (by kernel_rfl) (by kernel_rfl) (by kernel_rfl) (fun _ _ _ h => h) (yieldsIf_load_row rfl 23 (.tmp 7) rfl b7 rfl 23 _ (0, 0) _ (fun w' h => hS_b7 w' h) Try.underlying23 rfl (by kernel_rfl)) HS0 ?_
          change AnyBut _ _ _ _ _ _ _ _ (Act.put _ (some 110) _) _
          (try simp only [Act.put, List.setIfInBounds_toArray, List.set_cons_zero, List.set_cons_succ])
          refine AnyBut.take (i := 17) rfl (by kernel_rfl) (by kernel_rfl) (by kernel_rfl) (by kernel_rfl) (fun _ _ _ h => h) (yieldsIf_load_row rfl 23 (.tmp 9) rfl b9 rfl 23 _ (0, 0) _ (fun w' h => hS_b9 w' h) Try.underlying23 rfl (by kernel_rfl)) HS0 ?_
          change AnyBut _ _ _ _ _ _ _ _ (Act.put _ (some 111) _) _
          (try simp only [Act.put, List.setIfInBounds_toArray, List.set_cons_zero, List.set_cons_succ])
          refine AnyBut.take (i := 18) (v := .bool true) rfl (by kernel_rfl) (by kernel_rfl) (by kernel_rfl) (by kernel_rfl) (fun _ _ _ h => h) (Or.inl ⟨by rfl, ?_⟩) HS0 ?_
          · intro w' hSw
            go_simp
            all_goals (first | rfl | (simp [hq2]; done) | fail)
          change AnyBut _ _ _ _ _ _ _ _ (Act.put _ (some 112) _) _
          (try simp only [Act.put, List.setIfInBounds_toArray, List.set_cons_zero, List.set_cons_succ])
          refine AnyBut.take (i := 19) (v := ?_) rfl (by kernel_rfl) (by kernel_rfl) (by kernel_rfl) (by kernel_rfl) (fun _ _ _ h => h) (Or.inl ⟨by rfl, ?_⟩) HS0 ?_
          rotate_left
          · intro w' hSw
            go_simp
            all_goals (with_reducible rfl)
          change AnyBut _ _ _ _ _ _ _ _ (Act.put _ (some 113) _) _
          (try simp only [Act.put, List.setIfInBounds_toArray, List.set_cons_zero, List.set_cons_succ])
          refine AnyBut.take (i := 20) (v := ?_) rfl (by kernel_rfl) (by kernel_rfl) (by kernel_rfl) (by kernel_rfl) (fun _ _ _ h => h) (Or.inl ⟨by rfl, ?_⟩) HS0 ?_
          rotate_left
          · intro w' hSw
            go_simp
            all_goals (with_reducible rfl)
          change AnyBut _ _ _ _ _ _ _ _ (Act.put _ (some 114) _) _
          (try simp only [Act.put, List.setIfInBounds_toArray, List.set_cons_zero, List.set_cons_succ])
          refine AnyBut.take (i := 21) rfl (by kernel_rfl) (by kernel_rfl) (by kernel_rfl) (by kernel_rfl) (fun _ _ _ h => h) (yieldsIf_load_row rfl 35 (.tmp 10) rfl b10 rfl 35 _ (0, 0) _ (fun w' h => hS_b10 w' h) Try.underlying35 rfl (by kernel_rfl)) HS0 ?_
          change AnyBut _ _ _ _ _ _ _ _ (Act.put _ (some 115) _) _
          (try simp only [Act.put, List.setIfInBounds_toArray, List.set_cons_zero, List.set_cons_succ])
          refine AnyBut.take (i := 22) rfl (by kernel_rfl) (by kernel_rfl) (by kernel_rfl) (by kernel_rfl) (fun _ _ _ h => h) (yieldsIf_load_row rfl 23 (.tmp 7) rfl b7 rfl 23 _ (0, 0) _ (fun w' h => hS_b7 w' h) Try.underlying23 rfl (by kernel_rfl)) HS0 ?_
          change AnyBut _ _ _ _ _ _ _ _ (Act.put _ (some 116) _) _
          (try simp only [Act.put, List.setIfInBounds_toArray, List.set_cons_zero, List.set_cons_succ])
          refine AnyBut.one (i := 23) rfl (by kernel_rfl) (fun K9 hK9 => ?_)
          go_simp
          refine (iCanMake _ none 2 0 [m, n] [] ⟨1, m, n, p2, p3⟩ _ (hS_iB _ HS0) Rd.nil (by simp [maxLen]) (by simp [maxLen])).mono ?_
          rintro e w9 ⟨rfl, hb9⟩
          have HS1 := hSn _ _ HS0 hb9
          clear HS0
          have HS0 := HS1
          clear HS1
          rw [HC1.out]
          refine hK9 _ _ (fun h9 => HS0) ?_
          clear hK9 K9 hb9
          (try simp only [Act.put, List.setIfInBounds_toArray, List.set_cons_zero, List.set_cons_succ])
          refine AnyBut.take (i := 24) (v := ?_) rfl (by kernel_rfl) (by kernel_rfl) (by kernel_rfl) (by kernel_rfl) (fun _ _ _ h => h) (Or.inl ⟨by rfl, ?_⟩) HS0 ?_
          rotate_left
          · intro w' hSw
            go_simp
            all_goals (with_reducible rfl)
          change AnyBut _ _ _ _ _ _ _ _ (Act.put _ (some 118) _) _
          (try simp only [Act.put, List.setIfInBounds_toArray, List.set_cons_zero, List.set_cons_succ])
          refine AnyBut.take (i := 25) (v := ?_) rfl (by kernel_rfl) (by kernel_rfl) (by kernel_rfl) (by kernel_rfl) (fun _ _ _ h => h) (Or.inl ⟨by rfl, ?_⟩) HS0 ?_
          rotate_left
          · intro w' hSw
            go_simp
            all_goals (with_reducible rfl)
          change AnyBut _ _ _ _ _ _ _ _ (Act.put _ (some 119) _) _
          (try simp only [Act.put, List.setIfInBounds_toArray, List.set_cons_zero, List.set_cons_succ])
          refine AnyBut.take (i := 26) rfl (by kernel_rfl) (by kernel_rfl) (by kernel_rfl) (by kernel_rfl) (fun _ _ _ h => h) (yieldsIf_load_row rfl 35 (.tmp 10) rfl b10 rfl 35 _ (0, 0) _ (fun w' h => hS_b10 w' h) Try.underlying35 rfl (by kernel_rfl)) HS0 ?_
          change AnyBut _ _ _ _ _ _ _ _ (Act.put _ (some 120) _) _
          (try simp only [Act.put, List.setIfInBounds_toArray, List.set_cons_zero, List.set_cons_succ])
          refine AnyBut.take (i := 27) rfl (by kernel_rfl) (by kernel_rfl) (by kernel_rfl) (by kernel_rfl) (fun _ _ _ h => h) (yieldsIf_load_row rfl 23 (.tmp 9) rfl b9 rfl 23 _ (0, 0) _ (fun w' h => hS_b9 w' h) Try.underlying23 rfl (by kernel_rfl)) HS0 ?_
          change AnyBut _ _ _ _ _ _ _ _ (Act.put _ (some 121) _) _
          (try simp only [Act.put, List.setIfInBounds_toArray, List.set_cons_zero, List.set_cons_succ])
          refine AnyBut.one (i := 28) rfl (by kernel_rfl) (fun K9 hK9 => ?_)
          go_simp
          refine (iCanMake _ none 2 0 [m, n] [] ⟨1, n, m, p2, p3⟩ _ (hS_iB _ HS0) Rd.nil (by simp [maxLen]) (by simp [maxLen])).mono ?_
          rintro e w9 ⟨rfl, hb9⟩
          have HS1 := hSn _ _ HS0 hb9
          clear HS0
          have HS0 := HS1
          clear HS1
          rw [HC2.out]
          refine hK9 _ _ (fun h9 => HS0) ?_
          clear hK9 K9 hb9
          (try simp only [Act.put, List.setIfInBounds_toArray, List.set_cons_zero, List.set_cons_succ])
          refine AnyBut.take (i := 29) (v := ?_) rfl (by kernel_rfl) (by kernel_rfl) (by kernel_rfl) (by kernel_rfl) (fun _ _ _ h => h) (Or.inl ⟨by rfl, ?_⟩) HS0 ?_
          rotate_left
          · intro w' hSw
            go_simp
            all_goals (with_reducible rfl)
          change AnyBut _ _ _ _ _ _ _ _ (Act.put _ (some 123) _) _
          (try simp only [Act.put, List.setIfInBounds_toArray, List.set_cons_zero, List.set_cons_succ])
          refine AnyBut.take (i := 30) (v := ?_) rfl (by kernel_rfl) (by kernel_rfl) (by kernel_rfl) (by kernel_rfl) (fun _ _ _ h => h) (Or.inl ⟨by rfl, ?_⟩) HS0 ?_
          rotate_left
          · intro w' hSw
            go_simp
            all_goals (with_reducible rfl)
          change AnyBut _ _ _ _ _ _ _ _ (Act.put _ (some 124) _) _
          (try simp only [Act.put, List.setIfInBounds_toArray, List.set_cons_zero, List.set_cons_succ])
          refine AnyBut.take (i := 31) rfl (by kernel_rfl) (by kernel_rfl) (by kernel_rfl) (by kernel_rfl) (fun _ _ _ h => h) (yieldsIf_load_row rfl 35 (.tmp 11) rfl b11 rfl 35 _ (0, 0) _ (fun w' h => hS_b11 w' h) Try.underlying35 rfl (by kernel_rfl)) HS0 ?_
          change AnyBut _ _ _ _ _ _ _ _ (Act.put _ (some 125) _) _
          (try simp only [Act.put, List.setIfInBounds_toArray, List.set_cons_zero, List.set_cons_succ])
          refine AnyBut.take (i := 32) rfl (by kernel_rfl) (by kernel_rfl) (by kernel_rfl) (by kernel_rfl) (fun _ _ _ h => h) (yieldsIf_load_row rfl 23 (.tmp 7) rfl b7 rfl 23 _ (0, 0) _ (fun w' h => hS_b7 w' h) Try.underlying23 rfl (by kernel_rfl)) HS0 ?_
          change AnyBut _ _ _ _ _ _ _ _ (Act.put _ (some 126) _) _
          (try simp only [Act.put, List.setIfInBounds_toArray, List.set_cons_zero, List.set_cons_succ])
          refine AnyBut.one (i := 33) rfl (by kernel_rfl) (fun K9 hK9 => ?_)
          go_simp
          refine (iCanMake _ none 2 0 [m, 5000] [] ⟨1, m, n, p2, p3⟩ _ (hS_iH _ HS0) Rd.nil (by simp [maxLen]) (by simp [maxLen])).mono ?_
          rintro e w9 ⟨rfl, hb9⟩
          have HS1 := hSn _ _ HS0 hb9
          clear HS0
          have HS0 := HS1
          clear HS1
          rw [HC3.out]
          refine hK9 _ _ (fun h9 => HS0) ?_
          clear hK9 K9 hb9
          (try simp only [Act.put, List.setIfInBounds_toArray, List.set_cons_zero, List.set_cons_succ])
          refine AnyBut.take (i := 34) (v := ?_) rfl (by kernel_rfl) (by kernel_rfl) (by kernel_rfl) (by kernel_rfl) (fun _ _ _ h => h) (Or.inl ⟨by rfl, ?_⟩) HS0 ?_
          rotate_left
          · intro w' hSw
            go_simp
            all_goals (with_reducible rfl)
          change AnyBut _ _ _ _ _ _ _ _ (Act.put _ (some 128) _) _
          (try simp only [Act.put, List.setIfInBounds_toArray, List.set_cons_zero, List.set_cons_succ])
          refine AnyBut.take (i := 35) (v := ?_) rfl (by kernel_rfl) (by kernel_rfl) (by kernel_rfl) (by kernel_rfl) (fun _ _ _ h => h) (Or.inl ⟨by rfl, ?_⟩) HS0 ?_
          rotate_left
          · intro w' hSw
            go_simp
            all_goals (with_reducible rfl)
          change AnyBut _ _ _ _ _ _ _ _ (Act.put _ (some 129) _) _
          (try simp only [Act.put, List.setIfInBounds_toArray, List.set_cons_zero, List.set_cons_succ])
          refine AnyBut.take (i := 36) (v := ?_) rfl (by kernel_rfl) (by kernel_rfl) (by kernel_rfl) (by kernel_rfl) (fun _ _ _ h => h) (Or.inl ⟨by rfl, ?_⟩) HS0 ?_
          rotate_left
          · intro w' hSw
            go_simp
            all_goals (with_reducible rfl)
          change AnyBut _ _ _ _ _ _ _ _ (Act.put _ (some 130) _) _
          (try simp only [Act.put, List.setIfInBounds_toArray, List.set_cons_zero, List.set_cons_succ])
          refine AnyBut.take (i := 37) rfl (by kernel_rfl) (by kernel_rfl) (by kernel_rfl) (by kernel_rfl) (fun _ _ _ h => h) (yieldsIf_load_row rfl 35 (.tmp 11) rfl b11 rfl 35 _ (0, 0) _ (fun w' h => hS_b11 w' h) Try.underlying35 rfl (by kernel_rfl)) HS0 ?_
          change AnyBut _ _ _ _ _ _ _ _ (Act.put _ (some 131) _) _
          (try simp only [Act.put, List.setIfInBounds_toArray, List.set_cons_zero, List.set_cons_succ])
          refine AnyBut.take (i := 38) rfl (by kernel_rfl) (by kernel_rfl) (by kernel_rfl) (by kernel_rfl) (fun _ _ _ h => h) (yieldsIf_load_row rfl 23 (.tmp 7) rfl b7 rfl 23 _ (0, 0) _ (fun w' h => hS_b7 w' h) Try.underlying23 rfl (by kernel_rfl)) HS0 ?_
          change AnyBut _ _ _ _ _ _ _ _ (Act.put _ (some 132) _) _
          (try simp only [Act.put, List.setIfInBounds_toArray, List.set_cons_zero, List.set_cons_succ])
          refine AnyBut.take (i := 40) rfl (by kernel_rfl) (by kernel_rfl) (by kernel_rfl) (by kernel_rfl) (fun _ _ _ h => h) (yieldsIf_load_row rfl 23 (.tmp 7) rfl b7 rfl 23 _ (0, 0) _ (fun w' h => hS_b7 w' h) Try.underlying23 rfl (by kernel_rfl)) HS0 ?_
          change AnyBut _ _ _ _ _ _ _ _ (Act.put _ (some 134) _) _
          (try simp only [Act.put, List.setIfInBounds_toArray, List.set_cons_zero, List.set_cons_succ])
          refine AnyBut.one (i := 39) rfl (by kernel_rfl) (fun K9 hK9 => ?_)
          go_simp
          refine (iLearn _ none 2 0 [m, 5000] [] ⟨1, m, n, p2, p3⟩ _ (hS_iH _ HS0) Rd.nil (by simp [maxLen]) (by simp [maxLen])).mono ?_
          rintro e w9 ⟨A7, k7, C7, l7, rfl, KN, hb9⟩
          have HS1 := hSn _ _ HS0 hb9
          clear HS0
          have HS0 := HS1
          clear HS1
          rw [HC4.out] at KN
          try rw [HC4.out]
          have HKN := Lib.hid KN
          clear KN
          refine hK9 _ _ (fun h9 => HS0) ?_
          clear hK9 K9 hb9
          (try simp only [Act.put, List.setIfInBounds_toArray, List.set_cons_zero, List.set_cons_succ])
          refine AnyBut.one (i := 41) rfl (by kernel_rfl) (fun K9 hK9 => ?_)
          go_simp
          refine (iCanMake A7 C7 k7 l7 [m, 5000] [⟨1, m, n, p2, p3⟩] ⟨1, m, n, p2, p3⟩ _ HKN.out.rdK HKN.out.rdT (by simp [maxLen]) (by simp [maxLen])).mono ?_
          rintro e w9 ⟨rfl, hb9⟩
          have HS1 := hSn _ _ HS0 hb9
          clear HS0
          have HS0 := HS1
          clear HS1
          rw [HC5.out]
          clear HKN
          refine hK9 _ _ (fun h9 => HS0) ?_
          clear hK9 K9 hb9
          (try simp only [Act.put, List.setIfInBounds_toArray, List.set_cons_zero, List.set_cons_succ])
          refine AnyBut.take (i := 42) (v := ?_) rfl (by kernel_rfl) (by kernel_rfl) (by kernel_rfl) (by kernel_rfl) (fun _ _ _ h => h) (Or.inl ⟨by rfl, ?_⟩) HS0 ?_
          rotate_left
          · intro w' hSw
            go_simp
            all_goals (with_reducible rfl)
          change AnyBut _ _ _ _ _ _ _ _ (Act.put _ (some 136) _) _
          (try simp only [Act.put, List.setIfInBounds_toArray, List.set_cons_zero, List.set_cons_succ])
          refine AnyBut.take (i := 43) (v := ?_) rfl (by kernel_rfl) (by kernel_rfl) (by kernel_rfl) (by kernel_rfl) (fun _ _ _ h => h) (Or.inl ⟨by rfl, ?_⟩) HS0 ?_
          rotate_left
          · intro w' hSw
            go_simp
            all_goals (with_reducible rfl)
          change AnyBut _ _ _ _ _ _ _ _ (Act.put _ (some 137) _) _
          (try simp only [Act.put, List.setIfInBounds_toArray, List.set_cons_zero, List.set_cons_succ])
          refine AnyBut.one (i := 44) rfl (by kernel_rfl) (fun K9 hK9 => ?_)
          go_simp
          refine (iTagAddr' 1 2 3 4 _).mono ?_
          rintro e w9 ⟨rfl, hb9⟩
          have HS1 := hSn _ _ HS0 hb9
          clear HS0
          have HS0 := HS1
          clear HS1
          refine hK9 _ _ (fun h9 => HS0) ?_
          clear hK9 K9 hb9
          (try simp only [Act.put, List.setIfInBounds_toArray, List.set_cons_zero, List.set_cons_succ])
          refine AnyBut.one (i := 45) rfl (by kernel_rfl) (fun K9 hK9 => ?_)
          go_simp
          refine (sTagAddr' 1 2 3 4 _).mono ?_
          rintro e w9 ⟨rfl, hb9⟩
          have HS1 := hSn _ _ HS0 hb9
          clear HS0
          have HS0 := HS1
          clear HS1
          refine hK9 _ _ (fun h9 => HS0) ?_
          clear hK9 K9 hb9
          (try simp only [Act.put, List.setIfInBounds_toArray, List.set_cons_zero, List.set_cons_succ])
          refine AnyBut.take (i := 46) (v := .bool true) rfl (by kernel_rfl) (by kernel_rfl) (by kernel_rfl) (by kernel_rfl) (fun _ _ _ h => h) (Or.inl ⟨by rfl, ?_⟩) HS0 ?_
          · intro w' hSw
            go_simp
            all_goals (first | rfl | (simp [hq3]; done) | fail)
          change AnyBut _ _ _ _ _ _ _ _ (Act.put _ (some 140) _) _
          (try simp only [Act.put, List.setIfInBounds_toArray, List.set_cons_zero, List.set_cons_succ])
          refine AnyBut.take (i := 47) (v := ?_) rfl (by kernel_rfl) (by kernel_rfl) (by kernel_rfl) (by kernel_rfl) (fun _ _ _ h => h) (Or.inl ⟨by rfl, ?_⟩) HS0 ?_
          rotate_left
          · intro w' hSw
            go_simp
            all_goals (with_reducible rfl)
          change AnyBut _ _ _ _ _ _ _ _ (Act.put _ (some 141) _) _
          (try simp only [Act.put, List.setIfInBounds_toArray, List.set_cons_zero, List.set_cons_succ])
          refine AnyBut.one (i := 48) rfl (by kernel_rfl) (fun K9 hK9 => ?_)
          go_simp
          refine hK9 _ _ (fun h9 => absurd rfl h9) ?_
          clear hK9 K9
          (try simp only [Act.put, List.setIfInBounds_toArray, List.set_cons_zero, List.set_cons_succ])
          refine AnyBut.done (by kernel_rfl) ?_ _
          have hBF := hSb _ HS0
          go_wp2
          go_ret
          exact ⟨rfl, hBF⟩
end Go.Proofs.Ytomjfhcfellikaa
