/- The plain model of PutPiece: what it computes, and its laws. No program in sight. -/
import Derived.Test.YtpjbnfpadbknpaaPiecesOk
namespace Go.Proofs.Ytpjbnfpadbknpaa
set_option linter.unusedSimpArgs false
set_option linter.unusedVariables false

/-- Where a piece ends. -/
def PieceD.e (x : PieceD) : Int := x.fAt + x.fText.size
/-- One piece of two that overlap or touch: the bytes of the first stay. -/
def joinV (a b : PieceD) : PieceD :=
  if b.fAt < a.fAt then ⟨b.fAt, b.fText.extract 0 (a.fAt - b.fAt).toNat ++ a.fText ++ b.fText.extract ((a.fAt - b.fAt).toNat + a.fText.size) b.fText.size⟩
  else ⟨a.fAt, a.fText ++ b.fText.extract (a.e - b.fAt).toNat b.fText.size⟩
/-- One round of the loop: what has been laid out, the piece that is put, and whether it has been laid. -/
def putStep (st : List PieceD × PieceD × Bool) (x : PieceD) : List PieceD × PieceD × Bool :=
  if x.e < st.2.1.fAt then (st.1 ++ [x], st.2.1, st.2.2)
  else if st.2.1.e < x.fAt then ((if st.2.2 then st.1 else st.1 ++ [st.2.1]) ++ [x], st.2.1, true)
  else (st.1, joinV x st.2.1, st.2.2)
def putTo (o : PieceD) (L : List PieceD) (k : Nat) : List PieceD × PieceD × Bool := (L.take k).foldl putStep ([], o, false)
/-- What the loop has laid out in the end. -/
def putOut (st : List PieceD × PieceD × Bool) : List PieceD := if st.2.2 then st.1 else st.1 ++ [st.2.1]
/-- The piece that is put, without what is there already. -/
def trimV (nx at_ : Int) (t : ByteArray) : PieceD := if at_ < nx then ⟨nx, t.extract (min (nx - at_).toNat t.size) t.size⟩ else ⟨at_, t⟩
/-- The text that can be read, and the list, behind the loop. -/
def headV (nx : Int) (s : ByteArray) (O : List PieceD) : ByteArray × List PieceD := if (nthP O 0).fAt = nx then (s ++ (nthP O 0).fText, O.drop 1) else (s, O)
def coreV (r : Int) (s : ByteArray) (L : List PieceD) (o : PieceD) : ByteArray × List PieceD := headV (r + s.size) s (putOut (putTo o L L.length))
/-- Whether PutPiece takes the piece. -/
def putOk (r : Int) (s : ByteArray) (L : List PieceD) (at_ : Int) (t : ByteArray) : Bool :=
  piecesOk r s L && (winB at_ 0 1000000000 && (winB t.size 1 200 && ((trimV (r + s.size) at_ t).fText.size != 0 && piecesOk r (coreV r s L (trimV (r + s.size) at_ t)).1 (coreV r s L (trimV (r + s.size) at_ t)).2)))
/-- What PutPiece computes. -/
def putV (r : Int) (s : ByteArray) (L : List PieceD) (at_ : Int) (t : ByteArray) : ByteArray × List PieceD := if putOk r s L at_ t then coreV r s L (trimV (r + s.size) at_ t) else (s, L)

theorem putTo_zero (o : PieceD) (L : List PieceD) : putTo o L 0 = ([], o, false) := rfl
theorem putTo_succ {o : PieceD} {L : List PieceD} {k : Nat} (h : k < L.length) : putTo o L (k + 1) = putStep (putTo o L k) L[k] := by
  unfold putTo
  rw [List.take_succ_eq_append_getElem h, List.foldl_append]
  rfl
theorem sumT_one (x : PieceD) : sumT [x] = x.fText.size := by simp [sumT]
theorem ext_size (b : ByteArray) (i j : Nat) : (b.extract i j).size = min j b.size - i := by simp
theorem app_size (a b : ByteArray) : (a ++ b).size = a.size + b.size := ByteArray.size_append
theorem joinV_size (a b : PieceD) : (joinV a b).fText.size ≤ a.fText.size + b.fText.size := by
  unfold joinV
  split
  · simp only [app_size, ext_size]; omega
  · simp only [app_size, ext_size]; omega
theorem joinV_at (a b : PieceD) : (joinV a b).fAt = min a.fAt b.fAt := by
  unfold joinV
  split
  · show b.fAt = _; omega
  · show a.fAt = _; omega
theorem joinV_e {a b : PieceD} (h1 : b.fAt ≤ a.e) (h2 : a.fAt ≤ b.e) : (joinV a b).e = max a.e b.e := by
  unfold PieceD.e at *
  unfold joinV
  split
  · simp only [app_size, ext_size]; omega
  · simp only [app_size, ext_size, PieceD.e]; omega
/-- The chain of PiecesOk as a recursion. -/
def Chain : Int → List PieceD → Prop
  | _, [] => True
  | e0, x :: L => x.fText.size ≠ 0 ∧ e0 < x.fAt ∧ x.fAt ≤ 2000000000 ∧ Chain x.e L
theorem chainOk_cons (e0 : Int) (x : PieceD) (L : List PieceD) : chainOk e0 (x :: L) = (stepOk e0 x && chainOk x.e L) := by
  unfold chainOk
  rw [List.length_cons, List.range_succ_eq_map, List.all_cons, List.all_map]
  have h0 : pokB e0 (x :: L) 0 = stepOk e0 x := by simp [pokB, endTo, nthP]
  rw [h0]
  congr 1
  congr 1
  funext k
  simp only [Function.comp, pokB]
  have h1 : nthP (x :: L) (k + 1) = nthP L k := by simp [nthP]
  have h2 : endTo e0 (x :: L) (k + 1) = endTo x.e L k := by
    unfold endTo
    cases k with
    | zero => simp [nthP, PieceD.e]
    | succ k => simp [nthP]
  show stepOk (endTo e0 (x :: L) (k + 1)) (nthP (x :: L) (k + 1)) = _
  rw [h1, h2]
theorem chain_iff (e0 : Int) (L : List PieceD) : chainOk e0 L = true ↔ Chain e0 L := by
  induction L generalizing e0 with
  | nil => simp [chainOk, Chain]
  | cons x L ih => rw [chainOk_cons, Bool.and_eq_true, ih]; simp [stepOk, Chain, and_assoc]
theorem Chain.mono {e0 e1 : Int} {L : List PieceD} (h : Chain e0 L) (he : e1 ≤ e0) : Chain e1 L := by
  cases L with
  | nil => trivial
  | cons x L => exact ⟨h.1, by have := h.2.1; omega, h.2.2⟩
theorem Chain.mem {e0 : Int} {L : List PieceD} (h : Chain e0 L) : ∀ x ∈ L, x.fText.size ≠ 0 ∧ e0 < x.fAt ∧ x.fAt ≤ 2000000000 := by
  induction L generalizing e0 with
  | nil => intro x hx; simp at hx
  | cons y L ih =>
    intro x hx
    rcases List.mem_cons.1 hx with rfl | hx
    · exact ⟨h.1, h.2.1, h.2.2.1⟩
    · have := ih h.2.2.2 x hx
      have h1 := h.2.1
      unfold PieceD.e at this
      exact ⟨this.1, by omega, this.2.2⟩
/-- What a valid Pieces says of its parts. -/
theorem pok_parts {r : Int} {s : ByteArray} {L : List PieceD} (h : piecesOk r s L = true) : 0 ≤ r ∧ r ≤ 1000000000 ∧ L.length ≤ 20 ∧ s.size + sumT L ≤ 200 ∧ Chain (r + s.size) L := by
  unfold piecesOk winB heldV at h
  simp only [Bool.and_eq_true, decide_eq_true_eq] at h
  exact ⟨h.1.1, h.1.2, h.2.1, by have := h.2.2.1; omega, (chain_iff _ _).1 h.2.2.2⟩
theorem pok_of {r : Int} {s : ByteArray} {L : List PieceD} (h1 : 0 ≤ r) (h2 : r ≤ 1000000000) (h3 : L.length ≤ 20) (h4 : s.size + sumT L ≤ 200) (h5 : Chain (r + s.size) L) : piecesOk r s L = true := by
  unfold piecesOk winB heldV
  simp only [Bool.and_eq_true, decide_eq_true_eq]
  exact ⟨⟨h1, h2⟩, h3, by omega, (chain_iff _ _).2 h5⟩
/-- Bounds on what the loop holds. -/
theorem putTo_bd {o : PieceD} {L : List PieceD} {B : Nat} (ho : o.fText.size ≤ 200) (ho0 : 0 ≤ o.fAt) (ho1 : o.fAt ≤ 2000000000) (hL : ∀ x ∈ L, 0 ≤ x.fAt ∧ x.fAt ≤ 2000000000) (hs : sumT L ≤ 200) : ∀ k, k ≤ L.length →
    (putTo o L k).2.1.fText.size ≤ 200 + sumT (L.take k) ∧ 0 ≤ (putTo o L k).2.1.fAt ∧ (putTo o L k).2.1.fAt ≤ 2000000000 ∧ (putTo o L k).1.length ≤ k + (if (putTo o L k).2.2 then 1 else 0) ∧ sumT (putTo o L k).1 ≤ sumT (L.take k) + (if (putTo o L k).2.2 then 400 else 0) := by
  intro k
  induction k with
  | zero => intro _; rw [putTo_zero]; simp [sumT, ho, ho0, ho1]
  | succ k ih =>
    intro hk
    have hlt : k < L.length := by omega
    obtain ⟨i1, i2, i3, i4, i5⟩ := ih (by omega)
    have hsu := sumT_succ hlt
    have hle := sumT_take L (k + 1)
    have hx := hL L[k] (List.getElem_mem hlt)
    rw [putTo_succ hlt]
    generalize putTo o L k = st at *
    obtain ⟨O, y, d⟩ := st
    unfold putStep
    cases d
    all_goals
      simp only [if_true, if_false, Bool.false_eq_true] at i1 i2 i3 i4 i5 ⊢
      split
      · simp only [if_true, if_false, Bool.false_eq_true, List.length_append, List.length_cons, List.length_nil, sumT_app, sumT_one]
        refine ⟨by omega, i2, i3, by omega, by omega⟩
      · split
        · simp only [if_true, if_false, Bool.false_eq_true, List.length_append, List.length_cons, List.length_nil, sumT_app, sumT_one]
          refine ⟨by omega, i2, i3, by omega, by omega⟩
        · have hj := joinV_size L[k] y
          have ha := joinV_at L[k] y
          simp only [if_true, if_false, Bool.false_eq_true]
          exact ⟨by omega, by omega, by omega, by omega, by omega⟩
end Go.Proofs.Ytpjbnfpadbknpaa
