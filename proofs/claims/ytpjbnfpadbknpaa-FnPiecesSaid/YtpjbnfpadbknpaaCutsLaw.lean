/- Plain law of FnPieces: pieces of a text that leave nothing out come to the whole text. No program in sight. -/
import Derived.Test.YtpjbnfpadbknpaaPutLaw
namespace Go.Proofs.Ytpjbnfpadbknpaa
set_option linter.unusedSimpArgs false
set_option linter.unusedVariables false

/-- A piece of the text T. -/
structure PieceOf (T : ByteArray) (x : PieceD) : Prop where
  lo : 0 ≤ x.fAt
  hi : x.e ≤ T.size
  tx : x.fText = T.extract x.fAt.toNat x.e.toNat
  ne : x.fText.size ≠ 0
/-- It has two bytes at least, or ends where T ends. -/
def Two (T : ByteArray) (x : PieceD) : Prop := 2 ≤ x.fText.size ∨ x.e = T.size
theorem join_of {T : ByteArray} {a b : PieceD} (ha : PieceOf T a) (hb : PieceOf T b) (h1 : b.fAt ≤ a.e) (h2 : a.fAt ≤ b.e) : PieceOf T (joinV a b) := by
  have hat := joinV_at a b
  have he := joinV_e h1 h2
  have hsz : ((joinV a b).fText.size : Int) = max a.e b.e - min a.fAt b.fAt := by rw [← he, ← hat]; unfold PieceD.e; omega
  have h3 := ha.lo
  have h4 := hb.lo
  have h5 := ha.hi
  have h6 := hb.hi
  have h7 := a.at_le
  have h8 := b.at_le
  have h9 := ha.ne
  have ea : a.e = a.fAt + a.fText.size := rfl
  have eb : b.e = b.fAt + b.fText.size := rfl
  refine ⟨by omega, by omega, ?_, by omega⟩
  rw [hat, he]
  unfold joinV
  split
  · show b.fText.extract 0 (a.fAt - b.fAt).toNat ++ a.fText ++ b.fText.extract ((a.fAt - b.fAt).toNat + a.fText.size) b.fText.size = _
    have t1 : b.fText.extract 0 (a.fAt - b.fAt).toNat = T.extract b.fAt.toNat a.fAt.toNat := by
      rw [hb.tx, ByteArray.extract_extract]; congr 1; omega
    have t2 : b.fText.extract ((a.fAt - b.fAt).toNat + a.fText.size) b.fText.size = T.extract a.e.toNat b.e.toNat := by
      conv => lhs; rw [hb.tx]
      rw [ByteArray.extract_extract, ByteArray.size_extract]; congr 1 <;> omega
    rw [t1, t2, ha.tx, ByteArray.extract_append_extract, show max a.fAt.toNat a.e.toNat = a.e.toNat from by omega, ByteArray.extract_append_extract]
    congr 1 <;> omega
  · show a.fText ++ b.fText.extract (a.e - b.fAt).toNat b.fText.size = _
    have t2 : b.fText.extract (a.e - b.fAt).toNat b.fText.size = T.extract a.e.toNat b.e.toNat := by
      conv => lhs; rw [hb.tx]
      rw [ByteArray.extract_extract, ByteArray.size_extract]; congr 1 <;> omega
    rw [t2, ha.tx, ByteArray.extract_append_extract]
    congr 1 <;> omega
theorem join_two {T : ByteArray} {a b : PieceD} (ha : PieceOf T a) (hb : PieceOf T b) (h1 : b.fAt ≤ a.e) (h2 : a.fAt ≤ b.e) (h : Two T b) : Two T (joinV a b) := by
  have hat := joinV_at a b
  have he := joinV_e h1 h2
  have hsz : ((joinV a b).fText.size : Int) = max a.e b.e - min a.fAt b.fAt := by rw [← he, ← hat]; unfold PieceD.e; omega
  have h5 := ha.hi
  have h6 := hb.hi
  have ea : a.e = a.fAt + a.fText.size := rfl
  have eb : b.e = b.fAt + b.fText.size := rfl
  rcases h with h | h
  · exact .inl (by omega)
  · exact .inr (by rw [he]; omega)
/-- PutPiece's list, as a recursion (for lists that are a chain). -/
def putRec (o : PieceD) : List PieceD → List PieceD
  | [] => [o]
  | x :: L => if x.e < o.fAt then x :: putRec o L else if o.e < x.fAt then o :: x :: L else putRec (joinV x o) L
theorem fold_rec (L : List PieceD) : ∀ (e0 : Int) (o : PieceD) (acc : List PieceD), Chain e0 L → putOut (L.foldl putStep (acc, o, false)) = acc ++ putRec o L := by
  induction L with
  | nil => intro e0 o acc _; rfl
  | cons x L ih =>
    intro e0 o acc h
    rw [List.foldl_cons]
    unfold putRec
    by_cases g1 : x.e < o.fAt
    · have e1 : putStep (acc, o, false) x = (acc ++ [x], o, false) := by unfold putStep; rw [if_pos g1]
      rw [e1, if_pos g1, ih x.e o _ h.2.2.2]; simp
    · rw [if_neg g1]
      by_cases g2 : o.e < x.fAt
      · have hlt := chain_lt h.2.2.2
        have h4 := x.at_le
        have e1 : putStep (acc, o, false) x = (acc ++ [o] ++ [x], o, true) := by unfold putStep; simp only; rw [if_neg g1, if_pos g2]; rfl
        rw [e1, if_pos g2, fold_post L o _ (fun y hy => by have := hlt y hy; omega)]
        simp [putOut]
      · have e1 : putStep (acc, o, false) x = (acc, joinV x o, false) := by unfold putStep; simp only; rw [if_neg g1, if_neg g2]
        rw [e1, if_neg g2]
        exact ih x.e _ _ h.2.2.2
theorem put_rec {e0 : Int} {L : List PieceD} (o : PieceD) (h : Chain e0 L) : putOut (putTo o L L.length) = putRec o L := by
  rw [putTo_all, fold_rec L e0 o [] h, List.nil_append]
theorem rec_chain (L : List PieceD) : ∀ (e0 : Int) (o : PieceD), Chain e0 L → e0 < o.fAt → o.fText.size ≠ 0 → o.fAt ≤ 2000000000 → Chain e0 (putRec o L) := by
  induction L with
  | nil => intro e0 o _ h1 h2 h3; exact ⟨h2, h1, h3, trivial⟩
  | cons x L ih =>
    intro e0 o h h1 h2 h3
    have h4 := x.at_le
    have h5 := h.2.1
    unfold putRec
    split
    · rename_i g; exact ⟨h.1, h5, h.2.2.1, ih x.e o h.2.2.2 g h2 h3⟩
    · split
      · rename_i g; exact ⟨h2, h1, h3, h.1, g, h.2.2⟩
      · have hat := joinV_at x o
        have he := joinV_e (a := x) (b := o) (by omega) (by omega)
        have ej : (joinV x o).e = (joinV x o).fAt + (joinV x o).fText.size := rfl
        have eo : o.e = o.fAt + o.fText.size := rfl
        exact ih e0 _ (h.2.2.2.mono (by omega)) (by omega) (by omega) (by omega)
theorem rec_of {T : ByteArray} (L : List PieceD) : ∀ (o : PieceD), PieceOf T o → (∀ x ∈ L, PieceOf T x) → ∀ y ∈ putRec o L, PieceOf T y := by
  induction L with
  | nil => intro o h _ y hy; simp only [putRec, List.mem_singleton] at hy; subst hy; exact h
  | cons x L ih =>
    intro o h hL y hy
    unfold putRec at hy
    split at hy
    · rcases List.mem_cons.1 hy with rfl | hy
      · exact hL _ (by simp)
      · exact ih o h (fun z hz => hL z (by simp [hz])) y hy
    · split at hy
      · rcases List.mem_cons.1 hy with rfl | hy
        · exact h
        · exact hL y hy
      · exact ih _ (join_of (hL x (by simp)) h (by omega) (by omega)) (fun z hz => hL z (by simp [hz])) y hy
theorem rec_two {T : ByteArray} (L : List PieceD) : ∀ (o : PieceD), PieceOf T o → Two T o → (∀ x ∈ L, PieceOf T x ∧ Two T x) → ∀ y ∈ putRec o L, Two T y := by
  induction L with
  | nil => intro o _ h _ y hy; simp only [putRec, List.mem_singleton] at hy; subst hy; exact h
  | cons x L ih =>
    intro o ho h hL y hy
    unfold putRec at hy
    split at hy
    · rcases List.mem_cons.1 hy with rfl | hy
      · exact (hL _ (by simp)).2
      · exact ih o ho h (fun z hz => hL z (by simp [hz])) y hy
    · split at hy
      · rcases List.mem_cons.1 hy with rfl | hy
        · exact h
        · exact (hL y hy).2
      · have hx := (hL x (by simp)).1
        exact ih _ (join_of hx ho (by omega) (by omega)) (join_two hx ho (by omega) (by omega) h) (fun z hz => hL z (by simp [hz])) y hy
/-- A place that a list's pieces cover. -/
def CovBy (L : List PieceD) (i : Int) : Prop := ∃ x ∈ L, x.fAt ≤ i ∧ i < x.e
theorem rec_cov (L : List PieceD) : ∀ (o : PieceD) (i : Int), (o.fAt ≤ i ∧ i < o.e) ∨ CovBy L i → CovBy (putRec o L) i := by
  induction L with
  | nil =>
    intro o i h
    rcases h with h | ⟨x, hx, _⟩
    · exact ⟨o, by simp [putRec], h⟩
    · simp at hx
  | cons x L ih =>
    intro o i h
    unfold putRec
    split
    · rcases h with h | ⟨y, hy, h⟩
      · obtain ⟨z, hz, h⟩ := ih o i (.inl h); exact ⟨z, by simp [hz], h⟩
      · rcases List.mem_cons.1 hy with rfl | hy
        · exact ⟨y, by simp, h⟩
        · obtain ⟨z, hz, h⟩ := ih o i (.inr ⟨y, hy, h⟩); exact ⟨z, by simp [hz], h⟩
    · split
      · rcases h with h | ⟨y, hy, h⟩
        · exact ⟨o, by simp, h⟩
        · exact ⟨y, by simp at hy ⊢; exact .inr hy, h⟩
      · obtain ⟨c1, c2⟩ := joinV_cov (a := x) (b := o) (by omega) (by omega)
        unfold Cov at c1 c2
        rcases h with h | ⟨y, hy, h⟩
        · exact ih _ i (.inl ⟨by omega, by omega⟩)
        · rcases List.mem_cons.1 hy with rfl | hy
          · exact ih _ i (.inl ⟨by omega, by omega⟩)
          · exact ih _ i (.inr ⟨y, hy, h⟩)
theorem rec_head (L : List PieceD) : ∀ (e0 : Int) (o : PieceD), Chain e0 L → o.fAt ≤ e0 → ∃ f R, putRec o L = f :: R ∧ f.fAt = o.fAt ∧ ∀ x ∈ R, x ∈ L := by
  induction L with
  | nil => intro e0 o _ _; exact ⟨o, [], rfl, rfl, fun x hx => hx⟩
  | cons x L ih =>
    intro e0 o h h1
    have h2 := h.2.1
    have h3 := x.at_le
    unfold putRec
    rw [if_neg (by omega)]
    split
    · exact ⟨o, x :: L, rfl, rfl, fun y hy => hy⟩
    · have hat := joinV_at x o
      obtain ⟨f, R, e, hf, hR⟩ := ih e0 (joinV x o) (h.2.2.2.mono (by omega)) (by omega)
      exact ⟨f, R, e, by omega, fun y hy => by simp [hR y hy]⟩
/-- What has been put together of T: a beginning, and pieces behind it. -/
structure Good (T S : ByteArray) (L : List PieceD) : Prop where
  le : S.size ≤ T.size
  tx : S = T.extract 0 S.size
  ch : Chain S.size L
  of : ∀ x ∈ L, PieceOf T x
  two : ∀ x ∈ L, Two T x
def Has (S : ByteArray) (L : List PieceD) (i : Int) : Prop := i < S.size ∨ CovBy L i
theorem chain_count {T : ByteArray} (L : List PieceD) : ∀ (e0 : Int), Chain e0 L → e0 ≤ T.size → (∀ x ∈ L, PieceOf T x ∧ Two T x) → 3 * (L.length : Int) + e0 ≤ T.size + 1 ∧ e0 + sumT L ≤ T.size := by
  induction L with
  | nil => intro e0 _ h _; simp [sumT]; omega
  | cons x L ih =>
    intro e0 h h0 hL
    obtain ⟨hx, h2⟩ := hL x (by simp)
    have hh := hx.hi
    have ex : x.e = x.fAt + x.fText.size := rfl
    have h5 := h.2.1
    obtain ⟨i1, i2⟩ := ih x.e h.2.2.2 hh (fun z hz => hL z (by simp [hz]))
    rw [show sumT (x :: L) = x.fText.size + sumT L from rfl]
    simp only [List.length_cons]
    rcases h2 with h2 | h2
    · omega
    · cases L with
      | nil =>
        have h11 := h.1
        simp only [List.length_nil, sumT]
        omega
      | cons y L =>
        exfalso
        have hy := (hL y (by simp)).1
        have := h.2.2.2.2.1
        have := hy.hi
        have := y.at_le
        omega
theorem good_ok {T S : ByteArray} {L : List PieceD} (h : Good T S L) (hT : T.size ≤ 60) : piecesOk 0 S L = true := by
  obtain ⟨h1, h2⟩ := chain_count L S.size h.ch (by have := h.le; omega) (fun x hx => ⟨h.of x hx, h.two x hx⟩)
  refine pok_of (by omega) (by omega) (by omega) (by omega) ?_
  rw [Int.zero_add]; exact h.ch
theorem good_put {T S : ByteArray} {L : List PieceD} {a : Int} {t : ByteArray} (h : Good T S L) (hT : T.size ≤ 60) (hp : PieceOf T ⟨a, t⟩) (h2 : Two T ⟨a, t⟩) :
    Good T (putV 0 S L a t).1 (putV 0 S L a t).2 ∧ ∀ i : Int, Has S L i ∨ (a ≤ i ∧ i < a + t.size) → Has (putV 0 S L a t).1 (putV 0 S L a t).2 i := by
  have hok := good_ok h hT
  have p1 := hp.lo
  have p2 := hp.hi
  have p3 := hp.ne
  have p4 := hp.tx
  have hle := h.le
  unfold PieceD.e at p2 p4
  simp only at p1 p2 p3 p4
  obtain ⟨o, ho⟩ : ∃ o, trimV ((0 : Int) + S.size) a t = o := ⟨_, rfl⟩
  have hto := trim_e ((0 : Int) + S.size) a t
  have htc := trim_cases ((0 : Int) + S.size) a t
  rw [ho] at hto htc
  have eo : o.e = o.fAt + o.fText.size := rfl
  by_cases h0 : o.fText.size = 0
  · have e : putV 0 S L a t = (S, L) := by
      unfold putV putOk; rw [ho, h0]; simp
    rw [e]
    refine ⟨h, fun i hi => ?_⟩
    rcases hi with hi | hi
    · exact hi
    · refine .inl ?_
      rcases htc with ⟨g1, g2, g3⟩ | ⟨g1, g2⟩
      · simp only; omega
      · rw [g2] at h0; simp only at h0; omega
  · -- the piece that is laid
    have hoe : o.e = a + t.size := by
      rcases htc with ⟨g1, g2, g3⟩ | ⟨g1, g2⟩
      · omega
      · rw [g2]; rfl
    have hot : o.fText = T.extract o.fAt.toNat o.e.toNat := by
      rw [hoe, ← ho]
      unfold trimV
      split
      · rename_i g
        show t.extract (min ((0 : Int) + S.size - a).toNat t.size) t.size = T.extract ((0 : Int) + S.size).toNat _
        conv => lhs; rw [p4]
        rw [ByteArray.extract_extract, ByteArray.size_extract]; congr 1 <;> omega
      · exact p4
    have hof : PieceOf T o := ⟨by omega, by omega, hot, h0⟩
    have hch := h.ch
    have hO := put_rec o hch
    have hcv : ∀ i : Int, CovBy L i ∨ (a ≤ i ∧ i < a + t.size) → i < S.size ∨ CovBy (putRec o L) i := by
      intro i hi
      rcases hi with hi | hi
      · exact .inr (rec_cov L o i (.inr hi))
      · by_cases hs : i < S.size
        · exact .inl hs
        · refine .inr (rec_cov L o i (.inl ⟨?_, by omega⟩))
          rcases htc with ⟨g1, g2, g3⟩ | ⟨g1, g2⟩
          · omega
          · rw [g2]; exact hi.1
    have hrch : Chain ((S.size : Int) - 1) (putRec o L) := rec_chain L _ o (hch.mono (by omega)) (by omega) h0 (by omega)
    have hrof := rec_of L o hof h.of
    obtain ⟨S', hS⟩ : ∃ S', (coreV 0 S L o).1 = S' := ⟨_, rfl⟩
    obtain ⟨L', hL⟩ : ∃ L', (coreV 0 S L o).2 = L' := ⟨_, rfl⟩
    have hSL : coreV 0 S L o = (S', L') := by rw [← hS, ← hL]
    have key : Good T S' L' ∧ ∀ i : Int, (i < S.size ∨ CovBy (putRec o L) i) → Has S' L' i := by
      unfold coreV headV at hSL
      rw [hO] at hSL
      by_cases hat : o.fAt = S.size
      · obtain ⟨f, R, e, hf, hR⟩ := rec_head L S.size o hch (by omega)
        rw [e] at hSL hrch hrof
        rw [e]
        rw [if_pos (by show f.fAt = _; omega)] at hSL
        simp only [Prod.mk.injEq, List.drop_succ_cons, List.drop_zero] at hSL
        obtain ⟨h1, h3⟩ := hSL
        have hff := hrof f (by simp)
        have hfe : f.e = f.fAt + f.fText.size := rfl
        have h1' : S' = S ++ f.fText := h1.symm
        have hsz : (S'.size : Int) = f.e := by rw [h1', app_size]; omega
        subst h3
        refine ⟨⟨by have := hff.hi; omega, ?_, ?_, fun x hx => hrof x (by simp [hx]), fun x hx => h.two x (hR x hx)⟩, fun i hi => ?_⟩
        · have := hff.tx
          rw [show S'.size = f.e.toNat by omega, h1', this]
          conv => lhs; rw [h.tx]
          rw [show f.fAt.toNat = S.size from by omega, ByteArray.extract_append_extract]
          congr 1 <;> omega
        · rw [hsz]; exact hrch.2.2.2
        · rcases hi with hi | ⟨x, hx, hi⟩
          · exact .inl (by omega)
          · rcases List.mem_cons.1 hx with rfl | hx
            · exact .inl (by omega)
            · exact .inr ⟨x, hx, hi⟩
      · have hgt : (S.size : Int) < o.fAt := by omega
        have hoa : o = ⟨a, t⟩ := by
          rcases htc with ⟨g1, g2, g3⟩ | ⟨g1, g2⟩
          · omega
          · exact g2
        have hrc2 := rec_chain L S.size o hch hgt h0 (by omega)
        have hnz : (nthP (putRec o L) 0).fAt ≠ (0 : Int) + S.size := by
          cases hq : putRec o L with
          | nil =>
            obtain ⟨x, hx, _⟩ := rec_cov L o o.fAt (.inl ⟨Int.le_refl _, by omega⟩)
            rw [hq] at hx; simp at hx
          | cons y Y => rw [hq] at hrc2; have := hrc2.2.1; show y.fAt ≠ _; omega
        rw [if_neg hnz] at hSL
        simp only [Prod.mk.injEq] at hSL
        obtain ⟨h1, h3⟩ := hSL
        subst h1
        subst h3
        exact ⟨⟨hle, h.tx, hrc2, hrof, rec_two L o hof (by rw [hoa]; exact h2) (fun x hx => ⟨h.of x hx, h.two x hx⟩)⟩, fun i hi => hi⟩
    have hgo := good_ok key.1 hT
    have e : putV 0 S L a t = (S', L') := by
      unfold putV
      have : putOk 0 S L a t = true := by
        unfold putOk winB
        rw [ho, hSL]
        simp only [Bool.and_eq_true, decide_eq_true_eq]
        exact ⟨hok, ⟨by omega, by omega⟩, ⟨by omega, by omega⟩, by simpa using h0, hgo⟩
      rw [this, ho]
      exact hSL
    rw [e]
    refine ⟨key.1, fun i hi => key.2 i ?_⟩
    rcases hi with (hi | hi) | hi
    · exact .inl hi
    · exact hcv i (.inl hi)
    · exact hcv i (.inr hi)
theorem good_nil (T : ByteArray) : Good T ⟨#[]⟩ [] := ⟨Nat.zero_le _, by simp [ByteArray.ext_iff], trivial, fun x hx => by simp at hx, fun x hx => by simp at hx⟩
theorem good_end {T S : ByteArray} {L : List PieceD} (h : Good T S L) (hc : ∀ i : Int, 0 ≤ i → i < T.size → Has S L i) : S = T ∧ L = [] := by
  have hle := h.le
  have hs : S.size = T.size := by
    rcases Nat.lt_or_ge S.size T.size with hl | hl
    · exfalso
      rcases hc S.size (by omega) (by omega) with h1 | ⟨x, hx, h1⟩
      · omega
      · have := chain_lt h.ch x hx; omega
    · omega
  refine ⟨by rw [h.tx, hs]; exact ByteArray.extract_zero_size, ?_⟩
  cases L with
  | nil => rfl
  | cons x L =>
    exfalso
    have h1 := chain_lt h.ch x (by simp)
    have h2 := (h.of x (by simp)).hi
    have := x.at_le
    omega
end Go.Proofs.Ytpjbnfpadbknpaa
