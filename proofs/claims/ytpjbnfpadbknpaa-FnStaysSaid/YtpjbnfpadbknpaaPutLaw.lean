/- Plain laws of PutPiece: what is there stays; the same once more changes nothing. No program in sight. -/
import Derived.Test.YtpjbnfpadbknpaaPutModel
namespace Go.Proofs.Ytpjbnfpadbknpaa
set_option linter.unusedSimpArgs false
set_option linter.unusedVariables false

/-- A piece covers another one. -/
def Cov (c o : PieceD) : Prop := c.fAt ≤ o.fAt ∧ o.e ≤ c.e
theorem PieceD.at_le (x : PieceD) : x.fAt ≤ x.e := by unfold PieceD.e; omega
theorem joinV_cov {a b : PieceD} (h1 : b.fAt ≤ a.e) (h2 : a.fAt ≤ b.e) : Cov (joinV a b) a ∧ Cov (joinV a b) b := by
  unfold Cov
  rw [joinV_at, joinV_e h1 h2]
  omega
theorem Cov.trans {a b c : PieceD} (h : Cov a b) (k : Cov b c) : Cov a c := ⟨Int.le_trans h.1 k.1, Int.le_trans k.2 h.2⟩
def StCov (st : List PieceD × PieceD × Bool) (o : PieceD) : Prop := (st.2.2 = false ∧ Cov st.2.1 o) ∨ ∃ c ∈ st.1, Cov c o
theorem step_cov {st : List PieceD × PieceD × Bool} {o x : PieceD} (h : StCov st o) : StCov (putStep st x) o := by
  obtain ⟨O, y, d⟩ := st
  unfold putStep
  simp only
  split
  · rcases h with ⟨rfl, h⟩ | ⟨c, hc, h⟩
    · exact .inl ⟨rfl, h⟩
    · exact .inr ⟨c, List.mem_append_left _ hc, h⟩
  · split
    · rcases h with ⟨h0, h⟩ | ⟨c, hc, h⟩
      · simp only at h0; subst h0
        exact .inr ⟨y, by simp, h⟩
      · exact .inr ⟨c, by simp only at hc; split <;> simp [hc], h⟩
    · rename_i h1 h2
      rcases h with ⟨rfl, h⟩ | ⟨c, hc, h⟩
      · exact .inl ⟨rfl, (joinV_cov (by omega) (by omega)).2.trans h⟩
      · exact .inr ⟨c, hc, h⟩
theorem fold_cov (L : List PieceD) (o : PieceD) : ∀ st, StCov st o → StCov (L.foldl putStep st) o := by
  induction L with
  | nil => intro st h; exact h
  | cons x L ih => intro st h; exact ih _ (step_cov h)
theorem out_cov {st : List PieceD × PieceD × Bool} {o : PieceD} (h : StCov st o) : ∃ c ∈ putOut st, Cov c o := by
  obtain ⟨O, y, d⟩ := st
  unfold putOut
  rcases h with ⟨h0, h⟩ | ⟨c, hc, h⟩
  · simp only at h0; subst h0
    exact ⟨y, by simp, h⟩
  · exact ⟨c, by split <;> simp [hc], h⟩
theorem putTo_all (o : PieceD) (L : List PieceD) : putTo o L L.length = L.foldl putStep ([], o, false) := by unfold putTo; rw [List.take_length]
theorem put_cov (o : PieceD) (L : List PieceD) : ∃ c ∈ putOut (putTo o L L.length), Cov c o := by
  rw [putTo_all]
  exact out_cov (fold_cov L o _ (.inl ⟨rfl, Int.le_refl _, Int.le_refl _⟩))
theorem join_same {c o : PieceD} (h : Cov c o) (h1 : o.fAt ≤ o.e) : joinV c o = c := by
  unfold Cov PieceD.e at *
  unfold joinV
  rw [if_neg (by omega)]
  have : o.fText.extract (c.e - o.fAt).toNat o.fText.size = ByteArray.empty := by
    rw [ByteArray.extract_eq_empty_iff]; unfold PieceD.e; omega
  rw [this, ByteArray.append_empty]
theorem Chain.split {e0 : Int} {A B : List PieceD} {c : PieceD} (h : Chain e0 (A ++ c :: B)) : (∀ x ∈ A, x.e < c.fAt) ∧ Chain c.e B ∧ e0 < c.fAt := by
  induction A generalizing e0 with
  | nil => exact ⟨fun x hx => by simp at hx, h.2.2.2, h.2.1⟩
  | cons y A ih =>
    obtain ⟨h1, h2, h3⟩ := ih h.2.2.2
    refine ⟨fun x hx => ?_, h2, by have := h.2.1; have := y.at_le; omega⟩
    rcases List.mem_cons.1 hx with rfl | hx
    · exact h3
    · exact h1 x hx
theorem fold_pre (A : List PieceD) (o : PieceD) : ∀ acc, (∀ x ∈ A, x.e < o.fAt) → A.foldl putStep (acc, o, false) = (acc ++ A, o, false) := by
  induction A with
  | nil => intro acc _; simp
  | cons x A ih =>
    intro acc h
    rw [List.foldl_cons]
    have : putStep (acc, o, false) x = (acc ++ [x], o, false) := by unfold putStep; rw [if_pos (h x (by simp))]
    rw [this, ih _ (fun y hy => h y (by simp [hy]))]
    simp
theorem fold_post (A : List PieceD) (o : PieceD) : ∀ acc, (∀ x ∈ A, o.e < x.fAt) → A.foldl putStep (acc, o, true) = (acc ++ A, o, true) := by
  induction A with
  | nil => intro acc _; simp
  | cons x A ih =>
    intro acc h
    rw [List.foldl_cons]
    have hx := h x (by simp)
    have h1 := x.at_le
    have h2 := o.at_le
    have : putStep (acc, o, true) x = (acc ++ [x], o, true) := by unfold putStep; simp only; rw [if_neg (by omega), if_pos hx]; simp
    rw [this, ih _ (fun y hy => h y (by simp [hy]))]
    simp
theorem chain_lt {e0 : Int} {L : List PieceD} (h : Chain e0 L) : ∀ x ∈ L, e0 < x.fAt := fun x hx => (h.mem x hx).2.1
/-- A piece that the list covers changes nothing. -/
theorem put_same {e0 : Int} {L : List PieceD} {c o : PieceD} (hL : Chain e0 L) (hc : c ∈ L) (h : Cov c o) : putOut (putTo o L L.length) = L := by
  obtain ⟨A, B, rfl⟩ := List.append_of_mem hc
  obtain ⟨h1, h2, h3⟩ := hL.split
  have ho := o.at_le
  have hcv := h
  unfold Cov at hcv
  rw [putTo_all, List.foldl_append, fold_pre A o [] (fun x hx => by have := h1 x hx; omega), List.foldl_cons, List.nil_append]
  have e1 : putStep (A, o, false) c = (A, c, false) := by
    unfold putStep; simp only
    rw [if_neg (by omega), if_neg (by omega), join_same h ho]
  rw [e1]
  cases B with
  | nil => rfl
  | cons y B =>
    have hlt := chain_lt h2
    have hy := hlt y (by simp)
    have h4 := y.at_le
    have h5 := c.at_le
    rw [List.foldl_cons]
    have e2 : putStep (A, c, false) y = (A ++ [c] ++ [y], c, true) := by
      unfold putStep; simp only
      rw [if_neg (by omega), if_pos hy]; rfl
    rw [e2, fold_post B c _ (fun x hx => hlt x (by simp [hx]))]
    simp [putOut]
theorem trim_cases (nx a : Int) (t : ByteArray) : (a < nx ∧ (trimV nx a t).fAt = nx ∧ ((trimV nx a t).fText.size : Int) = t.size - min (nx - a) t.size) ∨ (nx ≤ a ∧ trimV nx a t = ⟨a, t⟩) := by
  unfold trimV
  split
  · rename_i h
    refine .inl ⟨h, rfl, ?_⟩
    simp only [ext_size]; omega
  · exact .inr ⟨by omega, rfl⟩
theorem trim_e (nx a : Int) (t : ByteArray) : a + t.size ≤ (trimV nx a t).e ∧ nx ≤ (trimV nx a t).fAt ∧ a ≤ (trimV nx a t).fAt := by
  unfold PieceD.e
  rcases trim_cases nx a t with ⟨h1, h2, h3⟩ | ⟨h1, h2⟩
  · rw [h2, h3]; omega
  · rw [h2]; simp only; omega
theorem trim_ne {nx a : Int} {t : ByteArray} (h : (trimV nx a t).fText.size ≠ 0) : nx < a + t.size := by
  rcases trim_cases nx a t with ⟨h1, h2, h3⟩ | ⟨h1, h2⟩
  · omega
  · rw [h2] at h; simp only at h; omega
theorem nth_head {e0 : Int} {L : List PieceD} {c : PieceD} (h : Chain e0 L) (hc : c ∈ L) : (nthP L 0).fAt ≠ e0 := by
  cases L with
  | nil => simp at hc
  | cons x L => have := h.2.1; simp [nthP]; omega
/-- The same piece once more changes nothing. -/
theorem put_idem (r : Int) (s : ByteArray) (L : List PieceD) (a : Int) (t : ByteArray) : putV r (putV r s L a t).1 (putV r s L a t).2 a t = putV r s L a t := by
  cases hp : putOk r s L a t with
  | false =>
    have e : putV r s L a t = (s, L) := by unfold putV; rw [hp]; rfl
    rw [e]; exact e
  | true =>
    have e : putV r s L a t = coreV r s L (trimV (r + s.size) a t) := by unfold putV; rw [hp]; rfl
    rw [e]
    obtain ⟨o, ho⟩ : ∃ o, trimV (r + s.size) a t = o := ⟨_, rfl⟩
    unfold putOk at hp
    rw [ho] at hp
    rw [ho]
    simp only [Bool.and_eq_true] at hp
    obtain ⟨-, -, -, ho1, hp2⟩ := hp
    obtain ⟨S', hS⟩ : ∃ S', (coreV r s L o).1 = S' := ⟨_, rfl⟩
    obtain ⟨L', hL⟩ : ∃ L', (coreV r s L o).2 = L' := ⟨_, rfl⟩
    have hSL : coreV r s L o = (S', L') := by rw [← hS, ← hL]
    rw [hSL]
    rw [hSL] at hp2
    simp only at hp2
    obtain ⟨-, -, -, -, hch⟩ := pok_parts hp2
    unfold putV
    cases hp' : putOk r S' L' a t with
    | false => rfl
    | true =>
      simp only [if_true]
      unfold putOk at hp'
      simp only [Bool.and_eq_true] at hp'
      obtain ⟨-, -, -, ho', -⟩ := hp'
      have hn2 := trim_ne (by simpa using ho')
      obtain ⟨c, hcO, hcov⟩ := put_cov o L
      have hto := trim_e (r + s.size) a t
      rw [ho] at hto
      unfold coreV headV at hSL
      have hfin : ∀ o', o' = o → c ∈ L' → coreV r S' L' o' = (S', L') := by
        intro o' e' hc
        subst e'
        unfold coreV headV
        rw [put_same hch hc hcov, if_neg (nth_head hch hc)]
      split at hSL
      · rename_i hf
        simp only [Prod.mk.injEq] at hSL
        obtain ⟨hS1, hL1⟩ := hSL
        cases hO : putOut (putTo o L L.length) with
        | nil => rw [hO] at hcO; simp at hcO
        | cons f R =>
          rw [hO] at hcO hL1 hS1 hf
          have hf0 : nthP (f :: R) 0 = f := rfl
          rw [hf0] at hS1 hf
          simp only [List.drop_succ_cons, List.drop_zero] at hL1
          have hnx : r + (S'.size : Int) = f.e := by rw [← hS1, app_size]; unfold PieceD.e; omega
          rcases List.mem_cons.1 hcO with rfl | hcR
          · exfalso
            unfold Cov at hcov
            omega
          · rw [hL1] at hcR
            have h1 := chain_lt hch c hcR
            have hcv := hcov
            unfold Cov at hcv
            have hfl := f.at_le
            refine hfin _ ?_ hcR
            rcases trim_cases (r + s.size) a t with ⟨g1, g2, g3⟩ | ⟨g1, g2⟩
            · exfalso; rw [ho] at g2; omega
            · rw [ho] at g2
              rw [g2]
              unfold trimV
              rw [g2] at hcv
              simp only at hcv
              rw [if_neg (by omega)]
      · simp only [Prod.mk.injEq] at hSL
        obtain ⟨hS1, hL1⟩ := hSL
        rw [hL1] at hcO
        exact hfin _ (by rw [← hS1]; exact ho) hcO
/-- What can be read stays. -/
theorem put_prefix (r : Int) (s : ByteArray) (L : List PieceD) (a : Int) (t : ByteArray) : ∃ x, (putV r s L a t).1 = s ++ x := by
  unfold putV
  split
  · unfold coreV headV
    split
    · exact ⟨_, rfl⟩
    · exact ⟨ByteArray.empty, by simp⟩
  · exact ⟨ByteArray.empty, by simp⟩
theorem put_valid {r : Int} {s : ByteArray} {L : List PieceD} {a : Int} {t : ByteArray} (h : piecesOk r s L = true) : piecesOk r (putV r s L a t).1 (putV r s L a t).2 = true := by
  unfold putV
  split
  · rename_i hp
    unfold putOk at hp
    simp only [Bool.and_eq_true] at hp
    exact hp.2.2.2.2
  · exact h
end Go.Proofs.Ytpjbnfpadbknpaa
