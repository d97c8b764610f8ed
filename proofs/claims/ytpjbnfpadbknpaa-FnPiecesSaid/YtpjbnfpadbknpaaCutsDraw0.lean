/- Plain laws of DrawCuts: a piece that is cut; two pieces exchanged. No program in sight. -/
import Derived.Test.YtpjbnfpadbknpaaCutsLaw
namespace Go.Proofs.Ytpjbnfpadbknpaa
set_option linter.unusedSimpArgs false
set_option linter.unusedVariables false

theorem cut_piece {T : ByteArray} {f e : Nat} (h1 : f < e) (h2 : e ≤ T.size) (h3 : f + 2 ≤ e ∨ e = T.size) : PieceOf T ⟨(f : Int), T.extract f e⟩ ∧ Two T ⟨(f : Int), T.extract f e⟩ := by
  have hs : (T.extract f e).size = e - f := by rw [ext_size]; omega
  have he : (⟨(f : Int), T.extract f e⟩ : PieceD).e = (e : Int) := by show (f : Int) + ((T.extract f e).size : Int) = _; omega
  refine ⟨⟨by show (0 : Int) ≤ f; omega, by rw [he]; omega, ?_, by show (T.extract f e).size ≠ 0; omega⟩, ?_⟩
  · rw [he]; simp
  · unfold Two
    rw [he]
    rcases h3 with h | h
    · left; show 2 ≤ (T.extract f e).size; omega
    · right; omega
/-- What has been cut of T up to place a. -/
structure Cuts (T : ByteArray) (L : List PieceD) (a : Nat) : Prop where
  le : a ≤ T.size
  len : L.length ≤ a
  of : ∀ x ∈ L, PieceOf T x ∧ Two T x
  cov : ∀ i : Int, 0 ≤ i → i < a → CovBy L i
theorem Cuts.nil (T : ByteArray) : Cuts T [] 0 := ⟨Nat.zero_le _, Nat.le_refl _, fun x hx => by simp at hx, fun i h1 h2 => by omega⟩
theorem Cuts.add {T : ByteArray} {L : List PieceD} {a : Nat} (h : Cuts T L a) {f n : Nat} (hf : f ≤ a) (hn : 0 < n) (h2 : 2 ≤ n ∨ a + n = T.size) (hl : a + n ≤ T.size) : Cuts T (L ++ [⟨(f : Int), T.extract f (a + n)⟩]) (a + n) := by
  have hp := cut_piece (T := T) (f := f) (e := a + n) (by omega) hl (by omega)
  have hs : (T.extract f (a + n)).size = a + n - f := by rw [ext_size]; omega
  refine ⟨hl, by rw [List.length_append, List.length_singleton]; have := h.len; omega, fun x hx => ?_, fun i h0 h1 => ?_⟩
  · rcases List.mem_append.1 hx with hx | hx
    · exact h.of x hx
    · rw [List.mem_singleton.1 hx]; exact hp
  · by_cases hi : i < (a : Int)
    · obtain ⟨x, hx, hy⟩ := h.cov i h0 hi
      exact ⟨x, List.mem_append.2 (.inl hx), hy⟩
    · refine ⟨_, List.mem_append.2 (.inr (List.mem_singleton.2 rfl)), ?_, ?_⟩
      · show (f : Int) ≤ i; omega
      · show i < (f : Int) + ((T.extract f (a + n)).size : Int); omega
theorem Cuts.swap {T : ByteArray} {L : List PieceD} {a i k : Nat} (h : Cuts T L a) (hi : i < L.length) (hk : k < L.length) : Cuts T ((L.set i L[k]).set k L[i]) a := by
  have hp := List.set_set_perm hi hk
  refine ⟨h.le, by simpa using h.len, fun x hx => h.of x (hp.mem_iff.1 hx), fun j h0 h1 => ?_⟩
  obtain ⟨x, hx, hy⟩ := h.cov j h0 h1
  exact ⟨x, hp.mem_iff.2 hx, hy⟩
/-- Behind some of the pieces that were put (those of which P holds). -/
structure Puts (T S : ByteArray) (L M : List PieceD) (P : Nat → Prop) : Prop where
  good : Good T S L
  has : ∀ j (hj : j < M.length), P j → ∀ i : Int, M[j].fAt ≤ i → i < M[j].e → Has S L i
theorem Puts.nil (T : ByteArray) (M : List PieceD) : Puts T ⟨#[]⟩ [] M (fun _ => False) := ⟨good_nil T, fun _ _ h => h.elim⟩
theorem Puts.put {T S : ByteArray} {L M : List PieceD} {P Q : Nat → Prop} (h : Puts T S L M P) (hT : T.size ≤ 60) {j : Nat} (hj : j < M.length) (hM : ∀ x ∈ M, PieceOf T x ∧ Two T x) (hQ : ∀ k, Q k → P k ∨ k = j) : Puts T (putV 0 S L M[j].fAt M[j].fText).1 (putV 0 S L M[j].fAt M[j].fText).2 M Q := by
  obtain ⟨h1, h2⟩ := hM _ (List.getElem_mem hj)
  obtain ⟨g1, g2⟩ := good_put h.good hT h1 h2
  refine ⟨g1, fun k hk hq i hi0 hi1 => g2 i ?_⟩
  rcases hQ k hq with hp | rfl
  · exact .inl (h.has k hk hp i hi0 hi1)
  · exact .inr ⟨hi0, hi1⟩
theorem Puts.bd {T S : ByteArray} {L M : List PieceD} {P : Nat → Prop} {a : Nat} (h : Puts T S L M P) (hT : T.size ≤ 60) (hM : Cuts T M a) {j : Nat} (hj : j < M.length) : L.length ≤ 4294967296 ∧ S.size + sumT L ≤ 4611686018427387904 ∧ M[j].fText.size ≤ 1048576 := by
  obtain ⟨-, -, h3, h4, -⟩ := pok_parts (good_ok h.good hT)
  obtain ⟨h5, -⟩ := hM.of _ (List.getElem_mem hj)
  have h6 := h5.hi
  have h7 := h5.lo
  unfold PieceD.e at h6
  exact ⟨by omega, by omega, by omega⟩
theorem Puts.done {T S : ByteArray} {L M : List PieceD} {P : Nat → Prop} (h : Puts T S L M P) (hP : ∀ j, j < M.length → P j) (hc : Cuts T M T.size) : S = T ∧ L = [] := by
  refine good_end h.good fun i h0 h1 => ?_
  obtain ⟨x, hx, hy0, hy1⟩ := hc.cov i h0 h1
  obtain ⟨j, hj, rfl⟩ := List.getElem_of_mem hx
  exact h.has j hj (hP j hj) i hy0 hy1
end Go.Proofs.Ytpjbnfpadbknpaa
