/- The plain model of the draws of PutPiece, exact: what they draw at each state. No program in sight. -/
import Derived.Test.YtpjbnfpadbknpaaText
import Derived.Test.YtpjbnfpadbknpaaPutLaw
namespace Go.Proofs.Ytpjbnfpadbknpaa
set_option linter.unusedSimpArgs false
set_option linter.unusedVariables false

/-- A text of the list that is picked. -/
def pickSV (B : List Int) (s : Nat × Int) (L : List ByteArray) : ByteArray := L[(belowV B s L.length).toNat]?.getD ⟨#[]⟩
/-- The rounds of l09Pieces: at most f more, the next is number k. -/
def roundsV (B : List Int) (r : Int) : Nat → Nat → ByteArray → List PieceD → Nat × Int → (ByteArray × List PieceD) × (Nat × Int)
  | 0, _, S, L, s => ((S, L), s)
  | f + 1, k, S, L, s =>
    if (k : Int) < belowV B s 6 then
      roundsV B r f (k + 1)
        (putV r S L (belowV B (belowS B s 6) 50) (textV B (belowS B (belowS B (belowS B s 6) 50) 12) (1 + belowV B (belowS B (belowS B s 6) 50) 12).toNat)).1
        (putV r S L (belowV B (belowS B s 6) 50) (textV B (belowS B (belowS B (belowS B s 6) 50) 12) (1 + belowV B (belowS B (belowS B s 6) 50) 12).toNat)).2
        (textS B (belowS B (belowS B (belowS B s 6) 50) 12) (1 + belowV B (belowS B (belowS B s 6) 50) 12).toNat)
    else ((S, L), belowS B s 6)
theorem rounds_no {B : List Int} {r : Int} {f k : Nat} {S : ByteArray} {L : List PieceD} {s s1 : Nat × Int} {x : Int} (h1 : belowV B s 6 = x) (h2 : belowS B s 6 = s1) (h : ¬ (k : Int) < x) : roundsV B r (f + 1) k S L s = ((S, L), s1) := by
  rw [roundsV, h1, if_neg h, h2]
theorem rounds_yes {B : List Int} {r : Int} {f k n : Nat} {S S' : ByteArray} {L L' : List PieceD} {s s1 s2 s3 s4 : Nat × Int} {x a y : Int} {t : ByteArray} (h1 : belowV B s 6 = x) (h2 : belowS B s 6 = s1) (h3 : belowV B s1 50 = a) (h4 : belowS B s1 50 = s2) (h5 : belowV B s2 12 = y) (h6 : belowS B s2 12 = s3) (hn : 1 + y = n)
    (h7 : textV B s3 n = t) (h8 : textS B s3 n = s4) (h9 : (putV r S L a t).1 = S') (h10 : (putV r S L a t).2 = L') (h : (k : Int) < x) : roundsV B r (f + 1) k S L s = roundsV B r f (k + 1) S' L' s4 := by
  have hn' : (1 + y).toNat = n := by omega
  rw [roundsV, h1, if_pos h, h2, h3, h4, h5, h6, hn', h7, h8, h9, h10]
/-- What l09Pieces draws, and the state behind it. -/
def piecesV (B : List Int) (s : Nat × Int) : (ByteArray × List PieceD) × (Nat × Int) := roundsV B (belowV B s 9) 6 0 ⟨#[]⟩ [] (belowS B s 9)
/-- A text of one byte, repeated. -/
def longV (n : Nat) (x : UInt8) : ByteArray := ⟨((List.range n).map fun _ => x).toArray⟩
theorem longV_size (n : Nat) (x : UInt8) : (longV n x).size = n := by simp [longV, ByteArray.size]
/-- The pieces that l09Any adds in its last case. -/
def manyV (k : Nat) : List PieceD := (List.range k).map fun (i : Nat) => ⟨100 + 2 * (i : Int), ⟨#[122]⟩⟩
theorem manyV_length (k : Nat) : (manyV k).length = k := by simp [manyV]
theorem manyV_succ (k : Nat) : manyV (k + 1) = manyV k ++ [⟨100 + 2 * (k : Int), ⟨#[122]⟩⟩] := by simp [manyV, List.range_succ]
theorem many_app (L : List PieceD) (k : Nat) : L ++ manyV (k + 1) = (L ++ manyV k) ++ [⟨100 + 2 * (k : Int), ⟨#[122]⟩⟩] := by rw [manyV_succ, List.append_assoc]
theorem sumT_many (k : Nat) : sumT (manyV k) = k := by
  induction k with
  | zero => rfl
  | succ k ih => rw [manyV_succ, sumT_app, ih, sumT_one]; rfl
/-- What l09Any makes of a Pieces that was drawn, and the state behind it. -/
def anyOf (B : List Int) (r : Int) (S : ByteArray) (L : List PieceD) (s : Nat × Int) (x : Int) : (Int × ByteArray × List PieceD) × (Nat × Int) :=
  if x = 0 then ((pickV B s [-1, 1000000001, 1000000000], S, L), belowS B s 3)
  else if x = 1 then ((r, S, L ++ [⟨belowV B s 60, pickSV B (belowS B s 60) [⟨#[]⟩, ⟨#[97]⟩]⟩]), belowS B (belowS B s 60) 2)
  else if x = 2 then ((r, longV (pickV B s [190, 200, 201]).toNat 97, L), belowS B s 3)
  else if x = 3 then ((r, S, L ++ manyV 20), s)
  else ((r, S, L), s)
/-- What l09Any draws, and the state behind it. -/
def anyV (B : List Int) (s : Nat × Int) : (Int × ByteArray × List PieceD) × (Nat × Int) :=
  anyOf B (belowV B s 9) (piecesV B s).1.1 (piecesV B s).1.2 (belowS B (piecesV B s).2 16) (belowV B (piecesV B s).2 16)
theorem any_eq {B : List Int} {s s1 s2 : Nat × Int} {r x : Int} {S : ByteArray} {L : List PieceD} (h1 : belowV B s 9 = r) (h2 : piecesV B s = ((S, L), s1)) (h3 : belowV B s1 16 = x) (h4 : belowS B s1 16 = s2) : anyV B s = anyOf B r S L s2 x := by
  unfold anyV; rw [h1, h2, h3, h4]
/-- What DrawPutPiece draws. -/
def drawV (B : List Int) : (Int × ByteArray × List PieceD) × Int × ByteArray :=
  let s := (anyV B (0, newH B (min B.length 4000))).2
  let a := belowV B s 60
  let s1 := belowS B s 60
  let at_ := pickV B s1 [0, 5, 9, 12, 20, 30, a, -1, 1000000000, 1000000001]
  let s2 := belowS B s1 10
  let n := pickV B s2 [1, 3, 8, 20, 0, 120]
  ((anyV B (0, newH B (min B.length 4000))).1, at_, textV B (belowS B s2 6) n.toNat)
/-- How great a Pieces that was drawn can be. -/
def PBd (S : ByteArray) (L : List PieceD) : Prop := S.size ≤ 1000 ∧ L.length ≤ 1000 ∧ sumT L ≤ 1000
theorem bd_of_ok {r : Int} {S : ByteArray} {L : List PieceD} (h : piecesOk r S L = true) : S.size ≤ 200 ∧ L.length ≤ 20 ∧ S.size + sumT L ≤ 200 := by
  obtain ⟨h1, h2, h3, h4, h5⟩ := pok_parts h
  exact ⟨by omega, h3, h4⟩
theorem put_bd {r : Int} {S : ByteArray} {L : List PieceD} {a : Int} {t : ByteArray} (h : PBd S L) : PBd (putV r S L a t).1 (putV r S L a t).2 := by
  unfold putV
  split
  · rename_i h1
    unfold putOk at h1
    simp only [Bool.and_eq_true] at h1
    obtain ⟨-, -, -, -, h5⟩ := h1
    obtain ⟨q1, q2, q3⟩ := bd_of_ok h5
    exact ⟨by omega, by omega, by omega⟩
  · exact h
theorem rounds_ok (B : List Int) (r : Int) : ∀ (f k : Nat) (S : ByteArray) (L : List PieceD) (s : Nat × Int), piecesOk r S L = true → piecesOk r (roundsV B r f k S L s).1.1 (roundsV B r f k S L s).1.2 = true
  | 0, _, _, _, _, h => h
  | f + 1, k, S, L, s, h => by
    unfold roundsV
    split
    · exact rounds_ok B r f (k + 1) _ _ _ (put_valid h)
    · exact h
theorem ok_nil {r : Int} (h0 : 0 ≤ r) (h1 : r ≤ 1000000000) : piecesOk r ⟨#[]⟩ [] = true := by
  unfold piecesOk winB heldV
  simp [chainOk, sumT, show (ByteArray.mk #[]).size = 0 from rfl]
  omega
theorem pieces_ok (B : List Int) (s : Nat × Int) : piecesOk (belowV B s 9) (piecesV B s).1.1 (piecesV B s).1.2 = true := by
  have h := belowV_range B s 9
  have h1 := h.2.1 (by decide)
  exact rounds_ok B _ _ _ _ _ _ (ok_nil h.1 (by omega))
theorem any_bd (B : List Int) (s : Nat × Int) : PBd (anyV B s).1.2.1 (anyV B s).1.2.2 := by
  obtain ⟨q1, q2, q3⟩ := bd_of_ok (pieces_ok B s)
  unfold anyV anyOf
  split
  · exact ⟨by dsimp only; omega, by dsimp only; omega, by dsimp only; omega⟩
  split
  · have h1 : (pickSV B (belowS B (belowS B (piecesV B s).2 16) 60) [⟨#[]⟩, ⟨#[97]⟩]).size ≤ 1 := by
      unfold pickSV
      rcases (belowV B (belowS B (belowS B (piecesV B s).2 16) 60) ([⟨#[]⟩, ⟨#[97]⟩] : List ByteArray).length).toNat with _ | _ | n
      · exact Nat.zero_le _
      · exact Nat.le_refl _
      · exact Nat.zero_le _
    refine ⟨by dsimp only; omega, ?_, ?_⟩
    · simp only [List.length_append, List.length_singleton]; omega
    · dsimp only; rw [sumT_app, sumT_one]; dsimp only; omega
  split
  · have h1 : (pickV B (belowS B (piecesV B s).2 16) [190, 200, 201]).toNat ≤ 201 := by
      have := pickV_mem B (belowS B (piecesV B s).2 16) [190, 200, 201] (by decide)
      simp at this; omega
    exact ⟨by dsimp only; rw [longV_size]; omega, by dsimp only; omega, by dsimp only; omega⟩
  split
  · refine ⟨by dsimp only; omega, ?_, ?_⟩
    · simp only [List.length_append, manyV_length]; omega
    · dsimp only; rw [sumT_app, sumT_many]; omega
  · exact ⟨by dsimp only; omega, by dsimp only; omega, by dsimp only; omega⟩
end Go.Proofs.Ytpjbnfpadbknpaa
