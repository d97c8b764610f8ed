/- The walk of FnLetters: for every input. Written by program (fnletters.py). -/
import Derived.Test.YtkehjlddbikpbaaLaw0
import Derived.Test.YtkehjlddbikpbaaDrawBet2
import Derived.Deep.DeepCutAuto
import Derived.Deep.RegionHeld3
import Derived.Test.YtkehjlddbikpbaaMid
namespace Go.Proofs.Ytkehjlddbikpbaa
set_option linter.unusedSimpArgs false
set_option linter.unusedVariables false
open Go.RowKit
theorem heap_new_at (w : World) (o : Obj) (i : Nat) (h : i = w.heap.size) : (w.alloc o).heap[i]? = some o := by subst h; exact heap_alloc_new w o
theorem sRoadBack (a b c : Int) (w : World) : Calls Try.prog 19 #[rd a b c] w fun e w' => e = .returned (rd b a c) ∧ Below w.heap.size w w' := by
  go_enter Try.func19, Try.ntmps19
  go_wp2
  go_returns
  exact ⟨rfl, by go_grown⟩
theorem iBetweenA (a b c : Int) (x : LetterD) (XA : Array Value) (h : XA = #[.int .i64 (x.fKind), .int .i64 (x.fFrom), .int .i64 (x.fTo), .int .i64 (x.fPort), .int .i64 (x.fKey), .int .i64 (x.fToken), .int .i64 (x.fNonce), .int .i64 (x.fGive), .int .i64 (x.fSign), .int .i64 (x.fTagKind), .int .i64 (x.fTagOne), .int .i64 (x.fTagTwo), .int .i64 (x.fTagA), .int .i64 (x.fTagB), .int .i64 (x.fId), .int .i64 (x.fAddr), .bool (x.fSpare), .int .i64 (x.fAt), .string (x.fText)]) (w : World) : Calls Try.prog 18 #[rd a b c, .agg XA] w fun e w' => e = .returned ({ x with fFrom := a, fTo := b, fPort := c } : LetterD).val ∧ Below w.heap.size w w' := by subst h; exact iBetween a b c x w
theorem iRoadOfY (a b c : Int) (x : LetterD) (YA : Array Value) (h : YA = #[.int .i64 (x.fKind), .int .i64 (a), .int .i64 (b), .int .i64 (c), .int .i64 (x.fKey), .int .i64 (x.fToken), .int .i64 (x.fNonce), .int .i64 (x.fGive), .int .i64 (x.fSign), .int .i64 (x.fTagKind), .int .i64 (x.fTagOne), .int .i64 (x.fTagTwo), .int .i64 (x.fTagA), .int .i64 (x.fTagB), .int .i64 (x.fId), .int .i64 (x.fAddr), .bool (x.fSpare), .int .i64 (x.fAt), .string (x.fText)]) (w : World) : Calls Try.prog 12 #[.agg YA] w fun e w' => e = .returned (rd b a c) ∧ Below w.heap.size w w' := by
  subst h
  exact iRoadOf { x with fFrom := a, fTo := b, fPort := c } w
theorem iLetterOkX (x : LetterD) (XA : Array Value) (h : XA = #[.int .i64 (x.fKind), .int .i64 (x.fFrom), .int .i64 (x.fTo), .int .i64 (x.fPort), .int .i64 (x.fKey), .int .i64 (x.fToken), .int .i64 (x.fNonce), .int .i64 (x.fGive), .int .i64 (x.fSign), .int .i64 (x.fTagKind), .int .i64 (x.fTagOne), .int .i64 (x.fTagTwo), .int .i64 (x.fTagA), .int .i64 (x.fTagB), .int .i64 (x.fId), .int .i64 (x.fAddr), .bool (x.fSpare), .int .i64 (x.fAt), .string (x.fText)]) (w : World) : Calls Try.prog 15 #[.agg XA] w fun e w' => e = .returned (.bool (letOk x)) ∧ Below w.heap.size w w' := by subst h; exact iLetterOk x w
theorem sLetterOkX (x : LetterD) (XA : Array Value) (h : XA = #[.int .i64 (x.fKind), .int .i64 (x.fFrom), .int .i64 (x.fTo), .int .i64 (x.fPort), .int .i64 (x.fKey), .int .i64 (x.fToken), .int .i64 (x.fNonce), .int .i64 (x.fGive), .int .i64 (x.fSign), .int .i64 (x.fTagKind), .int .i64 (x.fTagOne), .int .i64 (x.fTagTwo), .int .i64 (x.fTagA), .int .i64 (x.fTagB), .int .i64 (x.fId), .int .i64 (x.fAddr), .bool (x.fSpare), .int .i64 (x.fAt), .string (x.fText)]) (w : World) (hs : x.fText.size ≤ maxLen) : Calls Try.prog 14 #[.agg XA] w fun e w' => e = .returned (.bool (letOk x)) ∧ Below w.heap.size w w' := by subst h; exact sLetterOk x w hs
theorem iOnRoad13 (w : World) : Calls Try.prog 8 #[.int .i64 13] w fun e w' => e = .returned (.bool true) ∧ w = w' := iOnRoad 13 w
theorem iOnRoad6 (w : World) : Calls Try.prog 8 #[.int .i64 6] w fun e w' => e = .returned (.bool false) ∧ w = w' := iOnRoad 6 w
section
variable {P : Program}
theorem yieldsIf_load_row {ops : Array Oper} {S : World → Prop} {op : Oper} {act : Act} (hw : Region.wanted op (yielded ops act.tmps) = true) (ty : TypeId) (x : Operand) (ho : op.op = .load ty x)
    (g : Nat) (hx : act.eval x = .pointer (some ⟨g, 0, none⟩)) (t : TypeId) (cs : Array Value) (fr : Nat × Nat) (d : TypeDesc) (hS : ∀ w, S w → w.heap[g]? = some (.cells cs t fr))
    (hu : P.underlying ty = some d) (hd : (match d with | .struct _ | .array _ _ => true | _ => false) = true) (hi : (P.info? ty).map (·.size) = some cs.size) : YieldsIf P ops S op (.agg cs) act :=
  .inl ⟨hw, fun w hw' => by
    unfold execOp
    simp only [ho, hx, Instr.loadAt, Instr.sureAddr, Sem.run_bind, Sem.run_pure, Result.andThen_ok, run_loadVar_row w g t ty cs fr d (hS w hw') hu hd hi]⟩
end
/-- What the three boxes hold: the letter x, the letter that was laid on the road, the road. -/
structure SL (bx by' br : Nat) (x : LetterD) (XA YA : Array Value) (a b c : Int) (w : World) : Prop where
  hX : XA = #[.int .i64 (x.fKind), .int .i64 (x.fFrom), .int .i64 (x.fTo), .int .i64 (x.fPort), .int .i64 (x.fKey), .int .i64 (x.fToken), .int .i64 (x.fNonce), .int .i64 (x.fGive), .int .i64 (x.fSign), .int .i64 (x.fTagKind), .int .i64 (x.fTagOne), .int .i64 (x.fTagTwo), .int .i64 (x.fTagA), .int .i64 (x.fTagB), .int .i64 (x.fId), .int .i64 (x.fAddr), .bool (x.fSpare), .int .i64 (x.fAt), .string (x.fText)]
  hY : YA = #[.int .i64 (x.fKind), .int .i64 (a), .int .i64 (b), .int .i64 (c), .int .i64 (x.fKey), .int .i64 (x.fToken), .int .i64 (x.fNonce), .int .i64 (x.fGive), .int .i64 (x.fSign), .int .i64 (x.fTagKind), .int .i64 (x.fTagOne), .int .i64 (x.fTagTwo), .int .i64 (x.fTagA), .int .i64 (x.fTagB), .int .i64 (x.fId), .int .i64 (x.fAddr), .bool (x.fSpare), .int .i64 (x.fAt), .string (x.fText)]
  rx : w.heap[bx]? = some (.cells XA 33 (0, 0))
  ry : w.heap[by']? = some (.cells YA 33 (0, 0))
  rr : w.heap[br]? = some (.cells #[.int .i64 a, .int .i64 b, .int .i64 c] 29 (0, 0))
theorem SL.y0 {bx by' br : Nat} {x : LetterD} {XA YA : Array Value} {a b c : Int} {w : World} (h : SL bx by' br x XA YA a b c w) : w.cell? ⟨by', 0, none⟩ = some (.int .i64 x.fKind) := by rw [cell_of_row _ _ _ _ _ (0, 0) h.ry, h.hY]; rfl
theorem SL.y8 {bx by' br : Nat} {x : LetterD} {XA YA : Array Value} {a b c : Int} {w : World} (h : SL bx by' br x XA YA a b c w) : w.cell? ⟨by', 8, none⟩ = some (.int .i64 x.fSign) := by rw [cell_of_row _ _ _ _ _ (0, 0) h.ry, h.hY]; rfl
theorem SL.y18 {bx by' br : Nat} {x : LetterD} {XA YA : Array Value} {a b c : Int} {w : World} (h : SL bx by' br x XA YA a b c w) : w.cell? ⟨by', 18, none⟩ = some (.string x.fText) := by rw [cell_of_row _ _ _ _ _ (0, 0) h.ry, h.hY]; rfl
theorem SL.y9 {bx by' br : Nat} {x : LetterD} {XA YA : Array Value} {a b c : Int} {w : World} (h : SL bx by' br x XA YA a b c w) : w.cell? ⟨by', 9, none⟩ = some (.int .i64 x.fTagKind) := by rw [cell_of_row _ _ _ _ _ (0, 0) h.ry, h.hY]; rfl
theorem SL.y10 {bx by' br : Nat} {x : LetterD} {XA YA : Array Value} {a b c : Int} {w : World} (h : SL bx by' br x XA YA a b c w) : w.cell? ⟨by', 10, none⟩ = some (.int .i64 x.fTagOne) := by rw [cell_of_row _ _ _ _ _ (0, 0) h.ry, h.hY]; rfl
theorem SL.y11 {bx by' br : Nat} {x : LetterD} {XA YA : Array Value} {a b c : Int} {w : World} (h : SL bx by' br x XA YA a b c w) : w.cell? ⟨by', 11, none⟩ = some (.int .i64 x.fTagTwo) := by rw [cell_of_row _ _ _ _ _ (0, 0) h.ry, h.hY]; rfl
theorem SL.y12 {bx by' br : Nat} {x : LetterD} {XA YA : Array Value} {a b c : Int} {w : World} (h : SL bx by' br x XA YA a b c w) : w.cell? ⟨by', 12, none⟩ = some (.int .i64 x.fTagA) := by rw [cell_of_row _ _ _ _ _ (0, 0) h.ry, h.hY]; rfl
theorem SL.y13 {bx by' br : Nat} {x : LetterD} {XA YA : Array Value} {a b c : Int} {w : World} (h : SL bx by' br x XA YA a b c w) : w.cell? ⟨by', 13, none⟩ = some (.int .i64 x.fTagB) := by rw [cell_of_row _ _ _ _ _ (0, 0) h.ry, h.hY]; rfl
theorem SL.x0 {bx by' br : Nat} {x : LetterD} {XA YA : Array Value} {a b c : Int} {w : World} (h : SL bx by' br x XA YA a b c w) : w.cell? ⟨bx, 0, none⟩ = some (.int .i64 x.fKind) := by rw [cell_of_row _ _ _ _ _ (0, 0) h.rx, h.hX]; rfl
theorem SL.x8 {bx by' br : Nat} {x : LetterD} {XA YA : Array Value} {a b c : Int} {w : World} (h : SL bx by' br x XA YA a b c w) : w.cell? ⟨bx, 8, none⟩ = some (.int .i64 x.fSign) := by rw [cell_of_row _ _ _ _ _ (0, 0) h.rx, h.hX]; rfl
theorem SL.x18 {bx by' br : Nat} {x : LetterD} {XA YA : Array Value} {a b c : Int} {w : World} (h : SL bx by' br x XA YA a b c w) : w.cell? ⟨bx, 18, none⟩ = some (.string x.fText) := by rw [cell_of_row _ _ _ _ _ (0, 0) h.rx, h.hX]; rfl
theorem SL.x9 {bx by' br : Nat} {x : LetterD} {XA YA : Array Value} {a b c : Int} {w : World} (h : SL bx by' br x XA YA a b c w) : w.cell? ⟨bx, 9, none⟩ = some (.int .i64 x.fTagKind) := by rw [cell_of_row _ _ _ _ _ (0, 0) h.rx, h.hX]; rfl
theorem SL.x10 {bx by' br : Nat} {x : LetterD} {XA YA : Array Value} {a b c : Int} {w : World} (h : SL bx by' br x XA YA a b c w) : w.cell? ⟨bx, 10, none⟩ = some (.int .i64 x.fTagOne) := by rw [cell_of_row _ _ _ _ _ (0, 0) h.rx, h.hX]; rfl
theorem SL.x11 {bx by' br : Nat} {x : LetterD} {XA YA : Array Value} {a b c : Int} {w : World} (h : SL bx by' br x XA YA a b c w) : w.cell? ⟨bx, 11, none⟩ = some (.int .i64 x.fTagTwo) := by rw [cell_of_row _ _ _ _ _ (0, 0) h.rx, h.hX]; rfl
theorem SL.x12 {bx by' br : Nat} {x : LetterD} {XA YA : Array Value} {a b c : Int} {w : World} (h : SL bx by' br x XA YA a b c w) : w.cell? ⟨bx, 12, none⟩ = some (.int .i64 x.fTagA) := by rw [cell_of_row _ _ _ _ _ (0, 0) h.rx, h.hX]; rfl
theorem SL.x13 {bx by' br : Nat} {x : LetterD} {XA YA : Array Value} {a b c : Int} {w : World} (h : SL bx by' br x XA YA a b c w) : w.cell? ⟨bx, 13, none⟩ = some (.int .i64 x.fTagB) := by rw [cell_of_row _ _ _ _ _ (0, 0) h.rx, h.hX]; rfl
theorem SL.r0 {bx by' br : Nat} {x : LetterD} {XA YA : Array Value} {a b c : Int} {w : World} (h : SL bx by' br x XA YA a b c w) : w.cell? ⟨br, 0, none⟩ = some (.int .i64 a) := by rw [cell_of_row _ _ _ _ _ (0, 0) h.rr]; rfl
theorem SL.r1 {bx by' br : Nat} {x : LetterD} {XA YA : Array Value} {a b c : Int} {w : World} (h : SL bx by' br x XA YA a b c w) : w.cell? ⟨br, 1, none⟩ = some (.int .i64 b) := by rw [cell_of_row _ _ _ _ _ (0, 0) h.rr]; rfl
theorem SL.r2 {bx by' br : Nat} {x : LetterD} {XA YA : Array Value} {a b c : Int} {w : World} (h : SL bx by' br x XA YA a b c w) : w.cell? ⟨br, 2, none⟩ = some (.int .i64 c) := by rw [cell_of_row _ _ _ _ _ (0, 0) h.rr]; rfl
theorem SL.next {bx by' br : Nat} {x : LetterD} {XA YA : Array Value} {a b c : Int} {w w' : World} (h : SL bx by' br x XA YA a b c w) (hb : Below w.heap.size w w') : SL bx by' br x XA YA a b c w' :=
  ⟨h.hX, h.hY, (hb.block _ (Array.getElem?_eq_some_iff.1 h.rx).1).trans h.rx, (hb.block _ (Array.getElem?_eq_some_iff.1 h.ry).1).trans h.ry, (hb.block _ (Array.getElem?_eq_some_iff.1 h.rr).1).trans h.rr⟩
theorem SL.drew {bx by' br : Nat} {x : LetterD} {XA YA : Array Value} {a b c : Int} {w : World} (h : SL bx by' br x XA YA a b c w) : SL bx by' br x XA YA a b c w.drew := ⟨h.hX, h.hY, h.rx, h.ry, h.rr⟩
set_option maxRecDepth 100000 in
set_option maxHeartbeats 8000000 in
theorem walk_FnLetters (A0 : Option Addr) (cap0 : Nat) (L0 : List Int) (w : World) (hle : L0.length ≤ cap0) (hcap : cap0 ≤ maxLen) (_ : ∀ x ∈ L0, (Lit.int .u8 x).wf = true) (hr : Rd bcells 1 w 0 w.heap.size A0 L0) :
    Calls Try.prog 6 #[.slice A0 L0.length cap0] w fun e w' => e = .returned (.bool true) ∧ Below w.heap.size w w' := by
  have hm0 : L0.length ≤ maxLen := Nat.le_trans hle hcap
  by_cases hbig : (1048576 : Int) < L0.length
  · have d0 : decide ((1048576 : Int) < (L0.length : Int)) = true := decide_eq_true hbig
    go_enter Try.func6, Try.ntmps6
    go_wp2_with fail
    refine (big_any _ _ _ _ hm0).mono ?_
    rintro e w1 ⟨rfl, rfl⟩
    go_wp2
    go_ret
    exact ⟨rfl, Below.refl _ _⟩
  have d0 : decide ((1048576 : Int) < (L0.length : Int)) = false := decide_eq_false hbig
  go_enter Try.func6, Try.ntmps6
  go_wp2_with fail
  refine (big_any _ _ _ _ hm0).mono ?_
  rintro e w1 ⟨rfl, rfl⟩
  go_wp2_with fail
  refine (DrawBetween_some A0 cap0 L0 _ hr (by omega)).mono ?_
  rintro e w1 ⟨a, b, c, x, rfl, hx, hb1⟩
  have hz1 := hb1.size
  have hxm : x.fText.size ≤ maxLen := by unfold maxLen; omega
  go_upto_region 4 with (refine wpList_store_row rfl rfl 33 (.tmp 4) (.tmp 12) rfl (w1.heap.size + 1) rfl 33 _ _ rfl (heap_new_at _ _ _ (by simp)) rfl (by kernel_rfl) (by simp [Value.oneCell']) ?_; intro wz hgz hgr hsz)
  have GR : Hid (wz.heap[w1.heap.size]? = some (.cells #[.int .i64 a, .int .i64 b, .int .i64 c] 29 (0, 0))) := (hgr.block _ (by simp; omega) (by simp)).trans ((Below.heap_alloc _ _ _ (by simp)).trans (heap_alloc_new w1 _))
  obtain ⟨XA, hXA⟩ : ∃ XA : Array Value, XA = #[.int .i64 (x.fKind), .int .i64 (x.fFrom), .int .i64 (x.fTo), .int .i64 (x.fPort), .int .i64 (x.fKey), .int .i64 (x.fToken), .int .i64 (x.fNonce), .int .i64 (x.fGive), .int .i64 (x.fSign), .int .i64 (x.fTagKind), .int .i64 (x.fTagOne), .int .i64 (x.fTagTwo), .int .i64 (x.fTagA), .int .i64 (x.fTagB), .int .i64 (x.fId), .int .i64 (x.fAddr), .bool (x.fSpare), .int .i64 (x.fAt), .string (x.fText)] := ⟨_, rfl⟩
  rw [← hXA] at hgz
  have GX := Lib.hid hgz
  have HXA := Lib.hid hXA
  have hXs : Hid ((Try.prog.info? 33).map (·.size) = some XA.size) := by unfold Hid; rw [hXA]; kernel_rfl
  clear hXA
  have hBz : Below w.heap.size w wz := (by (repeat' (first | (with_reducible exact Below.refl _ _) | (with_reducible assumption) | (with_reducible refine Below.alloc ?_ ?_ _) | (with_reducible refine Below.drew ?_) | (with_reducible refine below_drewN ?_ _) | (with_reducible refine Below.setCell ?_ ?_ _) | (with_reducible refine bvia ?_ (by with_reducible assumption) ?_) | go_size)) : Below w.heap.size w ((w1.alloc _).alloc _)).grown hgr (by simp; omega) (by rintro k ⟨⟩; omega)
  have hzz : w1.heap.size + 2 ≤ wz.heap.size := by have := hgr.size; simpa using this
  have g0 : wz.cell? ⟨w1.heap.size, 0, none⟩ = some (.int .i64 a) := by rw [cell_of_row _ _ _ _ _ (0, 0) GR.out]; rfl
  have g1 : wz.cell? ⟨w1.heap.size, 1, none⟩ = some (.int .i64 b) := by rw [cell_of_row _ _ _ _ _ (0, 0) GR.out]; rfl
  have g2 : wz.cell? ⟨w1.heap.size, 2, none⟩ = some (.int .i64 c) := by rw [cell_of_row _ _ _ _ _ (0, 0) GR.out]; rfl
  clear hgz hgr hsz hb1
  go_wp2_with (refine wpList_load_row rfl 33 (.tmp 4) rfl (w1.heap.size + 1) rfl 33 _ (0, 0) _ GX.out Try.underlying33 rfl hXs.out ?_)
  refine (iBetweenA a b c x XA HXA.out _).mono ?_
  rintro e w2 ⟨rfl, hb2⟩
  have hB2 := hBz.trans (hb2.mono hBz.size)
  have hz2 := hb2.size
  have GR2 := Lib.hid ((hb2.block _ (by omega)).trans GR.out)
  have GX2 := Lib.hid ((hb2.block _ (by omega)).trans GX.out)
  clear g0 g1 g2 GR GX hb2 hBz
  obtain ⟨y, hy⟩ : ∃ y : LetterD, y = { x with fFrom := a, fTo := b, fPort := c } := ⟨_, rfl⟩
  rw [← hy]
  have HY := Lib.hid hy
  clear hy
  go_upto_region 5 with (refine wpList_store_row rfl rfl 33 (.tmp 5) (.tmp 15) rfl w2.heap.size rfl 33 _ _ rfl (heap_alloc_new w2 _) rfl (by kernel_rfl) (by simp [Value.oneCell']) ?_; intro w3 hgz hgr hsz)
  have GR3 := Lib.hid ((hgr.block _ (by simp; omega) (by simp; omega)).trans ((Below.heap_alloc _ _ _ (by omega)).trans GR2.out))
  have GX3 := Lib.hid ((hgr.block _ (by simp; omega) (by simp; omega)).trans ((Below.heap_alloc _ _ _ (by omega)).trans GX2.out))
  obtain ⟨YA, hYA⟩ : ∃ YA : Array Value, YA = #[.int .i64 (x.fKind), .int .i64 (a), .int .i64 (b), .int .i64 (c), .int .i64 (x.fKey), .int .i64 (x.fToken), .int .i64 (x.fNonce), .int .i64 (x.fGive), .int .i64 (x.fSign), .int .i64 (x.fTagKind), .int .i64 (x.fTagOne), .int .i64 (x.fTagTwo), .int .i64 (x.fTagA), .int .i64 (x.fTagB), .int .i64 (x.fId), .int .i64 (x.fAddr), .bool (x.fSpare), .int .i64 (x.fAt), .string (x.fText)] := ⟨_, rfl⟩
  have GY3 : Hid (w3.heap[w2.heap.size]? = some (.cells YA 33 (0, 0))) := by unfold Hid; rw [hgz, HY.out, hYA]
  have HYA := Lib.hid hYA
  have hYs : Hid ((Try.prog.info? 33).map (·.size) = some YA.size) := by unfold Hid; rw [hYA]; kernel_rfl
  clear hYA
  have hB3 : Below w.heap.size w w3 := (by (repeat' (first | (with_reducible exact Below.refl _ _) | (with_reducible assumption) | (with_reducible refine Below.alloc ?_ ?_ _) | (with_reducible refine Below.drew ?_) | (with_reducible refine below_drewN ?_ _) | (with_reducible refine Below.setCell ?_ ?_ _) | (with_reducible refine bvia ?_ (by with_reducible assumption) ?_) | go_size)) : Below w.heap.size w (w2.alloc _)).grown hgr (by have := hB2.size; simp; omega) (by have := hB2.size; rintro k ⟨⟩; omega)
  have hz3 : w2.heap.size + 1 ≤ w3.heap.size := by have := hgr.size; simpa using this
  clear hgz hgr hsz GR2 GX2 HY hB2
  obtain ⟨bx, hbx⟩ : ∃ k, w1.heap.size + 1 = k := ⟨_, rfl⟩
  obtain ⟨br, hbr⟩ : ∃ k, w1.heap.size = k := ⟨_, rfl⟩
  obtain ⟨by', hby⟩ : ∃ k, w2.heap.size = k := ⟨_, rfl⟩
  have hlx : bx < w3.heap.size := by omega
  have hlr : br < w3.heap.size := by omega
  have hly : by' < w3.heap.size := by omega
  rw [hbx] at GX3
  rw [hbr] at GR3
  rw [hby] at GY3
  rw [hbx, hbr, hby]
  clear hbx hbr hby hz3 hz2 hzz hz1
  have H0 : SL bx by' br x XA YA a b c w3.drew := SL.drew ⟨HXA.out, HYA.out, GX3.out, GY3.out, GR3.out⟩
  clear GX3 GY3 GR3
  refine wp_region_held_drew (S := SL bx by' br x XA YA a b c) (by kernel_rfl) H0 (fun _ => ?_)
  refine wpAnyH_take (i := 0) rfl (by kernel_rfl) (by kernel_rfl) (by kernel_rfl) (fun _ _ _ h => h) (yieldsIf_load_row rfl 33 (.tmp 5) rfl by' rfl 33 _ (0, 0) _ (fun w h => h.ry) Try.underlying33 rfl hYs.out) (by assumption) ?_
  change wpAnyH _ _ _ _ _ _ _ (Act.put _ (some 16) _) _
  simp only [Act.put, List.setIfInBounds_toArray, List.set_cons_zero, List.set_cons_succ]
  refine wpAnyH_take (i := 2) (v := ?_) rfl (by kernel_rfl) (by kernel_rfl) (by kernel_rfl) (fun _ _ _ h => h) (Or.inl ⟨by rfl, ?_⟩) (by assumption) ?_
  rotate_left
  · intro w hSw
    have q0 := hSw.r0
    have q1 := hSw.r1
    have q2 := hSw.r2
    clear hSw
    go_simp
    all_goals (with_reducible rfl)
  change wpAnyH _ _ _ _ _ _ _ (Act.put _ (some 18) _) _
  simp only [Act.put, List.setIfInBounds_toArray, List.set_cons_zero, List.set_cons_succ]
  refine wpAnyH_ready (rs := [1]) (by kernel_rfl) (by simp) (AllReadyH.cons (o := _) rfl (fun K hK => ?_) AllReadyH.nil)
  go_simp
  refine (iRoadOfY a b c x YA HYA.out _).mono ?_
  rintro e v1 ⟨rfl, hb1⟩
  have H1 := SL.next H0 hb1
  have B1 : Below w3.heap.size w3 v1 := (by (repeat' (first | (with_reducible exact Below.refl _ _) | (with_reducible assumption) | (with_reducible refine Below.alloc ?_ ?_ _) | (with_reducible refine Below.drew ?_) | (with_reducible refine below_drewN ?_ _) | (with_reducible refine Below.setCell ?_ ?_ _) | (with_reducible refine bvia ?_ (by with_reducible assumption) ?_) | go_size)))
  refine hK.out _ _ H1 (fun _ => ?_)
  clear hK K 
  (try simp only [Act.put, List.setIfInBounds_toArray, List.set_cons_zero, List.set_cons_succ])
  refine wpAnyH_ready (rs := [3]) (by kernel_rfl) (by simp) (AllReadyH.cons (o := _) rfl (fun K hK => ?_) AllReadyH.nil)
  go_simp
  refine (sRoadBack a b c _).mono ?_
  rintro e v2 ⟨rfl, hb2⟩
  have H2 := SL.next H1 hb2
  have B2 : Below w3.heap.size w3 v2 := B1.trans (hb2.mono B1.size)
  refine hK.out _ _ H2 (fun _ => ?_)
  clear hK K H1
  (try simp only [Act.put, List.setIfInBounds_toArray, List.set_cons_zero, List.set_cons_succ])
  refine wpAnyH_take (i := 4) (v := ?_) rfl (by kernel_rfl) (by kernel_rfl) (by kernel_rfl) (fun _ _ _ h => h) (Or.inl ⟨by rfl, ?_⟩) (by assumption) ?_
  rotate_left
  · intro w hSw
    clear hSw
    go_simp
    all_goals (with_reducible rfl)
  change wpAnyH _ _ _ _ _ _ _ (Act.put _ (some 20) _) _
  simp only [Act.put, List.setIfInBounds_toArray, List.set_cons_zero, List.set_cons_succ]
  refine wpAnyH_take (i := 5) (v := ?_) rfl (by kernel_rfl) (by kernel_rfl) (by kernel_rfl) (fun _ _ _ h => h) (Or.inl ⟨by rfl, ?_⟩) (by assumption) ?_
  rotate_left
  · intro w hSw
    clear hSw
    go_simp
    all_goals (with_reducible rfl)
  change wpAnyH _ _ _ _ _ _ _ (Act.put _ (some 21) _) _
  simp only [Act.put, List.setIfInBounds_toArray, List.set_cons_zero, List.set_cons_succ]
  refine wpAnyH_take (i := 6) (v := ?_) rfl (by kernel_rfl) (by kernel_rfl) (by kernel_rfl) (fun _ _ _ h => h) (Or.inl ⟨by rfl, ?_⟩) (by assumption) ?_
  rotate_left
  · intro w hSw
    clear hSw
    go_simp
    all_goals (with_reducible rfl)
  change wpAnyH _ _ _ _ _ _ _ (Act.put _ (some 22) _) _
  simp only [Act.put, List.setIfInBounds_toArray, List.set_cons_zero, List.set_cons_succ]
  refine wpAnyH_take (i := 7) (v := ?_) rfl (by kernel_rfl) (by kernel_rfl) (by kernel_rfl) (fun _ _ _ h => h) (Or.inl ⟨by rfl, ?_⟩) (by assumption) ?_
  rotate_left
  · intro w hSw
    have q0 := hSw.y0
    clear hSw
    go_simp
    all_goals (with_reducible rfl)
  change wpAnyH _ _ _ _ _ _ _ (Act.put _ (some 23) _) _
  simp only [Act.put, List.setIfInBounds_toArray, List.set_cons_zero, List.set_cons_succ]
  refine wpAnyH_take (i := 8) (v := ?_) rfl (by kernel_rfl) (by kernel_rfl) (by kernel_rfl) (fun _ _ _ h => h) (Or.inl ⟨by rfl, ?_⟩) (by assumption) ?_
  rotate_left
  · intro w hSw
    clear hSw
    go_simp
    all_goals (with_reducible rfl)
  change wpAnyH _ _ _ _ _ _ _ (Act.put _ (some 24) _) _
  simp only [Act.put, List.setIfInBounds_toArray, List.set_cons_zero, List.set_cons_succ]
  refine wpAnyH_take (i := 9) (v := ?_) rfl (by kernel_rfl) (by kernel_rfl) (by kernel_rfl) (fun _ _ _ h => h) (Or.inl ⟨by rfl, ?_⟩) (by assumption) ?_
  rotate_left
  · intro w hSw
    have q0 := hSw.x0
    clear hSw
    go_simp
    all_goals (with_reducible rfl)
  change wpAnyH _ _ _ _ _ _ _ (Act.put _ (some 25) _) _
  simp only [Act.put, List.setIfInBounds_toArray, List.set_cons_zero, List.set_cons_succ]
  refine wpAnyH_take (i := 10) (v := ?_) rfl (by kernel_rfl) (by kernel_rfl) (by kernel_rfl) (fun _ _ _ h => h) (Or.inl ⟨by rfl, ?_⟩) (by assumption) ?_
  rotate_left
  · intro w hSw
    clear hSw
    go_simp
    all_goals (with_reducible rfl)
  change wpAnyH _ _ _ _ _ _ _ (Act.put _ (some 26) _) _
  simp only [Act.put, List.setIfInBounds_toArray, List.set_cons_zero, List.set_cons_succ]
  refine wpAnyH_take (i := 11) (v := ?_) rfl (by kernel_rfl) (by kernel_rfl) (by kernel_rfl) (fun _ _ _ h => h) (Or.inl ⟨by rfl, ?_⟩) (by assumption) ?_
  rotate_left
  · intro w hSw
    clear hSw
    go_simp
    all_goals (with_reducible rfl)
  change wpAnyH _ _ _ _ _ _ _ (Act.put _ (some 27) _) _
  simp only [Act.put, List.setIfInBounds_toArray, List.set_cons_zero, List.set_cons_succ]
  refine wpAnyH_take (i := 12) (v := ?_) rfl (by kernel_rfl) (by kernel_rfl) (by kernel_rfl) (fun _ _ _ h => h) (Or.inl ⟨by rfl, ?_⟩) (by assumption) ?_
  rotate_left
  · intro w hSw
    clear hSw
    go_simp
    all_goals (with_reducible rfl)
  change wpAnyH _ _ _ _ _ _ _ (Act.put _ (some 28) _) _
  simp only [Act.put, List.setIfInBounds_toArray, List.set_cons_zero, List.set_cons_succ]
  refine wpAnyH_take (i := 13) (v := ?_) rfl (by kernel_rfl) (by kernel_rfl) (by kernel_rfl) (fun _ _ _ h => h) (Or.inl ⟨by rfl, ?_⟩) (by assumption) ?_
  rotate_left
  · intro w hSw
    clear hSw
    go_simp
    all_goals (with_reducible rfl)
  change wpAnyH _ _ _ _ _ _ _ (Act.put _ (some 29) _) _
  simp only [Act.put, List.setIfInBounds_toArray, List.set_cons_zero, List.set_cons_succ]
  refine wpAnyH_take (i := 14) (v := ?_) rfl (by kernel_rfl) (by kernel_rfl) (by kernel_rfl) (fun _ _ _ h => h) (Or.inl ⟨by rfl, ?_⟩) (by assumption) ?_
  rotate_left
  · intro w hSw
    have q0 := hSw.y8
    clear hSw
    go_simp
    all_goals (with_reducible rfl)
  change wpAnyH _ _ _ _ _ _ _ (Act.put _ (some 30) _) _
  simp only [Act.put, List.setIfInBounds_toArray, List.set_cons_zero, List.set_cons_succ]
  refine wpAnyH_take (i := 15) (v := ?_) rfl (by kernel_rfl) (by kernel_rfl) (by kernel_rfl) (fun _ _ _ h => h) (Or.inl ⟨by rfl, ?_⟩) (by assumption) ?_
  rotate_left
  · intro w hSw
    clear hSw
    go_simp
    all_goals (with_reducible rfl)
  change wpAnyH _ _ _ _ _ _ _ (Act.put _ (some 31) _) _
  simp only [Act.put, List.setIfInBounds_toArray, List.set_cons_zero, List.set_cons_succ]
  refine wpAnyH_take (i := 16) (v := ?_) rfl (by kernel_rfl) (by kernel_rfl) (by kernel_rfl) (fun _ _ _ h => h) (Or.inl ⟨by rfl, ?_⟩) (by assumption) ?_
  rotate_left
  · intro w hSw
    have q0 := hSw.x8
    clear hSw
    go_simp
    all_goals (with_reducible rfl)
  change wpAnyH _ _ _ _ _ _ _ (Act.put _ (some 32) _) _
  simp only [Act.put, List.setIfInBounds_toArray, List.set_cons_zero, List.set_cons_succ]
  refine wpAnyH_take (i := 17) (v := ?_) rfl (by kernel_rfl) (by kernel_rfl) (by kernel_rfl) (fun _ _ _ h => h) (Or.inl ⟨by rfl, ?_⟩) (by assumption) ?_
  rotate_left
  · intro w hSw
    clear hSw
    go_simp
    all_goals (with_reducible rfl)
  change wpAnyH _ _ _ _ _ _ _ (Act.put _ (some 33) _) _
  simp only [Act.put, List.setIfInBounds_toArray, List.set_cons_zero, List.set_cons_succ]
  refine wpAnyH_take (i := 18) (v := ?_) rfl (by kernel_rfl) (by kernel_rfl) (by kernel_rfl) (fun _ _ _ h => h) (Or.inl ⟨by rfl, ?_⟩) (by assumption) ?_
  rotate_left
  · intro w hSw
    clear hSw
    go_simp
    all_goals (with_reducible rfl)
  change wpAnyH _ _ _ _ _ _ _ (Act.put _ (some 34) _) _
  simp only [Act.put, List.setIfInBounds_toArray, List.set_cons_zero, List.set_cons_succ]
  refine wpAnyH_take (i := 19) (v := ?_) rfl (by kernel_rfl) (by kernel_rfl) (by kernel_rfl) (fun _ _ _ h => h) (Or.inl ⟨by rfl, ?_⟩) (by assumption) ?_
  rotate_left
  · intro w hSw
    clear hSw
    go_simp
    all_goals (with_reducible rfl)
  change wpAnyH _ _ _ _ _ _ _ (Act.put _ (some 35) _) _
  simp only [Act.put, List.setIfInBounds_toArray, List.set_cons_zero, List.set_cons_succ]
  refine wpAnyH_take (i := 20) (v := ?_) rfl (by kernel_rfl) (by kernel_rfl) (by kernel_rfl) (fun _ _ _ h => h) (Or.inl ⟨by rfl, ?_⟩) (by assumption) ?_
  rotate_left
  · intro w hSw
    clear hSw
    go_simp
    all_goals (with_reducible rfl)
  change wpAnyH _ _ _ _ _ _ _ (Act.put _ (some 36) _) _
  simp only [Act.put, List.setIfInBounds_toArray, List.set_cons_zero, List.set_cons_succ]
  refine wpAnyH_take (i := 21) (v := ?_) rfl (by kernel_rfl) (by kernel_rfl) (by kernel_rfl) (fun _ _ _ h => h) (Or.inl ⟨by rfl, ?_⟩) (by assumption) ?_
  rotate_left
  · intro w hSw
    have q0 := hSw.y18
    clear hSw
    go_simp
    all_goals (with_reducible rfl)
  change wpAnyH _ _ _ _ _ _ _ (Act.put _ (some 37) _) _
  simp only [Act.put, List.setIfInBounds_toArray, List.set_cons_zero, List.set_cons_succ]
  refine wpAnyH_take (i := 22) (v := ?_) rfl (by kernel_rfl) (by kernel_rfl) (by kernel_rfl) (fun _ _ _ h => h) (Or.inl ⟨by rfl, ?_⟩) (by assumption) ?_
  rotate_left
  · intro w hSw
    clear hSw
    go_simp
    all_goals (with_reducible rfl)
  change wpAnyH _ _ _ _ _ _ _ (Act.put _ (some 38) _) _
  simp only [Act.put, List.setIfInBounds_toArray, List.set_cons_zero, List.set_cons_succ]
  refine wpAnyH_take (i := 23) (v := ?_) rfl (by kernel_rfl) (by kernel_rfl) (by kernel_rfl) (fun _ _ _ h => h) (Or.inl ⟨by rfl, ?_⟩) (by assumption) ?_
  rotate_left
  · intro w hSw
    have q0 := hSw.x18
    clear hSw
    go_simp
    all_goals (with_reducible rfl)
  change wpAnyH _ _ _ _ _ _ _ (Act.put _ (some 39) _) _
  simp only [Act.put, List.setIfInBounds_toArray, List.set_cons_zero, List.set_cons_succ]
  refine wpAnyH_take (i := 24) (v := ?_) rfl (by kernel_rfl) (by kernel_rfl) (by kernel_rfl) (fun _ _ _ h => h) (Or.inl ⟨by rfl, ?_⟩) (by assumption) ?_
  rotate_left
  · intro w hSw
    clear hSw
    go_simp
    all_goals (with_reducible rfl)
  change wpAnyH _ _ _ _ _ _ _ (Act.put _ (some 40) _) _
  simp only [Act.put, List.setIfInBounds_toArray, List.set_cons_zero, List.set_cons_succ]
  refine wpAnyH_take (i := 25) (v := ?_) rfl (by kernel_rfl) (by kernel_rfl) (by kernel_rfl) (fun _ _ _ h => h) (Or.inl ⟨by rfl, ?_⟩) (by assumption) ?_
  rotate_left
  · intro w hSw
    clear hSw
    go_simp
    all_goals (with_reducible rfl)
  change wpAnyH _ _ _ _ _ _ _ (Act.put _ (some 41) _) _
  simp only [Act.put, List.setIfInBounds_toArray, List.set_cons_zero, List.set_cons_succ]
  refine wpAnyH_take (i := 26) (v := ?_) rfl (by kernel_rfl) (by kernel_rfl) (by kernel_rfl) (fun _ _ _ h => h) (Or.inl ⟨by rfl, ?_⟩) (by assumption) ?_
  rotate_left
  · intro w hSw
    clear hSw
    go_simp
    all_goals (with_reducible rfl)
  change wpAnyH _ _ _ _ _ _ _ (Act.put _ (some 42) _) _
  simp only [Act.put, List.setIfInBounds_toArray, List.set_cons_zero, List.set_cons_succ]
  refine wpAnyH_take (i := 27) (v := ?_) rfl (by kernel_rfl) (by kernel_rfl) (by kernel_rfl) (fun _ _ _ h => h) (Or.inl ⟨by rfl, ?_⟩) (by assumption) ?_
  rotate_left
  · intro w hSw
    clear hSw
    go_simp
    all_goals (with_reducible rfl)
  change wpAnyH _ _ _ _ _ _ _ (Act.put _ (some 43) _) _
  simp only [Act.put, List.setIfInBounds_toArray, List.set_cons_zero, List.set_cons_succ]
  refine wpAnyH_take (i := 28) (v := ?_) rfl (by kernel_rfl) (by kernel_rfl) (by kernel_rfl) (fun _ _ _ h => h) (Or.inl ⟨by rfl, ?_⟩) (by assumption) ?_
  rotate_left
  · intro w hSw
    have q0 := hSw.y9
    have q1 := hSw.y10
    have q2 := hSw.y11
    have q3 := hSw.y12
    have q4 := hSw.y13
    clear hSw
    go_simp
    all_goals (with_reducible rfl)
  change wpAnyH _ _ _ _ _ _ _ (Act.put _ (some 44) _) _
  simp only [Act.put, List.setIfInBounds_toArray, List.set_cons_zero, List.set_cons_succ]
  refine wpAnyH_take (i := 29) (v := ?_) rfl (by kernel_rfl) (by kernel_rfl) (by kernel_rfl) (fun _ _ _ h => h) (Or.inl ⟨by rfl, ?_⟩) (by assumption) ?_
  rotate_left
  · intro w hSw
    clear hSw
    go_simp
    all_goals (with_reducible rfl)
  change wpAnyH _ _ _ _ _ _ _ (Act.put _ (some 45) _) _
  simp only [Act.put, List.setIfInBounds_toArray, List.set_cons_zero, List.set_cons_succ]
  refine wpAnyH_take (i := 30) (v := ?_) rfl (by kernel_rfl) (by kernel_rfl) (by kernel_rfl) (fun _ _ _ h => h) (Or.inl ⟨by rfl, ?_⟩) (by assumption) ?_
  rotate_left
  · intro w hSw
    have q0 := hSw.x9
    have q1 := hSw.x10
    have q2 := hSw.x11
    have q3 := hSw.x12
    have q4 := hSw.x13
    clear hSw
    go_simp
    all_goals (with_reducible rfl)
  change wpAnyH _ _ _ _ _ _ _ (Act.put _ (some 46) _) _
  simp only [Act.put, List.setIfInBounds_toArray, List.set_cons_zero, List.set_cons_succ]
  refine wpAnyH_take (i := 31) (v := ?_) rfl (by kernel_rfl) (by kernel_rfl) (by kernel_rfl) (fun _ _ _ h => h) (Or.inl ⟨by rfl, ?_⟩) (by assumption) ?_
  rotate_left
  · intro w hSw
    clear hSw
    go_simp
    all_goals (with_reducible rfl)
  change wpAnyH _ _ _ _ _ _ _ (Act.put _ (some 47) _) _
  simp only [Act.put, List.setIfInBounds_toArray, List.set_cons_zero, List.set_cons_succ]
  refine wpAnyH_take (i := 32) (v := ?_) rfl (by kernel_rfl) (by kernel_rfl) (by kernel_rfl) (fun _ _ _ h => h) (Or.inl ⟨by rfl, ?_⟩) (by assumption) ?_
  rotate_left
  · intro w hSw
    clear hSw
    go_simp
    all_goals (with_reducible rfl)
  change wpAnyH _ _ _ _ _ _ _ (Act.put _ (some 48) _) _
  simp only [Act.put, List.setIfInBounds_toArray, List.set_cons_zero, List.set_cons_succ]
  refine wpAnyH_take (i := 33) (v := ?_) rfl (by kernel_rfl) (by kernel_rfl) (by kernel_rfl) (fun _ _ _ h => h) (Or.inl ⟨by rfl, ?_⟩) (by assumption) ?_
  rotate_left
  · intro w hSw
    clear hSw
    go_simp
    all_goals (with_reducible rfl)
  change wpAnyH _ _ _ _ _ _ _ (Act.put _ (some 49) _) _
  simp only [Act.put, List.setIfInBounds_toArray, List.set_cons_zero, List.set_cons_succ]
  refine wpAnyH_take (i := 34) rfl (by kernel_rfl) (by kernel_rfl) (by kernel_rfl) (fun _ _ _ h => h) (yieldsIf_load_row rfl 33 (.tmp 4) rfl bx rfl 33 _ (0, 0) _ (fun w h => h.rx) Try.underlying33 rfl hXs.out) (by assumption) ?_
  change wpAnyH _ _ _ _ _ _ _ (Act.put _ (some 50) _) _
  simp only [Act.put, List.setIfInBounds_toArray, List.set_cons_zero, List.set_cons_succ]
  refine wpAnyH_take (i := 36) rfl (by kernel_rfl) (by kernel_rfl) (by kernel_rfl) (fun _ _ _ h => h) (yieldsIf_load_row rfl 33 (.tmp 4) rfl bx rfl 33 _ (0, 0) _ (fun w h => h.rx) Try.underlying33 rfl hXs.out) (by assumption) ?_
  change wpAnyH _ _ _ _ _ _ _ (Act.put _ (some 52) _) _
  simp only [Act.put, List.setIfInBounds_toArray, List.set_cons_zero, List.set_cons_succ]
  refine wpAnyH_ready (rs := [35]) (by kernel_rfl) (by simp) (AllReadyH.cons (o := _) rfl (fun K hK => ?_) AllReadyH.nil)
  go_simp
  refine (iLetterOkX x XA HXA.out _).mono ?_
  rintro e v3 ⟨rfl, hb3⟩
  have H3 := SL.next H2 hb3
  have B3 : Below w3.heap.size w3 v3 := B2.trans (hb3.mono B2.size)
  refine hK.out _ _ H3 (fun _ => ?_)
  clear hK K H2
  (try simp only [Act.put, List.setIfInBounds_toArray, List.set_cons_zero, List.set_cons_succ])
  refine wpAnyH_ready (rs := [37]) (by kernel_rfl) (by simp) (AllReadyH.cons (o := _) rfl (fun K hK => ?_) AllReadyH.nil)
  go_simp
  refine (sLetterOkX x XA HXA.out _ hxm).mono ?_
  rintro e v4 ⟨rfl, hb4⟩
  have H4 := SL.next H3 hb4
  have B4 : Below w3.heap.size w3 v4 := B3.trans (hb4.mono B3.size)
  refine hK.out _ _ H4 (fun _ => ?_)
  clear hK K H3
  (try simp only [Act.put, List.setIfInBounds_toArray, List.set_cons_zero, List.set_cons_succ])
  refine wpAnyH_take (i := 38) (v := ?_) rfl (by kernel_rfl) (by kernel_rfl) (by kernel_rfl) (fun _ _ _ h => h) (Or.inl ⟨by rfl, ?_⟩) (by assumption) ?_
  rotate_left
  · intro w hSw
    clear hSw
    go_simp
    all_goals (with_reducible rfl)
  change wpAnyH _ _ _ _ _ _ _ (Act.put _ (some 54) _) _
  simp only [Act.put, List.setIfInBounds_toArray, List.set_cons_zero, List.set_cons_succ]
  refine wpAnyH_take (i := 39) (v := ?_) rfl (by kernel_rfl) (by kernel_rfl) (by kernel_rfl) (fun _ _ _ h => h) (Or.inl ⟨by rfl, ?_⟩) (by assumption) ?_
  rotate_left
  · intro w hSw
    clear hSw
    go_simp
    all_goals (with_reducible rfl)
  change wpAnyH _ _ _ _ _ _ _ (Act.put _ (some 55) _) _
  simp only [Act.put, List.setIfInBounds_toArray, List.set_cons_zero, List.set_cons_succ]
  refine wpAnyH_take (i := 40) (v := ?_) rfl (by kernel_rfl) (by kernel_rfl) (by kernel_rfl) (fun _ _ _ h => h) (Or.inl ⟨by rfl, ?_⟩) (by assumption) ?_
  rotate_left
  · intro w hSw
    clear hSw
    go_simp
    all_goals (with_reducible rfl)
  change wpAnyH _ _ _ _ _ _ _ (Act.put _ (some 56) _) _
  simp only [Act.put, List.setIfInBounds_toArray, List.set_cons_zero, List.set_cons_succ]
  refine wpAnyH_ready (rs := [41]) (by kernel_rfl) (by simp) (AllReadyH.cons (o := _) rfl (fun K hK => ?_) AllReadyH.nil)
  go_simp
  refine (iOnRoad13 _).mono ?_
  rintro e w' ⟨rfl, rfl⟩
  refine hK.out _ _ (by assumption) (fun _ => ?_)
  clear hK K
  (try simp only [Act.put, List.setIfInBounds_toArray, List.set_cons_zero, List.set_cons_succ])
  refine wpAnyH_take (i := 42) (v := ?_) rfl (by kernel_rfl) (by kernel_rfl) (by kernel_rfl) (fun _ _ _ h => h) (Or.inl ⟨by rfl, ?_⟩) (by assumption) ?_
  rotate_left
  · intro w hSw
    clear hSw
    go_simp
    all_goals (with_reducible rfl)
  change wpAnyH _ _ _ _ _ _ _ (Act.put _ (some 58) _) _
  simp only [Act.put, List.setIfInBounds_toArray, List.set_cons_zero, List.set_cons_succ]
  refine wpAnyH_take (i := 43) (v := ?_) rfl (by kernel_rfl) (by kernel_rfl) (by kernel_rfl) (fun _ _ _ h => h) (Or.inl ⟨by rfl, ?_⟩) (by assumption) ?_
  rotate_left
  · intro w hSw
    clear hSw
    go_simp
    all_goals (with_reducible rfl)
  change wpAnyH _ _ _ _ _ _ _ (Act.put _ (some 59) _) _
  simp only [Act.put, List.setIfInBounds_toArray, List.set_cons_zero, List.set_cons_succ]
  refine wpAnyH_ready (rs := [44]) (by kernel_rfl) (by simp) (AllReadyH.cons (o := _) rfl (fun K hK => ?_) AllReadyH.nil)
  go_simp
  refine (iOnRoad6 _).mono ?_
  rintro e w' ⟨rfl, rfl⟩
  refine hK.out _ _ (by assumption) (fun _ => ?_)
  clear hK K
  (try simp only [Act.put, List.setIfInBounds_toArray, List.set_cons_zero, List.set_cons_succ])
  refine wpAnyH_take (i := 45) (v := ?_) rfl (by kernel_rfl) (by kernel_rfl) (by kernel_rfl) (fun _ _ _ h => h) (Or.inl ⟨by rfl, ?_⟩) (by assumption) ?_
  rotate_left
  · intro w hSw
    clear hSw
    go_simp
    all_goals (with_reducible rfl)
  change wpAnyH _ _ _ _ _ _ _ (Act.put _ (some 61) _) _
  simp only [Act.put, List.setIfInBounds_toArray, List.set_cons_zero, List.set_cons_succ]
  refine wpAnyH_take (i := 46) (v := ?_) rfl (by kernel_rfl) (by kernel_rfl) (by kernel_rfl) (fun _ _ _ h => h) (Or.inl ⟨by rfl, ?_⟩) (by assumption) ?_
  rotate_left
  · intro w hSw
    clear hSw
    go_simp
    all_goals (with_reducible rfl)
  change wpAnyH _ _ _ _ _ _ _ (Act.put _ (some 62) _) _
  simp only [Act.put, List.setIfInBounds_toArray, List.set_cons_zero, List.set_cons_succ]
  refine wpAnyH_take (i := 47) (v := ?_) rfl (by kernel_rfl) (by kernel_rfl) (by kernel_rfl) (fun _ _ _ h => h) (Or.inl ⟨by rfl, ?_⟩) (by assumption) ?_
  rotate_left
  · intro w hSw
    clear hSw
    go_simp
    all_goals (with_reducible rfl)
  change wpAnyH _ _ _ _ _ _ _ (Act.put _ (some 2) _) _
  simp only [Act.put, List.setIfInBounds_toArray, List.set_cons_zero, List.set_cons_succ]
  refine wpAnyH_done (by kernel_rfl) ?_ _
  go_wp2
  go_ret
  exact ⟨rfl, hB3.trans (B4.mono hB3.size)⟩
end Go.Proofs.Ytkehjlddbikpbaa
