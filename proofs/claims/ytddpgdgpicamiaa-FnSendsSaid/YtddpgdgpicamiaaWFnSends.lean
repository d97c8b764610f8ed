/- The walk of FnSends: for every input. Written by program (fnsends.py). -/
import Derived.Test.YtddpgdgpicamiaaDrawOut
import Derived.Test.YtddpgdgpicamiaaLaw0
import Derived.Deep.RegionHeld3
import Derived.Deep.DrawnRows
import Derived.StillTailTactics
import Derived.Deep.Light
namespace Go.Proofs.Ytddpgdgpicamiaa
set_option linter.unusedSimpArgs false
set_option linter.unusedVariables false
open Go.RowKit
/-- The rest of a region that only reads, under a name that nothing unfolds. -/
structure StillG (P : Program) (ops : Array Oper) (w : World) (Q : Act → Prop) (L : List Oper) (a : Act) : Prop where
  out : wpStill P ops w Q L a
section
variable {P : Program} {ops : Array Oper} {w : World} {Q : Act → Prop} {a : Act} {o : Oper} {rest : List Oper}
theorem StillG.skip {j d : Nat} {want b : Bool} (hg : o.guard = some (j, want)) (hd : (ops[j]?).bind (·.dst) = some d) (ht : a.tmps[d]? = some (.bool b)) (hb : (b == want) = false)
    (h : StillG P ops w Q rest (a.put o.dst undef)) : StillG P ops w Q (o :: rest) a := by
  refine ⟨?_⟩
  unfold wpStill
  have hw : Region.wanted o (yielded ops a.tmps) = false := by
    unfold Region.wanted yielded
    rw [hg]
    simp only [hd, Option.bind_some, ht]
    cases b <;> cases want <;> first | rfl | simp_all
  rw [hw]
  exact h.out
theorem StillG.step (h : ∀ K : Act → Prop, (∀ a, StillG P ops w Q rest a → K a) → if Region.wanted o (yielded ops a.tmps) then o.still P a w K else K (a.put o.dst undef)) : StillG P ops w Q (o :: rest) a :=
  ⟨wpStill_step fun K hK => h K fun a h' => hK a h'.out⟩
end
set_option maxRecDepth 100000 in
set_option maxHeartbeats 16000000 in
theorem walk_FnSends (A0 : Option Addr) (cap0 : Nat) (L0 : List Int) (w : World) (hle : L0.length ≤ cap0) (hcap : cap0 ≤ maxLen) (_ : ∀ x ∈ L0, (Lit.int .u8 x).wf = true) (hr : Rd bcells 1 w 0 w.heap.size A0 L0) :
    Calls Try.prog 9 #[.slice A0 L0.length cap0] w fun e w' => e = .returned (.bool true) ∧ Below w.heap.size w w' := by
  have hm0 : L0.length ≤ maxLen := Nat.le_trans hle hcap
  by_cases hbig : (1048576 : Int) < L0.length
  · have d0 : decide ((1048576 : Int) < (L0.length : Int)) = true := decide_eq_true hbig
    go_enter Try.func9, Try.ntmps9
    go_wp2_with fail
    refine (big_any _ _ _ _ hm0).mono ?_
    rintro e w1 ⟨rfl, rfl⟩
    go_wp2
    go_ret
    exact ⟨rfl, Below.refl _ _⟩
  have d0 : decide ((1048576 : Int) < (L0.length : Int)) = false := decide_eq_false hbig
  go_enter Try.func9, Try.ntmps9
  go_wp2_with fail
  refine (big_any _ _ _ _ hm0).mono ?_
  rintro e w1 ⟨rfl, rfl⟩
  go_wp2_with fail
  refine (DrawAccept_some A0 cap0 L0 _ hr (by omega)).mono ?_
  rintro e w1 ⟨t, b, n, r, u, rfl, ht, hn0, hn1, hu, hb1⟩
  have HB1 := Lib.hid hb1
  have hz1 := hb1.size
  clear hb1
  obtain ⟨b3, hb3⟩ : ∃ b, w1.heap.size = b := ⟨_, rfl⟩
  go_wp2_with fail
  try rw [hb3]
  have hO1 : OX (w1.alloc (.cells #[.string t, .int .i64 b, .int .i64 n, .int .i64 r] 26)) b3 t b n r := by rw [← hb3]; exact OX.new _ _
  refine (iAccept t u b n r _ (by unfold maxLen; omega) (by omega)).mono ?_
  rintro e w2 ⟨rfl, hb2⟩
  have O3_2 := Lib.hid (hO1.next hb2)
  have hB2 : Below w1.heap.size w1 w2 := by (repeat' (first | (with_reducible exact Below.refl _ _) | (with_reducible assumption) | (with_reducible refine Below.alloc ?_ ?_ _) | (with_reducible refine Below.drew ?_) | (with_reducible refine below_drewN ?_ _) | (with_reducible refine Below.setCell ?_ ?_ _) | (with_reducible refine bvia ?_ (by with_reducible assumption) ?_) | go_size))
  have hz2 := hB2.size
  have HB2 := Lib.hid (HB1.out.trans (hB2.mono hz1))
  have h32 := O3_2.out.lt
  clear hO1 hb2 hB2 HB1 hb3
  obtain ⟨T, hT⟩ : ∃ T, accT t u b n r = T := ⟨_, rfl⟩
  obtain ⟨K, hK⟩ : ∃ K, accN t u b n r = K := ⟨_, rfl⟩
  rw [hT, hK]
  have HT := Lib.hid hT
  have HK := Lib.hid hK
  clear hT hK
  obtain ⟨b5, hb5⟩ : ∃ b, w2.heap.size = b := ⟨_, rfl⟩
  have h5 : b3 < b5 := by omega
  have o0 := O3_2.out.c0
  have o1 := O3_2.out.c1
  have o2 := O3_2.out.c2
  have o3 := O3_2.out.c3
  go_wp2_with fail
  try rw [hb5]
  have hO2 : OX (w2.alloc (.cells #[.string T, .int .i64 b, .int .i64 n, .int .i64 r] 26)) b5 T b n r := by rw [← hb5]; exact OX.new _ _
  have hO3 := O3_2.out.next (by (repeat' (first | (with_reducible exact Below.refl _ _) | (with_reducible assumption) | (with_reducible refine Below.alloc ?_ ?_ _) | (with_reducible refine Below.drew ?_) | (with_reducible refine below_drewN ?_ _) | (with_reducible refine Below.setCell ?_ ?_ _) | (with_reducible refine bvia ?_ (by with_reducible assumption) ?_) | go_size)) : Below w2.heap.size w2 (w2.alloc (.cells #[.string T, .int .i64 b, .int .i64 n, .int .i64 r] 26)))
  refine (sOutOk t b n r _ (by unfold maxLen; omega)).mono ?_
  rintro e w3 ⟨rfl, hb3⟩
  have O5_3 := Lib.hid (hO2.next hb3)
  have O3_3 := Lib.hid (hO3.next hb3)
  have hB3 : Below w2.heap.size w2 w3 := by (repeat' (first | (with_reducible exact Below.refl _ _) | (with_reducible assumption) | (with_reducible refine Below.alloc ?_ ?_ _) | (with_reducible refine Below.drew ?_) | (with_reducible refine below_drewN ?_ _) | (with_reducible refine Below.setCell ?_ ?_ _) | (with_reducible refine bvia ?_ (by with_reducible assumption) ?_) | go_size))
  have HB3 := Lib.hid (HB2.out.trans (hB3.mono (by have := HB2.out.size; omega)))
  have h53 := O5_3.out.lt
  clear hO2 hO3 hb3 hB3 HB2 O3_2 o0 o1 o2 o3 hb5
  cases hok : outOk t b n r with
  | false =>
    obtain ⟨k1, k2⟩ := acc_bad (t := u) hok
    have e1 : K = 0 := HK.out.symm.trans k1
    have e2 : T = t := HT.out.symm.trans k2
    subst e1 e2
    have o0 := O3_3.out.c0
    have o1 := O3_3.out.c1
    have o2 := O3_3.out.c2
    have o3 := O3_3.out.c3
    have p0 := O5_3.out.c0
    have p1 := O5_3.out.c1
    have p2 := O5_3.out.c2
    have p3 := O5_3.out.c3
    go_wp2
    go_ret
    exact ⟨rfl, HB3.out⟩
  | true =>
    obtain ⟨k, k1, k2, k3, k4, k5, k6⟩ := acc_low (t := u) hok hn1
    have e1 : K = (k : Int) := HK.out.symm.trans k1
    have e2 : t ++ u.extract 0 k = T := k3.symm.trans HT.out
    rw [e2] at k4 k5 k6
    have k6a : T.size ≤ t.size + k := by omega
    have k6b : t.size + k ≤ T.size := by omega
    clear k6
    have K5 : Hid (k = u.size ∨ (((k : Int) == (u.size : Int)) = false ∧ ((T.size : Int) == r) = true)) := by
      by_cases hk : k = u.size
      · exact .inl hk
      · exact .inr ⟨beq_eq_false_iff_ne.2 (by omega), beq_iff_eq.2 (k5.resolve_left hk)⟩
    subst e1
    have HE := Lib.hid e2
    have HTe := Lib.hid k4
    have q1 := k4.b0
    have q2 := k4.b1
    have q3 := k4.r0
    have q4 := k4.r1
    have q5 := k4.tr
    have hA : Hid (anewN T b n r = b) := by
      have := outOk_bounds hok
      unfold Hid anewN
      rw [k4.ok (by omega) (by omega)]; rfl
    clear k1 k3 e2 k4 HT HK
    have p0 := O5_3.out.c0
    have p1 := O5_3.out.c1
    have p2 := O5_3.out.c2
    have p3 := O5_3.out.c3
    go_wp2_with fail
    refine (iAnew T b n r _ (by unfold maxLen; omega)).mono ?_
    rintro e w4 ⟨rfl, hb4⟩
    rw [hA.out]
    have O5_4 := Lib.hid (O5_3.out.next hb4)
    have O3_4 := Lib.hid (O3_3.out.next hb4)
    have HB4 := Lib.hid (HB3.out.trans (hb4.mono (by have := HB3.out.size; omega)))
    have h54 := O5_4.out.lt
    clear hb4 HB3 O5_3 O3_3 p0 p1 p2 p3 hA
    obtain ⟨bx, hbx⟩ : ∃ b, w4.heap.size = b := ⟨_, rfl⟩
    have h5x : b5 < bx := by omega
    have hbx1 : w4.heap.size ≤ bx := by omega
    have hbx2 : bx ≤ w4.heap.size := by omega
    go_wp2_with fail
    go_loopw [7, 9] (fun a i wr => ∃ k : Nat, i = .int .i64 k ∧ k ≤ 10 ∧ a = .string (T.extract 0 (told T k)) ∧ OX wr bx T b (b + told T k) r ∧ Below w4.heap.size w4 wr) (fun _ i _ => 40 - (intOf i).toNat)
    case atStart =>
      refine ⟨0, rfl, by omega, ?_, ?_, by (repeat' (first | (with_reducible exact Below.refl _ _) | (with_reducible assumption) | (with_reducible refine Below.alloc ?_ ?_ _) | (with_reducible refine Below.drew ?_) | (with_reducible refine below_drewN ?_ _) | (with_reducible refine Below.setCell ?_ ?_ _) | (with_reducible refine bvia ?_ (by with_reducible assumption) ?_) | go_size))⟩
      · rw [told_zero]; simp; rfl
      · rw [← hbx, told_zero]; simp only [Int.natCast_zero, Int.add_zero]; exact OX.new _ _
    case round =>
      obtain ⟨i, rfl, hi, rfl, hX, hB⟩ := hrel
      have HX := Lib.hid hX
      have hBz := hB.size
      have x0 := hX.c0
      have x1 := hX.c1
      have x2 := hX.c2
      have x3 := hX.c3
      have hxl := hX.lt
      clear hX
      have htl := told_le T i
      have hi40 : decide ((i : Int) < 40) = true := decide_eq_true (by omega)
      go_wp2_with fail
      refine (iNextPiece T b (b + told T i) r _ (by unfold maxLen; omega)).mono ?_
      rintro e w5 ⟨rfl, hb5⟩
      have X5 := Lib.hid (HX.out.next hb5)
      have hB5 := hB.trans (hb5.mono (by omega))
      have hz5 := hb5.size
      clear HX x0 x1 x2 x3 hb5
      by_cases hlt : told T i < T.size
      · obtain ⟨m1, m2, m3, m4, m5, m6⟩ := HTe.out.next hlt
        rw [m1, m2]
        obtain ⟨y, hy⟩ : ∃ y, npTx T b (b + told T i) r = y := ⟨_, rfl⟩
        rw [hy] at m3 m4 m5 ⊢
        have hi9 : i ≤ 9 := by have := told_lt hlt; omega
        have HM5 := Lib.hid m5
        have HM6 := Lib.hid m6
        clear hy m1 m2 m5 m6
        have x0 := X5.out.c0
        have x1 := X5.out.c1
        have x2 := X5.out.c2
        have x3 := X5.out.c3
        have hxl5 := X5.out.lt
        have y0 : ((y.size : Int) == 0) = false := beq_eq_false_iff_ne.2 (by omega)
        have y1 : decide ((20 : Int) < (y.size : Int)) = false := decide_eq_false (by omega)
        go_wp2_with fail
        refine (iWasSent T b (b + told T i) r _ (by unfold maxLen; omega) (by omega)).mono ?_
        rintro e w6 ⟨rfl, hb6⟩
        rw [HM6.out]
        have hq6 : Below w5.heap.size w5 w6 := by (repeat' (first | (with_reducible exact Below.refl _ _) | (with_reducible assumption) | (with_reducible refine Below.alloc ?_ ?_ _) | (with_reducible refine Below.drew ?_) | (with_reducible refine below_drewN ?_ _) | (with_reducible refine Below.setCell ?_ ?_ _) | (with_reducible refine bvia ?_ (by with_reducible assumption) ?_) | go_size))
        have X6 := X5.out.next hq6
        have hB6 := hB5.trans (hq6.mono (by omega))
        have hz6 := hq6.size
        have x0' := X6.c0
        have x1' := X6.c1
        have x2' := X6.c2
        have x3' := X6.c3
        have f0 := X6.fr 0
        have f1 := X6.fr 1
        have f2 := X6.fr 2
        have f3 := X6.fr 3
        clear x0 x1 x2 x3 X5 hb6 hq6 hB5 hB hBz
        go_wp2
        go_roundw
        case rel => exact ⟨i + 1, by go_num, by omega, by rw [HM5.out], X6.set T b (b + told T (i + 1)) r, by (repeat' (first | (with_reducible exact Below.refl _ _) | (with_reducible assumption) | (with_reducible refine Below.alloc ?_ ?_ _) | (with_reducible refine Below.drew ?_) | (with_reducible refine below_drewN ?_ _) | (with_reducible refine Below.setCell ?_ ?_ _) | (with_reducible refine bvia ?_ (by with_reducible assumption) ?_) | go_size))⟩
        case measure => simp [intOf]; omega
      · obtain ⟨m1, m2⟩ := HTe.out.last hlt
        have e1 : npAt T b (b + told T i) r = 0 ∧ npTx T b (b + told T i) r = ⟨#[]⟩ := np_nov m1
        rw [m1, e1.1, e1.2]
        have X6 := X5.out
        rw [m2] at X6
        have X7 := Lib.hid X6
        have hAll : T.extract 0 (told T i) = T := by rw [m2]; exact ByteArray.extract_zero_size
        have O5_5 := Lib.hid (O5_4.out.next hB5)
        have O3_5 := Lib.hid (O3_4.out.next hB5)
        obtain ⟨cm1, cm2⟩ := HTe.out.came
        have x0 := X7.out.c0
        have x1 := X7.out.c1
        have x2 := X7.out.c2
        have x3 := X7.out.c3
        have p0 := O5_5.out.c0
        have p1 := O5_5.out.c1
        have p2 := O5_5.out.c2
        have p3 := O5_5.out.c3
        have hxl5 := X7.out.lt
        have hl55 := O5_5.out.lt
        have hl35 := O3_5.out.lt
        clear X5 X6 e1 m1 m2
        go_wp2_with fail
        refine (iCame T b (b + T.size) r (b + T.size) _ (by unfold maxLen; omega)).mono ?_
        rintro e w6 ⟨rfl, hb6⟩
        have hq6 : Below w5.heap.size w5 w6 := by (repeat' (first | (with_reducible exact Below.refl _ _) | (with_reducible assumption) | (with_reducible refine Below.alloc ?_ ?_ _) | (with_reducible refine Below.drew ?_) | (with_reducible refine below_drewN ?_ _) | (with_reducible refine Below.setCell ?_ ?_ _) | (with_reducible refine bvia ?_ (by with_reducible assumption) ?_) | go_size))
        have hz6 := hq6.size
        have O5_6 := Lib.hid (O5_5.out.next hq6)
        have O3_6 := Lib.hid (O3_5.out.next hq6)
        have X_6 := Lib.hid (X7.out.next hq6)
        have hB6 := hB5.trans (hq6.mono (by omega))
        obtain ⟨cT, hcT⟩ : ∃ x, cameT T b (b + T.size) r (b + T.size) = x := ⟨_, rfl⟩
        obtain ⟨cB, hcB⟩ : ∃ x, cameB T b (b + T.size) r (b + T.size) = x := ⟨_, rfl⟩
        obtain ⟨cN, hcN⟩ : ∃ x, cameN T b (b + T.size) r (b + T.size) = x := ⟨_, rfl⟩
        rw [hcT, hcB, hcN] at cm1 ⊢
        rw [hcT, hcB] at cm2
        clear x0 x1 x2 x3 p0 p1 p2 p3 hb6 hq6 O5_5 O3_5 X7 hB5 hcT hcB hcN
        have HCM := Lib.hid cm1
        have hcs : cT.size ≤ 200 := by have := outOk_bounds cm1; omega
        clear cm1
        obtain ⟨b12, hb12⟩ : ∃ b, w6.heap.size = b := ⟨_, rfl⟩
        have HB6 := Lib.hid (HB4.out.trans (hB6.mono (by have := HB4.out.size; omega)))
        have h6 : w.heap.size ≤ w6.heap.size := HB6.out.size
        clear hB6 HB4 hB hBz
        go_upto_region 19 with (fail)
        refine wp_world _ (fun W => OX W b3 t b n r ∧ OX W b5 T b n r ∧ OX W bx T b (b + T.size) r ∧ OX W b12 cT cB cN r ∧ Below w.heap.size w W) ⟨O3_6.out.next (by (repeat' (first | (with_reducible exact Below.refl _ _) | (with_reducible assumption) | (with_reducible refine Below.alloc ?_ ?_ _) | (with_reducible refine Below.drew ?_) | (with_reducible refine below_drewN ?_ _) | (with_reducible refine Below.setCell ?_ ?_ _) | (with_reducible refine bvia ?_ (by with_reducible assumption) ?_) | go_size)) : Below w6.heap.size w6 (w6.alloc (.cells #[.string cT, .int .i64 cB, .int .i64 cN, .int .i64 r] 26))), O5_6.out.next (by (repeat' (first | (with_reducible exact Below.refl _ _) | (with_reducible assumption) | (with_reducible refine Below.alloc ?_ ?_ _) | (with_reducible refine Below.drew ?_) | (with_reducible refine below_drewN ?_ _) | (with_reducible refine Below.setCell ?_ ?_ _) | (with_reducible refine bvia ?_ (by with_reducible assumption) ?_) | go_size)) : Below w6.heap.size w6 (w6.alloc (.cells #[.string cT, .int .i64 cB, .int .i64 cN, .int .i64 r] 26))), X_6.out.next (by (repeat' (first | (with_reducible exact Below.refl _ _) | (with_reducible assumption) | (with_reducible refine Below.alloc ?_ ?_ _) | (with_reducible refine Below.drew ?_) | (with_reducible refine below_drewN ?_ _) | (with_reducible refine Below.setCell ?_ ?_ _) | (with_reducible refine bvia ?_ (by with_reducible assumption) ?_) | go_size)) : Below w6.heap.size w6 (w6.alloc (.cells #[.string cT, .int .i64 cB, .int .i64 cN, .int .i64 r] 26))), hb12 ▸ OX.new w6 _, ((HB6.out).alloc h6 _)⟩ ?_
        clear O3_6 O5_6 X_6 HB6 hb12 h6
        rintro W ⟨hO3, hO5, hX, hM, hBW⟩
        have HM := Lib.hid hM
        have x2 := hX.c2
        have p0 := hO5.c0
        have p1 := hO5.c1
        have o0 := hO3.c0
        have o3 := hO3.c3
        have m0 := hM.c0
        have m1 := hM.c1
        have m2 := hM.c2
        have m3 := hM.c3
        have HBW := Lib.hid hBW
        clear hX hO3 hO5 hM hBW
        have he : t ++ u.extract 0 k = T := HE.out
        have hk0 : (0 : Int) ≤ (k : Int) := by omega
        have hk1 : (k : Int) ≤ (u.size : Int) := by omega
        have hcat1 : ¬ 9223372036854775807 < t.size + k := by omega
        have hcat2 : ¬ 9223372036854775807 < t.size + u.size := by omega
        have hwz : IntKind.i64.wrap (b + (T.size : Int)) = b + (T.size : Int) := IntWalk.i64_in _ (by omega)
        obtain ⟨E, hE⟩ : ∃ E : Int, b + (T.size : Int) = E := ⟨_, rfl⟩
        rw [hE] at hwz x2
        rw [hE]
        by_cases hT0 : T.size = 0
        · have hwb : IntKind.i64.wrap b = E := by rw [IntWalk.i64_in _ (by omega)]; omega
          have hT1 : ((T.size : Int) == 0) = true := beq_iff_eq.2 (by omega)
          obtain rfl : k = u.size := by omega
          rw [ByteArray.extract_zero_size] at he
          obtain rfl : E = b := by omega
          have hwb2 : IntKind.i64.wrap (E + (T.size : Int)) = E := by rw [show (E + (T.size : Int)) = E from by omega]; exact hwb
          clear hT0 k5 hE k2 k6a k6b cm2 hk0 hk1 hcat1 q5 ht hu q3 q4 hn0 hn1 K5
          refine wp_region_still_tail 60 (by kernel_rfl) (by kernel_rfl) ?_
          simp only [List.take_succ_cons, List.take_zero, List.drop_succ_cons, List.drop_zero]
          refine StillG.out ?_
          repeat (first | (refine StillG.skip (by rfl) (by rfl) (by rfl) (by rfl) ?_; simp only [Act.put, List.setIfInBounds_toArray, List.set_cons_zero, List.set_cons_succ]) | (refine StillG.step (fun K hK => ?_); go_simp; refine hK _ ?_; clear hK K))
          refine ⟨wpStill_nil ?_⟩
          go_wp2_with fail
          refine (iOutOk cT cB cN r _ (by unfold maxLen; omega)).mono ?_
          rintro e w7 ⟨rfl, hb7⟩
          rw [HCM.out]
          have HB7 := Lib.hid (HBW.out.trans ((by (repeat' (first | (with_reducible exact Below.refl _ _) | (with_reducible assumption) | (with_reducible refine Below.alloc ?_ ?_ _) | (with_reducible refine Below.drew ?_) | (with_reducible refine below_drewN ?_ _) | (with_reducible refine Below.setCell ?_ ?_ _) | (with_reducible refine bvia ?_ (by with_reducible assumption) ?_) | go_size)) : Below W.heap.size W w7).mono HBW.out.size))
          go_wp2
          go_ret
          exact ⟨rfl, HB7.out⟩
        · obtain ⟨rfl, rfl⟩ := cm2 hT0
          rw [hE] at m1 HM HCM
          rw [hE]
          have hT1 : ((T.size : Int) == 0) = false := beq_eq_false_iff_ne.2 (by omega)
          clear cm2
          rcases K5.out with hku | ⟨hku1, hku2⟩
          · obtain rfl : k = u.size := hku
            rw [ByteArray.extract_zero_size] at he
            clear k5 hT0 k2 k6a k6b hk0 hk1 hcat1 q5 ht hu q3 q4 hn0 hn1 K5
            refine wp_region_still_tail 60 (by kernel_rfl) (by kernel_rfl) ?_
            simp only [List.take_succ_cons, List.take_zero, List.drop_succ_cons, List.drop_zero]
            refine StillG.out ?_
            repeat (first | (refine StillG.skip (by rfl) (by rfl) (by rfl) (by rfl) ?_; simp only [Act.put, List.setIfInBounds_toArray, List.set_cons_zero, List.set_cons_succ]) | (refine StillG.step (fun K hK => ?_); go_simp; refine hK _ ?_; clear hK K))
            refine ⟨wpStill_nil ?_⟩
            go_wp2_with fail
            refine (iOutOk ByteArray.empty E cN r _ (by unfold maxLen; omega)).mono ?_
            rintro e w7 ⟨rfl, hb7⟩
            rw [HCM.out]
            have HB7 := Lib.hid (HBW.out.trans ((by (repeat' (first | (with_reducible exact Below.refl _ _) | (with_reducible assumption) | (with_reducible refine Below.alloc ?_ ?_ _) | (with_reducible refine Below.drew ?_) | (with_reducible refine below_drewN ?_ _) | (with_reducible refine Below.setCell ?_ ?_ _) | (with_reducible refine bvia ?_ (by with_reducible assumption) ?_) | go_size)) : Below W.heap.size W w7).mono HBW.out.size))
            go_wp2
            go_ret
            exact ⟨rfl, HB7.out⟩
          · clear k5 hT0 K5
            refine wp_region_still_tail 60 (by kernel_rfl) (by kernel_rfl) ?_
            simp only [List.take_succ_cons, List.take_zero, List.drop_succ_cons, List.drop_zero]
            refine StillG.out ?_
            repeat (first | (refine StillG.skip (by rfl) (by rfl) (by rfl) (by rfl) ?_; simp only [Act.put, List.setIfInBounds_toArray, List.set_cons_zero, List.set_cons_succ]) | (refine StillG.step (fun K hK => ?_); go_simp; refine hK _ ?_; clear hK K))
            refine ⟨wpStill_nil ?_⟩
            go_wp2_with fail
            refine (iOutOk ByteArray.empty E cN r _ (by unfold maxLen; omega)).mono ?_
            rintro e w7 ⟨rfl, hb7⟩
            rw [HCM.out]
            have HB7 := Lib.hid (HBW.out.trans ((by (repeat' (first | (with_reducible exact Below.refl _ _) | (with_reducible assumption) | (with_reducible refine Below.alloc ?_ ?_ _) | (with_reducible refine Below.drew ?_) | (with_reducible refine below_drewN ?_ _) | (with_reducible refine Below.setCell ?_ ?_ _) | (with_reducible refine bvia ?_ (by with_reducible assumption) ?_) | go_size)) : Below W.heap.size W w7).mono HBW.out.size))
            go_wp2
            go_ret
            exact ⟨rfl, HB7.out⟩
end Go.Proofs.Ytddpgdgpicamiaa
