/- The reference's PutPiece, once its first questions are answered: for every argument. Written by program (sput.py). -/
import Derived.Test.YtpjbnfpadbknpaaSPut1
import Derived.Deep.RegionHeld3
import Derived.Deep.DeepCutAuto
namespace Go.Proofs.Ytpjbnfpadbknpaa
set_option linter.unusedSimpArgs false
set_option linter.unusedVariables false
open Go.RowKit
set_option maxRecDepth 100000 in
set_option maxHeartbeats 40000000 in
theorem sPutPiece_yes (r : Int) (s : ByteArray) (A : Option Addr) (cap : Nat) (L : List PieceD) (a : Int) (t : ByteArray) (w : World) (hr : Rd PieceD.cells 2 w 0 w.heap.size A L) (hs : s.size + sumT L ≤ 4611686018427387904) (hm : L.length ≤ 4294967296) (ht : t.size ≤ 1048576) (h3 : put3 r s L a t = true) :
    Calls Try.prog 14 #[pv r s A L.length cap, .int .i64 a, .string t] w (RetRd w r (putV r s L a t).1 (putV r s L a t).2 fun v => v) := by
  have hmm : L.length ≤ maxLen := by unfold maxLen; omega
  have h3' := h3
  unfold put3 at h3'
  simp only [Bool.and_eq_true] at h3'
  obtain ⟨q1, q2, q3⟩ := h3'
  obtain ⟨hr0, hr1, hl20, hs200, hch⟩ := pok_parts q1
  have hab : 0 ≤ a ∧ a ≤ 1000000000 := by unfold winB at q2; simpa using q2
  have htb : 1 ≤ t.size ∧ t.size ≤ 200 := by unfold winB at q3; simp at q3; omega
  have hss : s.size ≤ maxLen := by unfold maxLen; omega
  have hLb : ∀ x ∈ L, 0 ≤ x.fAt ∧ x.fAt ≤ 2000000000 := fun x hx => by have := hch.mem x hx; omega
  obtain ⟨nx, hnx⟩ : ∃ nx : Int, r + s.size = nx := ⟨_, rfl⟩
  have hnb2 : 0 ≤ nx ∧ nx ≤ 1000000200 := by omega
  have e1 : Hid (nextV r s = nx) := by unfold Hid nextV; rw [← hnx]; exact IntWalk.wrap64_in _ (by omega)
  have htc := trim_cases nx a t
  obtain ⟨o, ho⟩ : ∃ o, trimV nx a t = o := ⟨_, rfl⟩
  rw [ho] at htc
  have hob : o.fText.size ≤ 200 ∧ 0 ≤ o.fAt ∧ o.fAt ≤ 2000000000 := by
    rcases htc with ⟨g1, g2, g3⟩ | ⟨g1, g2⟩
    · omega
    · rw [g2]; simp only; omega
  have HNX := Lib.hid hnx
  have HO := Lib.hid ho
  have HCH := Lib.hid hch
  clear hnx htc hch ho
  go_enter Try.func14, Try.ntmps14
  go_wp2_with fail
  refine (sCopyPieces r s A cap L _ (by exact hr.later (by (repeat' (first | (with_reducible exact Below.refl _ _) | (with_reducible assumption) | (with_reducible refine Below.alloc ?_ ?_ _) | (with_reducible refine Below.drew ?_) | (with_reducible refine below_drewN ?_ _) | (with_reducible refine Below.setCell ?_ ?_ _) | (with_reducible refine bvia ?_ (by with_reducible assumption) ?_) | go_size))) (Nat.le_refl _) (by go_size)) hm).mono ?_
  rintro e w1 ⟨As, ks, rfl, O1, hb1⟩
  obtain ⟨hc, hf⟩ := bcell hb1
  have hc1_0 := fun o => hc (w.heap.size) o (by go_size)
  have hf1_0 := fun o => hf (w.heap.size) o (by go_size)
  have hz1_0 : w.heap.size < w1.heap.size := Nat.lt_of_lt_of_le (by go_size) hb1.size
  have hc1_1 := fun o => hc (w.heap.size + 1) o (by go_size)
  have hf1_1 := fun o => hf (w.heap.size + 1) o (by go_size)
  have hz1_1 : w.heap.size + 1 < w1.heap.size := Nat.lt_of_lt_of_le (by go_size) hb1.size
  clear hc hf
  have hz1 := hb1.size
  try simp at hz1
  go_wp2_with fail
  refine (sPiecesOk r s A cap L _ (by exact hr.later (by (repeat' (first | (with_reducible exact Below.refl _ _) | (with_reducible assumption) | (with_reducible refine Below.alloc ?_ ?_ _) | (with_reducible refine Below.drew ?_) | (with_reducible refine below_drewN ?_ _) | (with_reducible refine Below.setCell ?_ ?_ _) | (with_reducible refine bvia ?_ (by with_reducible assumption) ?_) | go_size))) (Nat.le_refl _) (by go_size)) hs hmm).mono ?_
  rintro e w2 ⟨rfl, hb2⟩
  obtain ⟨hc, hf⟩ := bcell hb2
  have hc2_0 := fun o => hc (w.heap.size) o (by go_size)
  have hf2_0 := fun o => hf (w.heap.size) o (by go_size)
  have hz2_0 : w.heap.size < w2.heap.size := Nat.lt_of_lt_of_le (by go_size) hb2.size
  have hc2_1 := fun o => hc (w.heap.size + 1) o (by go_size)
  have hf2_1 := fun o => hf (w.heap.size + 1) o (by go_size)
  have hz2_1 : w.heap.size + 1 < w2.heap.size := Nat.lt_of_lt_of_le (by go_size) hb2.size
  have hc2_2 := fun o => hc (w1.heap.size) o (by go_size)
  have hf2_2 := fun o => hf (w1.heap.size) o (by go_size)
  have hz2_2 : w1.heap.size < w2.heap.size := Nat.lt_of_lt_of_le (by go_size) hb2.size
  clear hc hf
  have hz2 := hb2.size
  try simp at hz2
  rw [q1]
  dsimp only
  go_step
  refine wpList_world _ (SA w w1.heap.size r s (.slice A L.length cap) As ks L) ⟨by (repeat' (first | (with_reducible exact Below.refl _ _) | (with_reducible assumption) | (with_reducible refine Below.alloc ?_ ?_ _) | (with_reducible refine Below.drew ?_) | (with_reducible refine below_drewN ?_ _) | (with_reducible refine Below.setCell ?_ ?_ _) | (with_reducible refine bvia ?_ (by with_reducible assumption) ?_) | go_size)), by omega, by omega, by simp [go_sem, hc2_0, hc1_0, calP, hz1_0], by simp [go_sem, hc2_0, hc1_0, calP, hz1_0], by simp [go_sem, hc2_0, hc1_0, calP, hz1_0], by simp [go_sem, hc2_1, hc1_1, calP, hz1_1, hz1_0], by simp [go_sem, hc2_1, hc1_1, calP, hz1_1, hz1_0], by simp [go_sem, hc2_1, hc1_1, calP, hz1_1, hz1_0], fun o => by simp [go_sem, hf2_1, hf1_1, falP, hz1_1, hz1_0], by simp [go_sem, hc2_2], by simp [go_sem, hc2_2], by simp [go_sem, hc2_2], ((O1.toO PieceD.cells_length).later (by (repeat' (first | (with_reducible exact Below.refl _ _) | (with_reducible assumption) | (with_reducible refine Below.alloc ?_ ?_ _) | (with_reducible refine Below.drew ?_) | (with_reducible refine below_drewN ?_ _) | (with_reducible refine Below.setCell ?_ ?_ _) | (with_reducible refine bvia ?_ (by with_reducible assumption) ?_) | go_size)) : Below w1.heap.size w1 w2) (Nat.le_refl _)).up (by simp), fun k hk => (O1.lt hk).2⟩ ?_
  clear hc1_0 hc1_1 hf1_0 hf1_1 hc2_0 hc2_1 hc2_2 hf2_0 hf2_1 hf2_2 hb1 hb2
  intro W hW
  obtain ⟨bs, hbs⟩ : ∃ bs, w1.heap.size = bs := ⟨_, rfl⟩
  rw [hbs] at hW
  rw [hbs]
  have HS := Lib.hid hW
  have hWz := hW.hlt
  have hlo := hW.hlo
  clear hbs hW hz1 hz2 hz1_0 hz1_1 hz2_0 hz2_1 hz2_2 O1 w1 w2
  go_wp2_with fail
  refine (l01In_is _ _ _ _ q2 _).mono ?_
  rintro e w3 ⟨rfl, rfl⟩
  go_wp2_with fail
  refine (l01In_is _ _ _ _ q3 _).mono ?_
  rintro e w3 ⟨rfl, rfl⟩
  have hwW9 : w.heap.size < W.heap.size := by omega
  have p0 := HS.out.p0
  have p1 := HS.out.p1
  have p2 := HS.out.p2
  go_wp2_with fail
  refine (sNextOf r s A L.length cap _ hss).mono ?_
  rintro e w4 ⟨rfl, hb4⟩
  rw [e1.out]
  have HN1 := Lib.hid ((PN.new W a t).next hb4)
  have HS1 := Lib.hid (HS.out.later ((by (repeat' (first | (with_reducible exact Below.refl _ _) | (with_reducible assumption) | (with_reducible refine Below.alloc ?_ ?_ _) | (with_reducible refine Below.drew ?_) | (with_reducible refine below_drewN ?_ _) | (with_reducible refine Below.setCell ?_ ?_ _) | (with_reducible refine bvia ?_ (by with_reducible assumption) ?_) | go_size)) : Below W.heap.size W (W.alloc _)).trans (hb4.mono (by simp))))
  clear p0 p1 p2 hb4 HS
  obtain ⟨bn, hbn⟩ : ∃ bn, W.heap.size = bn := ⟨_, rfl⟩
  rw [hbn] at HN1 hWz
  rw [hbn]
  clear hwW9
  clear hbn W
  have hbl := HN1.out.lt
  have hsl0 := HS1.out.hlt
  by_cases hsk : (t.size : Int) ≤ nx - a
  · have HS2 := HS1
    have hv : Hid (putV r s L a t = (s, L)) := by
      apply put_no
      unfold putOk
      rw [show r + (s.size : Int) = nx from HNX.out, HO.out]
      have h0 : o.fText.size = 0 := by
        rw [← HO.out]; unfold trimV
        rw [if_pos (by omega), ext_none (by omega)]; rfl
      rw [h0]
      simp
    clear HN1 HS1 hbl
    go_upto_if 41 with (fail)
    have s0 := HS2.out.s0
    have s1 := HS2.out.s1
    have s2 := HS2.out.s2
    have z0 := HS2.out.q0
    have z1 := HS2.out.q1
    have z2 := HS2.out.q2
    have zf0 := HS2.out.qf 0
    have zf1 := HS2.out.qf 1
    have zf2 := HS2.out.qf 2
    have hsl := HS2.out.hlt
    have hlo9 := HS2.out.hlo
    go_wp2
    refine bodyPost_ret (v := pv r s As L.length ks) (by simp [results, Try.results14, go_sem, z0, z1, z2]) rfl ?_
    exact RetRd.of hv.out ⟨As, ks, rfl, (HS2.out.ow.touch (HS2.out.done _ _ _) (Nat.le_refl _)).up (by omega), by have h0 := HS2.out.below; (repeat' (first | (with_reducible exact Below.refl _ _) | (with_reducible assumption) | (with_reducible refine Below.alloc ?_ ?_ _) | (with_reducible refine Below.drew ?_) | (with_reducible refine below_drewN ?_ _) | (with_reducible refine Below.setCell ?_ ?_ _) | (with_reducible refine bvia ?_ (by with_reducible assumption) ?_) | go_size))⟩
  go_upto_if 44 with (fail)
  go_cut [9] (fun _ wx => SA w bs r s (.slice A L.length cap) As ks L wx ∧ PN wx bn o)
  case first =>
    have n0 := HN1.out.n0
    have n1 := HN1.out.n1
    have nf0 := HN1.out.nf 0
    have nf1 := HN1.out.nf 1
    by_cases hlt : a < nx
    · have hoe : Hid (o = ⟨a + (nx - a), t.extract (nx - a).toNat t.size⟩) := by unfold Hid; rw [← HO.out]; unfold trimV; rw [if_pos hlt, Nat.min_eq_left (by omega)]; congr 1; omega
      have hs1 : (nx - a).toNat ≤ t.size := by omega
      go_wp2_with fail
      go_meet
      case rel => exact ⟨HS1.out.next (by (repeat' (first | (with_reducible exact Below.refl _ _) | (with_reducible assumption) | (with_reducible refine Below.alloc ?_ ?_ _) | (with_reducible refine Below.drew ?_) | (with_reducible refine below_drewN ?_ _) | (with_reducible refine Below.setCell ?_ ?_ _) | (with_reducible refine bvia ?_ (by with_reducible assumption) ?_) | go_size))), by rw [hoe.out]; exact HN1.out.set _ _⟩
    · have hoe : Hid (o = ⟨a, t⟩) := by unfold Hid; rw [← HO.out]; unfold trimV; rw [if_neg hlt]
      go_wp2_with fail
      go_meet
      case rel => exact ⟨HS1.out, by rw [hoe.out]; exact HN1.out⟩
  case rest =>
    obtain ⟨hS2, hN2⟩ := hcut
    have h0 : o.fText.size ≠ 0 := by
      rw [← HO.out]; unfold trimV
      split
      · simp only [ext_size]; omega
      · show t.size ≠ 0; omega
    have HH0 := Lib.hid h0
    have hbl2 := hN2.lt
    have hsl2 := hS2.hlt
    have p0 := hS2.p0
    have p1 := hS2.p1
    have HS2 := Lib.hid hS2
    have HN2 := Lib.hid hN2
    clear hS2 hN2 HS1 HN1 h0 hbl hsl0
    go_upto_region 11 with (fail)
    refine wp_world _ (fun W0 => SA w bs r s (.slice A L.length cap) As ks L W0 ∧ PH W0 wc.heap.size (wc.heap.size + 1) bn r s (.slice (some ⟨wc.heap.size, 0, none⟩) 0 0) o W0 ∧ Own W0 wc.heap.size 44 PieceD.cells 2 (.slice (some ⟨wc.heap.size, 0, none⟩) 0 0) [] ∧ W0.heap.size ≤ wc.heap.size + 2) ⟨HS2.out.later (by (repeat' (first | (with_reducible exact Below.refl _ _) | (with_reducible assumption) | (with_reducible refine Below.alloc ?_ ?_ _) | (with_reducible refine Below.drew ?_) | (with_reducible refine below_drewN ?_ _) | (with_reducible refine Below.setCell ?_ ?_ _) | (with_reducible refine bvia ?_ (by with_reducible assumption) ?_) | go_size))), HN2.out.start _ _ _, (Own.empty _ _ _ (Nat.le_refl _)).alloc _, by simp⟩ ?_
    rintro W0 ⟨hA, hP0, hO0, hW0⟩
    obtain ⟨bh, hbh⟩ : ∃ bh, wc.heap.size = bh := ⟨_, rfl⟩
    rw [hbh] at hP0 hO0 hW0 hbl2
    rw [hbh]
    obtain ⟨bo, hbo⟩ : ∃ bo, bh + 1 = bo := ⟨_, rfl⟩
    rw [hbo] at hP0
    rw [hbo]
    have hhb : bh < bo := by omega
    have hW0' : W0.heap.size ≤ bo + 1 := by omega
    clear hbh HS2 HN2 p0 p1 hsl2 hW0
    have hbsn : bs + 1 ≤ bn := by omega
    have HA := Lib.hid hA
    have hne0 : (Value.slice (some ⟨bh, 0, none⟩) 0 0).ownBlock ≠ some bo := by simp [Value.ownBlock]; omega
    clear hA hbo hWz
    go_wp2_with fail
    go_loopw [11, 12] (fun d i wr => ∃ (k : Nat) (vO : Value), k ≤ L.length ∧ i = .int .i64 k ∧ d = .bool (putTo o L k).2.2 ∧ PH W0 bh bo bn r s vO (putTo o L k).2.1 wr ∧ Own wr bh 44 PieceD.cells 2 vO (putTo o L k).1 ∧ vO.ownBlock ≠ some bo) (fun _ i _ => L.length - (intOf i).toNat)
    case atStart => exact ⟨0, _, Nat.zero_le _, rfl, rfl, hP0, hO0, hne0⟩
    case round =>
      obtain ⟨k, vO, hk, rfl, rfl, hP, hO, hne⟩ := hrel
      have hbd := putTo_bd (o := o) (L := L) (B := 0) hob.1 hob.2.1 hob.2.2 hLb (by omega) k hk
      have hSr := HA.out.next (hP.below hbsn hW0')
      have hBw := hSr.below
      have hBwz := hBw.size
      have p2 := hSr.p2
      have hsr := hSr.hlt
      have HNE := Lib.hid hne
      clear hne
      by_cases hlt : k < L.length
      · clear hSr
        have hst := putTo_succ (o := o) hlt
        obtain ⟨⟨O, y, d⟩, hst0⟩ : ∃ st, putTo o L k = st := ⟨_, rfl⟩
        rw [hst0] at hst hP hO hbd
        rw [hst0]
        simp only at hP hO hbd
        have hxs := sumT_get hlt
        have hst1 := sumT_take L k
        have hxb := hLb L[k] (List.getElem_mem hlt)
        obtain ⟨b1, b2, b3, b4, b5⟩ := hbd
        have b4' : O.length ≤ 22 := by split at b4 <;> omega
        clear b4 b5 hst0
        have HST := Lib.hid hst
        clear hst
        obtain ⟨g, ob, rfl, _, hg, hcell⟩ := hr.at_ (by omega)
        have hx : ∀ j v, (L[k].cells)[j]? = some v → wr.cell? ⟨g, ob + k * 2 + j, none⟩ = some v := fun j v hv => by
          have hj : j < 2 := (List.getElem?_eq_some_iff.1 hv).1
          rw [hBw.cell (p := ⟨g, ob + k * 2 + j, none⟩) hg, hcell k hlt j hj, hv]
        have HX := Lib.hid hx
        clear hx hcell
        have hki : (k : Int) < (L.length : Int) := by omega
        have n0 := hP.n0
        have n1 := hP.n1
        have o2 := hP.o2
        have of2 := hP.of 2
        have hbol : bo < wr.heap.size := hP.hB
        have hbnh : bn < bh := hP.hn
        have hbnl : bn < wr.heap.size := by omega
        have HP := Lib.hid hP
        have HO2 := Lib.hid hO
        clear hP hO hBw
        obtain ⟨x, hxx⟩ : ∃ x, L[k] = x := ⟨_, rfl⟩
        rw [hxx] at HX HST hxb hxs
        by_cases c1 : x.fAt + x.fText.size < y.fAt
        · have hn : Hid (putTo o L (k + 1) = (O ++ [x], y, d)) := by rw [HST.out]; unfold putStep; exact if_pos c1
          go_wp2_with (first
            | (refine wpList_load_part rfl 44 (.tmp 68) rfl g _ rfl x.row _ HX.out Try.underlying44 rfl (by kernel_rfl) ?_)
            | (at_builtin; refine wpList_append_rd _ rfl (.tmp 84) (.tmp 86) rfl slPiece PieceD.cells_length PieceD.one bh vO O [x] rfl ((HO2.out.alloc _).alloc _) (some ⟨wr.heap.size + 1, 0, none⟩) 1 1 0 (wr.heap.size + 1 + 1) rfl rfl (rd_one _ x _ _ PieceD.cells_length rfl _ (by simp) _ (by omega)) (by simp; omega) (by first | omega | (simp; omega)) ?_; intro v1 w1 O1 G1 X1; have B1 : Below bh (wr) w1 := Own.below2 G1 ((HO2.out.alloc _).alloc _) (by (repeat' (first | (with_reducible exact Below.refl _ _) | (with_reducible assumption) | (with_reducible refine Below.alloc ?_ ?_ _) | (with_reducible refine Below.drew ?_) | (with_reducible refine below_drewN ?_ _) | (with_reducible refine Below.setCell ?_ ?_ _) | (with_reducible refine bvia ?_ (by with_reducible assumption) ?_) | go_size))) (Nat.le_refl _) (by first | omega | (simp; omega)); have Q1 : w1.heap[bo]? = (wr).heap[bo]? := (G1.block bo (by first | omega | (simp; omega)) (fun he => HNE.out he.symm)).trans ((by (repeat' (first | (with_reducible exact Below.refl _ _) | (with_reducible assumption) | (with_reducible refine Below.alloc ?_ ?_ _) | (with_reducible refine Below.drew ?_) | (with_reducible refine below_drewN ?_ _) | (with_reducible refine Below.setCell ?_ ?_ _) | (with_reducible refine bvia ?_ (by with_reducible assumption) ?_) | go_size)) : Below (bo + 1) (wr) _).block bo (Nat.lt_succ_self _)); have P1 := Lib.hid ((HP.out).step B1 Q1); have m1 := P1.out.o2; have mf1 := P1.out.of 2; have hz1 := G1.size; (try simp at hz1); have N1 : Hid (v1.ownBlock ≠ some bo) := (X1.elim (fun h => by rw [h]; exact HNE.out) (fun h => by rw [h]; intro h9; have h8 := Option.some.inj h9; first | omega | (simp at h8; omega))); clear G1 X1 B1 Q1; obtain ⟨A1, k1, rfl, -, -, -⟩ := O1.rd0 PieceD.cells_length; simp only [List.length_append, List.length_cons, List.length_nil, Nat.zero_add] at O1 N1))
          go_roundw
          case rel => exact ⟨k + 1, .slice A1 (O.length + 1) k1, by omega, by go_num, by rw [hn.out], by rw [hn.out]; exact P1.out.setO _, by rw [hn.out]; exact O1.setOther (p := ⟨bo, 2, none⟩) N1.out _, N1.out⟩
          case measure => simp [intOf]; omega
        · by_cases c2 : y.fAt + y.fText.size < x.fAt
          · cases d with
            | true =>
              have hn : Hid (putTo o L (k + 1) = (O ++ [x], y, true)) := by rw [HST.out]; unfold putStep; exact (if_neg c1).trans (if_pos c2)
              go_wp2_with (first
                | (refine wpList_load_part rfl 44 (.tmp 68) rfl g _ rfl x.row _ HX.out Try.underlying44 rfl (by kernel_rfl) ?_)
                | (at_builtin; refine wpList_append_rd _ rfl (.tmp 108) (.tmp 110) rfl slPiece PieceD.cells_length PieceD.one bh vO O [x] rfl ((HO2.out.alloc _).alloc _) (some ⟨wr.heap.size + 1, 0, none⟩) 1 1 0 (wr.heap.size + 1 + 1) rfl rfl (rd_one _ x _ _ PieceD.cells_length rfl _ (by simp) _ (by omega)) (by simp; omega) (by first | omega | (simp; omega)) ?_; intro v1 w1 O1 G1 X1; have B1 : Below bh (wr) w1 := Own.below2 G1 ((HO2.out.alloc _).alloc _) (by (repeat' (first | (with_reducible exact Below.refl _ _) | (with_reducible assumption) | (with_reducible refine Below.alloc ?_ ?_ _) | (with_reducible refine Below.drew ?_) | (with_reducible refine below_drewN ?_ _) | (with_reducible refine Below.setCell ?_ ?_ _) | (with_reducible refine bvia ?_ (by with_reducible assumption) ?_) | go_size))) (Nat.le_refl _) (by first | omega | (simp; omega)); have Q1 : w1.heap[bo]? = (wr).heap[bo]? := (G1.block bo (by first | omega | (simp; omega)) (fun he => HNE.out he.symm)).trans ((by (repeat' (first | (with_reducible exact Below.refl _ _) | (with_reducible assumption) | (with_reducible refine Below.alloc ?_ ?_ _) | (with_reducible refine Below.drew ?_) | (with_reducible refine below_drewN ?_ _) | (with_reducible refine Below.setCell ?_ ?_ _) | (with_reducible refine bvia ?_ (by with_reducible assumption) ?_) | go_size)) : Below (bo + 1) (wr) _).block bo (Nat.lt_succ_self _)); have P1 := Lib.hid ((HP.out).step B1 Q1); have m1 := P1.out.o2; have mf1 := P1.out.of 2; have hz1 := G1.size; (try simp at hz1); have N1 : Hid (v1.ownBlock ≠ some bo) := (X1.elim (fun h => by rw [h]; exact HNE.out) (fun h => by rw [h]; intro h9; have h8 := Option.some.inj h9; first | omega | (simp at h8; omega))); clear G1 X1 B1 Q1; obtain ⟨A1, k1, rfl, -, -, -⟩ := O1.rd0 PieceD.cells_length; simp only [List.length_append, List.length_cons, List.length_nil, Nat.zero_add] at O1 N1))
              go_roundw
              case rel => exact ⟨k + 1, .slice A1 (O.length + 1) k1, by omega, by go_num, by rw [hn.out], by rw [hn.out]; exact P1.out.setO _, by rw [hn.out]; exact O1.setOther (p := ⟨bo, 2, none⟩) N1.out _, N1.out⟩
              case measure => simp [intOf]; omega
            | false =>
              have hn : Hid (putTo o L (k + 1) = (O ++ [y] ++ [x], y, true)) := by rw [HST.out]; unfold putStep; exact (if_neg c1).trans (if_pos c2)
              go_wp2_with (first
                | (refine wpList_load_part rfl 44 (.tmp 68) rfl g _ rfl x.row _ HX.out Try.underlying44 rfl (by kernel_rfl) ?_)
                | (at_builtin; refine wpList_append_rd _ rfl (.tmp 102) (.tmp 104) rfl slPiece PieceD.cells_length PieceD.one bh vO O [y] rfl ((HO2.out.alloc _).alloc _) (some ⟨wr.heap.size + 1, 0, none⟩) 1 1 0 (wr.heap.size + 1 + 1) rfl rfl (rd_one _ y _ _ PieceD.cells_length rfl _ (by simp) _ (by omega)) (by simp; omega) (by first | omega | (simp; omega)) ?_; intro v1 w1 O1 G1 X1; have B1 : Below bh (wr) w1 := Own.below2 G1 ((HO2.out.alloc _).alloc _) (by (repeat' (first | (with_reducible exact Below.refl _ _) | (with_reducible assumption) | (with_reducible refine Below.alloc ?_ ?_ _) | (with_reducible refine Below.drew ?_) | (with_reducible refine below_drewN ?_ _) | (with_reducible refine Below.setCell ?_ ?_ _) | (with_reducible refine bvia ?_ (by with_reducible assumption) ?_) | go_size))) (Nat.le_refl _) (by first | omega | (simp; omega)); have Q1 : w1.heap[bo]? = (wr).heap[bo]? := (G1.block bo (by first | omega | (simp; omega)) (fun he => HNE.out he.symm)).trans ((by (repeat' (first | (with_reducible exact Below.refl _ _) | (with_reducible assumption) | (with_reducible refine Below.alloc ?_ ?_ _) | (with_reducible refine Below.drew ?_) | (with_reducible refine below_drewN ?_ _) | (with_reducible refine Below.setCell ?_ ?_ _) | (with_reducible refine bvia ?_ (by with_reducible assumption) ?_) | go_size)) : Below (bo + 1) (wr) _).block bo (Nat.lt_succ_self _)); have P1 := Lib.hid ((HP.out).step B1 Q1); have m1 := P1.out.o2; have mf1 := P1.out.of 2; have hz1 := G1.size; (try simp at hz1); have N1 : Hid (v1.ownBlock ≠ some bo) := (X1.elim (fun h => by rw [h]; exact HNE.out) (fun h => by rw [h]; intro h9; have h8 := Option.some.inj h9; first | omega | (simp at h8; omega))); have xx0 : w1.cell? ⟨wr.heap.size, 0, none⟩ = some (.int .i64 x.fAt) := (G1.cell_far _ (by first | (simp; done) | (simp; omega)) (by intro hh; have h9 := (HO2.out.lt hh.symm).2; first | omega | (simp at h9; done) | (simp at h9; omega))).trans (by simp [go_sem]); have xx1 : w1.cell? ⟨wr.heap.size, 1, none⟩ = some (.string x.fText) := (G1.cell_far _ (by first | (simp; done) | (simp; omega)) (by intro hh; have h9 := (HO2.out.lt hh.symm).2; first | omega | (simp at h9; done) | (simp at h9; omega))).trans (by simp [go_sem]); have hbw1 : bo < w1.heap.size := (by omega); have hxw1 : wr.heap.size < w1.heap.size := (by omega); have hne1 : ¬ bo = wr.heap.size := (by omega); have hne2 : ¬ wr.heap.size = bo := (by omega); clear G1 X1 B1 Q1; obtain ⟨A1, k1, rfl, -, -, -⟩ := O1.rd0 PieceD.cells_length; simp only [List.length_append, List.length_cons, List.length_nil, Nat.zero_add] at O1 N1)
                | (at_builtin; refine wpList_append_rd _ rfl (.tmp 108) (.tmp 110) rfl slPiece PieceD.cells_length PieceD.one bh (.slice A1 (O.length + 1) k1) (O ++ [y]) [x] rfl ((O1.setOther (p := ⟨bo, 2, none⟩) N1.out _).alloc _) (some ⟨w1.heap.size, 0, none⟩) 1 1 0 (w1.heap.size + 1) rfl rfl (rd_one _ x _ _ PieceD.cells_length rfl _ (by simp) _ (by omega)) (by simp; omega) (by first | omega | (simp; omega)) ?_; intro v2 w2 O2 G2 X2; have B2 : Below bh (w1.setCell ⟨bo, 2, none⟩ (.slice A1 (O.length + 1) k1)) w2 := Own.below2 G2 ((O1.setOther (p := ⟨bo, 2, none⟩) N1.out _).alloc _) (by (repeat' (first | (with_reducible exact Below.refl _ _) | (with_reducible assumption) | (with_reducible refine Below.alloc ?_ ?_ _) | (with_reducible refine Below.drew ?_) | (with_reducible refine below_drewN ?_ _) | (with_reducible refine Below.setCell ?_ ?_ _) | (with_reducible refine bvia ?_ (by with_reducible assumption) ?_) | go_size))) (Nat.le_refl _) (by first | omega | (simp; omega)); have Q2 : w2.heap[bo]? = (w1.setCell ⟨bo, 2, none⟩ (.slice A1 (O.length + 1) k1)).heap[bo]? := (G2.block bo (by first | omega | (simp; omega)) (fun he => N1.out he.symm)).trans ((by (repeat' (first | (with_reducible exact Below.refl _ _) | (with_reducible assumption) | (with_reducible refine Below.alloc ?_ ?_ _) | (with_reducible refine Below.drew ?_) | (with_reducible refine below_drewN ?_ _) | (with_reducible refine Below.setCell ?_ ?_ _) | (with_reducible refine bvia ?_ (by with_reducible assumption) ?_) | go_size)) : Below (bo + 1) (w1.setCell ⟨bo, 2, none⟩ (.slice A1 (O.length + 1) k1)) _).block bo (Nat.lt_succ_self _)); have P2 := Lib.hid ((P1.out.setO (.slice A1 (O.length + 1) k1)).step B2 Q2); have m2 := P2.out.o2; have mf2 := P2.out.of 2; have hz2 := G2.size; (try simp at hz2); have N2 : Hid (v2.ownBlock ≠ some bo) := (X2.elim (fun h => by rw [h]; exact N1.out) (fun h => by rw [h]; intro h9; have h8 := Option.some.inj h9; first | omega | (simp at h8; omega))); clear G2 X2 B2 Q2; obtain ⟨A2, k2, rfl, -, -, -⟩ := O2.rd0 PieceD.cells_length; simp only [List.length_append, List.length_cons, List.length_nil, Nat.zero_add] at O2 N2))
              go_roundw
              case rel => exact ⟨k + 1, _, by omega, by go_num, by rw [hn.out], by rw [hn.out]; exact P2.out.setO _, by rw [hn.out]; exact O2.setOther N2.out _, N2.out⟩
              case measure => simp [intOf]; omega
          · obtain ⟨z, hz⟩ : ∃ z, joinV ⟨x.fAt, x.fText⟩ ⟨y.fAt, y.fText⟩ = z := ⟨_, rfl⟩
            have hn : Hid (putTo o L (k + 1) = (O, z, d)) := by rw [HST.out, ← hz]; unfold putStep; exact (if_neg c1).trans (if_neg c2)
            go_wp2_with (first
              | (refine wpList_load_part rfl 44 (.tmp 68) rfl g _ rfl x.row _ HX.out Try.underlying44 rfl (by kernel_rfl) ?_)
              | fail)
            refine (sJoin x.fAt y.fAt x.fText y.fText _ hxb.1 hxb.2 b2 b3 (by omega) (by omega) (by omega) (by omega)).mono ?_
            rintro e w1 ⟨rfl, hb1⟩
            rw [hz]
            have B1 : Below wr.heap.size wr w1 := by (repeat' (first | (with_reducible exact Below.refl _ _) | (with_reducible assumption) | (with_reducible refine Below.alloc ?_ ?_ _) | (with_reducible refine Below.drew ?_) | (with_reducible refine below_drewN ?_ _) | (with_reducible refine Below.setCell ?_ ?_ _) | (with_reducible refine bvia ?_ (by with_reducible assumption) ?_) | go_size))
            have P1 := Lib.hid (HP.out.next (B1.mono (by omega)))
            have m0 := P1.out.n0
            have m1 := P1.out.n1
            have mf0 := P1.out.nf 0
            have mf1 := P1.out.nf 1
            have O1 := Lib.hid (HO2.out.later B1 (Nat.le_refl _))
            clear n0 n1 o2 of2 HP HO2 hz p2
            go_wp2
            go_roundw
            case rel => exact ⟨k + 1, _, by omega, by go_num, by rw [hn.out], by rw [hn.out]; exact P1.out.setN z, by rw [hn.out]; exact (O1.out.setBelow (p := ⟨bn, 0, none⟩) (by show bn < bh; omega) _).setBelow (p := ⟨bn, 1, none⟩) (by show bn < bh; omega) _, HNE.out⟩
            case measure => simp [intOf]; omega
      · obtain rfl : k = L.length := by omega
        have HSr := Lib.hid hSr
        clear hSr
        have hcov := put_cov o L
        obtain ⟨⟨O, y, d⟩, hst0⟩ : ∃ st, putTo o L L.length = st := ⟨_, rfl⟩
        obtain ⟨F, hF⟩ : ∃ F, putOut (putTo o L L.length) = F := ⟨_, rfl⟩
        rw [hF] at hcov
        have HF := Lib.hid hF
        rw [hst0] at hP hO hbd hF
        rw [hst0]
        simp only at hP hO hbd
        rw [List.take_length] at hbd
        obtain ⟨b1, b2, b3, b4, b5⟩ := hbd
        have hFl : F.length ≤ 22 ∧ sumT F ≤ 1000 := by
          rw [← hF]
          unfold putOut
          simp only
          split at b4
          · rename_i hd
            rw [if_pos hd] at b5
            rw [if_pos hd]; omega
          · rename_i hd
            rw [if_neg hd] at b5
            rw [if_neg hd, sumT_app, sumT_one, List.length_append, List.length_cons, List.length_nil]; omega
        have HFF : Hid (putOut (O, y, d) = F) := hF
        clear b4 b5 hst0 hF
        have n0 := hP.n0
        have n1 := hP.n1
        have o2 := hP.o2
        have of2 := hP.of 2
        have hbol : bo < wr.heap.size := hP.hB
        have hbnh : bn < bh := hP.hn
        have hbnl : bn < wr.heap.size := by omega
        have HP := Lib.hid hP
        have HO2 := Lib.hid hO
        clear hP hO hBw hBwz
        go_upto_if 114 with (fail)
        clear p2
        go_cut [12] (fun _ wx => ∃ vF, PH W0 bh bo bn r s vF y wx ∧ Own wx bh 44 PieceD.cells 2 vF F ∧ vF.ownBlock ≠ some bo)
        case first =>
          cases d with
          | true =>
            have hf : F = O := HFF.out.symm
            go_wp2_with fail
            go_meet
            case rel => exact ⟨vO, HP.out, by rw [hf]; exact HO2.out, HNE.out⟩
          | false =>
            have hf : F = O ++ [y] := HFF.out.symm
            have hOl : O.length ≤ 22 := by have := hFl.1; rw [hf] at this; simp at this; omega
            clear HFF HF
            go_wp2_with (first
              | (at_builtin; refine wpList_append_rd _ rfl (.tmp 116) (.tmp 118) rfl slPiece PieceD.cells_length PieceD.one bh vO O [y] rfl (HO2.out.alloc _) (some ⟨wr.heap.size, 0, none⟩) 1 1 0 (wr.heap.size + 1) rfl rfl (rd_one _ y _ _ PieceD.cells_length rfl _ (by simp) _ (by omega)) (by simp; omega) (by first | omega | (simp; omega)) ?_; intro v1 w1 O1 G1 X1; have B1 : Below bh (wr) w1 := Own.below2 G1 (HO2.out.alloc _) (by (repeat' (first | (with_reducible exact Below.refl _ _) | (with_reducible assumption) | (with_reducible refine Below.alloc ?_ ?_ _) | (with_reducible refine Below.drew ?_) | (with_reducible refine below_drewN ?_ _) | (with_reducible refine Below.setCell ?_ ?_ _) | (with_reducible refine bvia ?_ (by with_reducible assumption) ?_) | go_size))) (Nat.le_refl _) (by first | omega | (simp; omega)); have Q1 : w1.heap[bo]? = (wr).heap[bo]? := (G1.block bo (by first | omega | (simp; omega)) (fun he => HNE.out he.symm)).trans ((by (repeat' (first | (with_reducible exact Below.refl _ _) | (with_reducible assumption) | (with_reducible refine Below.alloc ?_ ?_ _) | (with_reducible refine Below.drew ?_) | (with_reducible refine below_drewN ?_ _) | (with_reducible refine Below.setCell ?_ ?_ _) | (with_reducible refine bvia ?_ (by with_reducible assumption) ?_) | go_size)) : Below (bo + 1) (wr) _).block bo (Nat.lt_succ_self _)); have P1 := Lib.hid ((HP.out).step B1 Q1); have m1 := P1.out.o2; have mf1 := P1.out.of 2; have hz1 := G1.size; (try simp at hz1); have N1 : Hid (v1.ownBlock ≠ some bo) := (X1.elim (fun h => by rw [h]; exact HNE.out) (fun h => by rw [h]; intro h9; have h8 := Option.some.inj h9; first | omega | (simp at h8; omega))); clear G1 X1 B1 Q1; obtain ⟨A1, k1, rfl, -, -, -⟩ := O1.rd0 PieceD.cells_length; simp only [List.length_append, List.length_cons, List.length_nil, Nat.zero_add] at O1 N1)
              | fail)
            go_meet
            case rel => exact ⟨_, P1.out.setO _, by rw [hf]; exact O1.setOther N1.out _, N1.out⟩
        case rest =>
          obtain ⟨vF, hP2, hO3, hneF⟩ := hcut
          have HSr2 := Lib.hid (HA.out.next (hP2.below hbsn hW0'))
          rcases hO3.form with ⟨-, hF0⟩ | ⟨g, capF, cur, rfl, hgb, -, hnc, hcm, -, -⟩
          · exfalso
            obtain ⟨c, hc, -⟩ := hcov
            rw [hF0] at hc; simp at hc
          · cases hFc : F with
            | nil => exfalso; obtain ⟨c, hc, -⟩ := hcov; rw [hFc] at hc; simp at hc
            | cons f R =>
              have hcore := core_head HNX.out HF.out hFc
              have hlen : F.length = R.length + 1 := by rw [hFc]; rfl
              have hdr := Lib.hid (show F.drop 1 = R by rw [hFc]; rfl)
              have hsum : sumT F = f.fText.size + sumT R := by rw [hFc]; rfl
              have a0 : wc.cell? ⟨g, 0, none⟩ = some (.int .i64 f.fAt) := by have := hO3.cellAt PieceD.cells_length 0 (by omega) 0 (by decide); simp [hFc, PieceD.cells] at this; exact this
              have a1 : wc.cell? ⟨g, 1, none⟩ = some (.string f.fText) := by have := hO3.cellAt PieceD.cells_length 0 (by omega) 1 (by decide); simp [hFc, PieceD.cells] at this; exact this
              obtain ⟨A9, k9, e9, -, -, hrF⟩ := hO3.rd PieceD.cells_length
              cases e9
              have hgo : g ≠ bo := fun e => hneF (by rw [e]; rfl)
              have o0' := hP2.o0
              have o1' := hP2.o1
              have o2' := hP2.o2
              have of1' := hP2.of 1
              have of2' := hP2.of 2
              have hbol2 : bo < wc.heap.size := hP2.hB
              have hgl2 : g < wc.heap.size := (hO3.lt (k := g) rfl).2
              have hne1 : ¬ bo = g := by omega
              have hne2 : ¬ g = bo := by omega
              have HP2 := Lib.hid hP2
              have HNF := Lib.hid hneF
              have hO3' := hO3
              clear hP2 hO3 hcov HF HFF n0 n1 o2 of2 HP HO2 hFc hneF hgo HSr
              have hfl : (0 : Int) < (F.length : Int) := by omega
              have HO3 := Lib.hid hO3'
              have hbsl : bs < bo := by omega
              clear hO3'
              go_upto_region 26 with (fail)
              go_region_held3 (fun w' => w'.cell? ⟨bo, 0, none⟩ = some (.int .i64 r) ∧ w'.cell? ⟨bo, 1, none⟩ = some (.string s) ∧ w'.cell? ⟨bo, 2, none⟩ = some (.slice (some ⟨g, 0, none⟩) F.length capF) ∧ w'.cell? ⟨g, 0, none⟩ = some (.int .i64 f.fAt)) (first | (refine ⟨?_, ?_, ?_, ?_⟩ <;> assumption) | go_keep)
                (first
                  | (go_at_call 22; refine (sNextOf r s _ _ _ _ hss).mono ?_; rintro e w9 ⟨rfl, hb9⟩; rw [e1.out]; have hq9 : Below wc.heap.size wc w9 := (by (repeat' (first | (with_reducible exact Below.refl _ _) | (with_reducible assumption) | (with_reducible refine Below.alloc ?_ ?_ _) | (with_reducible refine Below.drew ?_) | (with_reducible refine below_drewN ?_ _) | (with_reducible refine Below.setCell ?_ ?_ _) | (with_reducible refine bvia ?_ (by with_reducible assumption) ?_) | go_size))); have r0 := (hq9.cell (p := ⟨bo, 0, none⟩) hbol2).trans o0'; have r1 := (hq9.cell (p := ⟨bo, 1, none⟩) hbol2).trans o1'; have r2 := (hq9.cell (p := ⟨bo, 2, none⟩) hbol2).trans o2'; have r3 := (hq9.cell (p := ⟨g, 0, none⟩) hgl2).trans a0)
                  | fail)
              all_goals
                have hP2 := HP2.out.next (hq9.mono hbol2)
                have hO3 := HO3.out.later hq9 (Nat.le_refl _)
                have a1' := (hq9.cell (p := ⟨g, 1, none⟩) hgl2).trans a1
                clear HP2 HO3 a0 a1 o0' o1' o2' of1' of2' r0 r1 r2 r3 hb9 hq9 hbol2 hgl2
                have a1 := a1'
                clear a1'
                have o1' := hP2.o1
                have o2' := hP2.o2
                have of1' := hP2.of 1
                have of2' := hP2.of 2
                have hbol2 : bo < w9.heap.size := hP2.hB
                have hgl2 : g < w9.heap.size := (hO3.lt (k := g) rfl).2
                have HP2 := Lib.hid hP2
                have HO3 := Lib.hid ((hO3.toO PieceD.cells_length).up (base' := w.heap.size + 2) (by omega))
                clear hP2 hO3
                by_cases hh : f.fAt = nx
                · have HC := Lib.hid (hcore.1 hh)
                  have d1 : (f.fAt == nx) = true := by simpa using hh
                  obtain ⟨sel, hsel, hrs⟩ := HO3.out.cut_sel 1 (by omega)
                  rw [hdr.out] at hrs
                  rw [show 0 + 1 * 2 = 2 from rfl] at hrs
                  have hselb : (Value.slice (sel (some ⟨g, 0, none⟩) (some ⟨g, 2, none⟩)) R.length (capF - 1)).ownBlock ≠ some bo := by
                    rw [← hsel]; split <;> (simp [Value.ownBlock]; omega)
                  have HRS := Lib.hid hrs
                  have HSB := Lib.hid hselb
                  have hdl : R.length ≤ 22 ∧ sumT R ≤ 1000 ∧ (s ++ f.fText).size ≤ 2000 := ⟨by omega, by omega, by rw [app_size]; omega⟩
                  rw [hlen] at hnc o2' HP2
                  clear hrs hselb hcore hsum
                  have hcap1 : (1 : Int) ≤ (capF : Int) := by omega
                  have hsf : s.size + f.fText.size ≤ 2000 := by have := hdl.2.2; rw [app_size] at this; omega
                  have hfl : (0 : Int) < ((R.length + 1 : Nat) : Int) := by omega
                  go_wp2_with fail
                  go_region
                  go_upto_region 29 with (fail)
                  refine wp_world _ (fun W => PH W0 bh bo bn r (s ++ f.fText) (.slice (sel (some ⟨g, 0, none⟩) (some ⟨g, 2, none⟩)) R.length (capF - 1)) y W ∧ OwnO W (w.heap.size + 2) PieceD.cells 2 (.slice (sel (some ⟨g, 0, none⟩) (some ⟨g, 2, none⟩)) R.length (capF - 1)) R) ⟨((HP2.out.setS (s ++ f.fText)).setO (.slice (sel (some ⟨g, 0, none⟩) (some ⟨g, 2, none⟩)) R.length (capF - 1))).next (Below.drew (Below.refl _ _)), ?_⟩ ?_
                  · exact ((HRS.out.setOther (p := ⟨bo, 1, none⟩) HSB.out _).setOther (p := ⟨bo, 2, none⟩) HSB.out _).later (Below.drew (Below.refl _ _) : Below _ _ (World.drew _)) (Nat.le_refl _)
                  · obtain ⟨SS, hSS⟩ : ∃ SS, s ++ f.fText = SS := ⟨_, rfl⟩
                    obtain ⟨AA, hAA⟩ : ∃ AA, sel (some ⟨g, 0, none⟩) (some ⟨g, 2, none⟩) = AA := ⟨_, rfl⟩
                    obtain ⟨KK, hKK⟩ : ∃ KK, capF - 1 = KK := ⟨_, rfl⟩
                    rw [hSS] at hdl HC
                    rw [hSS, hAA, hKK]
                    clear hSS hAA hKK HP2 HRS HSB HO3 a1 o1' o2' of1' of2' hsel HNF HSr2
                    rintro W ⟨hPW, hRW⟩
                    have hSW := HA.out.next (hPW.below hbsn hW0')
                    have HS := Lib.hid hSW
                    have m0 := hPW.o0
                    have m1 := hPW.o1
                    have m2 := hPW.o2
                    have hbW : bo < W.heap.size := hPW.hB
                    have HSz := hSW.hlt
                    have HSl := hSW.hlo
                    clear hPW hSW
                    go_wp2_with fail
                    refine (sPiecesOk r SS AA KK R _ (by exact hRW.rdv.wide (Nat.zero_le _) (Nat.le_refl _)) (by omega) (by unfold maxLen; omega)).mono ?_
                    rintro e w8 ⟨rfl, hb8⟩
                    have HS8 := Lib.hid (HS.out.later hb8)
                    have hdec := put_dec q1 q2 q3 (by rw [HNX.out]; exact HO.out) HH0.out HC.out
                    have hdm : R.length ≤ 22 := by omega
                    try clear hlen
                    try clear hfl
                    try clear hcap1
                    try clear hsf
                    try clear hsum
                    try clear hcore
                    try clear hnc
                    try clear hcm
                    try clear hgb
                    try clear d1
                    try clear hh
                    try clear b1
                    try clear b2
                    try clear b3
                    try clear hk
                    try clear hlt
                    try clear hbol
                    try clear hbnl
                    try clear hbol2
                    try clear hne1
                    try clear hne2
                    try clear hBr
                    try clear hBz
                    try clear hP2B
                    try clear hab
                    try clear htb
                    try clear hnb
                    try clear hnb2
                    try clear hob
                    try clear hLb
                    try clear hl1
                    try clear hl2
                    try clear hl3
                    try clear hne
                    try clear hs200
                    try clear hl20
                    try clear hr0
                    try clear hr1
                    try clear hss
                    try clear hdl
                    try clear hFl
                    try clear h0
                    try clear hdr
                    try clear e1
                    try clear ho
                    try clear q1
                    try clear q2
                    try clear q3
                    try clear h3
                    try clear HQ1
                    try clear HCH
                    try clear HNX
                    try clear HO
                    try clear HH0
                    try clear HC
                    try clear HA
                    try clear hP0
                    try clear hQ
                    try clear hmm
                    try clear ht
                    try clear hbo1
                    try clear hlo
                    try clear hs
                    try clear hdec2
                    try clear hWz
                    try clear hbs2
                    try clear hm
                    try clear hr
                    try clear hW0
                    try clear hbnh
                    try clear hbsn
                    try clear hhb
                    cases hpk : piecesOk r SS R with
                    | false =>
                      have hv : Hid (putV r s L a t = (s, L)) := by unfold Hid; rw [hdec, hpk]; rfl
                      clear m0 m1 m2 hdec hb8 hbW HS HSz HSl hRW
                      have s0 := HS8.out.s0
                      have s1 := HS8.out.s1
                      have s2 := HS8.out.s2
                      have z0 := HS8.out.q0
                      have z1 := HS8.out.q1
                      have z2 := HS8.out.q2
                      have zf0 := HS8.out.qf 0
                      have zf1 := HS8.out.qf 1
                      have zf2 := HS8.out.qf 2
                      have hsl := HS8.out.hlt
                      have hlo9 := HS8.out.hlo
                      go_wp2
                      refine bodyPost_ret (v := pv r s As L.length ks) (by simp [results, Try.results14, go_sem, z0, z1, z2]) rfl ?_
                      exact RetRd.of hv.out ⟨As, ks, rfl, (HS8.out.ow.touch (HS8.out.done _ _ _) (Nat.le_refl _)).up (by omega), by have h0 := HS8.out.below; (repeat' (first | (with_reducible exact Below.refl _ _) | (with_reducible assumption) | (with_reducible refine Below.alloc ?_ ?_ _) | (with_reducible refine Below.drew ?_) | (with_reducible refine below_drewN ?_ _) | (with_reducible refine Below.setCell ?_ ?_ _) | (with_reducible refine bvia ?_ (by with_reducible assumption) ?_) | go_size))⟩
                    | true =>
                      have hv : Hid (putV r s L a t = (SS, R)) := by unfold Hid; rw [hdec, hpk]; rfl
                      have r0 := (hb8.cell (p := ⟨bo, 0, none⟩) hbW).trans m0
                      have r1 := (hb8.cell (p := ⟨bo, 1, none⟩) hbW).trans m1
                      have r2 := (hb8.cell (p := ⟨bo, 2, none⟩) hbW).trans m2
                      have HR8 := Lib.hid (hRW.later hb8 (Nat.le_refl _))
                      have hz8 := hb8.size
                      clear m0 m1 m2 hdec hb8 hRW HS
                      have z0 := HS8.out.q0
                      have z1 := HS8.out.q1
                      have z2 := HS8.out.q2
                      have zf0 := HS8.out.qf 0
                      have zf1 := HS8.out.qf 1
                      have zf2 := HS8.out.qf 2
                      have hW8 : w.heap.size + 2 ≤ w8.heap.size := by omega
                      go_wp2
                      refine bodyPost_ret (v := pv r SS AA R.length KK) (by simp [results, Try.results14, go_sem, z0, z1, z2]) rfl ?_
                      exact RetRd.of hv.out ⟨AA, KK, rfl, (HR8.out.touch (HS8.out.done _ _ _) (Nat.le_refl _)).up (by omega), by have h0 := HS8.out.below; (repeat' (first | (with_reducible exact Below.refl _ _) | (with_reducible assumption) | (with_reducible refine Below.alloc ?_ ?_ _) | (with_reducible refine Below.drew ?_) | (with_reducible refine below_drewN ?_ _) | (with_reducible refine Below.setCell ?_ ?_ _) | (with_reducible refine bvia ?_ (by with_reducible assumption) ?_) | go_size))⟩
                · have HC := Lib.hid (hcore.2 hh)
                  have d1 : (f.fAt == nx) = false := by simpa using hh
                  have hdl : F.length ≤ 22 ∧ sumT F ≤ 1000 ∧ s.size ≤ 2000 := ⟨by omega, by omega, by omega⟩
                  clear hlen hsum hcore
                  go_upto_region 29 with (fail)
                  refine wp_world _ (fun W => PH W0 bh bo bn r s (.slice (some ⟨g, 0, none⟩) F.length capF) y W ∧ OwnO W (w.heap.size + 2) PieceD.cells 2 (.slice (some ⟨g, 0, none⟩) F.length capF) F) ⟨HP2.out, HO3.out⟩ ?_
                  clear HP2 HO3 a1 o1' o2' of1' of2' HNF HSr2
                  rintro W ⟨hPW, hRW⟩
                  have hSW := HA.out.next (hPW.below hbsn hW0')
                  have HS := Lib.hid hSW
                  have m0 := hPW.o0
                  have m1 := hPW.o1
                  have m2 := hPW.o2
                  have hbW : bo < W.heap.size := hPW.hB
                  have HSz := hSW.hlt
                  have HSl := hSW.hlo
                  clear hPW hSW
                  go_wp2_with fail
                  refine (sPiecesOk r s (some ⟨g, 0, none⟩) capF F _ (by exact hRW.rdv.wide (Nat.zero_le _) (Nat.le_refl _)) (by omega) (by unfold maxLen; omega)).mono ?_
                  rintro e w8 ⟨rfl, hb8⟩
                  have HS8 := Lib.hid (HS.out.later hb8)
                  have hdec := put_dec q1 q2 q3 (by rw [HNX.out]; exact HO.out) HH0.out HC.out
                  have hdm : F.length ≤ 22 := by omega
                  try clear hlen
                  try clear hfl
                  try clear hcap1
                  try clear hsf
                  try clear hsum
                  try clear hcore
                  try clear hnc
                  try clear hcm
                  try clear hgb
                  try clear d1
                  try clear hh
                  try clear b1
                  try clear b2
                  try clear b3
                  try clear hk
                  try clear hlt
                  try clear hbol
                  try clear hbnl
                  try clear hbol2
                  try clear hne1
                  try clear hne2
                  try clear hBr
                  try clear hBz
                  try clear hP2B
                  try clear hab
                  try clear htb
                  try clear hnb
                  try clear hnb2
                  try clear hob
                  try clear hLb
                  try clear hl1
                  try clear hl2
                  try clear hl3
                  try clear hne
                  try clear hs200
                  try clear hl20
                  try clear hr0
                  try clear hr1
                  try clear hss
                  try clear hdl
                  try clear hFl
                  try clear h0
                  try clear hdr
                  try clear e1
                  try clear ho
                  try clear q1
                  try clear q2
                  try clear q3
                  try clear h3
                  try clear HQ1
                  try clear HCH
                  try clear HNX
                  try clear HO
                  try clear HH0
                  try clear HC
                  try clear HA
                  try clear hP0
                  try clear hQ
                  try clear hmm
                  try clear ht
                  try clear hbo1
                  try clear hlo
                  try clear hs
                  try clear hdec2
                  try clear hWz
                  try clear hbs2
                  try clear hm
                  try clear hr
                  try clear hW0
                  try clear hbnh
                  try clear hbsn
                  try clear hhb
                  cases hpk : piecesOk r s F with
                  | false =>
                    have hv : Hid (putV r s L a t = (s, L)) := by unfold Hid; rw [hdec, hpk]; rfl
                    clear m0 m1 m2 hdec hb8 hbW HS HSz HSl hRW
                    have s0 := HS8.out.s0
                    have s1 := HS8.out.s1
                    have s2 := HS8.out.s2
                    have z0 := HS8.out.q0
                    have z1 := HS8.out.q1
                    have z2 := HS8.out.q2
                    have zf0 := HS8.out.qf 0
                    have zf1 := HS8.out.qf 1
                    have zf2 := HS8.out.qf 2
                    have hsl := HS8.out.hlt
                    have hlo9 := HS8.out.hlo
                    go_wp2
                    refine bodyPost_ret (v := pv r s As L.length ks) (by simp [results, Try.results14, go_sem, z0, z1, z2]) rfl ?_
                    exact RetRd.of hv.out ⟨As, ks, rfl, (HS8.out.ow.touch (HS8.out.done _ _ _) (Nat.le_refl _)).up (by omega), by have h0 := HS8.out.below; (repeat' (first | (with_reducible exact Below.refl _ _) | (with_reducible assumption) | (with_reducible refine Below.alloc ?_ ?_ _) | (with_reducible refine Below.drew ?_) | (with_reducible refine below_drewN ?_ _) | (with_reducible refine Below.setCell ?_ ?_ _) | (with_reducible refine bvia ?_ (by with_reducible assumption) ?_) | go_size))⟩
                  | true =>
                    have hv : Hid (putV r s L a t = (s, F)) := by unfold Hid; rw [hdec, hpk]; rfl
                    have r0 := (hb8.cell (p := ⟨bo, 0, none⟩) hbW).trans m0
                    have r1 := (hb8.cell (p := ⟨bo, 1, none⟩) hbW).trans m1
                    have r2 := (hb8.cell (p := ⟨bo, 2, none⟩) hbW).trans m2
                    have HR8 := Lib.hid (hRW.later hb8 (Nat.le_refl _))
                    have hz8 := hb8.size
                    clear m0 m1 m2 hdec hb8 hRW HS
                    have z0 := HS8.out.q0
                    have z1 := HS8.out.q1
                    have z2 := HS8.out.q2
                    have zf0 := HS8.out.qf 0
                    have zf1 := HS8.out.qf 1
                    have zf2 := HS8.out.qf 2
                    have hW8 : w.heap.size + 2 ≤ w8.heap.size := by omega
                    go_wp2
                    refine bodyPost_ret (v := pv r s (some ⟨g, 0, none⟩) F.length capF) (by simp [results, Try.results14, go_sem, z0, z1, z2]) rfl ?_
                    exact RetRd.of hv.out ⟨(some ⟨g, 0, none⟩), capF, rfl, (HR8.out.touch (HS8.out.done _ _ _) (Nat.le_refl _)).up (by omega), by have h0 := HS8.out.below; (repeat' (first | (with_reducible exact Below.refl _ _) | (with_reducible assumption) | (with_reducible refine Below.alloc ?_ ?_ _) | (with_reducible refine Below.drew ?_) | (with_reducible refine below_drewN ?_ _) | (with_reducible refine Below.setCell ?_ ?_ _) | (with_reducible refine bvia ?_ (by with_reducible assumption) ?_) | go_size))⟩
  
end Go.Proofs.Ytpjbnfpadbknpaa
