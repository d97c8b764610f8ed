/- The cursor of the draws: l01Byte, l01Below, l01Once, l01New: for every state of the cursor. -/
import Derived.Test.YtpjbnfpadbknpaaVal
import Derived.Test.YtpjbnfpadbknpaaNum
import Derived.Deep.QuietTactic
import Derived.BigQuiet
import Derived.IntWalk
namespace Go.Proofs.Ytpjbnfpadbknpaa
set_option linter.unusedSimpArgs false
set_option linter.unusedVariables false
open Go.RowKit

theorem Touch.cell {lo hi : Nat} {w w' : World} (h : Touch lo hi w w') {p : Addr} (hp : p.block < w.heap.size) (hn : p.block < lo ∨ hi ≤ p.block) : w'.cell? p = w.cell? p := by
  unfold World.cell?
  rw [h.block _ hp hn]
theorem Touch.frozen {lo hi : Nat} {w w' : World} (h : Touch lo hi w w') {p : Addr} (hp : p.block < w.heap.size) (hn : p.block < lo ∨ hi ≤ p.block) : w'.frozen? p = w.frozen? p := by
  unfold World.frozen?
  rw [h.block _ hp hn]
/-- The bytes that a draw is made of. -/
structure Src where
  A : Option Addr
  cap : Nat
  B : List Int
/-- The cursor in block g: it reads S's bytes, of which it has taken s.1; s.2 is its number. -/
structure Cur (w : World) (g : Nat) (S : Src) (s : Nat × Int) : Prop where
  lt : g < w.heap.size
  c0 : w.cell? ⟨g, 0, none⟩ = some (.slice S.A S.B.length S.cap)
  c1 : w.cell? ⟨g, 1, none⟩ = some (.int .i64 s.1)
  c2 : w.cell? ⟨g, 2, none⟩ = some (.int .i64 s.2)
  fr : ∀ o, w.frozen? ⟨g, o, none⟩ = false
  rd : Rd bcells 1 w 0 g S.A S.B
  le : s.1 ≤ S.B.length
  ml : S.B.length ≤ maxLen
theorem Cur.keep {w w' : World} {g : Nat} {S : Src} {s : Nat × Int} (h : Cur w g S s) {lo hi : Nat} (ht : Touch lo hi w w') (hn : g < lo) : Cur w' g S s :=
  ⟨Nat.lt_of_lt_of_le h.lt ht.size, (ht.cell h.lt (.inl hn)).trans h.c0, (ht.cell h.lt (.inl hn)).trans h.c1, (ht.cell h.lt (.inl hn)).trans h.c2, fun o => (ht.frozen (p := ⟨g, o, none⟩) h.lt (.inl hn)).trans (h.fr o), h.rd.keep fun p _ hp => ht.cell (Nat.lt_trans hp h.lt) (.inl (Nat.lt_trans hp hn)), h.le, h.ml⟩
theorem Cur.below {w w' : World} {g : Nat} {S : Src} {s : Nat × Int} (h : Cur w g S s) (hb : Below w.heap.size w w') : Cur w' g S s := h.keep (Touch.ofBelow hb : Touch w.heap.size w.heap.size w w') h.lt
theorem Cur.setH {w : World} {g i : Nat} {h : Int} {S : Src} (hc : Cur w g S (i, h)) (h' : Int) : Cur (w.setCell ⟨g, 2, none⟩ (.int .i64 h')) g S (i, h') :=
  ⟨by have := hc.lt; simpa using this, (World.cell?_setCell_other _ _ _ _ (by simp)).trans hc.c0, (World.cell?_setCell_other _ _ _ _ (by simp)).trans hc.c1, World.cell?_setCell_same w _ _ hc.c2, fun o => by rw [World.frozen?_setCell]; exact hc.fr o, hc.rd.keep fun p _ hp => World.cell?_setCell_other _ _ _ _ (fun e => by subst e; exact absurd hp (Nat.lt_irrefl _)), hc.le, hc.ml⟩
theorem Cur.setI {w : World} {g i : Nat} {h : Int} {S : Src} (hc : Cur w g S (i, h)) (i' : Nat) (hi : i' ≤ S.B.length) (v : Int) (hv : v = i') : Cur (w.setCell ⟨g, 1, none⟩ (.int .i64 v)) g S (i', h) := by
  subst hv
  exact ⟨by have := hc.lt; simpa using this, (World.cell?_setCell_other _ _ _ _ (by simp)).trans hc.c0, World.cell?_setCell_same w _ _ hc.c1, (World.cell?_setCell_other _ _ _ _ (by simp)).trans hc.c2, fun o => by rw [World.frozen?_setCell]; exact hc.fr o, hc.rd.keep fun p _ hp => World.cell?_setCell_other _ _ _ _ (fun e => by subst e; exact absurd hp (Nat.lt_irrefl _)), hi, hc.ml⟩
theorem Cur.drewN {w : World} {g : Nat} {s : Nat × Int} {S : Src} (hc : Cur w g S s) (n : Nat) : Cur (w.drewN n) g S s := ⟨hc.lt, hc.c0, hc.c1, hc.c2, hc.fr, hc.rd, hc.le, hc.ml⟩
theorem and_range (x : Int) (m : Nat) (hm : m < 2147483648) : 0 ≤ bits .and .i64 x m ∧ bits .and .i64 x m ≤ m := by
  unfold bits
  have h : (BitVec.ofInt 64 x &&& BitVec.ofInt 64 (m : Int)).toNat ≤ m := by
    rw [BitVec.toNat_and]
    refine Nat.le_trans Nat.and_le_right ?_
    simp
    omega
  show 0 ≤ IntKind.i64.wrap ((BitVec.ofInt 64 x &&& BitVec.ofInt 64 (m : Int)).toNat : Int) ∧ IntKind.i64.wrap ((BitVec.ofInt 64 x &&& BitVec.ofInt 64 (m : Int)).toNat : Int) ≤ m
  rw [IntWalk.i64_in _ (by omega)]
  omega
/-- The number of the cursor one byte on. -/
def nextH (h : Int) : Int := wrap64 (wrap64 (h * 6364136223846793005) + 1442695040888963407)
def byte0 (h : Int) : Int := bits .and .i64 (bits .xor .i64 (nextH h / 8589934592) (nextH h / 35184372088832)) 255
/-- The byte that is drawn at a state, and the state behind it. -/
def byteV (B : List Int) (s : Nat × Int) : Int := match B[s.1]? with | some b => bits .and .i64 (wrap64 (byte0 s.2 + wrap64 b)) 255 | none => byte0 s.2
def byteS (B : List Int) (s : Nat × Int) : Nat × Int := (if s.1 < B.length then s.1 + 1 else s.1, nextH s.2)
theorem byteV_range (B : List Int) (s : Nat × Int) : 0 ≤ byteV B s ∧ byteV B s ≤ 255 := by
  unfold byteV
  split
  · exact and_range _ 255 (by decide)
  · exact and_range _ 255 (by decide)
set_option maxHeartbeats 1000000 in
theorem l01Byte_any (g : Nat) (S : Src) (s : Nat × Int) (w : World) (hc : Cur w g S s) :
    Calls Try.prog 50 #[.pointer (some ⟨g, 0, none⟩)] w fun e w' => e = .returned (.int .i64 (byteV S.B s)) ∧ Cur w' g S (byteS S.B s) ∧ Touch g (g + 1) w w' := by
  obtain ⟨i, h⟩ := s
  obtain ⟨A, cap, B⟩ := S
  have HC := Lib.hid hc
  obtain ⟨hlt, c0, c1, c2, fr, rd, le, ml⟩ := hc
  have hml := ml
  unfold maxLen at ml
  simp only at c0 c1 c2 rd le ml hml
  have f1 := fr 1
  have f2 := fr 2
  have hfr := Lib.hid fr
  have hrd := Lib.hid rd
  clear fr
  by_cases hi : i < B.length
  · obtain ⟨g', o, rfl, _, hg, hcell⟩ := rd.at_ (by omega)
    have a0 : w.cell? ⟨g', o + i, none⟩ = some (.int .u8 B[i]) := by have := hcell i hi 0 (by decide); simpa using this
    have hii : (i : Int) < (B.length : Int) := by omega
    clear hcell rd
    go_enter Try.func50, Try.ntmps50
    go_wp2_with fail
    go_quiet (fail)
    go_wp2_with fail
    go_quiet (fail)
    go_wp2_with fail
    go_quiet (fail)
    go_wp2_with fail
    go_ret
    refine ⟨ret_int (by simp [byteV, byte0, nextH, hi]), ?_, by (repeat' (first | (with_reducible exact Touch.refl _ _ _) | (with_reducible assumption) | (with_reducible refine Touch.alloc ?_ _) | (with_reducible refine Touch.drew ?_) | (with_reducible refine Touch.drewN ?_ _) | (with_reducible refine Touch.setCell ?_ ?_ ?_ _) | (with_reducible refine Touch.via ?_ (by with_reducible assumption)) | go_size))⟩
    rw [show byteS B (i, h) = (i + 1, nextH h) from by simp [byteS, hi]]
    exact ((HC.out.setH (nextH h)).drewN _).setI (i + 1) hi ((i : Int) + 1) (by simp)
  · have hii : (B.length : Int) ≤ (i : Int) := by omega
    obtain rfl : i = B.length := by omega
    go_enter Try.func50, Try.ntmps50
    go_wp2_with fail
    go_quiet (fail)
    go_wp2_with fail
    go_quiet (fail)
    go_wp2_with fail
    go_ret
    refine ⟨ret_int (by simp [byteV, byte0, nextH]), ?_, by (repeat' (first | (with_reducible exact Touch.refl _ _ _) | (with_reducible assumption) | (with_reducible refine Touch.alloc ?_ _) | (with_reducible refine Touch.drew ?_) | (with_reducible refine Touch.drewN ?_ _) | (with_reducible refine Touch.setCell ?_ ?_ ?_ _) | (with_reducible refine Touch.via ?_ (by with_reducible assumption)) | go_size))⟩
    rw [show byteS B (B.length, h) = (B.length, nextH h) from by simp [byteS]]
    exact ((HC.out.setH (nextH h)).drewN _).drewN _
/-- What l01Below gives, and the state behind it. -/
def belowV (B : List Int) (s : Nat × Int) (n : Int) : Int :=
  if n ≤ 0 then 0 else if n ≤ 256 then byteV B s % n else
    (byteV B s * 16777216 + byteV B (byteS B s) * 65536 + byteV B (byteS B (byteS B s)) * 256 + byteV B (byteS B (byteS B (byteS B s)))) % n
def belowS (B : List Int) (s : Nat × Int) (n : Int) : Nat × Int :=
  if n ≤ 0 then s else if n ≤ 256 then byteS B s else byteS B (byteS B (byteS B (byteS B s)))
theorem belowV_range (B : List Int) (s : Nat × Int) (n : Int) : 0 ≤ belowV B s n ∧ (0 < n → belowV B s n < n) ∧ (n ≤ 0 → belowV B s n = 0) := by
  unfold belowV
  split
  · exact ⟨by omega, by omega, fun _ => rfl⟩
  · have hn : 0 < n := by omega
    split
    · exact ⟨Int.emod_nonneg _ (by omega), fun _ => Int.emod_lt_of_pos _ hn, by omega⟩
    · exact ⟨Int.emod_nonneg _ (by omega), fun _ => Int.emod_lt_of_pos _ hn, by omega⟩
set_option maxHeartbeats 1000000 in
theorem l01Below_any (g : Nat) (S : Src) (s : Nat × Int) (n : Int) (w : World) (hc : Cur w g S s) :
    Calls Try.prog 32 #[.pointer (some ⟨g, 0, none⟩), .int .i64 n] w fun e w' => e = .returned (.int .i64 (belowV S.B s n)) ∧ Cur w' g S (belowS S.B s n) ∧ Touch g (g + 1) w w' := by
  by_cases h0 : n ≤ 0
  · have e1 : Hid (belowV S.B s n = 0) := if_pos h0
    have e2 : Hid (belowS S.B s n = s) := if_pos h0
    go_enter Try.func32, Try.ntmps32
    go_wp2
    go_ret
    refine ⟨ret_int e1.out.symm, ?_, Touch.refl _ _ _⟩
    rw [e2.out]; exact hc
  · by_cases h1 : n ≤ 256
    · have e1 : Hid (belowV S.B s n = byteV S.B s % n) := by unfold Hid belowV; rw [if_neg h0, if_pos h1]
      have e2 : Hid (belowS S.B s n = byteS S.B s) := by unfold Hid belowS; rw [if_neg h0, if_pos h1]
      have hr := byteV_range S.B s
      obtain ⟨x, hx⟩ : ∃ x, byteV S.B s = x := ⟨_, rfl⟩
      rw [hx] at hr
      have HX := Lib.hid hx
      clear hx
      go_enter Try.func32, Try.ntmps32
      go_wp2_with fail
      refine (l01Byte_any g S s w hc).mono ?_
      rintro e w1 ⟨rfl, c1, t1⟩
      rw [HX.out]
      go_wp2
      go_ret
      exact ⟨ret_int (by rw [e1.out, HX.out]), e2.out ▸ c1, t1⟩
    · have e1 : Hid (belowV S.B s n = (byteV S.B s * 16777216 + byteV S.B (byteS S.B s) * 65536 + byteV S.B (byteS S.B (byteS S.B s)) * 256 + byteV S.B (byteS S.B (byteS S.B (byteS S.B s)))) % n) := by unfold Hid belowV; rw [if_neg h0, if_neg h1]
      have e2 : Hid (belowS S.B s n = byteS S.B (byteS S.B (byteS S.B (byteS S.B s)))) := by unfold Hid belowS; rw [if_neg h0, if_neg h1]
      obtain ⟨s1, hs1⟩ : ∃ x, byteS S.B s = x := ⟨_, rfl⟩
      obtain ⟨s2, hs2⟩ : ∃ x, byteS S.B s1 = x := ⟨_, rfl⟩
      obtain ⟨s3, hs3⟩ : ∃ x, byteS S.B s2 = x := ⟨_, rfl⟩
      rw [hs1, hs2, hs3] at e1 e2
      have hr := byteV_range S.B s
      have hr1 := byteV_range S.B s1
      have hr2 := byteV_range S.B s2
      have hr3 := byteV_range S.B s3
      obtain ⟨x, hx⟩ : ∃ x, byteV S.B s = x := ⟨_, rfl⟩
      obtain ⟨x1, hx1⟩ : ∃ x, byteV S.B s1 = x := ⟨_, rfl⟩
      obtain ⟨x2, hx2⟩ : ∃ x, byteV S.B s2 = x := ⟨_, rfl⟩
      obtain ⟨x3, hx3⟩ : ∃ x, byteV S.B s3 = x := ⟨_, rfl⟩
      rw [hx] at hr
      rw [hx1] at hr1
      rw [hx2] at hr2
      rw [hx3] at hr3
      rw [hx, hx1, hx2, hx3] at e1
      have HX := Lib.hid hx
      have HX1 := Lib.hid hx1
      have HX2 := Lib.hid hx2
      have HX3 := Lib.hid hx3
      have HS1 := Lib.hid hs1
      have HS2 := Lib.hid hs2
      have HS3 := Lib.hid hs3
      clear hx hx1 hx2 hx3 hs1 hs2 hs3
      go_enter Try.func32, Try.ntmps32
      go_wp2_with fail
      refine (l01Byte_any g S s w hc).mono ?_
      rintro e w1 ⟨rfl, c1, t1⟩
      rw [HX.out]
      rw [HS1.out] at c1
      go_wp2_with fail
      refine (l01Byte_any g S s1 w1 c1).mono ?_
      rintro e w2 ⟨rfl, c2, t2⟩
      rw [HX1.out]
      rw [HS2.out] at c2
      go_wp2_with fail
      refine (l01Byte_any g S s2 w2 c2).mono ?_
      rintro e w3 ⟨rfl, c3, t3⟩
      rw [HX2.out]
      rw [HS3.out] at c3
      go_wp2_with fail
      refine (l01Byte_any g S s3 w3 c3).mono ?_
      rintro e w4 ⟨rfl, c4, t4⟩
      rw [HX3.out]
      go_wp2
      go_ret
      exact ⟨ret_int (by rw [e1.out]), e2.out ▸ c4, ((t1.trans t2).trans t3).trans t4⟩
/-- The first number of the cursor. -/
def newH (B : List Int) : Nat → Int
  | 0 => 94701 + B.length
  | k + 1 => bits .and .i64 (wrap64 (wrap64 (wrap64 (newH B k * 131) + wrap64 (B[k]?.getD 0)) + 7)) 1073741823
set_option maxHeartbeats 1000000 in
theorem l01New_any (A : Option Addr) (cap : Nat) (B : List Int) (w : World) (hr : Rd bcells 1 w 0 w.heap.size A B) (hm : B.length ≤ 1048576) :
    Calls Try.prog 29 #[.slice A B.length cap] w fun e w' => e = .returned (.pointer (some ⟨w.heap.size, 0, none⟩)) ∧ Cur w' w.heap.size ⟨A, cap, B⟩ (0, newH B (min B.length 4000)) ∧ Below w.heap.size w w' := by
  go_enter Try.func29, Try.ntmps29
  go_wp2_with fail
  go_loop [3, 4] (fun q i => ∃ (k : Nat), k ≤ B.length ∧ k ≤ 4000 ∧ i = .int .i64 k ∧ Hid (q = .int .i64 (newH B k))) (fun _ i => B.length - (intOf i).toNat)
  case atStart => exact ⟨0, Nat.zero_le _, Nat.zero_le _, rfl, rfl⟩
  case round =>
    obtain ⟨k, hk, hk4, rfl, hq⟩ := hrel
    obtain ⟨h, hh⟩ : ∃ h, newH B k = h := ⟨_, rfl⟩
    have hq' := hq.out
    rw [hh] at hq'
    subst hq'
    have HH := Lib.hid hh
    clear hh hq
    by_cases hlt : k < B.length
    · obtain ⟨g, o, rfl, _, hg, hcell⟩ := hr.at_ (by omega)
      have a0 : w.cell? ⟨g, o + k, none⟩ = some (.int .u8 B[k]) := by have := hcell k hlt 0 (by decide); simpa using this
      clear hcell
      have hki : (k : Int) < (B.length : Int) := by omega
      by_cases h4 : k < 4000
      · have d4 : (k : Int) < 4000 := by omega
        go_wp2
        go_round
        case rel => exact ⟨k + 1, by omega, by omega, by go_num, by unfold Hid newH; rw [HH.out, List.getElem?_eq_getElem hlt]; simp⟩
        case measure => simp [intOf]; omega
      · have d4 : decide ((k : Int) < 4000) = false := decide_eq_false (by omega)
        have HM : Hid (min B.length 4000 = k) := by unfold Hid; omega
        go_wp2
        go_returns
        exact ⟨rfl, ⟨by simp, by simp [go_sem], by simp [go_sem], by rw [HM.out, HH.out]; simp [go_sem], by simp [go_sem], (hr.below (by go_grown)), Nat.zero_le _, by simp only [maxLen]; omega⟩, by (repeat' (first | (with_reducible exact Below.refl _ _) | (with_reducible assumption) | (with_reducible refine Below.alloc ?_ ?_ _) | (with_reducible refine Below.drew ?_) | (with_reducible refine below_drewN ?_ _) | (with_reducible refine Below.setCell ?_ ?_ _) | (with_reducible refine bvia ?_ (by with_reducible assumption) ?_) | go_size))⟩
    · have HM : Hid (min B.length 4000 = k) := by unfold Hid; omega
      have hki : (B.length : Int) ≤ (k : Int) := by omega
      go_wp2
      go_returns
      exact ⟨rfl, ⟨by simp, by simp [go_sem], by simp [go_sem], by rw [HM.out, HH.out]; simp [go_sem], by simp [go_sem], (hr.below (by go_grown)), Nat.zero_le _, by simp only [maxLen]; omega⟩, by (repeat' (first | (with_reducible exact Below.refl _ _) | (with_reducible assumption) | (with_reducible refine Below.alloc ?_ ?_ _) | (with_reducible refine Below.drew ?_) | (with_reducible refine below_drewN ?_ _) | (with_reducible refine Below.setCell ?_ ?_ _) | (with_reducible refine bvia ?_ (by with_reducible assumption) ?_) | go_size))⟩
end Go.Proofs.Ytpjbnfpadbknpaa
