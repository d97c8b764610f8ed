/- l01Text: for every state of the cursor, exact. -/
import Derived.Test.YtddpgdgpicamiaaDraw
import Derived.Laws.IdiomStrings
import Derived.Deep.OwnRows
namespace Go.Proofs.Ytddpgdgpicamiaa
set_option linter.unusedSimpArgs false
set_option linter.unusedVariables false
open Go.RowKit

theorem infoB8 : (Try.prog.info? 5).map (fun i => (i.zero, i.size, i.bytes)) = some (some (.int .u8 0), 1, 1) := by kernel_rfl
theorem slByte : SlTy Try.prog 41 5 1 := SlTy.mk' Try.underlying41 infoB8 rfl (by decide) (by decide)
theorem bcells_length (x : Int) : (bcells x).length = 1 := rfl
theorem bcells_one (x : Int) : ∀ u ∈ bcells x, u.oneCell' = true := by intro u hu; simp [bcells] at hu; subst hu; rfl
/-- The state behind k bytes that were drawn, and those bytes. -/
def textS (B : List Int) (s : Nat × Int) : Nat → Nat × Int
  | 0 => s
  | k + 1 => byteS B (textS B s k)
def textL (B : List Int) (s : Nat × Int) : Nat → List Int
  | 0 => []
  | k + 1 => textL B s k ++ [byteV B (textS B s k)]
theorem textL_length (B : List Int) (s : Nat × Int) : ∀ k, (textL B s k).length = k
  | 0 => rfl
  | k + 1 => by rw [textL, List.length_append, textL_length B s k]; rfl
theorem textL_range (B : List Int) (s : Nat × Int) : ∀ k, ∀ x ∈ textL B s k, 0 ≤ x ∧ x ≤ 255
  | 0 => fun x hx => by simp [textL] at hx
  | k + 1 => fun x hx => by
    rw [textL, List.mem_append, List.mem_singleton] at hx
    rcases hx with hx | rfl
    · exact textL_range B s k x hx
    · exact byteV_range B _
/-- The text of some bytes. -/
def textOf (L : List Int) : ByteArray := ⟨(L.map fun x => UInt8.ofNat x.toNat).toArray⟩
theorem textOf_size (L : List Int) : (textOf L).size = L.length := by simp [textOf, ByteArray.size]
def textV (B : List Int) (s : Nat × Int) (n : Nat) : ByteArray := textOf (textL B s n)
theorem textV_size (B : List Int) (s : Nat × Int) (n : Nat) : (textV B s n).size = n := by rw [textV, textOf_size, textL_length]
theorem u8_of {x : Int} (h0 : 0 ≤ x) (h1 : x ≤ 255) : ((UInt8.ofNat x.toNat).toNat : Int) = x := by
  rw [UInt8.toNat_ofNat']
  omega
/-- 'string(b)' of a slice of the call's own. -/
theorem run_text {w : World} {base : Nat} {e : TypeId} {v : Value} {L : List Int} (O : Own w base e bcells 1 v L) (hn : v.ownBlock ≠ none) (hL : ∀ x ∈ L, 0 ≤ x ∧ x ≤ 255) :
    (convert 41 9 v).run Try.prog w = .ok (.string (textOf L)) w := by
  rcases O.form with ⟨rfl, -⟩ | ⟨g, cap, cur, rfl, -, -, -, -, -, -⟩
  · exact absurd rfl hn
  · have hcv := run_convert_bytes_back (P := Try.prog) w 41 9 5 ⟨g, 0, none⟩ cap (L.map fun x => UInt8.ofNat x.toNat) Try.underlying41 Try.underlying5 Try.underlying9 (fun j hj => by
      simp at hj
      have := O.cellAt bcells_length j hj 0 (by decide)
      rw [show (⟨g, 0, none⟩ : Addr).add j = ⟨g, j, none⟩ from by simp [Addr.add]; intro h; exact h.symm]
      simp only [Nat.mul_one, Nat.add_zero] at this
      rw [this]
      have hx := hL _ (List.getElem_mem hj)
      simp only [List.getElem_map]
      rw [u8_of hx.1 hx.2]
      rfl)
    simpa [textOf] using hcv
set_option maxHeartbeats 2000000 in
theorem l01Text_any (g : Nat) (S : Src) (s : Nat × Int) (n : Nat) (hn : n ≤ 5000) (w : World) (hc : Cur w g S s) :
    Calls Try.prog 33 #[.pointer (some ⟨g, 0, none⟩), .int .i64 n] w fun e w' => e = .returned (.string (textV S.B s n)) ∧ Cur w' g S (textS S.B s n) ∧ Touch g (g + 1) w w' := by
  have hlt := hc.lt
  go_enter Try.func33, Try.ntmps33
  go_wp2_with fail
  go_loopw [5, 6] (fun v i wr => ∃ (k : Nat), k ≤ n ∧ i = .int .i64 k ∧ Own wr w.heap.size 5 bcells 1 v (textL S.B s k) ∧ v.ownBlock ≠ none ∧ Cur wr g S (textS S.B s k) ∧ Touch g (g + 1) w wr) (fun _ i _ => n - (intOf i).toNat)
  case atStart => exact ⟨0, Nat.zero_le _, rfl, Own.empty _ _ _ (Nat.le_refl _), by simp [Value.ownBlock], hc.below (by (repeat' (first | (with_reducible exact Below.refl _ _) | (with_reducible assumption) | (with_reducible refine Below.alloc ?_ ?_ _) | (with_reducible refine Below.drew ?_) | (with_reducible refine below_drewN ?_ _) | (with_reducible refine Below.setCell ?_ ?_ _) | (with_reducible refine bvia ?_ (by with_reducible assumption) ?_) | go_size))), by (repeat' (first | (with_reducible exact Touch.refl _ _ _) | (with_reducible assumption) | (with_reducible refine Touch.alloc ?_ _) | (with_reducible refine Touch.drew ?_) | (with_reducible refine Touch.drewN ?_ _) | (with_reducible refine Touch.setNew ?_ ?_ _) | (with_reducible refine Touch.trans ?_ (by with_reducible assumption)) | (with_reducible refine Touch.via ?_ (by with_reducible assumption)) | go_size | omega))⟩
  case round =>
    obtain ⟨k, hk, rfl, O, hv, hC, hT⟩ := hrel
    have hz0 := hT.size
    by_cases hlt2 : k < n
    · have hki : (k : Int) < (n : Int) := by omega
      go_wp2_with fail
      refine (l01Byte_any g S _ _ hC).mono ?_
      rintro e w1 ⟨rfl, c1, t1⟩
      have hr := byteV_range S.B (textS S.B s k)
      have hlen := textL_length S.B s k
      have hL1 : Hid (textL S.B s (k + 1) = textL S.B s k ++ [byteV S.B (textS S.B s k)]) := rfl
      have hS1 : Hid (textS S.B s (k + 1) = byteS S.B (textS S.B s k)) := rfl
      obtain ⟨x, hx⟩ : ∃ x, byteV S.B (textS S.B s k) = x := ⟨_, rfl⟩
      obtain ⟨L, hL⟩ : ∃ x, textL S.B s k = x := ⟨_, rfl⟩
      rw [hx] at hr hL1 ⊢
      rw [hL] at hlen hL1 O
      have HX := Lib.hid hx
      have HL := Lib.hid hL
      have hlen1 : L.length ≤ 5000 := by omega
      clear hx hL hlen
      have hz1 := t1.size
      have O1 := O.touch t1 hlt
      have hT1 := hT.trans t1
      clear O hT hC t1
      go_wp2_with (at_builtin; refine wpList_append_rd _ rfl (.tmp 15) (.tmp 19) rfl slByte bcells_length bcells_one w.heap.size _ L [x] rfl (O1.alloc _) (some ⟨w1.heap.size, 0, none⟩) 1 1 0 (w1.heap.size + 1) rfl rfl (rd_one _ (x : Int) _ _ bcells_length rfl _ rfl _ (by omega)) (by simp; omega) (by simp; omega) ?_; intro v5 w5 O5 G5 X5; have hz5 := G5.size; (try simp at hz5); have c5 : Cur w5 g S (byteS S.B (textS S.B s k)) := (c1.below (by (repeat' (first | (with_reducible exact Below.refl _ _) | (with_reducible assumption) | (with_reducible refine Below.alloc ?_ ?_ _) | (with_reducible refine Below.drew ?_) | (with_reducible refine below_drewN ?_ _) | (with_reducible refine Below.setCell ?_ ?_ _) | (with_reducible refine bvia ?_ (by with_reducible assumption) ?_) | go_size)) : Below _ _ (w1.alloc _))).keep (lo := w.heap.size) (hi := w5.heap.size) ((Touch.refl _ _ _).grown G5 (fun k hk => ⟨(O1.lt hk).1, by have := (O1.lt hk).2; omega⟩)) hlt; have hT5 := (Touch.alloc hT1 _).grownNew G5 (fun k hk => (O1.lt hk).1); have hv5 : v5.ownBlock ≠ none := X5.elim (fun h => by rw [h]; exact hv) (fun h => by rw [h]; exact Option.some_ne_none _); clear O1 hT1 c1 G5 X5)
      go_roundw
      case rel => exact ⟨k + 1, by omega, by go_num, hL1.out ▸ O5, hv5, hS1.out ▸ c5, hT5⟩
      case measure => simp [intOf]; omega
    · obtain rfl : k = n := by omega
      have hcv := run_text O hv (textL_range S.B s k)
      go_wp2
      go_ret
      exact ⟨rfl, hC, hT⟩
end Go.Proofs.Ytddpgdgpicamiaa
