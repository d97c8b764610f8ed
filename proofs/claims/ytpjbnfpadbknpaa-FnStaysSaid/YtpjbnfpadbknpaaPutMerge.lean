/- merged, l09Join: one piece of two that overlap or touch. -/
import Derived.Test.YtpjbnfpadbknpaaPutLaw
import Derived.Test.YtpjbnfpadbknpaaCopyP
namespace Go.Proofs.Ytpjbnfpadbknpaa
set_option linter.unusedSimpArgs false
set_option linter.unusedVariables false
open Go.RowKit

abbrev pc (a : Int) (t : ByteArray) : Value := .agg #[.int .i64 a, .string t]
theorem ext_all {s : ByteArray} {n : Nat} (h : s.size ≤ n) : s.extract 0 n = s := by
  have h1 : s.data.size ≤ n := h
  rw [ByteArray.ext_iff]; simp; omega
theorem ext_none {s : ByteArray} {n m : Nat} (h : min m s.size ≤ n) : s.extract n m = ByteArray.empty := ByteArray.extract_eq_empty_iff.2 h
theorem pc_eq {x : PieceD} {a : Int} {t : ByteArray} (h : x = ⟨a, t⟩) : Ending.returned (pc a t) = .returned (pc x.fAt x.fText) := by rw [h]
theorem join_lt {aA bA : Int} {aT bT : ByteArray} (h : bA < aA) : joinV ⟨aA, aT⟩ ⟨bA, bT⟩ = ⟨bA, bT.extract 0 (aA - bA).toNat ++ aT ++ bT.extract ((aA - bA).toNat + aT.size) bT.size⟩ := if_pos h
theorem join_ge {aA bA : Int} {aT bT : ByteArray} (h : ¬ bA < aA) : joinV ⟨aA, aT⟩ ⟨bA, bT⟩ = ⟨aA, aT ++ bT.extract (aA + aT.size - bA).toNat bT.size⟩ := if_neg h
set_option maxHeartbeats 2000000 in
theorem iMerged (aA bA : Int) (aT bT : ByteArray) (w : World) (ha0 : 0 ≤ aA) (ha1 : aA ≤ 2000000000) (hb0 : 0 ≤ bA) (hb1 : bA ≤ 2000000000) (hs1 : aT.size ≤ 1000) (hs2 : bT.size ≤ 1000) (h1 : bA ≤ aA + aT.size) (h2 : aA ≤ bA + bT.size) :
    Calls Try.prog 37 #[pc aA aT, pc bA bT] w fun e w' => e = .returned (pc (joinV ⟨aA, aT⟩ ⟨bA, bT⟩).fAt (joinV ⟨aA, aT⟩ ⟨bA, bT⟩).fText) ∧ Below w.heap.size w w' := by
  by_cases hlt : bA < aA
  · by_cases hn : aA - bA < bT.size
    · by_cases hg : ((min (aA - bA).toNat bT.size : Nat) : Int) + aT.size < bT.size
      · have hv : Hid (joinV ⟨aA, aT⟩ ⟨bA, bT⟩ = ⟨bA, bT.extract 0 (aA - bA).toNat ++ aT ++ bT.extract (bA + (((min (aA - bA).toNat bT.size : Nat) : Int) + aT.size) - bA).toNat bT.size⟩) := by
          unfold Hid; rw [join_lt hlt]; congr 3; omega
        go_enter Try.func37, Try.ntmps37
        go_wp2
        go_region
        go_wp2
        go_region
        go_wp2
        refine bodyPost_ret (v := pc bA (bT.extract 0 (aA - bA).toNat ++ aT ++ bT.extract (bA + (((min (aA - bA).toNat bT.size : Nat) : Int) + aT.size) - bA).toNat bT.size)) (by simp [results, Try.results37, go_sem, *]) rfl ?_
        exact ⟨pc_eq hv.out, by (repeat' (first | (with_reducible exact Below.refl _ _) | (with_reducible assumption) | (with_reducible refine Below.alloc ?_ ?_ _) | (with_reducible refine Below.drew ?_) | (with_reducible refine below_drewN ?_ _) | (with_reducible refine Below.setCell ?_ ?_ _) | (with_reducible refine bvia ?_ (by with_reducible assumption) ?_) | go_size))⟩
      · have hv : Hid (joinV ⟨aA, aT⟩ ⟨bA, bT⟩ = ⟨bA, bT.extract 0 (aA - bA).toNat ++ aT⟩) := by
          unfold Hid; rw [join_lt hlt, ext_none (s := bT) (n := (aA - bA).toNat + aT.size) (by omega), ByteArray.append_empty]
        go_enter Try.func37, Try.ntmps37
        go_wp2
        go_region
        go_wp2
        refine bodyPost_ret (v := pc bA (bT.extract 0 (aA - bA).toNat ++ aT)) (by simp [results, Try.results37, go_sem, *]) rfl ?_
        exact ⟨pc_eq hv.out, by (repeat' (first | (with_reducible exact Below.refl _ _) | (with_reducible assumption) | (with_reducible refine Below.alloc ?_ ?_ _) | (with_reducible refine Below.drew ?_) | (with_reducible refine below_drewN ?_ _) | (with_reducible refine Below.setCell ?_ ?_ _) | (with_reducible refine bvia ?_ (by with_reducible assumption) ?_) | go_size))⟩
    · have hv : Hid (joinV ⟨aA, aT⟩ ⟨bA, bT⟩ = ⟨bA, bT ++ aT⟩) := by
        unfold Hid; rw [join_lt hlt, ext_none (s := bT) (n := (aA - bA).toNat + aT.size) (by omega), ByteArray.append_empty, ext_all (by omega)]
      have hg : ¬ (bT.size : Int) + aT.size < bT.size := by omega
      go_enter Try.func37, Try.ntmps37
      go_wp2
      go_region
      go_wp2
      refine bodyPost_ret (v := pc bA (bT ++ aT)) (by simp [results, Try.results37, go_sem, *]) rfl ?_
      exact ⟨pc_eq hv.out, by (repeat' (first | (with_reducible exact Below.refl _ _) | (with_reducible assumption) | (with_reducible refine Below.alloc ?_ ?_ _) | (with_reducible refine Below.drew ?_) | (with_reducible refine below_drewN ?_ _) | (with_reducible refine Below.setCell ?_ ?_ _) | (with_reducible refine bvia ?_ (by with_reducible assumption) ?_) | go_size))⟩
  · by_cases hg : aA + aT.size < bA + bT.size
    · have hv : Hid (joinV ⟨aA, aT⟩ ⟨bA, bT⟩ = ⟨aA, aT ++ bT.extract (aA + aT.size - bA).toNat bT.size⟩) := join_ge hlt
      go_enter Try.func37, Try.ntmps37
      go_wp2
      go_region
      go_wp2
      refine bodyPost_ret (v := pc aA (aT ++ bT.extract (aA + aT.size - bA).toNat bT.size)) (by simp [results, Try.results37, go_sem, *]) rfl ?_
      exact ⟨pc_eq hv.out, by (repeat' (first | (with_reducible exact Below.refl _ _) | (with_reducible assumption) | (with_reducible refine Below.alloc ?_ ?_ _) | (with_reducible refine Below.drew ?_) | (with_reducible refine below_drewN ?_ _) | (with_reducible refine Below.setCell ?_ ?_ _) | (with_reducible refine bvia ?_ (by with_reducible assumption) ?_) | go_size))⟩
    · have hv : Hid (joinV ⟨aA, aT⟩ ⟨bA, bT⟩ = ⟨aA, aT⟩) := by
        unfold Hid; rw [join_ge hlt, ext_none (by omega), ByteArray.append_empty]
      go_enter Try.func37, Try.ntmps37
      go_wp2
      refine bodyPost_ret (v := pc aA aT) (by simp [results, Try.results37, go_sem, *]) rfl ?_
      exact ⟨pc_eq hv.out, by (repeat' (first | (with_reducible exact Below.refl _ _) | (with_reducible assumption) | (with_reducible refine Below.alloc ?_ ?_ _) | (with_reducible refine Below.drew ?_) | (with_reducible refine below_drewN ?_ _) | (with_reducible refine Below.setCell ?_ ?_ _) | (with_reducible refine bvia ?_ (by with_reducible assumption) ?_) | go_size))⟩
set_option maxHeartbeats 2000000 in
theorem sJoin (aA bA : Int) (aT bT : ByteArray) (w : World) (ha0 : 0 ≤ aA) (ha1 : aA ≤ 2000000000) (hb0 : 0 ≤ bA) (hb1 : bA ≤ 2000000000) (hs1 : aT.size ≤ 1000) (hs2 : bT.size ≤ 1000) (h1 : bA ≤ aA + aT.size) (h2 : aA ≤ bA + bT.size) :
    Calls Try.prog 41 #[pc aA aT, pc bA bT] w fun e w' => e = .returned (pc (joinV ⟨aA, aT⟩ ⟨bA, bT⟩).fAt (joinV ⟨aA, aT⟩ ⟨bA, bT⟩).fText) ∧ Below w.heap.size w w' := by
  by_cases hlt : bA < aA
  · by_cases hn : aA - bA < bT.size
    · by_cases hg : aA - bA + aT.size < bT.size
      · have hv : Hid (joinV ⟨aA, aT⟩ ⟨bA, bT⟩ = ⟨bA, bT.extract 0 (aA - bA).toNat ++ aT ++ bT.extract (aA - bA + aT.size).toNat bT.size⟩) := by
          unfold Hid; rw [join_lt hlt]; congr 3; omega
        go_enter Try.func41, Try.ntmps41
        go_wp2
        refine bodyPost_ret (v := pc bA (bT.extract 0 (aA - bA).toNat ++ aT ++ bT.extract (aA - bA + aT.size).toNat bT.size)) (by simp [results, Try.results41, go_sem, *]) rfl ?_
        exact ⟨pc_eq hv.out, by (repeat' (first | (with_reducible exact Below.refl _ _) | (with_reducible assumption) | (with_reducible refine Below.alloc ?_ ?_ _) | (with_reducible refine Below.drew ?_) | (with_reducible refine below_drewN ?_ _) | (with_reducible refine Below.setCell ?_ ?_ _) | (with_reducible refine bvia ?_ (by with_reducible assumption) ?_) | go_size))⟩
      · have hv : Hid (joinV ⟨aA, aT⟩ ⟨bA, bT⟩ = ⟨bA, bT.extract 0 (aA - bA).toNat ++ aT ++ ⟨#[]⟩⟩) := by
          unfold Hid; rw [join_lt hlt, ext_none (s := bT) (n := (aA - bA).toNat + aT.size) (by omega)]; rfl
        go_enter Try.func41, Try.ntmps41
        go_wp2
        refine bodyPost_ret (v := pc bA (bT.extract 0 (aA - bA).toNat ++ aT ++ ⟨#[]⟩)) (by simp [results, Try.results41, go_sem, *]) rfl ?_
        exact ⟨pc_eq hv.out, by (repeat' (first | (with_reducible exact Below.refl _ _) | (with_reducible assumption) | (with_reducible refine Below.alloc ?_ ?_ _) | (with_reducible refine Below.drew ?_) | (with_reducible refine below_drewN ?_ _) | (with_reducible refine Below.setCell ?_ ?_ _) | (with_reducible refine bvia ?_ (by with_reducible assumption) ?_) | go_size))⟩
    · have hg : ¬ aA - bA + aT.size < bT.size := by omega
      have hv : Hid (joinV ⟨aA, aT⟩ ⟨bA, bT⟩ = ⟨bA, bT ++ aT ++ ⟨#[]⟩⟩) := by
        unfold Hid; rw [join_lt hlt, ext_none (s := bT) (n := (aA - bA).toNat + aT.size) (by omega), ext_all (by omega)]; rfl
      go_enter Try.func41, Try.ntmps41
      go_wp2
      refine bodyPost_ret (v := pc bA (bT ++ aT ++ ⟨#[]⟩)) (by simp [results, Try.results41, go_sem, *]) rfl ?_
      exact ⟨pc_eq hv.out, by (repeat' (first | (with_reducible exact Below.refl _ _) | (with_reducible assumption) | (with_reducible refine Below.alloc ?_ ?_ _) | (with_reducible refine Below.drew ?_) | (with_reducible refine below_drewN ?_ _) | (with_reducible refine Below.setCell ?_ ?_ _) | (with_reducible refine bvia ?_ (by with_reducible assumption) ?_) | go_size))⟩
  · by_cases hg : bA - aA + bT.size - aT.size ≤ 0
    · have hv : Hid (joinV ⟨aA, aT⟩ ⟨bA, bT⟩ = ⟨aA, aT⟩) := by
        unfold Hid; rw [join_ge hlt, ext_none (by omega), ByteArray.append_empty]
      go_enter Try.func41, Try.ntmps41
      go_wp2
      refine bodyPost_ret (v := pc aA aT) (by simp [results, Try.results41, go_sem, *]) rfl ?_
      exact ⟨pc_eq hv.out, by (repeat' (first | (with_reducible exact Below.refl _ _) | (with_reducible assumption) | (with_reducible refine Below.alloc ?_ ?_ _) | (with_reducible refine Below.drew ?_) | (with_reducible refine below_drewN ?_ _) | (with_reducible refine Below.setCell ?_ ?_ _) | (with_reducible refine bvia ?_ (by with_reducible assumption) ?_) | go_size))⟩
    · have hv : Hid (joinV ⟨aA, aT⟩ ⟨bA, bT⟩ = ⟨aA, aT ++ bT.extract ((bT.size : Int) - (bA - aA + bT.size - aT.size)).toNat bT.size⟩) := by
        unfold Hid; rw [join_ge hlt]; congr 3; omega
      go_enter Try.func41, Try.ntmps41
      go_wp2
      go_region
      go_wp2
      refine bodyPost_ret (v := pc aA (aT ++ bT.extract ((bT.size : Int) - (bA - aA + bT.size - aT.size)).toNat bT.size)) (by simp [results, Try.results41, go_sem, *]) rfl ?_
      exact ⟨pc_eq hv.out, by (repeat' (first | (with_reducible exact Below.refl _ _) | (with_reducible assumption) | (with_reducible refine Below.alloc ?_ ?_ _) | (with_reducible refine Below.drew ?_) | (with_reducible refine below_drewN ?_ _) | (with_reducible refine Below.setCell ?_ ?_ _) | (with_reducible refine bvia ?_ (by with_reducible assumption) ?_) | go_size))⟩
end Go.Proofs.Ytpjbnfpadbknpaa
