/- The axis of a profile: contracts; the walks of the laws on IsProfile and AxisOf. -/
import Derived.Test.YtmddcmgkmdkclaaProf
import Derived.Test.YtmddcmgkmdkclaaShelf
import Derived.Deep.RegionHeld3
import Derived.Deep.QuietTactic
import Derived.BigQuiet
namespace Go.Proofs.Ytmddcmgkmdkclaa
open Go.RowKit
set_option linter.unusedVariables false

def AxR (ys : List Int) (k b : Nat) : Prop := b < k ∧ Lib.minOf (ys.take k) = ys.getD b 0 ∧ (∀ j, j < k → ys.getD b 0 ≤ ys.getD j 0) ∧ (∀ j, j < b → ys.getD j 0 ≠ ys.getD b 0)
theorem ax_one (ys : List Int) : AxR ys 1 0 := ⟨by omega, Lib.minOf_one ys, fun j hj => by rw [show j = 0 by omega]; omega, fun j hj => by omega⟩
theorem ax_lt {ys : List Int} {k b : Nat} {x y : Int} (h : AxR ys k b) (hk : k < ys.length) (hx : ys[k]? = some x) (hy : ys[b]? = some y) (hl : x < y) : AxR ys (k + 1) k := by
  obtain ⟨h1, h2, h3, h4⟩ := h
  have ex := getD_of hx
  have ey := getD_of hy
  refine ⟨by omega, ?_, fun j hj => ?_, fun j hj => ?_⟩
  · rw [Lib.minOf_step _ _ (by omega) hk, h2, ex, ey, Int.min_def]; omega
  · rcases Nat.lt_or_ge j k with c | c
    · have := h3 j c; omega
    · obtain rfl : j = k := by omega
      omega
  · have := h3 j hj; omega
theorem ax_ge {ys : List Int} {k b : Nat} {x y : Int} (h : AxR ys k b) (hk : k < ys.length) (hx : ys[k]? = some x) (hy : ys[b]? = some y) (hl : ¬ x < y) : AxR ys (k + 1) b := by
  obtain ⟨h1, h2, h3, h4⟩ := h
  have ex := getD_of hx
  have ey := getD_of hy
  refine ⟨by omega, ?_, fun j hj => ?_, h4⟩
  · rw [Lib.minOf_step _ _ (by omega) hk, h2, ex, ey, Int.min_def]; omega
  · rcases Nat.lt_or_ge j k with c | c
    · exact h3 j c
    · obtain rfl : j = k := by omega
      omega
theorem ax_end {ys : List Int} {k b : Nat} (h : AxR ys k b) (hk : ys.length = k) : Lib.idxOf ys (Lib.minOf ys) = b := by
  obtain ⟨h1, h2, h3, h4⟩ := h
  have e : ys.take k = ys := List.take_of_length_le (by omega)
  rw [e] at h2
  have := Lib.idxOf_hit ys k b (ys.getD b 0) h1 (by omega) rfl (fun j hj => h4 j hj)
  rw [e] at this
  rw [h2]; exact this
noncomputable def axV (xs ys : List Int) : Int := if pfB xs ys then Lib.idxOf ys (Lib.minOf ys) else 0
noncomputable def axC (xs ys : List Int) : Int := if pfB xs ys then 0 else 1
set_option maxHeartbeats 800000 in
theorem axS {w : World} {A B : Option Addr} {n m : Nat} {xs ys : List Int} (H : Ints .i64 w A n xs) (K : Ints .i64 w B m ys) (c d : Nat) :
    Calls Try.prog 37 #[.agg #[.slice A n c, .slice B m d]] w fun e w' => e = .returned (.tuple #[.int .i64 (axV xs ys), .int .i64 (axC xs ys)]) ∧ Below w.heap.size w w' := by
  have hm := K.le
  have HM := Lib.hid K.len
  rcases hp : pfB xs ys
  · go_enter Try.func37, Try.ntmps37
    go_wp2_with fail
    refine (isPfS (H.below (by (repeat' (first | (with_reducible exact Below.refl _ _) | (with_reducible assumption) | (with_reducible refine bStep ?_ (by with_reducible assumption)) | (with_reducible refine bAlloc ?_ _) | (with_reducible refine bDrew ?_) | (with_reducible refine bDrewN ?_ _) | (with_reducible refine Below.setCell ?_ ?_ _) | (with_reducible exact Nat.le_refl _) | (simp; done) | (simp; omega))))) (K.below (by (repeat' (first | (with_reducible exact Below.refl _ _) | (with_reducible assumption) | (with_reducible refine bStep ?_ (by with_reducible assumption)) | (with_reducible refine bAlloc ?_ _) | (with_reducible refine bDrew ?_) | (with_reducible refine bDrewN ?_ _) | (with_reducible refine Below.setCell ?_ ?_ _) | (with_reducible exact Nat.le_refl _) | (simp; done) | (simp; omega))))) _ _).mono ?_
    rintro e w1 ⟨rfl, hb1⟩
    go_wp2
    go_ret2
    exact ⟨by simp [axV, axC, hp], by (repeat' (first | (with_reducible exact Below.refl _ _) | (with_reducible assumption) | (with_reducible refine bStep ?_ (by with_reducible assumption)) | (with_reducible refine bAlloc ?_ _) | (with_reducible refine bDrew ?_) | (with_reducible refine bDrewN ?_ _) | (with_reducible refine Below.setCell ?_ ?_ _) | (with_reducible exact Nat.le_refl _) | (simp; done) | (simp; omega)))⟩
  have PL := pf_len hp
  have hl : 2 ≤ m := by have := H.len; have := K.len; omega
  have HP := Lib.hid hp
  go_enter Try.func37, Try.ntmps37
  go_wp2_with fail
  refine (isPfS (H.below (by (repeat' (first | (with_reducible exact Below.refl _ _) | (with_reducible assumption) | (with_reducible refine bStep ?_ (by with_reducible assumption)) | (with_reducible refine bAlloc ?_ _) | (with_reducible refine bDrew ?_) | (with_reducible refine bDrewN ?_ _) | (with_reducible refine Below.setCell ?_ ?_ _) | (with_reducible exact Nat.le_refl _) | (simp; done) | (simp; omega))))) (K.below (by (repeat' (first | (with_reducible exact Below.refl _ _) | (with_reducible assumption) | (with_reducible refine bStep ?_ (by with_reducible assumption)) | (with_reducible refine bAlloc ?_ _) | (with_reducible refine bDrew ?_) | (with_reducible refine bDrewN ?_ _) | (with_reducible refine Below.setCell ?_ ?_ _) | (with_reducible exact Nat.le_refl _) | (simp; done) | (simp; omega))))) _ _).mono ?_
  rintro e w1 ⟨rfl, hb1⟩
  obtain ⟨hc1, hf1⟩ := bcell hb1
  have q0 := hc1 w.heap.size 0 (by simp)
  have q1 := hc1 w.heap.size 1 (by simp)
  have hz1 := hb1.size
  (try simp at hz1)
  have hz2 : w.heap.size < w1.heap.size := by omega
  have K1 := K.below (w' := w1) (by (repeat' (first | (with_reducible exact Below.refl _ _) | (with_reducible assumption) | (with_reducible refine bStep ?_ (by with_reducible assumption)) | (with_reducible refine bAlloc ?_ _) | (with_reducible refine bDrew ?_) | (with_reducible refine bDrewN ?_ _) | (with_reducible refine Below.setCell ?_ ?_ _) | (with_reducible exact Nat.le_refl _) | (simp; done) | (simp; omega))))
  have E1 : w1.cell? ⟨w.heap.size, 1, none⟩ = some (.slice B m d) := by rw [q1]; go_simp
  have B1 : Below w.heap.size w w1 := by (repeat' (first | (with_reducible exact Below.refl _ _) | (with_reducible assumption) | (with_reducible refine bStep ?_ (by with_reducible assumption)) | (with_reducible refine bAlloc ?_ _) | (with_reducible refine bDrew ?_) | (with_reducible refine bDrewN ?_ _) | (with_reducible refine Below.setCell ?_ ?_ _) | (with_reducible exact Nat.le_refl _) | (simp; done) | (simp; omega)))
  clear q0 q1 hc1 hf1 hb1 PL
  go_wp2
  go_loopw [4, 5] (fun b i wr => ∃ k t : Nat, 1 ≤ k ∧ k ≤ m ∧ i = .int .i64 k ∧ b = .int .i64 t ∧ t < k ∧ Hid (AxR ys k t) ∧ Below w1.heap.size w1 wr) (fun _ i _ => m - (intOf i).toNat)
  case atStart => exact ⟨1, 0, by omega, by omega, rfl, rfl, by omega, ax_one ys, by (repeat' (first | (with_reducible exact Below.refl _ _) | (with_reducible assumption) | (with_reducible refine bStep ?_ (by with_reducible assumption)) | (with_reducible refine bAlloc ?_ _) | (with_reducible refine bDrew ?_) | (with_reducible refine bDrewN ?_ _) | (with_reducible refine Below.setCell ?_ ?_ _) | (with_reducible exact Nat.le_refl _) | (simp; done) | (simp; omega)))⟩
  case round =>
    obtain ⟨k, t, hk0, hk, rfl, rfl, htk, HA, hbel⟩ := hrel
    have E2 : wr.cell? ⟨w.heap.size, 1, none⟩ = some (.slice B m d) := (hbel.cell (p := ⟨w.heap.size, 1, none⟩) hz2).trans E1
    by_cases hlt : k < m
    · obtain ⟨b, off, x, rfl, hb, hcx, HX, hwx⟩ := (K1.below hbel).at_ hlt
      obtain ⟨b', off', y, e', hb', hcy, HY, hwy⟩ := (K1.below hbel).at_ (i := t) (by omega)
      obtain ⟨rfl, rfl⟩ : b = b' ∧ off = off' := by injection e' with e'; injection e' with e1 e2; exact ⟨e1, e2⟩
      clear e' E1
      have k1 : (k : Int) < (m : Int) := by omega
      have k2 : (t : Int) < (m : Int) := by omega
      by_cases hxy : x < y
      · have R := Lib.hid (ax_lt HA.out (by rw [HM.out]; exact hlt) HX.out HY.out hxy)
        clear HA
        go_wp2
        go_quiet (fail)
        go_wp2
        go_roundw
        case rel => exact ⟨k + 1, k, by omega, by omega, by go_num, rfl, by omega, R, by (repeat' (first | (with_reducible exact Below.refl _ _) | (with_reducible assumption) | (with_reducible refine bStep ?_ (by with_reducible assumption)) | (with_reducible refine bAlloc ?_ _) | (with_reducible refine bDrew ?_) | (with_reducible refine bDrewN ?_ _) | (with_reducible refine Below.setCell ?_ ?_ _) | (with_reducible exact Nat.le_refl _) | (simp; done) | (simp; omega)))⟩
        case measure => simp [intOf]; omega
      · have R := Lib.hid (ax_ge HA.out (by rw [HM.out]; exact hlt) HX.out HY.out hxy)
        clear HA
        go_wp2
        go_quiet (fail)
        go_wp2
        go_roundw
        case rel => exact ⟨k + 1, t, by omega, by omega, by go_num, rfl, by omega, R, by (repeat' (first | (with_reducible exact Below.refl _ _) | (with_reducible assumption) | (with_reducible refine bStep ?_ (by with_reducible assumption)) | (with_reducible refine bAlloc ?_ _) | (with_reducible refine bDrew ?_) | (with_reducible refine bDrewN ?_ _) | (with_reducible refine Below.setCell ?_ ?_ _) | (with_reducible exact Nat.le_refl _) | (simp; done) | (simp; omega)))⟩
        case measure => simp [intOf]; omega
    · obtain rfl : k = m := by omega
      have V := Lib.hid (ax_end HA.out HM.out)
      clear HA E1
      go_wp2
      go_ret2
      exact ⟨by simp [axV, axC, HP.out, V.out], bStep B1 hbel⟩
set_option maxHeartbeats 800000 in
theorem axI {w : World} {A B : Option Addr} {n m : Nat} {xs ys : List Int} (H : Ints .i64 w A n xs) (K : Ints .i64 w B m ys) (c d : Nat) :
    Calls Try.prog 38 #[.agg #[.slice A n c, .slice B m d]] w fun e w' => e = .returned (.tuple #[.int .i64 (axV xs ys), .int .i64 (axC xs ys)]) ∧ Below w.heap.size w w' := by
  have hm := K.le
  have HM := Lib.hid K.len
  rcases hp : pfB xs ys
  · go_enter Try.func38, Try.ntmps38
    go_wp2_with fail
    refine (isPfI (H.below (by (repeat' (first | (with_reducible exact Below.refl _ _) | (with_reducible assumption) | (with_reducible refine bStep ?_ (by with_reducible assumption)) | (with_reducible refine bAlloc ?_ _) | (with_reducible refine bDrew ?_) | (with_reducible refine bDrewN ?_ _) | (with_reducible refine Below.setCell ?_ ?_ _) | (with_reducible exact Nat.le_refl _) | (simp; done) | (simp; omega))))) (K.below (by (repeat' (first | (with_reducible exact Below.refl _ _) | (with_reducible assumption) | (with_reducible refine bStep ?_ (by with_reducible assumption)) | (with_reducible refine bAlloc ?_ _) | (with_reducible refine bDrew ?_) | (with_reducible refine bDrewN ?_ _) | (with_reducible refine Below.setCell ?_ ?_ _) | (with_reducible exact Nat.le_refl _) | (simp; done) | (simp; omega))))) _ _).mono ?_
    rintro e w1 ⟨rfl, hb1⟩
    go_wp2
    go_ret2
    exact ⟨by simp [axV, axC, hp], by (repeat' (first | (with_reducible exact Below.refl _ _) | (with_reducible assumption) | (with_reducible refine bStep ?_ (by with_reducible assumption)) | (with_reducible refine bAlloc ?_ _) | (with_reducible refine bDrew ?_) | (with_reducible refine bDrewN ?_ _) | (with_reducible refine Below.setCell ?_ ?_ _) | (with_reducible exact Nat.le_refl _) | (simp; done) | (simp; omega)))⟩
  have PL := pf_len hp
  have hl : 2 ≤ m := by have := H.len; have := K.len; omega
  have HP := Lib.hid hp
  obtain ⟨b, off, x0, rfl, hb, _, _, _⟩ := K.at_ (i := 0) (by omega)
  go_enter Try.func38, Try.ntmps38
  go_wp2_with fail
  refine (isPfI (H.below (by (repeat' (first | (with_reducible exact Below.refl _ _) | (with_reducible assumption) | (with_reducible refine bStep ?_ (by with_reducible assumption)) | (with_reducible refine bAlloc ?_ _) | (with_reducible refine bDrew ?_) | (with_reducible refine bDrewN ?_ _) | (with_reducible refine Below.setCell ?_ ?_ _) | (with_reducible exact Nat.le_refl _) | (simp; done) | (simp; omega))))) (K.below (by (repeat' (first | (with_reducible exact Below.refl _ _) | (with_reducible assumption) | (with_reducible refine bStep ?_ (by with_reducible assumption)) | (with_reducible refine bAlloc ?_ _) | (with_reducible refine bDrew ?_) | (with_reducible refine bDrewN ?_ _) | (with_reducible refine Below.setCell ?_ ?_ _) | (with_reducible exact Nat.le_refl _) | (simp; done) | (simp; omega))))) _ _).mono ?_
  rintro e w1 ⟨rfl, hb1⟩
  obtain ⟨hc1, hf1⟩ := bcell hb1
  have q0 := hc1 w.heap.size 0 (by simp)
  have q1 := hc1 w.heap.size 1 (by simp)
  have hz1 := hb1.size
  (try simp at hz1)
  have hz2 : w.heap.size < w1.heap.size := by omega
  have K1 := K.below (w' := w1) (by (repeat' (first | (with_reducible exact Below.refl _ _) | (with_reducible assumption) | (with_reducible refine bStep ?_ (by with_reducible assumption)) | (with_reducible refine bAlloc ?_ _) | (with_reducible refine bDrew ?_) | (with_reducible refine bDrewN ?_ _) | (with_reducible refine Below.setCell ?_ ?_ _) | (with_reducible exact Nat.le_refl _) | (simp; done) | (simp; omega))))
  have E1 : w1.cell? ⟨w.heap.size, 1, none⟩ = some (.slice (some ⟨b, off, none⟩) m d) := by rw [q1]; go_simp
  have B1 : Below w.heap.size w w1 := by (repeat' (first | (with_reducible exact Below.refl _ _) | (with_reducible assumption) | (with_reducible refine bStep ?_ (by with_reducible assumption)) | (with_reducible refine bAlloc ?_ _) | (with_reducible refine bDrew ?_) | (with_reducible refine bDrewN ?_ _) | (with_reducible refine Below.setCell ?_ ?_ _) | (with_reducible exact Nat.le_refl _) | (simp; done) | (simp; omega)))
  have CE : ∀ nq j, j < ys.length → (w1.drewN nq).cell? ⟨b, off + j, none⟩ = some (.int .i64 (ys.getD j 0)) := fun nq j hj => by
    obtain ⟨b', off', e', _, hc⟩ := (K1.drewN nq).2.2.2 (by omega)
    injection e' with e'
    injection e' with e1 e2
    subst e1 e2
    exact hc j (by rw [HM.out] at hj; exact hj)
  have TK : ys.take m = ys := List.take_of_length_le (by rw [HM.out]; omega)
  have M1 : Hid (∀ nq, Calls Try.prog 65 #[.slice (some ⟨b, off, none⟩) m d] (w1.drewN nq) fun e w' => e = .returned (.int .i64 (Lib.minOf ys)) ∧ w' = w1.drewN nq) := fun nq => by
    have := Try.slices_Min_int b off m d ys (w1.drewN nq) (by omega) (by rw [HM.out]; omega) hm (CE nq)
    rw [TK] at this
    exact this
  have M2 : Hid (∀ nq, Calls Try.prog 64 #[.slice (some ⟨b, off, none⟩) m d, .int .i64 (Lib.minOf ys)] (w1.drewN nq) fun e w' => e = .returned (.int .i64 (Lib.idxOf ys (Lib.minOf ys))) ∧ w' = w1.drewN nq) := fun nq => by
    have := Try.slices_Index_int b off m d ys (Lib.minOf ys) (w1.drewN nq) (by rw [HM.out]; omega) hm (CE nq)
    rw [TK] at this
    exact this
  clear q0 q1 hc1 hf1 hb1 PL CE TK
  go_wp2
  go_quiet ((first | (go_at_call 65; exact Calls.quiet_of_same (M1.out _)) | (go_at_call 64; exact Calls.quiet_of_same (M2.out _))))
  go_wp2
  go_ret2
  exact ⟨by simp [axV, axC, HP.out], bDrewN B1 _⟩
end Go.Proofs.Ytmddcmgkmdkclaa
