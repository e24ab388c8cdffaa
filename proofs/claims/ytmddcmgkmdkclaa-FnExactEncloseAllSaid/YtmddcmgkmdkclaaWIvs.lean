/- The walks of the laws on lists of intervals. -/
import Derived.Test.YtmddcmgkmdkclaaEnc
namespace Go.Proofs.Ytmddcmgkmdkclaa
open Go.RowKit
set_option linter.unusedVariables false
variable {w : World}

set_option maxHeartbeats 800000 in
theorem wSumIntervals (A : Option Addr) (n c : Nat) (xs : List Iv) (H : Ivs w A n xs) :
    Calls Try.prog 9 #[.slice A n c] w fun e w' => e = .returned (.bool true) ∧ Below w.heap.size w w' := by
  have hm := H.le
  by_cases hn : n ≤ 1048576
  · have hs : ¬ (1048576 : Int) - (n : Int) < 0 := by omega
    go_enter Try.func9, Try.ntmps9
    go_wp2_with fail
    refine (szIv _ _ _ _ _ H.le (by omega) (by omega)).mono ?_
    rintro e w' ⟨rfl, rfl⟩
    rw [if_neg (by omega)]
    go_wp2_with fail
    (refine (copyIv H c hn).mono ?_; rintro e w1 ⟨g1, rfl, hg1, I1, hb1⟩; obtain ⟨hc1, hf1⟩ := bcell hb1; have hs1 := hb1.size; (try simp at hs1); (try have hl1 := Nat.lt_of_succ_le hs1))
    have H1 := H.below hb1
    go_wp2_with fail
    (refine (sumS I1 _).mono ?_; rintro e w2 ⟨rfl, hb2⟩; obtain ⟨hc2, hf2⟩ := bcell hb2; have hs2 := hb2.size; (try simp at hs2); (try have hl2 := Nat.lt_of_succ_le hs2))
    have H2 := H1.below hb2
    go_wp2_with fail
    (refine (copyIv (H2.below (by (repeat' (first | (with_reducible exact Below.refl _ _) | (with_reducible assumption) | (with_reducible refine bStep ?_ (by with_reducible assumption)) | (with_reducible refine bAlloc ?_ _) | (with_reducible refine bDrew ?_) | (with_reducible refine bDrewN ?_ _) | (with_reducible refine Below.setCell ?_ ?_ _) | (with_reducible exact Nat.le_refl _) | (simp; done) | (simp; omega))))) c hn).mono ?_; rintro e w3 ⟨g3, rfl, hg3, I3, hb3⟩; obtain ⟨hc3, hf3⟩ := bcell hb3; have hs3 := hb3.size; (try simp at hs3); (try have hl3 := Nat.lt_of_succ_le hs3); (try have hz3x0 : w2.heap.size < w3.heap.size := (by have := hb3.size; (try simp at this); omega)); (try have hn3x0 : ¬ w2.heap.size = w3.heap.size := (by omega)); (try have hm3x0 : ¬ w3.heap.size = w2.heap.size := (by omega)); (try have c3x00 := hc3 (w2.heap.size) 0 (by first | omega | (simp; done) | (simp; omega))); (try have f3x00 := hf3 (w2.heap.size) 0 (by first | omega | (simp; done) | (simp; omega))); (try have c3x01 := hc3 (w2.heap.size) 1 (by first | omega | (simp; done) | (simp; omega))); (try have f3x01 := hf3 (w2.heap.size) 1 (by first | omega | (simp; done) | (simp; omega))))
    have H3 := (H2.below (bAlloc (Below.refl _ _) _)).below hb3
    go_wp2_with fail
    (refine (sumI I3 _).mono ?_; rintro e w4 ⟨rfl, hb4⟩; obtain ⟨hc4, hf4⟩ := bcell hb4; have hs4 := hb4.size; (try simp at hs4); (try have hl4 := Nat.lt_of_succ_le hs4); (try have hz4x0 : w2.heap.size < w4.heap.size := (by have := hb4.size; (try simp at this); omega)); (try have hn4x0 : ¬ w2.heap.size = w4.heap.size := (by omega)); (try have hm4x0 : ¬ w4.heap.size = w2.heap.size := (by omega)); (try have c4x00 := hc4 (w2.heap.size) 0 (by first | omega | (simp; done) | (simp; omega))); (try have f4x00 := hf4 (w2.heap.size) 0 (by first | omega | (simp; done) | (simp; omega))); (try have c4x01 := hc4 (w2.heap.size) 1 (by first | omega | (simp; done) | (simp; omega))); (try have f4x01 := hf4 (w2.heap.size) 1 (by first | omega | (simp; done) | (simp; omega))))
    have H4 := H3.below hb4
    have J4 := I3.below hb4
    go_wp2_with fail
    (refine (eqIv _ _ _ _ _).mono ?_; rintro e w5 ⟨rfl, hb5⟩; obtain ⟨hc5, hf5⟩ := bcell hb5; have hs5 := hb5.size; (try simp at hs5); (try have hl5 := Nat.lt_of_succ_le hs5); (try have hz5x0 : w2.heap.size < w5.heap.size := (by have := hb5.size; (try simp at this); omega)); (try have hn5x0 : ¬ w2.heap.size = w5.heap.size := (by omega)); (try have hm5x0 : ¬ w5.heap.size = w2.heap.size := (by omega)); (try have hz5x1 : w4.heap.size < w5.heap.size := (by have := hb5.size; (try simp at this); omega)); (try have hn5x1 : ¬ w4.heap.size = w5.heap.size := (by omega)); (try have hm5x1 : ¬ w5.heap.size = w4.heap.size := (by omega)); (try have c5x00 := hc5 (w2.heap.size) 0 (by first | omega | (simp; done) | (simp; omega))); (try have f5x00 := hf5 (w2.heap.size) 0 (by first | omega | (simp; done) | (simp; omega))); (try have c5x01 := hc5 (w2.heap.size) 1 (by first | omega | (simp; done) | (simp; omega))); (try have f5x01 := hf5 (w2.heap.size) 1 (by first | omega | (simp; done) | (simp; omega))); (try have c5x10 := hc5 (w4.heap.size) 0 (by first | omega | (simp; done) | (simp; omega))); (try have f5x10 := hf5 (w4.heap.size) 0 (by first | omega | (simp; done) | (simp; omega))); (try have c5x11 := hc5 (w4.heap.size) 1 (by first | omega | (simp; done) | (simp; omega))); (try have f5x11 := hf5 (w4.heap.size) 1 (by first | omega | (simp; done) | (simp; omega))))
    have H5 := (H4.below (bAlloc (Below.refl _ _) _)).below hb5
    have J5 := (J4.below (bAlloc (Below.refl _ _) _)).below hb5
    go_wp2_with fail
    (refine (copyIv (H5.below (by (repeat' (first | (with_reducible exact Below.refl _ _) | (with_reducible assumption) | (with_reducible refine bStep ?_ (by with_reducible assumption)) | (with_reducible refine bAlloc ?_ _) | (with_reducible refine bDrew ?_) | (with_reducible refine bDrewN ?_ _) | (with_reducible refine Below.setCell ?_ ?_ _) | (with_reducible exact Nat.le_refl _) | (simp; done) | (simp; omega))))) c hn).mono ?_; rintro e w6 ⟨g6, rfl, hg6, I6, hb6⟩; obtain ⟨hc6, hf6⟩ := bcell hb6; have hs6 := hb6.size; (try simp at hs6); (try have hl6 := Nat.lt_of_succ_le hs6))
    have J6 := (J5.below (by (repeat' (first | (with_reducible exact Below.refl _ _) | (with_reducible assumption) | (with_reducible refine bStep ?_ (by with_reducible assumption)) | (with_reducible refine bAlloc ?_ _) | (with_reducible refine bDrew ?_) | (with_reducible refine bDrewN ?_ _) | (with_reducible refine Below.setCell ?_ ?_ _) | (with_reducible exact Nat.le_refl _) | (simp; done) | (simp; omega))))).below hb6
    go_wp2_with fail
    (refine (eqIvS (J6.below (by (repeat' (first | (with_reducible exact Below.refl _ _) | (with_reducible assumption) | (with_reducible refine bStep ?_ (by with_reducible assumption)) | (with_reducible refine bAlloc ?_ _) | (with_reducible refine bDrew ?_) | (with_reducible refine bDrewN ?_ _) | (with_reducible refine Below.setCell ?_ ?_ _) | (with_reducible exact Nat.le_refl _) | (simp; done) | (simp; omega))))) I6 _ _).mono ?_; rintro e w7 ⟨rfl, hb7⟩; obtain ⟨hc7, hf7⟩ := bcell hb7; have hs7 := hb7.size; (try simp at hs7); (try have hl7 := Nat.lt_of_succ_le hs7))
    have e0 : (xs == xs) = true := by simp
    go_wp2
    go_ret
    exact ⟨rfl, by (repeat' (first | (with_reducible exact Below.refl _ _) | (with_reducible assumption) | (with_reducible refine bStep ?_ (by with_reducible assumption)) | (with_reducible refine bAlloc ?_ _) | (with_reducible refine bDrew ?_) | (with_reducible refine bDrewN ?_ _) | (with_reducible refine Below.setCell ?_ ?_ _) | (with_reducible exact Nat.le_refl _) | (simp; done) | (simp; omega)))⟩
  · have hs : (1048576 : Int) < (n : Int) := by omega
    go_enter Try.func9, Try.ntmps9
    go_wp2_with fail
    refine (szIv _ _ _ _ _ H.le (by omega) (by omega)).mono ?_
    rintro e w' ⟨rfl, rfl⟩
    rw [if_pos (by omega)]
    go_wp2
    go_ret
    exact ⟨rfl, Below.refl _ _⟩
set_option maxHeartbeats 800000 in
theorem wEncloseAll (A : Option Addr) (n c : Nat) (xs : List Iv) (H : Ivs w A n xs) :
    Calls Try.prog 7 #[.slice A n c] w fun e w' => e = .returned (.bool true) ∧ Below w.heap.size w w' := by
  have hm := H.le
  by_cases hn : n ≤ 1048576
  · have hs : ¬ (1048576 : Int) - (n : Int) < 0 := by omega
    go_enter Try.func7, Try.ntmps7
    go_wp2_with fail
    refine (szIv _ _ _ _ _ H.le (by omega) (by omega)).mono ?_
    rintro e w' ⟨rfl, rfl⟩
    rw [if_neg (by omega)]
    go_wp2_with fail
    (refine (copyIv H c hn).mono ?_; rintro e w1 ⟨g1, rfl, hg1, I1, hb1⟩; obtain ⟨hc1, hf1⟩ := bcell hb1; have hs1 := hb1.size; (try simp at hs1); (try have hl1 := Nat.lt_of_succ_le hs1))
    have H1 := H.below hb1
    go_wp2_with fail
    (refine (encS I1 _).mono ?_; rintro e w2 ⟨rfl, hb2⟩; obtain ⟨hc2, hf2⟩ := bcell hb2; have hs2 := hb2.size; (try simp at hs2); (try have hl2 := Nat.lt_of_succ_le hs2))
    have H2 := H1.below hb2
    go_wp2_with fail
    (refine (copyIv (H2.below (by (repeat' (first | (with_reducible exact Below.refl _ _) | (with_reducible assumption) | (with_reducible refine bStep ?_ (by with_reducible assumption)) | (with_reducible refine bAlloc ?_ _) | (with_reducible refine bDrew ?_) | (with_reducible refine bDrewN ?_ _) | (with_reducible refine Below.setCell ?_ ?_ _) | (with_reducible exact Nat.le_refl _) | (simp; done) | (simp; omega))))) c hn).mono ?_; rintro e w3 ⟨g3, rfl, hg3, I3, hb3⟩; obtain ⟨hc3, hf3⟩ := bcell hb3; have hs3 := hb3.size; (try simp at hs3); (try have hl3 := Nat.lt_of_succ_le hs3); (try have hz3x0 : w2.heap.size < w3.heap.size := (by have := hb3.size; (try simp at this); omega)); (try have hn3x0 : ¬ w2.heap.size = w3.heap.size := (by omega)); (try have hm3x0 : ¬ w3.heap.size = w2.heap.size := (by omega)); (try have c3x00 := hc3 (w2.heap.size) 0 (by first | omega | (simp; done) | (simp; omega))); (try have f3x00 := hf3 (w2.heap.size) 0 (by first | omega | (simp; done) | (simp; omega))); (try have c3x01 := hc3 (w2.heap.size) 1 (by first | omega | (simp; done) | (simp; omega))); (try have f3x01 := hf3 (w2.heap.size) 1 (by first | omega | (simp; done) | (simp; omega))))
    have H3 := (H2.below (bAlloc (Below.refl _ _) _)).below hb3
    go_wp2_with fail
    (refine (encI I3 _).mono ?_; rintro e w4 ⟨rfl, hb4⟩; obtain ⟨hc4, hf4⟩ := bcell hb4; have hs4 := hb4.size; (try simp at hs4); (try have hl4 := Nat.lt_of_succ_le hs4); (try have hz4x0 : w2.heap.size < w4.heap.size := (by have := hb4.size; (try simp at this); omega)); (try have hn4x0 : ¬ w2.heap.size = w4.heap.size := (by omega)); (try have hm4x0 : ¬ w4.heap.size = w2.heap.size := (by omega)); (try have c4x00 := hc4 (w2.heap.size) 0 (by first | omega | (simp; done) | (simp; omega))); (try have f4x00 := hf4 (w2.heap.size) 0 (by first | omega | (simp; done) | (simp; omega))); (try have c4x01 := hc4 (w2.heap.size) 1 (by first | omega | (simp; done) | (simp; omega))); (try have f4x01 := hf4 (w2.heap.size) 1 (by first | omega | (simp; done) | (simp; omega))))
    have H4 := H3.below hb4
    have J4 := I3.below hb4
    go_wp2_with fail
    (refine (eqIv _ _ _ _ _).mono ?_; rintro e w5 ⟨rfl, hb5⟩; obtain ⟨hc5, hf5⟩ := bcell hb5; have hs5 := hb5.size; (try simp at hs5); (try have hl5 := Nat.lt_of_succ_le hs5); (try have hz5x0 : w2.heap.size < w5.heap.size := (by have := hb5.size; (try simp at this); omega)); (try have hn5x0 : ¬ w2.heap.size = w5.heap.size := (by omega)); (try have hm5x0 : ¬ w5.heap.size = w2.heap.size := (by omega)); (try have hz5x1 : w4.heap.size < w5.heap.size := (by have := hb5.size; (try simp at this); omega)); (try have hn5x1 : ¬ w4.heap.size = w5.heap.size := (by omega)); (try have hm5x1 : ¬ w5.heap.size = w4.heap.size := (by omega)); (try have c5x00 := hc5 (w2.heap.size) 0 (by first | omega | (simp; done) | (simp; omega))); (try have f5x00 := hf5 (w2.heap.size) 0 (by first | omega | (simp; done) | (simp; omega))); (try have c5x01 := hc5 (w2.heap.size) 1 (by first | omega | (simp; done) | (simp; omega))); (try have f5x01 := hf5 (w2.heap.size) 1 (by first | omega | (simp; done) | (simp; omega))); (try have c5x10 := hc5 (w4.heap.size) 0 (by first | omega | (simp; done) | (simp; omega))); (try have f5x10 := hf5 (w4.heap.size) 0 (by first | omega | (simp; done) | (simp; omega))); (try have c5x11 := hc5 (w4.heap.size) 1 (by first | omega | (simp; done) | (simp; omega))); (try have f5x11 := hf5 (w4.heap.size) 1 (by first | omega | (simp; done) | (simp; omega))))
    have H5 := (H4.below (bAlloc (Below.refl _ _) _)).below hb5
    have J5 := (J4.below (bAlloc (Below.refl _ _) _)).below hb5
    go_wp2_with fail
    (refine (copyIv (H5.below (by (repeat' (first | (with_reducible exact Below.refl _ _) | (with_reducible assumption) | (with_reducible refine bStep ?_ (by with_reducible assumption)) | (with_reducible refine bAlloc ?_ _) | (with_reducible refine bDrew ?_) | (with_reducible refine bDrewN ?_ _) | (with_reducible refine Below.setCell ?_ ?_ _) | (with_reducible exact Nat.le_refl _) | (simp; done) | (simp; omega))))) c hn).mono ?_; rintro e w6 ⟨g6, rfl, hg6, I6, hb6⟩; obtain ⟨hc6, hf6⟩ := bcell hb6; have hs6 := hb6.size; (try simp at hs6); (try have hl6 := Nat.lt_of_succ_le hs6))
    have J6 := (J5.below (by (repeat' (first | (with_reducible exact Below.refl _ _) | (with_reducible assumption) | (with_reducible refine bStep ?_ (by with_reducible assumption)) | (with_reducible refine bAlloc ?_ _) | (with_reducible refine bDrew ?_) | (with_reducible refine bDrewN ?_ _) | (with_reducible refine Below.setCell ?_ ?_ _) | (with_reducible exact Nat.le_refl _) | (simp; done) | (simp; omega))))).below hb6
    go_wp2_with fail
    (refine (eqIvS (J6.below (by (repeat' (first | (with_reducible exact Below.refl _ _) | (with_reducible assumption) | (with_reducible refine bStep ?_ (by with_reducible assumption)) | (with_reducible refine bAlloc ?_ _) | (with_reducible refine bDrew ?_) | (with_reducible refine bDrewN ?_ _) | (with_reducible refine Below.setCell ?_ ?_ _) | (with_reducible exact Nat.le_refl _) | (simp; done) | (simp; omega))))) I6 _ _).mono ?_; rintro e w7 ⟨rfl, hb7⟩; obtain ⟨hc7, hf7⟩ := bcell hb7; have hs7 := hb7.size; (try simp at hs7); (try have hl7 := Nat.lt_of_succ_le hs7))
    have e0 : (xs == xs) = true := by simp
    go_wp2
    go_ret
    exact ⟨rfl, by (repeat' (first | (with_reducible exact Below.refl _ _) | (with_reducible assumption) | (with_reducible refine bStep ?_ (by with_reducible assumption)) | (with_reducible refine bAlloc ?_ _) | (with_reducible refine bDrew ?_) | (with_reducible refine bDrewN ?_ _) | (with_reducible refine Below.setCell ?_ ?_ _) | (with_reducible exact Nat.le_refl _) | (simp; done) | (simp; omega)))⟩
  · have hs : (1048576 : Int) < (n : Int) := by omega
    go_enter Try.func7, Try.ntmps7
    go_wp2_with fail
    refine (szIv _ _ _ _ _ H.le (by omega) (by omega)).mono ?_
    rintro e w' ⟨rfl, rfl⟩
    rw [if_pos (by omega)]
    go_wp2
    go_ret
    exact ⟨rfl, Below.refl _ _⟩
end Go.Proofs.Ytmddcmgkmdkclaa
