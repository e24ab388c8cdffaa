/- Contracts of functions on ratios and of comparisons. -/
import Derived.Test.YtgnpbgknmapejaaDoorStruct
namespace Go.Proofs.YtgnpbgknmapejaaDoor
open Go.RowKit
set_option linter.unusedVariables false

def cmpP (x y : Int) : Int := if x < y then -1 else if y < x then 1 else 0
def sgn (x : Int) : Int := cmpP x 0
theorem sgn_sub (x y : Int) : sgn (x - y) = cmpP x y := by
  unfold sgn cmpP
  by_cases h : x < y
  · rw [if_pos (by omega), if_pos h]
  · rw [if_neg (by omega), if_neg h]
    by_cases h2 : y < x
    · rw [if_pos (by omega), if_pos h2]
    · rw [if_neg (by omega), if_neg h2]
/-- numerator, denominator of a quotient in lowest terms, with a positive denominator -/
def pN (n d : Int) : Int := if d < 0 then -(n.tdiv (Int.gcd n d)) else n.tdiv (Int.gcd n d)
def pD (n d : Int) : Int := if d < 0 then -(d.tdiv (Int.gcd n d)) else d / Int.gcd n d
def mkOk (n d : Int) : Bool := isRat (pN n d) (pD n d)
def mkN (n d : Int) : Int := if mkOk n d then pN n d else 0
def mkD (n d : Int) : Int := if mkOk n d then pD n d else 0
def mkC (n d c : Int) : Int := if mkOk n d then 0 else c
theorem gcd_pos {n d : Int} (h : ¬ d = 0) : 1 ≤ (Int.gcd n d : Int) ∧ (Int.gcd n d : Int) ≤ d.natAbs := by
  have h1 := Nat.gcd_pos_of_pos_right n.natAbs (show 0 < d.natAbs by omega)
  have h2 := Nat.le_of_dvd (show 0 < d.natAbs by omega) (Nat.gcd_dvd_right n.natAbs d.natAbs)
  exact ⟨by exact_mod_cast h1, by exact_mod_cast h2⟩
theorem below_of_drewN (w : World) (n : Nat) : Below w.heap.size w (w.drewN n) := below_drewN (Below.refl _ _) n

theorem signI (x : Int) (w : World) : Calls Tryd.prog 93 #[.int .i64 x] w fun e w' => e = .returned (.int .i64 (sgn x)) ∧ w = w' := by
  rcases (by omega : x ≤ -1 ∨ x = 0 ∨ 1 ≤ x) with h | h | h
  · have g : x < 1 := by omega
    go_enter Tryd.func93, Tryd.ntmps93
    go_wp2
    all_goals (go_ret; exact ⟨ret_i (by unfold sgn cmpP; rw [if_pos (by omega)]; try omega), rfl⟩)
  · subst h
    go_enter Tryd.func93, Tryd.ntmps93
    go_wp2
    all_goals (go_ret; exact ⟨ret_i rfl, rfl⟩)
  · have g : ¬ x < 1 := by omega
    go_enter Tryd.func93, Tryd.ntmps93
    go_wp2
    all_goals (go_ret; exact ⟨ret_i (by unfold sgn cmpP; rw [if_neg (by omega), if_pos (by omega)]), rfl⟩)
set_option maxHeartbeats 400000 in
theorem mkS (n d : Int) (w : World) (hd : ¬ d = 0) (n0 : -4000000000000000000 ≤ n) (n1 : n ≤ 4000000000000000000) (d0 : -4000000000000000000 ≤ d) (d1 : d ≤ 4000000000000000000) :
    Calls Tryd.prog 116 #[.int .i64 n, .int .i64 d] w fun e w' => e = .returned (.tuple #[.agg #[.int .i64 (mkN n d), .int .i64 (mkD n d)], .int .i64 (mkC n d 2)]) ∧ Below w.heap.size w w' := by
  have g0 := gcd_pos (n := n) hd
  obtain ⟨g, hg⟩ : ∃ g : Int, (Int.gcd n d : Int) = g := ⟨_, rfl⟩
  rw [hg] at g0
  obtain ⟨g1, g2⟩ := g0
  have gz : ¬ g = 0 := by omega
  by_cases h : d < 0
  ·
    have eN : pN n d = -(n.tdiv g) := by unfold pN; rw [if_pos h, hg]
    have eD : pD n d = -(d.tdiv g) := by unfold pD; rw [if_pos h, hg]
    have K : ∀ w0 : World, Calls Tryd.prog 92 #[.int .i64 (-n), .int .i64 (-d)] w0 fun e w' => e = .returned (.int .i64 g) ∧ ∃ n, w' = w0.drewN n := fun w0 => by have := gcdS (-n) (-d) w0 (by omega) (by omega) (by omega) (by omega); (try simp only [Int.gcd_neg, Int.neg_gcd] at this); rw [hg] at this; exact this
    have R : ∀ w0 : World, Calls Tryd.prog 60 #[.agg #[.int .i64 (-(n.tdiv g)), .int .i64 (-(d.tdiv g))]] w0 fun e w' => e = .returned (.bool (mkOk n d)) ∧ Below w0.heap.size w0 w' := fun w0 => by have := isRatS (-(n.tdiv g)) (-(d.tdiv g)) w0; rw [← eN, ← eD] at this ⊢; exact this
    have b1 := tdiv_abs n g
    have b2 := tdiv_abs d g
    have EN := Lib.hid eN
    have ED := Lib.hid eD
    have HG := Lib.hid hg
    have KK := Lib.hid K
    have RR := Lib.hid R
    clear eN eD hg K R
    rcases hok : mkOk n d
    all_goals
      go_enter Tryd.func116, Tryd.ntmps116
      go_wp2_with (go_at_call 92; refine (KK.out _).mono ?_; rintro e w' ⟨rfl, q, rfl⟩)
      go_region
      all_goals (go_wp2_with (go_at_call 60; refine (RR.out _).mono ?_; rintro e w2 ⟨rfl, hb2⟩; obtain ⟨hc2, hf2⟩ := bcell hb2; have hz20 : w.heap.size < w2.heap.size := (by have := hb2.size; (try simp at this); omega); have c20 : w2.cell? ⟨w.heap.size, 0, none⟩ = some (.int .i64 0) := (by rw [hc2 _ _ (by simp; omega)]; go_simp); have c21 : w2.cell? ⟨w.heap.size, 1, none⟩ = some (.int .i64 0) := (by rw [hc2 _ _ (by simp; omega)]; go_simp)))
      all_goals refine bodyPost_ret (by simp [results, Tryd.results116, go_sem, c20, c21]; try rfl) rfl ?_
      all_goals exact ⟨by simp [mkN, mkD, mkC, hok, EN.out, ED.out], by (repeat' (first | (with_reducible exact Below.refl _ _) | (with_reducible assumption) | (with_reducible refine bStep ?_ (by with_reducible assumption)) | (with_reducible refine bAlloc ?_ _) | (with_reducible refine bDrew ?_) | (with_reducible refine bDrewN ?_ _) | (with_reducible refine Below.setCell ?_ ?_ _) | (with_reducible exact Nat.le_refl _) | (simp; done) | (simp; omega)))⟩
  ·
    have eN : pN n d = n.tdiv g := by unfold pN; rw [if_neg h, hg]
    have eD : pD n d = d / g := by unfold pD; rw [if_neg h, hg]
    have K : ∀ w0 : World, Calls Tryd.prog 92 #[.int .i64 n, .int .i64 d] w0 fun e w' => e = .returned (.int .i64 g) ∧ ∃ n, w' = w0.drewN n := fun w0 => by have := gcdS n d w0 (by omega) (by omega) (by omega) (by omega); (try simp only [Int.gcd_neg, Int.neg_gcd] at this); rw [hg] at this; exact this
    have R : ∀ w0 : World, Calls Tryd.prog 60 #[.agg #[.int .i64 (n.tdiv g), .int .i64 (d / g)]] w0 fun e w' => e = .returned (.bool (mkOk n d)) ∧ Below w0.heap.size w0 w' := fun w0 => by have := isRatS (n.tdiv g) (d / g) w0; rw [← eN, ← eD] at this ⊢; exact this
    have b1 := tdiv_abs n g
    have b2 : 0 ≤ d / g ∧ d / g ≤ d := ⟨Int.ediv_nonneg (by omega) (by omega), Int.ediv_le_self _ (by omega)⟩
    have EN := Lib.hid eN
    have ED := Lib.hid eD
    have HG := Lib.hid hg
    have KK := Lib.hid K
    have RR := Lib.hid R
    clear eN eD hg K R
    rcases hok : mkOk n d
    all_goals
      go_enter Tryd.func116, Tryd.ntmps116
      go_wp2_with (go_at_call 92; refine (KK.out _).mono ?_; rintro e w' ⟨rfl, q, rfl⟩)
      go_region
      all_goals (go_wp2_with (go_at_call 60; refine (RR.out _).mono ?_; rintro e w2 ⟨rfl, hb2⟩; obtain ⟨hc2, hf2⟩ := bcell hb2; have hz20 : w.heap.size < w2.heap.size := (by have := hb2.size; (try simp at this); omega); have c20 : w2.cell? ⟨w.heap.size, 0, none⟩ = some (.int .i64 0) := (by rw [hc2 _ _ (by simp; omega)]; go_simp); have c21 : w2.cell? ⟨w.heap.size, 1, none⟩ = some (.int .i64 0) := (by rw [hc2 _ _ (by simp; omega)]; go_simp)))
      all_goals refine bodyPost_ret (by simp [results, Tryd.results116, go_sem, c20, c21]; try rfl) rfl ?_
      all_goals exact ⟨by simp [mkN, mkD, mkC, hok, EN.out, ED.out], by (repeat' (first | (with_reducible exact Below.refl _ _) | (with_reducible assumption) | (with_reducible refine bStep ?_ (by with_reducible assumption)) | (with_reducible refine bAlloc ?_ _) | (with_reducible refine bDrew ?_) | (with_reducible refine bDrewN ?_ _) | (with_reducible refine Below.setCell ?_ ?_ _) | (with_reducible exact Nat.le_refl _) | (simp; done) | (simp; omega)))⟩
end Go.Proofs.YtgnpbgknmapejaaDoor
